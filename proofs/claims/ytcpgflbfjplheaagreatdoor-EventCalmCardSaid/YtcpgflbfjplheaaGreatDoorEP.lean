import Derived.Test.YtcpgflbfjplheaaGreatDoorEA
namespace Gv
open Go Go.RowKit
set_option linter.unusedVariables false
set_option linter.unusedSimpArgs false
section
variable {P:Program} {E:Env} {ρ:List PV} {β:Nat → Option Loc} {tm:Nat → Option SV} {hp:Nat → Option HB} {a:Act} {w:World} {W W':Nat → Prop}
theorem getD_some {l:List Value} {m:Nat} (h:m < l.length):l[m]? = some (l.getD m undef):=by
 simp [List.getD,h]
theorem mul_at {i n k j:Nat} (hi:i < n) (hj:j < k):i * k + j < n * k:=by
 have:(i + 1) * k ≤ n * k:=Nat.mul_le_mul_right k hi
 rw [Nat.succ_mul] at this
 omega
def RowTell (w:World) (W:Nat → Prop) (k:Nat) (val:Value) (es:List (List PV)):Prop :=
 ∃ A c,val = .slice A es.length c ∧ (es = [] ∨ ∃ ad,A = some ad ∧ ∃ xs:List Value,xs.length = es.length * k ∧ (∀ (j:Nat) (u:Value),xs[j]? = some u → w.cell? (ad.add j) = some u) ∧
  ∀ (i:Nat) (el:List PV),es[i]? = some el → el.length = k ∧ ∀ (j:Nat) (p:PV),el[j]? = some p → p.flat = true ∧ flatV (xs.getD (i * k + j) undef) = true ∧ Rep w W p (xs.getD (i * k + j) undef))
theorem RowAt.tell {M:Nat → Prop} {k:Nat} {e:TypeId} {val:Value} {es:List (List PV)} (h:RowAt w M W e k val es):RowTell w W k val es:=by
 obtain ⟨h1,xs,h2,hm,h3⟩:=h
 rcases h2.2 with ⟨rfl,hn⟩ | ⟨g,cap,cur,rfl,k1⟩
 ·exact ⟨none,0,by rw [hn],.inl (List.eq_nil_of_length_eq_zero hn)⟩
 ·exact ⟨_,_,rfl,.inr ⟨_,rfl,xs,h2.1,h2.cells rfl,h3⟩⟩
theorem Rep.tell {k:Nat} {val:Value} {es:List (List PV)} (h:Rep w W (.sl es) val) (hk:∀ (i:Nat) (e:List PV),es[i]? = some e → e.length = k):RowTell w W k val es:=by
 cases h with
 | nil A c hc=>exact ⟨A,c,rfl,.inl rfl⟩
 | sl k' _ ad c vs hk' h1 h2 hf hc hr =>
  refine ⟨_,c,rfl,?_⟩
  by_cases he:es = []
  ·exact .inl he
  have hpos:0 < es.length:=List.length_pos_iff.2 he
  have hkk:k' = k:=by
   have:=hk 0 _ (List.getElem?_eq_getElem hpos)
   have:=hk' 0 _ (List.getElem?_eq_getElem hpos)
   omega
  subst hkk
  have hget:∀ m,m < es.length * k' → ((List.range (es.length * k')).map fun m=>vs (m / k') (m % k')).getD m undef = vs (m / k') (m % k'):=by
   intro m hm
   simp [List.getD,hm]
  have hdm:∀ i j,j < k' → (i * k' + j) / k' = i ∧ (i * k' + j) % k' = j:=by
   intro i j hj
   have h0:0 < k':=by omega
   constructor
   ·rw [Nat.add_comm,Nat.add_mul_div_right _ _ h0,Nat.div_eq_of_lt hj,Nat.zero_add]
   ·rw [Nat.add_comm,Nat.add_mul_mod_self_right,Nat.mod_eq_of_lt hj]
  refine .inr ⟨ad,rfl,(List.range (es.length * k')).map fun m=>vs (m / k') (m % k'),by simp,fun j u hj=>?_,fun i el hi=>⟨hk i el hi,fun j p hj=>?_⟩⟩
  ·rw [List.getElem?_map,Option.map_eq_some_iff] at hj
   obtain ⟨m,hm,rfl⟩:=hj
   have hlt:=(List.getElem?_eq_some_iff.1 hm).1
   rw [List.length_range] at hlt
   rw [List.getElem?_range hlt] at hm
   cases hm
   have h0:0 < k':=Nat.pos_of_ne_zero fun e=>by rw [e,Nat.mul_zero] at hlt; omega
   have hd:j / k' < es.length:=(Nat.div_lt_iff_lt_mul h0).2 hlt
   have hmod:j % k' < (es[j / k']'hd).length:=by rw [hk _ _ (List.getElem?_eq_getElem hd)]; exact Nat.mod_lt _ h0
   have:=(hc (j / k') _ (List.getElem?_eq_getElem hd) (j % k') _ (List.getElem?_eq_getElem hmod)).2
   rwa [Nat.mul_comm,Nat.div_add_mod] at this
  ·have hlt:=(List.getElem?_eq_some_iff.1 hi).1
   have hj':j < k':=by
    have:=(List.getElem?_eq_some_iff.1 hj).1
    rw [hk i el hi] at this
    exact this
   obtain ⟨e1,e2⟩:=hdm i j hj'
   rw [hget _ (mul_at hlt hj'),e1,e2]
   exact ⟨hf i el hi j p hj,(hr i el hi j p hj).flat (hf i el hi j p hj),hr i el hi j p hj⟩
theorem RowAt.rep {M:Nat → Prop} {k:Nat} {e:TypeId} {val:Value} {es:List (List PV)} (h:RowAt w M W e k val es) (hP:∀ b,W b → W' b) (hb:∀ b,val.ownBlock = some b → W' b):Rep w W' (.sl es) val:=by
 obtain ⟨h1,xs,h2,hm,h3⟩:=h
 rcases h2.2 with ⟨rfl,hn⟩ | ⟨g,cap,cur,rfl,k1,k2,k3,k4,k5⟩
 ·have:es = []:=List.eq_nil_of_length_eq_zero hn
  subst this
  exact .nil _ _ (by omega)
 ·refine .sl k es ⟨g,0,none⟩ cap (fun i j=>xs.getD (i * k + j) undef) (fun i e hi=>(h3 i e hi).1) k3 (by simp only [maxLen] at k4; omega) (fun i e hi j p hj=>((h3 i e hi).2 j p hj).1) (fun i e hi j p hj=>⟨hb g rfl,?_⟩) (fun i e hi j p hj=>(((h3 i e hi).2 j p hj).2.2).mono hP)
  have hlt:=(List.getElem?_eq_some_iff.1 hi).1
  have hj':j < k:=by
   have:=(List.getElem?_eq_some_iff.1 hj).1
   rw [(h3 i e hi).1] at this
   exact this
  exact h2.cells (g:=g) rfl _ _ (getD_some (by rw [h2.1]; exact mul_at hlt hj'))
theorem Sim.holds (h:Sim E ρ β tm hp a w) {j v:Nat} {c:SV} (hc:rowOf v (hp j) = some c):∃ val p,β v = some (.hdr val) ∧ den ρ c = some p ∧ p.flat = true ∧ ((∃ e k es,hp j = some (.row v e k c) ∧ p = .sl es ∧ RowAt w E.mine (Ok E hp β) e k val es) ∨ (hp j = some (.fro v c) ∧ Rep w (Ok E hp β) p val)):=by
 cases hx:hp j with
 | none=>rw [hx] at hc; simp [rowOf] at hc
 | some b =>
  rw [hx] at hc
  cases b with
  | box cs t=>simp [rowOf] at hc
  | fbx cs t=>simp [rowOf] at hc
  | mp es=>simp [rowOf] at hc
  | row v' e k c' =>
   simp only [rowOf] at hc
   split at hc
   ·rename_i e1
    cases hc
    subst e1
    obtain ⟨val,es,h1,h2,h0,h3⟩:=h.hpr j _ hx
    exact ⟨val,_,h1,h2,rfl,.inl ⟨e,k,es,rfl,rfl,h3⟩⟩
   ·cases hc
  | fro v' c' =>
   simp only [rowOf] at hc
   split at hc
   ·rename_i e1
    cases hc
    subst e1
    obtain ⟨val,p,h1,h2,h0,h3,h4⟩:=h.hpr j _ hx
    exact ⟨val,p,h1,h2,h3,.inr ⟨rfl,h4⟩⟩
   ·cases hc
def Froze (hp hp':Nat → Option HB) (j:Nat):Prop:=(∃ v e k c,hp j = some (.row v e k c) ∧ hp' j = some (.fro v c)) ∨ ∃ cs t,hp j = some (.box cs t) ∧ hp' j = some (.fbx cs t)
theorem Froze.no {hp':Nat → Option HB} {j b:Nat} (h:Froze hp hp' j):¬ Owns β hp' j b:=by
 rintro ⟨x,h3,h4⟩
 rcases h with ⟨v,e,k,c,_,h2⟩ | ⟨cs,t,_,h2⟩ <;> rw [h2] at h3 <;> cases h3 <;> exact h4
theorem Sim.frz (h:Sim E ρ β tm hp a w) {hp':Nat → Option HB} (hf:∀ j,hp' j = hp j ∨ Froze hp hp' j):Sim E ρ β tm hp' a w:=by
 have hok:∀ j b,Froze hp hp' j → Owns β hp j b → Ok E hp' β b:=by
  intro j b hS ho0
  refine ⟨.inr (h.owns ho0).2,fun j' ho=>?_⟩
  rcases hf j' with e1 | e1
  ·obtain ⟨y,h3,h4⟩:=ho
   have h5:=h3
   rw [e1] at h3
   have:j' = j:=h.inj j' j b ⟨y,h3,h4⟩ ho0
   subst this
   exact hS.no ⟨y,h5,h4⟩
  ·exact e1.no ho
 have hkeep:∀ b,Ok E hp β b → Ok E hp' β b:=by
  intro b hb
  refine ⟨hb.1,fun j' ho=>?_⟩
  rcases hf j' with e1 | e1
  ·obtain ⟨y,h3,h4⟩:=ho
   rw [e1] at h3
   exact hb.2 j' ⟨y,h3,h4⟩
  ·exact e1.no ho
 refine h.change (fun j=>Froze hp hp' j) (fun _ _ h=>h) h.bel (fun _ _ _=>rfl) (fun j hj=>(hf j).resolve_right hj) (fun j b hS ho=>absurd ho hS.no) (fun j j' b hS _ ho _=>absurd ho hS.no) ?_
 rintro j x hS hx hk
 have hS0:=hS
 rcases hS with ⟨v,e,k,c,h1,h2⟩ | ⟨cs,t,h1,h2⟩
 ·rw [h2] at hx
  cases hx
  obtain ⟨val,es,k1,k2,k0,k3⟩:=h.hpr j _ h1
  exact ⟨val,.sl es,k1,k2,k0,rfl,k3.rep hkeep fun b hb=>hok j b hS0 ⟨_,h1,val,k1,hb⟩⟩
 ·rw [h2] at hx
  cases hx
  obtain ⟨b,vs,k1,k2,k3,k4,k5⟩:=h.hpr j _ h1
  exact ⟨b,vs,k1,k2,k3,hok j b hS0 ⟨_,h1,k1⟩,fun i s hs=>⟨(k5 i s hs).1,(k5 i s hs).2.keep' (fun _ _ h=>h) fun b hb _=>⟨hkeep b hb,rfl⟩⟩⟩
mutual
theorem melt_den {h:Nat → Option HB}:∀ {s:SV} {p:PV},den ρ s = some p → s.melt h = s
 | .at n,p,_=>rfl
 | .con v,p,_=>rfl
 | .cel s i,p,_=>rfl
 | .ext s i,p,_=>rfl
 | .agg l,p,hd=>by
  simp only [den,Option.map_eq_some_iff] at hd
  obtain ⟨ps,h1,_⟩:=hd
  simp only [SV.melt,melts_dens h1]
 | .tup l,p,hd=>by
  simp only [den,Option.map_eq_some_iff] at hd
  obtain ⟨ps,h1,_⟩:=hd
  simp only [SV.melt,melts_dens h1]
 | .clo fn fs cs,p,hd=>by
  simp only [den] at hd
  split at hd
  ·rename_i a b ha hb
   simp only [SV.melt,melts_dens ha,melts_dens hb]
  ·cases hd
 | .box _ _,p,hd=>by simp [den] at hd
 | .mapp _,p,hd=>by simp [den] at hd
 | .row _ _,p,hd=>by simp [den] at hd
 | .elt _ _ _ _ _,p,hd=>by simp [den] at hd
 | .ref _,p,_=>rfl
 | .vw _ _ _ _ _,p,hd=>by simp [den] at hd
theorem melts_dens {h:Nat → Option HB}:∀ {l:List SV} {ps:List PV},dens ρ l = some ps → SV.melts h l = l
 | [],_,_=>rfl
 | s :: l,ps,hd=>by
  simp only [dens] at hd
  split at hd
  ·rename_i p q hp hq
   simp only [SV.melts,melt_den hp,melts_dens hq]
  ·cases hd
end
theorem melts_map {h:Nat → Option HB}:∀ (l:List SV),SV.melts h l = l.map (SV.melt h)
 | []=>rfl
 | s :: l=>by simp only [SV.melts,List.map_cons,melts_map l]
theorem boxOf_pures {x:Option HB} {cs:List SV} (h:boxOf x = some cs):SV.pures cs = true:=by
 unfold boxOf at h
 split at h
 ·split at h
  ·cases h; assumption
  ·cases h
 ·split at h
  ·cases h; assumption
  ·cases h
 ·cases h
theorem pures_drop:∀ {l:List SV} (n:Nat),SV.pures l = true → SV.pures (l.drop n) = true
 | [],n,h=>by simpa using h
 | s :: l,0,h=>h
 | s :: l,n + 1,h=>by
  simp only [SV.pures,Bool.and_eq_true] at h
  exact pures_drop n h.2
structure MeltOK (ρ:List PV) (β:Nat → Option Loc) (w:World) (W:Nat → Prop) (h:Nat → Option HB):Prop where
 row:∀ j v c,rowOf v (h j) = some c → ∃ val p,β v = some (.hdr val) ∧ den ρ c = some p ∧ c.isNil = false ∧ p.flat = true ∧ Rep w W p val
 box:∀ j cs,boxOf (h j) = some cs → ∃ (b:Nat) (vs:Nat → Value),β j = some (.blk b) ∧ W b ∧ ∀ (i:Nat) (s:SV),cs[i]? = some s → w.cell? ⟨b,i,none⟩ = some (vs i) ∧ flatV (vs i) = true ∧ RepS ρ β w W s (vs i)
theorem RepS.melt {h:Nat → Option HB} {s:SV} {v:Value} (hr:RepS ρ β w W s v) (hh:MeltOK ρ β w W h):RepS ρ β w W (s.melt h) v:=by
 induction hr with
 | pure s p v hd hf hr hn=>rw [melt_den hd]; exact .pure s p v hd hf hr hn
 | box j off b hb =>
  simp only [SV.melt]
  cases hc:boxOf (h j) with
  | none=>exact .box j off b hb
  | some cs =>
   obtain ⟨b',vs,h1,hW,h2⟩:=hh.box j cs hc
   rw [hb] at h1
   cases h1
   have hA:Args ρ β w W (cs.drop off) ((List.range (cs.length - off)).map fun i=>vs (off + i)):=by
    refine ⟨by simp,fun k s v hk hv=>?_⟩
    rw [List.getElem?_drop] at hk
    rw [List.getElem?_map,Option.map_eq_some_iff] at hv
    obtain ⟨m,hm,rfl⟩:=hv
    have hlt:=(List.getElem?_eq_some_iff.1 hm).1
    rw [List.length_range] at hlt
    rw [List.getElem?_range hlt] at hm
    cases hm
    exact (h2 _ s hk).2.2
   obtain ⟨ps,hd⟩:=hA.dens (pures_drop off (boxOf_pures hc))
   obtain ⟨hl,hrep⟩:=hA.reps hd
   have key:∀ (j:Nat) (p:PV),ps[j]? = some p → w.cell? ⟨b,off + j,none⟩ = some (vs (off + j)) ∧ flatV (vs (off + j)) = true ∧ Rep w W p (vs (off + j)):=by
    intro j p hj
    have hlt:=(List.getElem?_eq_some_iff.1 hj).1
    rw [hl] at hlt
    simp only [List.length_map,List.length_range] at hlt
    obtain ⟨s,hs⟩:∃ s,cs[off + j]? = some s:=⟨cs[off + j]'(by omega),List.getElem?_eq_getElem _⟩
    obtain ⟨k1,k2,k3⟩:=h2 _ s hs
    exact ⟨k1,k2,hrep j p _ hj (by simp [hlt])⟩
   exact .pure _ (.ref ps) _ (by simp only [den,hd,Option.map_some]) rfl (.ref ps ⟨b,off,none⟩ (fun i=>vs (off + i)) (fun j p hj=>(key j p hj).2.2.flat' (key j p hj).2.1) (fun j p hj=>⟨hW,by rw [add_mid]; exact (key j p hj).1⟩) (fun j p hj=>(key j p hj).2.2)) (fun e=>by cases e)
 | mapp j b hb=>exact .mapp j b hb
 | row j v A n c hb =>
  simp only [SV.melt]
  cases hc:rowOf v (h j) with
  | none=>exact .row j v A n c hb
  | some s =>
   obtain ⟨val,p,h1,h2,h0,h3,h4⟩:=hh.row j v s hc
   rw [hb] at h1
   cases h1
   exact .pure s p _ h2 h3 h4 (fun e=>by rw [h0] at e; cases e)
 | elt j v k i off n kk ad l c hb hi=>exact .elt j v k i off n kk ad l c hb hi
 | vw j v k lo len A A' n c c' a b hb h1 h2 hle hA=>exact .vw j v k lo len A A' n c c' a b hb h1 h2 hle hA
 | agg l vs hl hf hr ih =>
  simp only [SV.melt,melts_map]
  refine .agg _ vs (by simpa using hl) (fun j s hj=>?_) (fun j s hj=>?_)
  ·rw [List.getElem?_map,Option.map_eq_some_iff] at hj
   obtain ⟨s',hs,rfl⟩:=hj
   exact hf j s' hs
  ·rw [List.getElem?_map,Option.map_eq_some_iff] at hj
   obtain ⟨s',hs,rfl⟩:=hj
   exact ih j s' hs
 | tup l vs hl hr ih =>
  simp only [SV.melt,melts_map]
  refine .tup _ vs (by simpa using hl) (fun j s hj=>?_)
  rw [List.getElem?_map,Option.map_eq_some_iff] at hj
  obtain ⟨s',hs,rfl⟩:=hj
  exact ih j s' hs
 | clo fn fs cs fv cv hl hl' hr hr' ih ih' =>
  simp only [SV.melt,melts_map]
  refine .clo fn _ _ fv cv (by simpa using hl) (by simpa using hl') (fun j s hj=>?_) (fun j s hj=>?_)
  ·rw [List.getElem?_map,Option.map_eq_some_iff] at hj
   obtain ⟨s',hs,rfl⟩:=hj
   exact ih j s' hs
  ·rw [List.getElem?_map,Option.map_eq_some_iff] at hj
   obtain ⟨s',hs,rfl⟩:=hj
   exact ih' j s' hs
theorem cell_of_heap {b i:Nat} {vs:Array Value} {t:TypeId} {fz:Nat × Nat} (h:w.heap[b]? = some (.cells vs t fz)) (hi:i < vs.size):w.cell? ⟨b,i,none⟩ = some (vs.getD i undef):=by
 simp [World.cell?,h,Array.getD,hi]
theorem Sim.meltOK (h:Sim E ρ β tm hp a w) {h':Nat → Option HB} (hf:∀ j v c,rowOf v (h' j) = some c → hp j = some (.fro v c)) (hg:∀ j cs,boxOf (h' j) = some cs → ∃ t,hp j = some (.fbx cs t)):MeltOK ρ β w (Ok E hp β) h':=by
 refine ⟨fun j v c hc=>?_,fun j cs hc=>?_⟩
 ·obtain ⟨val,p,h1,h2,h0,h3,h4⟩:=h.hpr j _ (hf j v c hc)
  exact ⟨val,p,h1,h2,h0,h3,h4⟩
 ·obtain ⟨t,ht⟩:=hg j cs hc
  obtain ⟨b,vs,h1,h2,h3,h4,h5⟩:=h.hpr j _ ht
  refine ⟨b,fun i=>vs.getD i undef,h1,h4,fun i s hs=>?_⟩
  have hlt:=(List.getElem?_eq_some_iff.1 hs).1
  exact ⟨cell_of_heap h2 (by omega),(h5 i s hs).1,(h5 i s hs).2⟩
theorem Sim.melt (h:Sim E ρ β tm hp a w) {h':Nat → Option HB} (hf:∀ j v c,rowOf v (h' j) = some c → hp j = some (.fro v c)) (hg:∀ j cs,boxOf (h' j) = some cs → ∃ t,hp j = some (.fbx cs t)) {s:SV} {v:Value} (hr:RepS ρ β w (Ok E hp β) s v):RepS ρ β w (Ok E hp β) (s.melt h') v:=hr.melt (h.meltOK hf hg)
theorem Sim.meltAll (h:Sim E ρ β tm hp a w) {h':Nat → Option HB} (hs:∀ j x,h' j = some x → hp j = some x):MeltOK ρ β w (fun b=>b < w.heap.size) h':=by
 refine ⟨fun j v c hc=>?_,fun j cs hc=>?_⟩
 ·have hc':rowOf v (hp j) = some c:=by
   cases hx:h' j with
   | none=>rw [hx] at hc; simp [rowOf] at hc
   | some x=>rw [hx] at hc; rw [hs j x hx]; exact hc
  obtain ⟨val,p,h1,h2,h3,h4⟩:=h.holds hc'
  rcases h4 with ⟨e,k,es,h5,rfl,h6⟩ | ⟨h5,h6⟩
  ·obtain ⟨_,_,_,_,h0,_⟩:=h.hpr j _ h5
   exact ⟨val,_,h1,h2,h0,h3,(h6.rep (W':=fun _=>True) (fun _ _=>trivial) (fun _ _=>trivial)).lt.mono fun b hb=>hb.2⟩
  ·obtain ⟨_,_,_,_,h0,_⟩:=h.hpr j _ h5
   exact ⟨val,p,h1,h2,h0,h3,h6.lt.mono fun b hb=>hb.2⟩
 ·cases hx:h' j with
  | none=>rw [hx] at hc; simp [boxOf] at hc
  | some x =>
   rw [hx] at hc
   have hj:=hs j x hx
   cases x with
   | box cs' t =>
    have e:cs' = cs:=by
     simp only [boxOf] at hc
     split at hc
     ·cases hc; rfl
     ·cases hc
    subst e
    obtain ⟨b,vs,h1,h2,h3,h4,h5⟩:=h.hpr j _ hj
    refine ⟨b,fun i=>vs.getD i undef,h1,(Array.getElem?_eq_some_iff.1 h2).1,fun i s hs=>?_⟩
    have hlt:=(List.getElem?_eq_some_iff.1 hs).1
    exact ⟨cell_of_heap h2 (by omega),(h5 i s hs).1,(h5 i s hs).2.keep' (fun _ _ h=>h) fun b _ hb=>⟨hb,rfl⟩⟩
   | fbx cs' t =>
    have e:cs' = cs:=by
     simp only [boxOf] at hc
     split at hc
     ·cases hc; rfl
     ·cases hc
    subst e
    obtain ⟨b,vs,h1,h2,h3,h4,h5⟩:=h.hpr j _ hj
    refine ⟨b,fun i=>vs.getD i undef,h1,(Array.getElem?_eq_some_iff.1 h2).1,fun i s hs=>?_⟩
    have hlt:=(List.getElem?_eq_some_iff.1 hs).1
    exact ⟨cell_of_heap h2 (by omega),(h5 i s hs).1,(h5 i s hs).2.keep' (fun _ _ h=>h) fun b _ hb=>⟨hb,rfl⟩⟩
   | row v e k c=>simp [boxOf] at hc
   | fro v c=>simp [boxOf] at hc
   | mp es=>simp [boxOf] at hc
theorem hOf_map (rs:List Nat) (j:Nat):hOf rs (rs.map hp) j = if j ∈ rs then hp j else none:=by
 unfold hOf
 induction rs with
 | nil=>rfl
 | cons r rs ih =>
  simp only [List.map_cons,List.zip_cons_cons,look]
  by_cases e:r = j
  ·subst e; simp
  ·have:(r == j) = false:=by simpa using e
   rw [this]
   simp only [cond_false]
   rw [ih]
   have e':¬ j = r:=fun e'=>e e'.symm
   simp only [List.mem_cons,e',false_or]
theorem look_frz (rs:List Nat) (j:Nat):look (Gv.frz (rs.zip (rs.map hp))) j = if j ∈ rs then (match hp j with
 | some b=>if b.live = true then some b.frozenB else none
 | none=>none) else none:=by
 induction rs with
 | nil=>rfl
 | cons r rs ih =>
  simp only [List.map_cons,List.zip_cons_cons]
  have step:look (Gv.frz ((r,hp r) :: rs.zip (rs.map hp))) j = if j = r then (match hp r with
   | some b=>if b.live = true then some b.frozenB else look (Gv.frz (rs.zip (rs.map hp))) j
   | none=>look (Gv.frz (rs.zip (rs.map hp))) j) else look (Gv.frz (rs.zip (rs.map hp))) j:=by
   cases hb:hp r with
   | none=>simp only [Gv.frz,ite_self]
   | some b =>
    simp only [Gv.frz]
    split
    ·rename_i hr
     simp only [look]
     by_cases e:j = r
     ·subst e; simp
     ·have:(r == j) = false:=by simpa using fun e'=>e e'.symm
      rw [this,if_neg e]; rfl
    ·simp only [ite_self]
  rw [step,ih]
  by_cases e:j = r
  ·subst e
   simp only [if_true,List.mem_cons,true_or]
   cases hp j with
   | none=>simp
   | some b=>simp only; split <;> simp_all
  ·simp only [e,if_false,List.mem_cons,false_or]
theorem frz_hp (rs:List Nat) (j:Nat):updh hp (Gv.frz (rs.zip (rs.map hp))) j = hp j ∨ Froze hp (updh hp (Gv.frz (rs.zip (rs.map hp)))) j:=by
 unfold Froze updh
 rw [look_frz]
 by_cases hm:j ∈ rs
 ·simp only [hm,if_true]
  cases hb:hp j with
  | none=>left; simp
  | some b =>
   cases b with
   | row v e k c=>exact .inr (.inl ⟨v,e,k,c,rfl,rfl⟩)
   | box cs t =>
    cases hp':SV.pures cs with
    | true=>exact .inr (.inr ⟨cs,t,rfl,by simp [HB.live,HB.frozenB,hp']⟩)
    | false=>left; simp [HB.live,hp']
   | _=>left; simp [HB.live]
 ·left; simp only [hm,if_false]
theorem frz_row (rs:List Nat) (j v:Nat) (c:SV) (h:rowOf v (hOf rs (rs.map hp) j) = some c):updh hp (Gv.frz (rs.zip (rs.map hp))) j = some (.fro v c):=by
 rw [hOf_map] at h
 unfold updh
 rw [look_frz]
 by_cases hm:j ∈ rs
 ·simp only [hm,if_true] at h ⊢
  cases hb:hp j with
  | none=>rw [hb] at h; simp [rowOf] at h
  | some b =>
   rw [hb] at h
   cases b with
   | row v' e k c' =>
    simp only [rowOf] at h
    split at h
    ·rename_i e1; cases h; subst e1; rfl
    ·cases h
   | fro v' c' =>
    simp only [rowOf] at h
    split at h
    ·rename_i e1; cases h; subst e1; rfl
    ·cases h
   | box cs t=>simp [rowOf] at h
   | fbx cs t=>simp [rowOf] at h
   | mp es=>simp [rowOf] at h
 ·simp only [hm,if_false] at h
  simp [rowOf] at h
theorem frz_box (rs:List Nat) (j:Nat) (cs:List SV) (h:boxOf (hOf rs (rs.map hp) j) = some cs):∃ t,updh hp (Gv.frz (rs.zip (rs.map hp))) j = some (.fbx cs t):=by
 rw [hOf_map] at h
 unfold updh
 rw [look_frz]
 by_cases hm:j ∈ rs
 ·simp only [hm,if_true] at h ⊢
  cases hb:hp j with
  | none=>rw [hb] at h; simp [boxOf] at h
  | some b =>
   rw [hb] at h
   cases b with
   | box cs' t =>
    simp only [boxOf] at h
    split at h
    ·rename_i e1; cases h; exact ⟨t,by simp [HB.live,HB.frozenB,e1]⟩
    ·cases h
   | fbx cs' t =>
    simp only [boxOf] at h
    split at h
    ·cases h; exact ⟨t,by simp [HB.live]⟩
    ·cases h
   | row v e k c=>simp [boxOf] at h
   | fro v c=>simp [boxOf] at h
   | mp es=>simp [boxOf] at h
 ·simp only [hm,if_false] at h
  simp [boxOf] at h
theorem hOf_sub (rs:List Nat) (j:Nat) (x:HB) (h:hOf rs (rs.map hp) j = some x):hp j = some x:=by
 rw [hOf_map] at h
 split at h
 ·exact h
 ·cases h
end
end Gv
namespace Gv
open Go Go.RowKit
set_option linter.unusedVariables false
set_option linter.unusedSimpArgs false
section
variable {P:Program} {E:Env} {ρ:List PV} {β:Nat → Option Loc} {tm:Nat → Option SV} {hp:Nat → Option HB} {a:Act} {w:World} {W W':Nat → Prop} {na j:Nat} {o:Oper} {Q:Exit → Act → World → Prop}
theorem row_val {j v:Nat} {val:Value} (h:RepS ρ β w W (.row j v) val):β v = some (.hdr val):=by
 cases h with
 | pure s p v hd hf hr hn=>simp [den] at hd
 | row _ _ A n c hb=>exact hb
theorem elt_val {j v k off:Nat} {i:SV} {val:Value} (h:RepS ρ β w W (.elt j v k i off) val):∃ (n:Nat) (kk:IntKind) (ad:Addr) (l c:Nat),val = .pointer (some (ad.add (n * k + off))) ∧ β v = some (.hdr (.slice (some ad) l c)) ∧ den ρ i = some (.raw (.int kk (n:Int))):=by
 cases h with
 | pure s p v hd hf hr hn=>simp [den] at hd
 | elt _ _ _ _ _ n kk ad l c hb hi=>exact ⟨n,kk,ad,l,c,rfl,hb,hi⟩
theorem idx_den {i:SV} {v:Value} {m:Nat} (h:RepS ρ β w W i v) (hp:i.pure = true) (hi:idxOf (some (pv ρ i)) = some m):∃ kk,den ρ i = some (.raw (.int kk (m:Int))) ∧ v = .int kk (m:Int):=by
 obtain ⟨p,hd⟩:=h.den1 hp
 rw [pv_of hd] at hi
 have hr:=h.rep hd
 unfold idxOf at hi
 split at hi
 ·rename_i k n he
  cases he
  split at hi
  ·cases hi
   cases hr
   have e:((n.toNat:Nat):Int) = n:=by omega
   rw [e]
   exact ⟨k,hd,rfl⟩
  ·cases hi
 ·cases hi
theorem Sim.sees (h:Sim E ρ β tm hp a w) {j v:Nat} {c:SV} (hc:rowOf v (hp j) = some c):∃ val p,β v = some (.hdr val) ∧ den ρ c = some p ∧ Rep w (fun _=>True) p val ∧ ∀ (es:List (List PV)) (m k:Nat) (el:List PV),p = .sl es → es[m]? = some el → el.length = k → RowTell w (Ok E hp β) k val es:=by
 obtain ⟨val,p,h1,h2,h3,h4⟩:=h.holds hc
 refine ⟨val,p,h1,h2,?_,fun es m k el hp' hm hl=>?_⟩
 ·rcases h4 with ⟨e,k,es,_,rfl,h5⟩ | ⟨_,h5⟩
  ·exact h5.rep (fun _ _=>trivial) (fun _ _=>trivial)
  ·exact h5.mono fun _ _=>trivial
 ·rcases h4 with ⟨e,k',es',_,e1,h5⟩ | ⟨_,h5⟩
  ·rw [hp'] at e1
   cases e1
   have h6:k' = k:=by
    obtain ⟨_,xs,_,h7⟩:=h5
    rw [← hl]; exact (h7.2 m el hm).1.symm
   subst h6
   exact h5.tell
  ·subst hp'
   refine h5.tell fun i e hi=>?_
   cases h5 with
   | nil=>simp at hm
   | sl k' _ ad c vs hk' _ _ _ _ _=>rw [hk' i e hi,← hk' m el hm,hl]
theorem rep_some {es:List (List PV)} {val:Value} {m:Nat} (h:Rep w W (.sl es) val) (hm:m < es.length):∃ ad c,val = .slice (some ad) es.length c:=by
 cases h with
 | nil=>simp at hm
 | sl k _ ad c=>exact ⟨ad,c,rfl⟩
theorem row_idx (hs:Sim E ρ β tm hp a w) (hd:∀ x,o.dst = some x → x < E.N) {K:Act → World → Prop} {t el:TypeId} {n jr v:Nat} {i c:SV} {x y:Operand} (hu:P.underlying t = some (.slice el)) (hn:cellsOf P el = some n) (hc:rowOf v (hp jr) = some c)
 (hx:RepS ρ β w (Ok E hp β) (.row jr v) (a.eval x)) (hy:RepS ρ β w (Ok E hp β) i (a.eval y)) (hip:i.pure = true) {r:PV} (hev:(Prim.idx n).ev [pv ρ c,pv ρ i] = some r) {nd:Nd}
 (hexec:execOp a.eval o = (do pure (.value (← Instr.indexAt t (a.eval x) (a.eval y))))) (hK:Then E ρ β tm hp j o ⟨.elt jr v n i 0,[],nd⟩ K):o.wp P a w K Q:=by
 obtain ⟨val,p,h1,h2,h3,h4⟩:=hs.sees hc
 have hv:=row_val hx
 rw [h1] at hv
 cases hv
 rw [pv_of h2] at hev
 cases p <;> simp only [Prim.ev,reduceCtorEq] at hev
 rename_i es
 cases hi:idxOf (some (pv ρ i)) with
 | none=>rw [hi] at hev; cases hev
 | some m =>
  rw [hi] at hev
  simp only at hev
  cases he:es[m]? with
  | none=>rw [he] at hev; cases hev
  | some e =>
   obtain ⟨kk,hid,hyv⟩:=idx_den hy hip hi
   have hlt:=(List.getElem?_eq_some_iff.1 he).1
   obtain ⟨ad,c0,hval⟩:=rep_some h3 hlt
   rw [hval] at h1
   refine then_value hs hd hK (Below.refl _ w) (v:=.pointer (some (ad.add (m * n + 0)))) ?_ (.elt _ _ _ _ _ m kk ad _ c0 h1 hid)
   rw [hexec]
   refine exec_v (f:=.value) ?_
   rw [hval,hyv]
   unfold Instr.indexAt
   simp only [asIntOf,Sem.run_bind,Sem.run_pure,Result.andThen_ok,run_underlying hu w]
   simp only [Sem.run_ite,Sem.run_bind,size_run hn w,Result.andThen_ok,Sem.run_pure,Int.toNat_natCast]
   rw [if_pos ⟨by omega,by omega⟩,Nat.add_zero]
theorem row_ld (hs:Sim E ρ β tm hp a w) (hd:∀ x,o.dst = some x → x < E.N) {K:Act → World → Prop} {t:TypeId} {k off jr v:Nat} {n:Option Nat} {i c:SV} {x:Operand} (hc:rowOf v (hp jr) = some c)
 (ht:(n = none ∧ aggOf P t = some false) ∨ ∃ n',n = some n' ∧ aggOf P t = some true ∧ cellsOf P t = some n')
 (hx:RepS ρ β w (Ok E hp β) (.elt jr v k i off) (a.eval x)) {r:PV} (hρ:ρ[na]? = some r) (hev:(Prim.ldx k off n).ev [pv ρ c,pv ρ i] = some r) {args:List SV}
 (hexec:execOp a.eval o = (do pure (.value (← Instr.loadAt t (a.eval x))))) (hK:Then E ρ β tm hp j o ⟨expand (.at na) (Prim.ldx k off n).sh,[],.prim (.ldx k off n) args⟩ K):o.wp P a w K Q:=by
 obtain ⟨val,p,h1,h2,h3,h4⟩:=hs.sees hc
 obtain ⟨m,kk,ad,l,c0,hv,hb,hi⟩:=elt_val hx
 rw [h1] at hb
 cases hb
 rw [pv_of h2,pv_of hi] at hev
 cases p <;> simp only [Prim.ev,reduceCtorEq] at hev
 rename_i es
 have him:idxOf (some (.raw (.int kk (m:Int)))) = some m:=by simp [idxOf]
 rw [him] at hev
 simp only at hev
 cases he:es[m]? with
 | none=>rw [he] at hev; cases hev
 | some e =>
  rw [he] at hev
  simp only at hev
  split at hev
  ·rename_i hlen
   obtain ⟨A,c1,e1,h5⟩:=h4 es m k e rfl he hlen
   cases e1
   have hlt:=(List.getElem?_eq_some_iff.1 he).1
   rcases h5 with h5 | ⟨ad',e2,xs,hxl,hcell,hel⟩
   ·subst h5; simp at hlt
   cases e2
   have hcellAt:∀ j,j < k → w.cell? ((ad.add (m * k + off)).add j) = w.cell? (ad.add (m * k + (off + j))):=fun j _=>by rw [add_add,Nat.add_assoc]
   obtain ⟨_,hcs⟩:=hel m e he
   have hget:∀ j p,e[j]? = some p → w.cell? (ad.add (m * k + j)) = some (xs.getD (m * k + j) undef):=by
    intro j p hj
    have hjl:=(List.getElem?_eq_some_iff.1 hj).1
    exact hcell _ _ (getD_some (by rw [hxl]; exact mul_at hlt (by omega)))
   rcases ht with ⟨rfl,hag⟩ | ⟨n',rfl,hag,hn⟩
   ·simp only at hev
    refine then_look hs hd hρ hK hexec ⟨xs.getD (m * k + off) undef,?_,(hcs off r hev).2.2,(hcs off r hev).1⟩
    rw [hv]
    simp only [Instr.loadAt,Instr.sureAddr,Sem.run_bind,Sem.run_pure,Result.andThen_ok,loadVar_sc hag (hget off r hev)]
   ·simp only at hev
    split at hev
    ·rename_i hle
     cases hev
     have key:∀ (j:Nat) (p:PV),((e.drop off).take n')[j]? = some p → j < n' ∧ e[off + j]? = some p:=by
      intro j p hj
      have hjl:=(List.getElem?_eq_some_iff.1 hj).1
      rw [List.length_take] at hjl
      rw [List.getElem?_take,if_pos (by omega),List.getElem?_drop] at hj
      exact ⟨by omega,hj⟩
     refine then_look hs hd hρ hK hexec ⟨.agg ((List.range n').map fun j=>xs.getD (m * k + (off + j)) undef).toArray,?_,.agg _ _ (by simp; omega) (fun j p hj=>(hcs _ p (key j p hj).2).1) (fun j p hj=>?_),by simp [Prim.sh,fits,List.length_take]; omega⟩
     ·rw [hv]
      simp only [Instr.loadAt,Instr.sureAddr,Sem.run_bind,Sem.run_pure,Result.andThen_ok]
      refine loadVar_ag hag hn _ (by simp) (fun j u hj=>?_)
      rw [List.getElem?_map,Option.map_eq_some_iff] at hj
      obtain ⟨j',hj',rfl⟩:=hj
      have hjl:=(List.getElem?_eq_some_iff.1 hj').1
      rw [List.length_range] at hjl
      rw [List.getElem?_range hjl] at hj'
      cases hj'
      rw [add_add,Nat.add_assoc]
      exact hget (off + j) _ (List.getElem?_eq_getElem (by omega))
     ·obtain ⟨hj1,hj2⟩:=key j p hj
      have:=(hcs _ p hj2).2.2
      simpa [Array.getD,hj1] using this
    ·cases hev
  ·cases hev
end
end Gv
namespace Gv
open Go Go.RowKit
set_option linter.unusedVariables false
set_option linter.unusedSimpArgs false
section
variable {P:Program} {E:Env} {ρ:List PV} {β:Nat → Option Loc} {tm:Nat → Option SV} {hp:Nat → Option HB} {a:Act} {w:World} {W W':Nat → Prop} {na j:Nat} {o:Oper} {Q:Exit → Act → World → Prop}
theorem append_none {t ty e:TypeId} {i:TypeInfo} (ht:P.underlying t = some (.slice e)) (hi:P.info? e = some i) (b A:Option Addr) (n cap c:Nat) (h:n ≤ cap) :
 (Builtin.append_ #[t,t] ty #[.slice b n cap,.slice A 0 c]).run P w = .ok (.slice b n cap) w:=by
 cases A <;> cases b <;> simp [Builtin.append_,run_underlying ht,Go.sizeOf,typeInfo,hi,Builtin.lenOf,Builtin.firstCells,loadCells,loadCellsFrom,h,storeCells]
theorem app_run {t ty e:TypeId} {i:TypeInfo} {z:Value} {k:Nat} (ht:P.underlying t = some (.slice e)) (hi:P.info? e = some i) (hz:i.zero = some z) (hsize:i.size = k) (hzs:z.cells.size = k) (hk:0 < k) {lo:Nat} {s0:Value} {n:Nat} {xs:List Value}
 (hown:w.ownsRow lo e k s0 n xs) {A:Option Addr} {c m:Nat} {news:List Value} (hx:(m = 0 ∧ news = []) ∨ ∃ ad,A = some ad ∧ news.length = m * k ∧ (∀ (j:Nat) (u:Value),news[j]? = some u → w.cell? (ad.add j) = some u) ∧ ∀ u ∈ news,flatV u = true)
 (h63:n + m ≤ 140737488355328) (hb:(n + m) * i.bytes ≤ 140737488355328) (hlo:lo ≤ w.heap.size) :
 ∃ v' w',(Builtin.append_ #[t,t] ty #[s0,.slice A m c]).run P w = .ok v' w' ∧ w'.ownsRow lo e k v' (n + m) (xs ++ news) ∧ w.grownBy w' s0.ownBlock ∧ (∀ b,v'.ownBlock = some b → w.heap.size ≤ b ∨ s0.ownBlock = some b):=by
 subst hsize
 by_cases hm:m = 0
 ·subst hm
  have hn:news = []:=by
   rcases hx with h | ⟨ad,_,h,_⟩
   ·exact h.2
   ·exact List.eq_nil_of_length_eq_zero (by simpa using h)
  subst hn
  obtain ⟨b,cap,hs0,hcap⟩:∃ b cap,s0 = .slice b n cap ∧ n ≤ cap:=by
   rcases hown.2 with ⟨h,h'⟩ | ⟨g,cap,cur,h,_,_,h',_⟩
   ·exact ⟨none,0,by rw [h,h'],by omega⟩
   ·exact ⟨_,cap,h,h'⟩
  refine ⟨s0,w,?_,by simpa using hown,⟨rfl,rfl,rfl,Nat.le_refl _,fun _ _ _=>rfl⟩,fun b hb=>.inr hb⟩
  rw [hs0]
  exact append_none ht hi b A n cap c hcap
 ·obtain ⟨ad,rfl,hl,hnews,hflat⟩:=hx.resolve_left fun h=>hm h.1
  have hlen:(xs ++ news).length = (n + m) * i.size:=by rw [List.length_append,hown.1,hl,Nat.add_mul]
  have grown:∀ (old:Nat) (row:Option Nat),old < n + m →
   (w.drew.alloc (.cells (xs.toArray ++ news.toArray ++ Builtin.zeroCells z.cells (grownCap w (n + m) old e - (n + m))) e)).ownsRow lo e i.size
    (.slice (some ⟨w.heap.size,0,none⟩) (n + m) (grownCap w (n + m) old e)) (n + m) (xs ++ news) ∧
   w.grownBy (w.drew.alloc (.cells (xs.toArray ++ news.toArray ++ Builtin.zeroCells z.cells (grownCap w (n + m) old e - (n + m))) e)) row:=by
   intro old row ho
   have hge:=grownCap_ge w (n + m) old e
   refine ⟨⟨hlen,.inr ⟨w.heap.size,_,_,rfl,hlo,heap_alloc_new w.drew _,hge,grownCap_le_maxLen w (n + m) old e (by simp only [maxLen]; omega),?_,?_⟩⟩,⟨rfl,rfl,rfl,by simp,fun k hk _=>heap_alloc_old w.drew _ k hk⟩⟩
   ·simp only [Array.size_append,List.size_toArray,size_zeroCells,hzs,hown.1,hl,← Nat.add_mul]
    congr 1
    omega
   ·simp only [Array.toList_append]
    rw [← hlen]
    exact List.take_left
  rcases hown.2 with ⟨rfl,rfl⟩ | ⟨g,cap,cur,rfl,hbg,hg,hnc,hcm,hcs,htake⟩
  ·have hx0:xs = []:=List.eq_nil_of_length_eq_zero (by simpa using hown.1)
   subst hx0
   have hr:=run_append_nil (P:=P) w t ty e i z ht hi hz ad m c news hl hnews (by omega) (by omega) (by simp only [Nat.zero_add] at hb; omega)
   have hgr:=grown 0 none (by omega)
   simp only [Nat.zero_add,List.nil_append,Array.empty_append] at hgr ⊢
   exact ⟨_,_,hr,hgr.1,hgr.2,fun b hb'=>.inl (by simp only [Value.ownBlock,Option.some.injEq] at hb'; omega)⟩
  ·by_cases hroom:n + m ≤ cap
   ·have hfit:n * i.size + news.length ≤ cur.size:=by rw [hl,hcs,← Nat.add_mul]; exact Nat.mul_le_mul_right _ hroom
    have hr:=run_append_room (P:=P) w t ty e i ht hi g n cap cur hg ad m c news hl hnews (fun u hu=>by rw [oneCell_flat]; exact hflat u hu) hroom hfit
    refine ⟨_,_,hr,⟨hlen,.inr ⟨g,cap,_,rfl,hbg,setRow_heap w g cur _ e _ hg,hroom,hcm,?_,?_⟩⟩,⟨rfl,rfl,rfl,by simp,fun k _ hk=>setRow_other w g k _ (fun e=>hk (by simp [Value.ownBlock,e]))⟩,fun b hb'=>.inr hb'⟩
    ·simp only [List.size_toArray,List.length_append,List.length_take,List.length_drop,Array.length_toList]
     omega
    ·rw [htake,← hlen]
     exact List.take_left
   ·have hr:=run_append_grow (P:=P) w t ty e i z ht hi hz ⟨g,0,none⟩ n cap xs hown.1 (hown.cells (g:=g) rfl) ad m c news hl hnews (by omega) (by omega) (growslice_fits (by omega) hb)
    have hgr:=grown cap (Value.ownBlock (.slice (some ⟨g,0,none⟩) n cap)) (by omega)
    exact ⟨_,_,hr,hgr.1,hgr.2,fun b hb'=>.inl (by simp only [Value.ownBlock,Option.some.injEq] at hb'; omega)⟩
theorem getD_left {l m:List Value} {i:Nat} (h:i < l.length):(l ++ m).getD i undef = l.getD i undef:=by
 simp [List.getD,List.getElem?_append_left h]
theorem getD_right {l m:List Value} {i:Nat}:(l ++ m).getD (l.length + i) undef = m.getD i undef:=by
 simp [List.getD,List.getElem?_append_right]
theorem Sim.row (hs:Sim E ρ β tm hp a w) {j0:Nat} (hj:β j = none) {w':World} {s0 v':Value} {e:TypeId} {k:Nat} {es:List (List PV)} (hown:∀ b,s0.ownBlock = some b → Owns β hp j0 b) (hg:w.grownBy w' s0.ownBlock) (hnew:∀ b,v'.ownBlock = some b → w.heap.size ≤ b ∨ s0.ownBlock = some b)
 (hna:ρ[na]? = some (.sl es)) (hrow:∀ W':Nat → Prop,(∀ b,Ok E hp β b → b < w.heap.size → W' b ∧ w'.heap[b]? = w.heap[b]?) → RowAt w' E.mine W' e k v' es) :
 Sim E ρ (fun i=>if i = j then some (.hdr v') else β i) tm (updh hp [(j0,.row j e k (.at na))]) a w':=by
 have hβ:∀ i b,β i = some b → (if i = j then some (Loc.hdr v') else β i) = some b:=by
  intro i b e
  rw [if_neg (fun e'=>by subst e'; rw [hj] at e; cases e)]
  exact e
 have hbel:Kept E w':=hs.bel.grown hg fun b hb=>(hs.owns (hown b hb)).2
 have hbase:∀ i b,i = j0 → Owns (fun i=>if i = j then some (Loc.hdr v') else β i) (updh hp [(j0,.row j e k (.at na))]) i b → v'.ownBlock = some b:=by
  intro i b hi ho
  obtain ⟨val,h1,h2⟩:=owns_upd ho hi
  simp only [if_true,Option.some.injEq,Loc.hdr.injEq] at h1
  rw [h1]
  exact h2
 refine hs.change (fun i=>i = j0) hβ hbel (fun c hc hn=>hg.block c hc fun e=>hn j0 rfl (hown c e.symm)) (fun i hi=>upd_other hi) (fun i b hi ho=>?_) (fun i i' b hi hi' _ _=>by rw [hi,hi']) (fun i x hi hx hk'=>?_)
 ·rcases hnew b (hbase i b hi ho) with h | h
  ·exact .inl h
  ·exact .inr ⟨j0,rfl,hown b h⟩
 ·subst hi
  rw [upd_self hx]
  exact ⟨v',es,if_pos rfl,by simp only [den]; exact hna,rfl,hrow _ hk'⟩
theorem RowTell.news {k:Nat} {val:Value} {es:List (List PV)} (h:RowTell w W k val es):∃ A c news,val = .slice A es.length c ∧ ((es.length = 0 ∧ news = []) ∨ ∃ ad,A = some ad ∧ news.length = es.length * k ∧ (∀ (j:Nat) (u:Value),news[j]? = some u → w.cell? (ad.add j) = some u) ∧ ∀ u ∈ news,flatV u = true) ∧
 ∀ (i:Nat) (el:List PV),es[i]? = some el → el.length = k ∧ ∀ (j:Nat) (p:PV),el[j]? = some p → p.flat = true ∧ flatV (news.getD (i * k + j) undef) = true ∧ Rep w W p (news.getD (i * k + j) undef):=by
 obtain ⟨A,c,hv,h⟩:=h
 rcases h with rfl | ⟨ad,rfl,xs,hl,hc,he⟩
 ·exact ⟨A,c,[],hv,.inl ⟨rfl,rfl⟩,fun i el hi=>by simp at hi⟩
 ·refine ⟨_,c,xs,hv,.inr ⟨ad,rfl,hl,hc,fun u hu=>?_⟩,he⟩
  obtain ⟨m,hm,e⟩:=List.mem_iff_getElem.1 hu
  rw [hl] at hm
  have hk:0 < k:=Nat.pos_of_ne_zero fun e=>by rw [e,Nat.mul_zero] at hm; omega
  have hd:m / k < es.length:=(Nat.div_lt_iff_lt_mul hk).2 hm
  obtain ⟨h1,h2⟩:=he (m / k) _ (List.getElem?_eq_getElem hd)
  have hmod:m % k < (es[m / k]'hd).length:=by rw [h1]; exact Nat.mod_lt _ hk
  have h3:=(h2 (m % k) _ (List.getElem?_eq_getElem hmod)).2.1
  rw [Nat.mul_comm,Nat.div_add_mod] at h3
  rw [← e]
  simpa [List.getD,hl,hm] using h3
theorem both_cells {k:Nat} {es ys:List (List PV)} {xs news:List Value} (hxl:xs.length = es.length * k) (h1:∀ (i:Nat) (el:List PV),es[i]? = some el → el.length = k ∧ ∀ (j:Nat) (p:PV),el[j]? = some p → p.flat = true ∧ flatV (xs.getD (i * k + j) undef) = true ∧ Rep w W p (xs.getD (i * k + j) undef))
 (h2:∀ (i:Nat) (el:List PV),ys[i]? = some el → el.length = k ∧ ∀ (j:Nat) (p:PV),el[j]? = some p → p.flat = true ∧ flatV (news.getD (i * k + j) undef) = true ∧ Rep w W p (news.getD (i * k + j) undef)) (i:Nat) (el:List PV) (hi:(es ++ ys)[i]? = some el) :
 el.length = k ∧ ∀ (j:Nat) (p:PV),el[j]? = some p → p.flat = true ∧ flatV ((xs ++ news).getD (i * k + j) undef) = true ∧ Rep w W p ((xs ++ news).getD (i * k + j) undef):=by
 by_cases c:i < es.length
 ·rw [List.getElem?_append_left c] at hi
  obtain ⟨k1,k2⟩:=h1 i el hi
  refine ⟨k1,fun j p hj=>?_⟩
  have hjl:=(List.getElem?_eq_some_iff.1 hj).1
  rw [getD_left (by rw [hxl]; exact mul_at c (by omega))]
  exact k2 j p hj
 ·rw [List.getElem?_append_right (by omega)] at hi
  obtain ⟨k1,k2⟩:=h2 _ el hi
  refine ⟨k1,fun j p hj=>?_⟩
  have e:i * k + j = xs.length + ((i - es.length) * k + j):=by
   rw [hxl,← Nat.add_assoc,← Nat.add_mul]
   congr 2
   omega
  rw [e,getD_right]
  exact k2 j p hj
end
end Gv
namespace Gv
open Go Go.RowKit
set_option linter.unusedVariables false
set_option linter.unusedSimpArgs false
section
variable {P:Program} {E:Env} {ρ:List PV} {β:Nat → Option Loc} {tm:Nat → Option SV} {hp:Nat → Option HB} {a:Act} {w:World} {W W':Nat → Prop} {na j:Nat} {o:Oper} {Q:Exit → Act → World → Prop}
theorem put_getD {xs cs:List Value} {p q:Nat} (h:p + cs.length ≤ xs.length):(xs.take p ++ cs ++ xs.drop (p + cs.length)).getD q undef = if p ≤ q ∧ q < p + cs.length then cs.getD (q - p) undef else xs.getD q undef:=by
 have e1:(xs.take p).length = p:=by rw [List.length_take]; omega
 by_cases c1:q < p
 ·rw [if_neg (by omega),List.append_assoc,getD_left (by omega)]
  simp [List.getD,List.getElem?_take,c1]
 ·by_cases c2:q < p + cs.length
  ·rw [if_pos ⟨by omega,c2⟩,getD_left (by rw [List.length_append,e1]; exact c2)]
   have:q = (xs.take p).length + (q - p):=by omega
   rw [this,getD_right,e1]
   congr 1
   omega
  ·rw [if_neg (by omega)]
   have:q = (xs.take p ++ cs).length + (q - p - cs.length):=by rw [List.length_append,e1]; omega
   rw [this,getD_right]
   simp only [List.getD,List.getElem?_drop,List.length_append,e1]
theorem row_store {dst:Option Nat} {x y:Operand} {t ty:TypeId} {pos after guard} (hs:Sim E ρ β tm hp a w) (hd:∀ x,dst = some x → x < E.N) {K:Act → World → Prop} {jr v k off:Nat} {e:TypeId} {i c s:SV} (hh:hp jr = some (.row v e k c))
 (hx:RepS ρ β w (Ok E hp β) (.elt jr v k i off) (a.eval x)) (hy:RepS ρ β w (Ok E hp β) s (a.eval y)) (hsz:cellsOf P t = some s.cells.length) (htup:s.isTup = false) (hpu:SV.pures s.cells = true) {r:PV} (hρ:ρ[na]? = some r)
 (hev:(Prim.stx k off).ev (pv ρ c :: pv ρ i :: pvs ρ s.cells) = some r) {nd:Nd} (hK:Then E ρ β tm hp j ⟨dst,.store t x y,ty,pos,after,guard⟩ ⟨.tup [],[(jr,.row v e k (.at na))],nd⟩ K):(Oper.mk dst (.store t x y) ty pos after guard).wp P a w K Q:=by
 obtain ⟨val,es,h1,h2,h0,h3,xs,h4,hmo,h5⟩:=hs.hpr _ _ hh
 obtain ⟨m,kk,ad,l,c0,hv,hb,hi⟩:=elt_val hx
 rw [h1] at hb
 cases hb
 rw [pv_of h2,pv_of hi] at hev
 simp only [Prim.ev] at hev
 have him:idxOf (some (.raw (.int kk (m:Int)))) = some m:=by simp [idxOf]
 rw [him] at hev
 simp only at hev
 cases he:es[m]? with
 | none=>rw [he] at hev; cases hev
 | some el =>
  rw [he] at hev
  simp only at hev
  split at hev
  ·rename_i hcond
   obtain ⟨hel,hle,hflat⟩:=hcond
   cases hev
   have hlt:=(List.getElem?_eq_some_iff.1 he).1
   rcases h4.2 with ⟨hval,_⟩ | ⟨g,cap0,cur,hval,k1,k2,k3,k4,k5,k6⟩
   ·cases hval
   injection hval with hv1 hv2 hv3
   injection hv1 with hv1
   subst hv1 hv3
   obtain ⟨q1,q2⟩:=cells_rep hy htup
   have hcl:(pvs ρ s.cells).length = (a.eval y).cells.toList.length:=by simp [pvs,q1]
   have hps:(pvs ρ s.cells).length = s.cells.length:=by simp [pvs]
   have hxl:xs.length = es.length * k:=h4.1
   have hin:=mul_at hlt (show k - 1 < k by omega)
   have hfit:m * k + off + (a.eval y).cells.toList.length ≤ es.length * k:=by omega
   have hcap:es.length * k ≤ c0 * k:=Nat.mul_le_mul_right k k3
   have hone:∀ u ∈ (a.eval y).cells.toList,u.oneCell' = true:=by
    intro u hu
    obtain ⟨n,hn,e⟩:=List.mem_iff_getElem.1 hu
    simp only [Array.length_toList] at hn
    have hl:n < s.cells.length:=by rw [← q1]; exact hn
    have:=(q2 n _ (List.getElem?_eq_getElem hl)).1
    simp [Array.getD,hn] at this
    rw [oneCell_flat,← e]
    simpa using this
   have hst:=run_storeCells_at P g (m * k + off) e (a.eval y).cells.toList 0 cur w k2 (by omega) hone
   simp only [Nat.add_zero] at hst
   have hxa:a.eval x = .pointer (some ⟨g,m * k + off,none⟩):=by rw [hv,add_mid,Nat.zero_add]
   have hrun:(execOp a.eval ⟨dst,.store t x y,ty,pos,after,guard⟩).run P w = .ok .skip (w.setRow g (cur.toList.take (m * k + off) ++ (a.eval y).cells.toList ++ cur.toList.drop (m * k + off + (a.eval y).cells.toList.length)).toArray):=by
    simp only [execOp,hxa,Instr.storeAt,Instr.sureAddr,Sem.run_bind,Sem.run_pure,Result.andThen_ok,storeVar,size_run hsz w]
    rw [if_neg (by rw [q1]; simp),hst]
    rfl
   have hargs:Args ρ β w (Ok E hp β) s.cells (a.eval y).cells.toList:=⟨by simpa using q1.symm,fun n s' u h6 h7=>by
    have hn:=(List.getElem?_eq_some_iff.1 h7).1
    simp only [Array.length_toList] at hn
    have:=(q2 n s' h6).2
    simp [Array.getD,hn] at this
    rw [List.getElem?_eq_getElem (by simpa using hn)] at h7
    cases h7
    simpa using this⟩
   obtain ⟨r1,r2⟩:=argsN hargs hpu
   have hnewc:∀ (n:Nat) (p:PV),(pvs ρ s.cells)[n]? = some p → p.flat = true ∧ flatV ((a.eval y).cells.toList.getD n undef) = true ∧ Rep w (Ok E hp β) p ((a.eval y).cells.toList.getD n undef):=by
    intro n p hn
    have hlt':=(List.getElem?_eq_some_iff.1 hn).1
    have hg:(a.eval y).cells.toList[n]? = some ((a.eval y).cells.toList.getD n undef):=getD_some (by omega)
    have h8:=r2 n p _ hn hg
    have h9:p.flat = true:=(List.all_eq_true.1 hflat) p (List.mem_of_getElem? hn)
    exact ⟨h9,h8.flat h9,h8⟩
   refine run_skip hrun (hK β _ _ ((hs.turn (w':=w.setRow g (cur.toList.take (m * k + off) ++ (a.eval y).cells.toList ++ cur.toList.drop (m * k + off + (a.eval y).cells.toList.length)).toArray) hh (b:=g) (hb:=.row v e k (.at na)) ⟨_,h1,rfl⟩ ?_ ⟨rfl,rfl,rfl,by simp [World.setRow],fun n hn=>setRow_other w g n _ (by omega)⟩ (fun n hn=>setRow_other w g n _ hn) ?_).put undef_rep _ hd) fun i h=>.inl h)
   ·rintro c' ⟨val',e1,e2⟩
    rw [h1] at e1
    cases e1
    simp only [Value.ownBlock,Option.some.injEq] at e2
    exact e2.symm
   ·intro P' hk
    have e0:off + (pvs ρ s.cells).length = off + (a.eval y).cells.toList.length:=by omega
    have hlen':(es.set m (el.take off ++ pvs ρ s.cells ++ el.drop (off + (pvs ρ s.cells).length))).length = es.length:=List.length_set
    have hxt:xs = cur.toList.take (es.length * k):=k6.symm
    have hpl:m * k + off + (a.eval y).cells.toList.length ≤ xs.length:=by omega
    refine ⟨_,_,h1,(by simp only [den]; exact hρ),rfl,h3,xs.take (m * k + off) ++ (a.eval y).cells.toList ++ xs.drop (m * k + off + (a.eval y).cells.toList.length),⟨?_,.inr ⟨g,c0,_,by rw [hlen',← hv2],k1,setRow_heap w g cur _ e _ k2,by rw [hlen']; exact k3,k4,?_,?_⟩⟩,hmo,fun i' el' hi'=>?_⟩
    ·rw [hlen',List.length_append,List.length_append,List.length_take,List.length_drop]
     omega
    ·simp only [List.size_toArray,List.length_append,List.length_take,List.length_drop,Array.length_toList]
     simp only [Array.length_toList] at hfit
     omega
    ·rw [hlen',hxt,List.take_take,List.drop_take,Nat.min_eq_left (by omega)]
     have e3:(List.take (m * k + off) cur.toList ++ (a.eval y).cells.toList).length = m * k + off + (a.eval y).cells.toList.length:=by
      rw [List.length_append,List.length_take,Array.length_toList]
      omega
     rw [List.take_append,List.take_of_length_le (by rw [e3]; omega),e3]
    ·by_cases c1:i' = m
     ·subst c1
      rw [List.getElem?_set_self hlt] at hi'
      cases hi'
      obtain ⟨f1,f2⟩:=h5 i' el he
      refine ⟨?_,fun j' p hj'=>?_⟩
      ·simp only [List.length_append,List.length_take,List.length_drop]
       omega
      ·rw [put_getD hpl]
       by_cases c2:j' < off
       ·rw [if_neg (by omega)]
        rw [List.append_assoc,List.getElem?_append_left (by rw [List.length_take]; omega),List.getElem?_take,if_pos c2] at hj'
        obtain ⟨g1,g2,g3⟩:=f2 j' p hj'
        exact ⟨g1,g2,g3.keep hk⟩
       ·by_cases c3:j' < off + (a.eval y).cells.toList.length
        ·rw [if_pos ⟨by omega,by omega⟩]
         rw [List.append_assoc,List.getElem?_append_right (by rw [List.length_take]; omega),List.length_take,List.getElem?_append_left (by omega)] at hj'
         rw [show min off el.length = off by omega] at hj'
         rw [show i' * k + j' - (i' * k + off) = j' - off by omega]
         obtain ⟨g1,g2,g3⟩:=hnewc _ p hj'
         exact ⟨g1,g2,g3.keep hk⟩
        ·rw [if_neg (by omega)]
         rw [List.getElem?_append_right (by rw [List.length_append,List.length_take]; omega),List.length_append,List.length_take,List.getElem?_drop] at hj'
         rw [show off + (pvs ρ s.cells).length + (j' - (min off el.length + (pvs ρ s.cells).length)) = j' by omega] at hj'
         obtain ⟨g1,g2,g3⟩:=f2 j' p hj'
         exact ⟨g1,g2,g3.keep hk⟩
     ·rw [List.getElem?_set_ne (fun e=>c1 e.symm)] at hi'
      obtain ⟨f1,f2⟩:=h5 i' el' hi'
      refine ⟨f1,fun j' p hj'=>?_⟩
      have hjl:=(List.getElem?_eq_some_iff.1 hj').1
      rw [put_getD hpl,if_neg ?_]
      ·obtain ⟨g1,g2,g3⟩:=f2 j' p hj'
       exact ⟨g1,g2,g3.keep hk⟩
      ·rintro ⟨d1,d2⟩
       rcases Nat.lt_or_gt_of_ne c1 with h | h
       ·have:=mul_at h (show j' < k by omega)
        omega
       ·have:=Nat.mul_le_mul_right k h
        rw [Nat.succ_mul] at this
        omega
  ·cases hev
theorem row_app {dst:Option Nat} {c:Call} {t ty e:TypeId} {pos after guard} {ie:TypeInfo} {z:Value} (hs:Sim E ρ β tm hp a w) (hj:β j = none) (hd:∀ x,dst = some x → x < E.N) {K:Act → World → Prop} (hcal:c.callee = .builtin .append) (hty:c.argTypes = #[t,t])
 (hu:P.underlying t = some (.slice e)) (hi:P.info? e = some ie) (hz:ie.zero = some z) (hzs:z.cells.size = ie.size) (hk:0 < ie.size) {v0 v1:Value} (hargs:c.args.map a.eval = #[v0,v1]) {j0:Nat} {es ys:List (List PV)}
 (hrow:RowAt w E.mine (Ok E hp β) e ie.size v0 es) (hown:∀ b,v0.ownBlock = some b → Owns β hp j0 b) (hx:RowTell w (Ok E hp β) ie.size v1 ys) {r:PV} (hρ:ρ[na]? = some r) (hev:(Prim.app ie.size ie.bytes).ev [.sl es,.sl ys] = some r) {nd:Nd}
 (hK:Then E ρ β tm hp j ⟨dst,.call c,ty,pos,after,guard⟩ ⟨.row j0 j,[(j0,.row j e ie.size (.at na))],nd⟩ K):(Oper.mk dst (.call c) ty pos after guard).wp P a w K Q:=by
 simp only [Prim.ev] at hev
 split at hev
 ·rename_i hcond
  cases hev
  obtain ⟨A,c1,news,hv1,hnews,hcells⟩:=hx.news
  obtain ⟨_,xs,hownr,hmo,hel⟩:=hrow
  obtain ⟨v',w',hrun,h1,h2,h3⟩:=app_run (P:=P) (ty:=ty) hu hi hz rfl hzs hk hownr hnews hcond.2.1 hcond.1 (Nat.zero_le _) (c:=c1)
  have hexec:(execOp a.eval ⟨dst,.call c,ty,pos,after,guard⟩).run P w = .ok (.value v') w':=by
   simp only [execOp,resolve,hcal,pure_bind,invoke,builtin,hargs,hty]
   rw [hv1]
   exact exec_v (f:=.value) hrun
  have hS:=hs.row hj (e:=e) (k:=ie.size) (es:=es ++ ys) hown h2 h3 hρ (fun W' hk'=>⟨hk,xs ++ news,by rw [List.length_append]; exact h1,fun b hb=>(h3 b hb).elim (fun h=>.inl (Nat.le_trans hs.bel.size h)) (hmo b),fun i el hi'=>by
   obtain ⟨d1,d2⟩:=both_cells hownr.1 hel hcells i el hi'
   exact ⟨d1,fun j p hj'=>⟨(d2 j p hj').1,(d2 j p hj').2.1,(d2 j p hj').2.2.keep hk'⟩⟩⟩)
  obtain ⟨A',c',hv'⟩:∃ A' c',v' = .slice A' (es.length + ys.length) c':=by
   rcases h1.2 with ⟨rfl,hn⟩ | ⟨g,cap,cur,rfl,_⟩
   ·exact ⟨none,0,by rw [hn]⟩
   ·exact ⟨_,_,rfl⟩
  refine run_value (s:=.row j0 j) hexec (hK _ _ _ (hS.put ?_ _ hd) fun i h=>?_)
  ·rw [hv']
   exact .row j0 j _ _ _ (by rw [if_pos rfl])
  ·by_cases e:i = j
   ·exact .inr e
   ·simp only [e,if_false] at h; exact .inl h
 ·cases hev
end
end Gv
namespace Gv
open Go Go.RowKit
set_option linter.unusedVariables false
set_option linter.unusedSimpArgs false
section
variable {P:Program} {E:Env} {ρ:List PV} {β:Nat → Option Loc} {tm:Nat → Option SV} {hp:Nat → Option HB} {a:Act} {w:World} {W W':Nat → Prop} {na j:Nat} {o:Oper} {Q:Exit → Act → World → Prop}
theorem look_app' {α:Type}:∀ (l m:List (Nat × α)) (t:Nat),look (l ++ m) t = (match look l t with
 | some x=>some x
 | none=>look m t)
 | [],m,t=>rfl
 | (k,x) :: l,m,t=>by
  simp only [List.cons_append,look]
  cases k == t with
  | true=>rfl
  | false=>exact look_app' l m t
theorem updh_app (f:Nat → Option HB) (A B:List (Nat × HB)):updh (updh f A) B = updh f (B ++ A):=by
 funext t
 unfold updh
 rw [look_app']
 cases look B t <;> rfl
theorem ok_frz {hp':Nat → Option HB} (hf:∀ j,hp' j = hp j ∨ Froze hp hp' j) {b:Nat} (h:Ok E hp β b):Ok E hp' β b:=by
 refine ⟨h.1,fun j ho=>?_⟩
 obtain ⟨x,h1,h2⟩:=ho
 rcases hf j with e | e
 ·exact h.2 j ⟨x,by rw [← e]; exact h1,h2⟩
 ·exact e.no ⟨x,h1,h2⟩
theorem call_args {c:Call} {fv:Operand} {dst:Option Nat} {ty:TypeId} {pos after guard} {f:FuncId} {fs cs as:List SV} (hcal:c.callee = .value fv) (ha:Args ρ β w W (.clo (.func f) fs cs :: as) (a.eval fv :: (c.args.map a.eval).toList)) (hp:SV.pures (fs ++ as ++ cs) = true) :
 ∃ vs:Array Value,execOp a.eval ⟨dst,.call c,ty,pos,after,guard⟩ = callFunc f vs ∧ (pvs ρ (fs ++ as ++ cs)).length = vs.size ∧ ∀ (k:Nat) (p:PV),(pvs ρ (fs ++ as ++ cs))[k]? = some p → Rep w W p (vs.getD k undef):=by
 obtain ⟨hp1,hp2⟩:=pures_append hp
 obtain ⟨hp0,hp1⟩:=pures_append hp1
 obtain ⟨ps,qs,fw,cw,hd1,hd2,hv,hrep⟩:=clo_val ha.head hp0 hp2
 obtain ⟨as',hd3⟩:=ha.tail.dens hp1
 obtain ⟨hl3,hr3⟩:=ha.tail.reps hd3
 rw [dens_pvs (dens_append (dens_append hd1 hd3) hd2)]
 rw [hv] at hrep
 cases hrep with
 | clo _ _ _ _ _ hl1 hl2 hr1 hr2 =>
  simp only [Array.length_toList,Array.size_map] at hl3
  refine ⟨fw ++ c.args.map a.eval ++ cw,?_,by simp; omega,fun k p hk=>?_⟩
  ·simp only [execOp,resolve,hcal,hv,Deferred.ofValue,pure_bind,invoke]
  ·rw [Array.getD_eq_getD_getElem?,Array.getElem?_append,Array.getElem?_append]
   rw [List.getElem?_append,List.getElem?_append] at hk
   simp only [List.length_append,Array.size_append,Array.size_map] at hk ⊢
   by_cases c1:k < ps.length + as'.length
   ·rw [if_pos c1] at hk
    rw [if_pos (by omega)]
    by_cases c2:k < ps.length
    ·rw [if_pos c2] at hk
     rw [if_pos (by omega)]
     have:=hr1 k p hk
     rwa [Array.getD_eq_getD_getElem?] at this
    ·rw [if_neg c2] at hk
     rw [if_neg (by omega)]
     have hlt:=(List.getElem?_eq_some_iff.1 hk).1
     refine hr3 (k - ps.length) p _ hk ?_
     rw [hl1]
     simp [show k - fw.size < c.args.size by omega]
   ·rw [if_neg c1] at hk
    rw [if_neg (by omega)]
    have:=hr2 _ p hk
    rw [Array.getD_eq_getD_getElem?] at this
    rwa [show fw.size + c.args.size = ps.length + as'.length by omega]
theorem enter_run {f:FuncId} {vs:Array Value} (h:FnIs P f):(callFunc f vs).run P w = .ok (.enter f vs) w:=by
 obtain ⟨fn,hfn,hbody,hname⟩:=h
 unfold callFunc
 simp only [Sem.run_bind,run_program,Result.andThen_ok,hfn]
 have hb:fn.body.isNone = false:=by cases h:fn.body <;> simp_all
 simp only [hname,hb,Bool.false_eq_true,if_false,Sem.run_pure]
theorem frz_step (hs:Sim E ρ β tm hp a w) {args:List SV} {vs:List Value} (ha:Args ρ β w (Ok E hp β) args vs) :
 Sim E ρ β tm (updh hp (frz ((SV.rowss args).zip ((SV.rowss args).map hp)))) a w ∧ Args ρ β w (Ok E (updh hp (frz ((SV.rowss args).zip ((SV.rowss args).map hp)))) β) (SV.melts (hOf (SV.rowss args) ((SV.rowss args).map hp)) args) vs:=by
 generalize SV.rowss args = rs
 have hf:=frz_hp (hp:=hp) rs
 have hs1:=hs.frz hf
 refine ⟨hs1,?_⟩
 rw [melts_map]
 refine ⟨by simpa using ha.1,fun k s v hk hv=>?_⟩
 rw [List.getElem?_map,Option.map_eq_some_iff] at hk
 obtain ⟨s',hk,rfl⟩:=hk
 exact hs1.melt (frz_row rs) (frz_box rs) ((ha.2 k s' v hk hv).keep' (fun _ _ h=>h) fun b hb _=>⟨ok_frz hf hb,rfl⟩)
theorem look_step (hs:Sim E ρ β tm hp a w) {args:List SV} {vs:List Value} (ha:Args ρ β w (Ok E hp β) args vs) :
 Args ρ β w (fun b=>b < w.heap.size) (SV.melts (hOf (SV.rowss args) ((SV.rowss args).map hp)) args) vs:=by
 generalize SV.rowss args = rs
 have hm:=hs.meltAll (h':=hOf rs (rs.map hp)) (fun j x h=>hOf_sub rs j x h)
 rw [melts_map]
 refine ⟨by simpa using ha.1,fun k s v hk hv=>?_⟩
 rw [List.getElem?_map,Option.map_eq_some_iff] at hk
 obtain ⟨s',hk,rfl⟩:=hk
 exact ((ha.2 k s' v hk hv).keep' (fun _ _ h=>h) fun b _ hb=>⟨hb,rfl⟩).melt hm
theorem rawSh_rep {t:TypeId} {sh:RSh} {r:PV} {v:Value} (h:rawSh P t = some sh) (hf:fitsR sh r = true) (hr:Rep w W r v):Rep w W' r v:=by
 unfold rawSh at h
 split at h
 ·rename_i ts hu
  split at h
  ·cases h
   cases r with
   | tup ps =>
    simp only [fitsR,Bool.and_eq_true,beq_iff_eq,List.all_eq_true] at hf
    obtain ⟨h1,h2⟩:=hf
    cases hr with
    | tup _ vs hl hr =>
     refine .tup _ vs hl fun j p hj=>?_
     have hlt:=(List.getElem?_eq_some_iff.1 hj).1
     have hz:(ts.toList.map fun _=>Sh.rw)[j]? = some .rw:=by
      rw [List.getElem?_map]
      simp only [List.length_map] at h1
      rw [List.getElem?_eq_getElem (by omega)]
      rfl
     have h3:=h2 (.rw,p) (List.mem_of_getElem? (i:=j) (by simp [List.getElem?_zip_eq_some,hz,hj]))
     have:=hr j p hj
     cases p <;> simp only [fits,Bool.false_eq_true] at h3
     cases this
     exact .raw _
   | _=>simp [fitsR] at hf
  ·cases h
 ·split at h
  ·cases h
   cases r <;> simp only [fitsR,fits,Bool.false_eq_true] at hf
   cases hr
   exact .raw _
  ·cases h
theorem look_call {c:Call} {t:TypeId} {dst:Option Nat} {pos after guard} (hs:Sim E ρ β tm hp a w) {fv:Operand} (hcal:c.callee = .value fv) {args:List SV} (ha:Args ρ β w (Ok E hp β) args (a.eval fv :: (c.args.map a.eval).toList)) {sh:RSh} (hsh:rawSh P t = some sh) {e:Eff}
 (he:symLook na sh ⟨dst,.call c,t,pos,after,guard⟩ (SV.melts (hOf (SV.rowss args) ((SV.rowss args).map hp)) args) = some e) (hnd:NdOK P ρ na e.nd) (hd:∀ x,dst = some x → x < E.N) {K:Act → World → Prop}
 (hK:Then E ρ β tm hp j ⟨dst,.call c,t,pos,after,guard⟩ e K):(Oper.mk dst (.call c) t pos after guard).wp P a w K Q:=by
 have ha1:=look_step hs ha
 generalize SV.melts (hOf (SV.rowss args) ((SV.rowss args).map hp)) args = margs at he ha1
 have fin:∀ {f:FuncId} {ps:List PV} {r:PV} {nd:Nd} {vs:Array Value},Fn P f ps r → ρ[na]? = some r → fitsR sh r = true → Then E ρ β tm hp j ⟨dst,.call c,t,pos,after,guard⟩ ⟨expandR (.at na) sh,[],nd⟩ K →
  execOp a.eval ⟨dst,.call c,t,pos,after,guard⟩ = callFunc f vs → ps.length = vs.size → (∀ (k:Nat) (p:PV),ps[k]? = some p → Rep w (fun b=>b < w.heap.size) p (vs.getD k undef)) → (Oper.mk dst (.call c) t pos after guard).wp P a w K Q:=by
  intro f ps r nd vs hf hρ hfit hK hex hl hr
  obtain ⟨hfn,hcall⟩:=hf
  refine run_enter (f:=f) (args:=vs) (w':=w) (by rw [hex]; exact enter_run hfn) ((hcall w (fun b=>b < w.heap.size) vs (fun b h=>h) hl hr).mono fun x w' he=>?_)
  obtain ⟨v,p,rfl,rfl,hrep,hb⟩:=he
  refine ⟨v,rfl,hK β _ _ ((hs.grow hb).put ?_ _ hd) fun i h=>.inl h⟩
  exact expandR_rep rfl (by simp only [den]; exact hρ) hfit (rawSh_rep hsh hfit hrep)
 unfold symLook at he
 split at he
 ·rename_i c' f fs cs as hop
  cases hop
  split at he
  ·rename_i hcond
   simp only [Bool.and_eq_true,beq_iff_eq] at hcond
   cases he
   obtain ⟨r,hρ,hf,hfit⟩:=hnd
   obtain ⟨vs,h1,h2,h3⟩:=call_args (dst:=dst) (ty:=t) (pos:=pos) (after:=after) (guard:=guard) hcal ha1 hcond.1
   exact fin hf hρ hfit hK h1 h2 h3
  ·cases he
 ·rename_i c' s as hne hop
  cases hop
  split at he
  ·rename_i hcond
   simp only [Bool.and_eq_true,beq_iff_eq] at hcond
   cases he
   obtain ⟨r,hρ,hf,hfit⟩:=hnd
   obtain ⟨p,hd1⟩:=ha1.head.den1 hcond.1.1
   have hrep:=ha1.head.rep hd1
   obtain ⟨as',hd3⟩:=ha1.tail.dens hcond.1.2
   obtain ⟨hl3,hr3⟩:=ha1.tail.reps hd3
   rw [pv_of hd1,dens_pvs hd3] at hf
   unfold FnV at hf
   split at hf
   ·rename_i f ps qs
    generalize hv:a.eval fv = v at hrep
    cases hrep with
    | clo _ _ _ fw cw hl1 hl2 hr1 hr2 =>
     simp only [Array.length_toList,Array.size_map] at hl3
     refine fin hf hρ hfit hK (vs:=fw ++ c.args.map a.eval ++ cw) ?_ (by simp; omega) (fun k p hk=>?_)
     ·simp only [execOp,resolve,hcal,hv,Deferred.ofValue,pure_bind,invoke]
     ·rw [Array.getD_eq_getD_getElem?,Array.getElem?_append,Array.getElem?_append]
      rw [List.getElem?_append,List.getElem?_append] at hk
      simp only [List.length_append,Array.size_append,Array.size_map] at hk ⊢
      by_cases c1:k < ps.length + as'.length
      ·rw [if_pos c1] at hk
       rw [if_pos (by omega)]
       by_cases c2:k < ps.length
       ·rw [if_pos c2] at hk
        rw [if_pos (by omega)]
        have:=hr1 k p hk
        rwa [Array.getD_eq_getD_getElem?] at this
       ·rw [if_neg c2] at hk
        rw [if_neg (by omega)]
        have hlt:=(List.getElem?_eq_some_iff.1 hk).1
        refine hr3 (k - ps.length) p _ hk ?_
        rw [hl1]
        simp [show k - fw.size < c.args.size by omega]
      ·rw [if_neg c1] at hk
       rw [if_neg (by omega)]
       have:=hr2 _ p hk
       rw [Array.getD_eq_getD_getElem?] at this
       rwa [show fw.size + c.args.size = ps.length + as'.length by omega]
   ·exact hf.elim
  ·cases he
 ·cases he
theorem RowAt.as {M M' P P':Nat → Prop} {e:TypeId} {k:Nat} {val:Value} {es:List (List PV)} (h:RowAt w M P e k val es) (hM:∀ b,val.ownBlock = some b → M' b) (hP:∀ b,P b → P' b):RowAt w M' P' e k val es:=by
 obtain ⟨h1,xs,h2,hm,h3⟩:=h
 exact ⟨h1,xs,h2,hM,fun i el hi=>⟨(h3 i el hi).1,fun j p hj=>⟨((h3 i el hi).2 j p hj).1,((h3 i el hi).2 j p hj).2.1,((h3 i el hi).2 j p hj).2.2.mono hP⟩⟩⟩
theorem fresh_call {c:Call} {t:TypeId} {dst:Option Nat} {pos after guard} (hs:Sim E ρ β tm hp a w) (hj:β j = none) {fv:Operand} (hcal:c.callee = .value fv) {args:List SV} (ha:Args ρ β w (Ok E hp β) args (a.eval fv :: (c.args.map a.eval).toList)) {e:Eff}
 (he:symFresh P na j ⟨dst,.call c,t,pos,after,guard⟩ args = some e) (hnd:NdOK P ρ na e.nd) (hd:∀ x,dst = some x → x < E.N) {K:Act → World → Prop}
 (hK:Then E ρ β tm hp j ⟨dst,.call c,t,pos,after,guard⟩ e K):(Oper.mk dst (.call c) t pos after guard).wp P a w K Q:=by
 unfold symFresh at he
 split at he
 ·rename_i c' f fs cs as hop
  cases hop
  split at he
  ·rename_i el hu
   cases hn:cellsOf P el with
   | none=>simp [hn] at he
   | some k =>
    simp only [hn,Option.bind_some] at he
    split at he
    ·rename_i hcond
     simp only [Bool.and_eq_true,beq_iff_eq] at hcond
     cases he
     obtain ⟨es,hρ,hf⟩:=hnd
     obtain ⟨vs,h1,h2,h3⟩:=call_args (dst:=dst) (ty:=t) (pos:=pos) (after:=after) (guard:=guard) hcal ha hcond.1
     obtain ⟨hfn,hcall⟩:=hf
     refine run_enter (f:=f) (args:=vs) (w':=w) (by rw [h1]; exact enter_run hfn) ((hcall w (fun b=>Ok E hp β b ∧ b < w.heap.size) vs (fun b h=>h.2) h2 fun k p hk=>(h3 k p hk).lt).mono fun x w' he=>?_)
     obtain ⟨v,es',rfl,e1,hb,hrow⟩:=he
     cases e1
     have hβ:∀ i b,β i = some b → (if i = j then some (Loc.hdr v) else β i) = some b:=by
      intro i b e
      rw [if_neg (fun e'=>by subst e'; rw [hj] at e; cases e)]
      exact e
     have hbase:∀ i b,i = j → Owns (fun i=>if i = j then some (Loc.hdr v) else β i) (updh hp [(j,.row j el k (.at na))]) i b → v.ownBlock = some b:=by
      intro i b hi ho
      obtain ⟨val,h1,h2⟩:=owns_upd ho hi
      simp only [if_true,Option.some.injEq,Loc.hdr.injEq] at h1
      rw [h1]
      exact h2
     have hS:Sim E ρ (fun i=>if i = j then some (.hdr v) else β i) tm (updh hp [(j,.row j el k (.at na))]) a w':=by
      refine hs.change (fun i=>i = j) hβ (hs.bel.below hb) (fun c hc _=>hb.block c hc) (fun i hi=>upd_other hi) (fun i b hi ho=>.inl ?_) (fun i i' b hi hi' _ _=>by rw [hi,hi']) (fun i x hi hx hk'=>?_)
      ·exact (hrow.owns (hbase i b hi ho)).2
      ·subst hi
       rw [upd_self hx]
       refine ⟨v,es,if_pos rfl,(by simp only [den]; exact hρ),rfl,hrow.as (fun b hb'=>.inl (Nat.le_trans hs.bel.size (hrow.owns hb').2)) fun b hb'=>?_⟩
       rcases hb'.1 with h5 | h5
       ·exact (hk' b h5.1 h5.2).1
       ·refine ⟨.inr (.inl (Nat.le_trans hs.bel.size h5)),fun i' ho=>?_⟩
        by_cases e:i' = i
        ·exact hb'.2 (hbase i' b e ho)
        ·obtain ⟨x,h6,h7⟩:=ho
         rw [upd_other e] at h6
         have:=(hs.owns ⟨x,h6,(hs.hpr i' x h6).back hβ h7⟩).1
         omega
     obtain ⟨A,cc,hv⟩:=hrow.slice
     refine ⟨v,rfl,hK _ _ _ (hS.put ?_ _ hd) fun i h=>?_⟩
     ·rw [hv]
      exact .row j j _ _ _ (by rw [if_pos rfl])
     ·by_cases e:i = j
      ·exact .inr e
      ·simp only [e,if_false] at h; exact .inl h
    ·cases he
  ·cases he
 ·cases he
theorem frz_not {rs:List Nat} {j:Nat} (h:rs.contains j = false):updh hp (frz (rs.zip (rs.map hp))) j = hp j:=by
 unfold updh
 rw [look_frz,if_neg (by simpa using h)]
theorem updh_cons (f:Nat → Option HB) (x:Nat × HB) (A:List (Nat × HB)):updh (updh f A) [x] = updh f (x :: A):=updh_app f A [x]
theorem own_call {c:Call} {t:TypeId} {dst:Option Nat} {pos after guard} (hs:Sim E ρ β tm hp a w) (hj:β j = none) {fv:Operand} (hcal:c.callee = .value fv) {args:List SV} (ha:Args ρ β w (Ok E hp β) args (a.eval fv :: (c.args.map a.eval).toList)) {back:Bool} {e:Eff}
 (he:symOwn P back ((SV.rowss args).map hp) na j ⟨dst,.call c,t,pos,after,guard⟩ args = some e) (hnd:NdOK P ρ na e.nd) (hd:∀ x,dst = some x → x < E.N) {K:Act → World → Prop}
 (hK:Then E ρ β tm hp j ⟨dst,.call c,t,pos,after,guard⟩ e K):(Oper.mk dst (.call c) t pos after guard).wp P a w K Q:=by
 unfold symOwn at he
 split at he
 ·rename_i c' f jr v as v' el k x h' hop hlist
  cases hop
  simp only at he
  split at he
  ·rename_i hcond
   obtain ⟨rfl,hnot,hpu,hlen⟩:=hcond
   simp only [SV.rowss,SV.rows,List.nil_append,List.cons_append,List.map_cons,List.cons.injEq] at hlist
   obtain ⟨hh,rfl⟩:=hlist
   generalize hrs:SV.rowss as = rs at he hnot hpu
   simp only [SV.pures,Bool.and_eq_true] at hpu
   have hf:=frz_hp (hp:=hp) rs
   have hs1:=hs.frz hf
   have hjr:updh hp (frz (rs.zip (rs.map hp))) jr = some (.row v el k x):=by rw [frz_not hnot]; exact hh
   have ha1:Args ρ β w (Ok E (updh hp (frz (rs.zip (rs.map hp)))) β) (SV.melts (hOf rs (rs.map hp)) as) ((c.args.map a.eval).toList.drop 1):=by
    have ha2:=ha.tail
    cases hc:(c.args.map a.eval).toList with
    | nil=>have:=ha2.1; rw [hc] at this; simp at this
    | cons u us =>
     rw [hc] at ha2
     have ha3:=ha2.tail
     simp only [List.drop_succ_cons,List.drop_zero]
     rw [melts_map]
     refine ⟨by simpa using ha3.1,fun k s v hk hv=>?_⟩
     rw [List.getElem?_map,Option.map_eq_some_iff] at hk
     obtain ⟨s',hk,rfl⟩:=hk
     exact hs1.melt (frz_row rs) (frz_box rs) ((ha3.2 k s' v hk hv).keep' (fun _ _ h=>h) fun b hb _=>⟨ok_frz hf hb,rfl⟩)
   generalize hm:SV.melts (hOf rs (rs.map hp)) as = as' at he hpu ha1
   generalize hhp1:updh hp (frz (rs.zip (rs.map hp))) = hp1 at hs1 hjr ha1
   obtain ⟨val,es,k1,k2,k0,k3⟩:=hs1.hpr _ _ hjr
   obtain ⟨us,hus,hval⟩:∃ us:Array Value,c.args.map a.eval = #[val] ++ us ∧ us.toList = (c.args.map a.eval).toList.drop 1:=by
    have ha2:=ha.tail
    cases hc:(c.args.map a.eval).toList with
    | nil=>have:=ha2.1; rw [hc] at this; simp at this
    | cons u us =>
     rw [hc] at ha2
     have:=row_val ha2.head
     rw [k1] at this
     cases this
     refine ⟨us.toArray,?_,by simp⟩
     apply Array.ext'
     rw [hc]
     simp
   obtain ⟨ps,hd3⟩:=ha1.dens hpu.2
   obtain ⟨hl3,hr3⟩:=ha1.reps hd3
   have hownv:∀ b,val.ownBlock = some b → Owns β hp1 jr b:=fun b hb=>⟨_,hjr,val,k1,hb⟩
   have hP0:∀ b,(Ok E hp1 β b ∧ b < w.heap.size) → b < w.heap.size ∧ val.ownBlock ≠ some b:=fun b hb=>⟨hb.2,fun e=>hb.1.2 jr (hownv b e)⟩
   have hrow0:RowAt w (fun _=>True) (fun b=>Ok E hp1 β b ∧ b < w.heap.size) el k val es:=k3.keep (fun _ _=>trivial) (fun b h1 h2=>⟨⟨h1,h2⟩,rfl⟩) fun _ _=>rfl
   have hargs:∀ (k:Nat) (p:PV),ps[k]? = some p → Rep w (fun b=>Ok E hp1 β b ∧ b < w.heap.size) p (us.getD k undef):=by
    intro k p hk
    have hlt:=(List.getElem?_eq_some_iff.1 hk).1
    refine (hr3 k p _ hk ?_).lt
    rw [← hval,Array.getElem?_toList]
    have:k < us.size:=by rw [← Array.length_toList,hval]; omega
    simp [this]
   have hlen':ps.length = us.size:=by rw [← Array.length_toList,hval]; exact hl3
   have hclo:=clo_val ha.head rfl rfl
   obtain ⟨fs0,cs0,fw,cw,hd1,hd2,hv,hrep⟩:=hclo
   simp only [Gv.dens,Option.some.injEq] at hd1 hd2
   subst hd1 hd2
   rw [hv] at hrep
   have hex:execOp a.eval ⟨dst,.call c,t,pos,after,guard⟩ = callFunc f (#[val] ++ us):=by
    cases hrep with
    | clo _ _ _ _ _ hl1 hl2 hr1 hr2 =>
     have e1:fw = #[]:=Array.eq_empty_of_size_eq_zero hl1.symm
     have e2:cw = #[]:=Array.eq_empty_of_size_eq_zero hl2.symm
     simp only [execOp,resolve,hcal,hv,Deferred.ofValue,pure_bind,invoke,hus,e1,e2,Array.empty_append,Array.append_empty]
   cases back with
   | true =>
    simp only [if_true] at he
    cases he
    obtain ⟨es0,es',hρ,hes,hfb⟩:=hnd
    rw [pv_of k2] at hes
    cases hes
    rw [dens_pvs hd3] at hfb
    obtain ⟨hfn,hcall⟩:=hfb
    refine run_enter (f:=f) (args:=#[val] ++ us) (w':=w) (by rw [hex]; exact enter_run hfn) ((hcall w _ val us hP0 hrow0 hlen' hargs).mono fun x w' he=>?_)
    obtain ⟨v2,es2,rfl,e1,hg,hnew,hrow⟩:=he
    cases e1
    have hβ:∀ i b,β i = some b → (if i = j then some (Loc.hdr v2) else β i) = some b:=by
     intro i b e
     rw [if_neg (fun e'=>by subst e'; rw [hj] at e; cases e)]
     exact e
    have hbase:∀ i b,i = jr → Owns (fun i=>if i = j then some (Loc.hdr v2) else β i) (updh hp1 [(jr,.row j el k (.at na))]) i b → v2.ownBlock = some b:=by
     intro i b hi ho
     obtain ⟨val,h1,h2⟩:=owns_upd ho hi
     simp only [if_true,Option.some.injEq,Loc.hdr.injEq] at h1
     rw [h1]
     exact h2
    have hS:Sim E ρ (fun i=>if i = j then some (.hdr v2) else β i) tm (updh hp1 [(jr,.row j el k (.at na))]) a w':=by
     refine hs1.change (fun i=>i = jr) hβ (hs1.bel.grown hg fun b hb=>(hs1.owns (hownv b hb)).2) (fun c hc hn=>hg.block c hc fun e=>hn jr rfl (hownv c e.symm)) (fun i hi=>upd_other hi) (fun i b hi ho=>?_) (fun i i' b hi hi' _ _=>by rw [hi,hi']) (fun i x hi hx hk'=>?_)
     ·rcases hnew b (hbase i b hi ho) with h | h
      ·exact .inl h
      ·exact .inr ⟨jr,rfl,hownv b h⟩
     ·subst hi
      rw [upd_self hx]
      refine ⟨v2,es',if_pos rfl,(by simp only [den]; exact hρ),rfl,hrow.as (fun b hb'=>?_) fun b hb'=>?_⟩
      ·rcases hnew b hb' with h | h
       ·exact .inl (Nat.le_trans hs1.bel.size h)
       ·exact (hs1.owns (hownv b h)).2
      ·rcases hb'.1 with h5 | h5 | h5
       ·exact (hk' b h5.1 h5.2).1
       ·refine ⟨.inr (.inl (Nat.le_trans hs1.bel.size h5)),fun i' ho=>?_⟩
        by_cases e:i' = i
        ·exact hb'.2 (hbase i' b e ho)
        ·obtain ⟨x,h6,h7⟩:=ho
         rw [upd_other e] at h6
         have:=(hs1.owns ⟨x,h6,(hs1.hpr i' x h6).back hβ h7⟩).1
         omega
       ·refine ⟨.inr (hs1.owns (hownv b h5)).2,fun i' ho=>?_⟩
        by_cases e:i' = i
        ·exact hb'.2 (hbase i' b e ho)
        ·obtain ⟨x,h6,h7⟩:=ho
         rw [upd_other e] at h6
         exact e (hs1.inj i' i b ⟨x,h6,(hs1.hpr i' x h6).back hβ h7⟩ (hownv b h5))
    obtain ⟨A,cc,hv2⟩:=hrow.slice
    refine ⟨v2,rfl,hK (fun i=>if i = j then some (.hdr v2) else β i) _ _ ?_ fun i h=>?_⟩
    ·have hS2:=hS.put (s:=.row jr j) (v:=v2) (by rw [hv2]; exact .row jr j _ _ _ (by rw [if_pos rfl])) dst hd
     rw [← hhp1,updh_cons] at hS2
     exact hS2
    ·by_cases e:i = j
     ·exact .inr e
     ·simp only [e,if_false] at h; exact .inl h
   | false =>
    simp only [Bool.false_eq_true,if_false] at he
    split at he
    ·rename_i sh hsh
     cases he
     obtain ⟨es0,es',r,hρ,hes,hft,hfit⟩:=hnd
     rw [pv_of k2] at hes
     cases hes
     rw [dens_pvs hd3] at hft
     obtain ⟨hfn,hcall⟩:=hft
     refine run_enter (f:=f) (args:=#[val] ++ us) (w':=w) (by rw [hex]; exact enter_run hfn) ((hcall w _ val us hP0 hrow0 hlen' hargs).mono fun x w' he=>?_)
     obtain ⟨v2,es2,r2,rfl,e1,hg,hrow,hrep2⟩:=he
     simp only [PV.tup.injEq,List.cons.injEq,PV.sl.injEq,and_true] at e1
     obtain ⟨rfl,rfl⟩:=e1
     have hbase:∀ i b,i = jr → Owns β (updh hp1 [(jr,.row v el k (.ext (.at na) 0))]) i b → val.ownBlock = some b:=by
      intro i b hi ho
      obtain ⟨val',h1,h2⟩:=owns_upd ho hi
      rw [k1] at h1
      cases h1
      exact h2
     have hOk:∀ b,((Ok E hp1 β b ∧ b < w.heap.size) ∨ w.heap.size ≤ b) ∧ val.ownBlock ≠ some b → (∀ b,Ok E hp1 β b → b < w.heap.size → Ok E (updh hp1 [(jr,.row v el k (.ext (.at na) 0))]) β b ∧ w'.heap[b]? = w.heap[b]?) → Ok E (updh hp1 [(jr,.row v el k (.ext (.at na) 0))]) β b:=by
      intro b hb' hk'
      rcases hb'.1 with h5 | h5
      ·exact (hk' b h5.1 h5.2).1
      ·refine ⟨.inr (.inl (Nat.le_trans hs1.bel.size h5)),fun i' ho=>?_⟩
       by_cases e:i' = jr
       ·exact hb'.2 (hbase i' b e ho)
       ·obtain ⟨x,h6,h7⟩:=ho
        rw [upd_other e] at h6
        have:=(hs1.owns ⟨x,h6,h7⟩).1
        omega
     have hkk:∀ b,Ok E hp1 β b → b < w.heap.size → Ok E (updh hp1 [(jr,.row v el k (.ext (.at na) 0))]) β b ∧ w'.heap[b]? = w.heap[b]?:=by
      intro b h1 h2
      refine ⟨⟨h1.1,fun i' ho=>?_⟩,hg.block b h2 fun e=>h1.2 jr (hownv b e.symm)⟩
      by_cases e:i' = jr
      ·exact h1.2 jr (hownv b (hbase i' b e ho))
      ·obtain ⟨x,h6,h7⟩:=ho
       rw [upd_other e] at h6
       exact h1.2 i' ⟨x,h6,h7⟩
     have hS:Sim E ρ β tm (updh hp1 [(jr,.row v el k (.ext (.at na) 0))]) a w':=by
      refine hs1.change (fun i=>i = jr) (fun _ _ h=>h) (hs1.bel.grown hg fun b hb=>(hs1.owns (hownv b hb)).2) (fun c hc hn=>hg.block c hc fun e=>hn jr rfl (hownv c e.symm)) (fun i hi=>upd_other hi) (fun i b hi ho=>.inr ⟨jr,rfl,hownv b (hbase i b hi ho)⟩) (fun i i' b hi hi' _ _=>by rw [hi,hi']) (fun i x hi hx hk'=>?_)
      subst hi
      rw [upd_self hx]
      exact ⟨val,_,k1,(by simp only [den,hρ]; rfl),rfl,hrow.as (fun b hb'=>(hs1.owns (hownv b hb')).2) fun b hb'=>hOk b hb' hk'⟩
     refine ⟨v2,rfl,hK β _ _ ?_ fun i h=>.inl h⟩
     have hS2:=hS.put (s:=expandR (.ext (.at na) 1) sh) (v:=v2) (expandR_rep rfl (by simp only [den,hρ]; rfl) hfit (hrep2.mono fun b hb'=>hOk b hb' hkk)) dst hd
     rw [← hhp1,updh_cons] at hS2
     exact hS2
    ·cases he
  ·cases he
 ·cases he
end
end Gv
namespace Gv
open Go Go.RowKit
set_option linter.unusedVariables false
set_option linter.unusedSimpArgs false
section
variable {P:Program} {E:Env} {ρ:List PV} {β:Nat → Option Loc} {tm:Nat → Option SV} {hp:Nat → Option HB} {a:Act} {w:World} {W W':Nat → Prop} {na j:Nat} {o:Oper} {Q:Exit → Act → World → Prop}
theorem sliceAt_run {t el:TypeId} {n:Nat} {lo hi:Option Value} (hs:P.underlying t = some (.slice el)) (hn:cellsOf P el = some n) {A:Option Addr} {len cap x y m:Nat} (hr:(Instr.sliceBounds true len cap lo hi none).run P w = .ok (x,y,m) w) :
 (Instr.sliceAt t (.slice A len cap) lo hi none).run P w = .ok (.slice (if m = x then A else A.map (·.add (x * n))) (y - x) (m - x)) w:=by
 unfold Instr.sliceAt
 simp only [Sem.run_bind,run_underlying hs w,Result.andThen_ok]
 unfold Instr.slice
 simp only [Sem.run_bind,run_underlying hs w,Result.andThen_ok,hr,size_run hn w,Sem.run_pure]
theorem vw_val {jr v k:Nat} {lo len:SV} {val:Value} (h:RepS ρ β w W (.vw jr v k lo len) val):∃ (A A':Option Addr) (n c c' x y:Nat),val = .slice A' y c' ∧ β v = some (.hdr (.slice A n c)) ∧ den ρ lo = some (.raw (.int .i64 (x:Int))) ∧ den ρ len = some (.raw (.int .i64 (y:Int))) ∧ x + y ≤ n ∧ (0 < y → A' = A.map (·.add (x * k))):=by
 cases h with
 | pure s p v hd hf hr=>simp [den] at hd
 | vw j v k lo len A A' n c c' x y hb h1 h2 hle hA=>exact ⟨A,A',n,c,c',x,y,rfl,hb,h1,h2,hle,hA⟩
theorem add_zero' (ad:Addr):ad.add 0 = ad:=by simp [Addr.add]
theorem view_idx (hs:Sim E ρ β tm hp a w) (hd:∀ x,o.dst = some x → x < E.N) {K:Act → World → Prop} {t el e:TypeId} {jr v k:Nat} {i c lo len:SV} {x y:Operand} (hu:P.underlying t = some (.slice el)) (hn:cellsOf P el = some k) (hh:hp jr = some (.row v e k c))
 (hx:RepS ρ β w (Ok E hp β) (.vw jr v k lo len) (a.eval x)) (hy:RepS ρ β w (Ok E hp β) i (a.eval y)) (hip:i.pure = true) {r:PV} (hρ:ρ[na]? = some r) (hev:Prim.vix.ev [pv ρ lo,pv ρ len,pv ρ i] = some r) {nd:Nd}
 (hexec:execOp a.eval o = (do pure (.value (← Instr.indexAt t (a.eval x) (a.eval y))))) (hK:Then E ρ β tm hp j o ⟨.elt jr v k (.at na) 0,[],nd⟩ K):o.wp P a w K Q:=by
 obtain ⟨A,A',n,c1,c',p,q,hv,hb,h1,h2,hle,hA⟩:=vw_val hx
 obtain ⟨val,es,k1,k2,k0,k3⟩:=hs.hpr _ _ hh
 rw [hb] at k1
 cases k1
 rw [pv_of h1,pv_of h2] at hev
 have e1:idxOf (some (.raw (.int .i64 (p:Int)))) = some p:=by simp [idxOf]
 have e2:idxOf (some (.raw (.int .i64 (q:Int)))) = some q:=by simp [idxOf]
 simp only [Prim.ev,e1,e2] at hev
 cases hi:idxOf (some (pv ρ i)) with
 | none=>rw [hi] at hev; cases hev
 | some m =>
  rw [hi] at hev
  simp only at hev
  split at hev
  ·rename_i hlt
   cases hev
   obtain ⟨kk,hid,hyv⟩:=idx_den hy hip hi
   obtain ⟨ad,hAd⟩:∃ ad,A = some ad:=by
    obtain ⟨_,xs,h4,_⟩:=k3
    rcases h4.2 with ⟨h5,h6⟩ | ⟨g,cap,cur,h5,_⟩
    ·cases h5; omega
    ·cases h5; exact ⟨_,rfl⟩
   subst hAd
   have hA':=hA (by omega)
   simp only [Option.map_some] at hA'
   refine then_value hs hd hK (Below.refl _ w) (v:=.pointer (some (ad.add ((p + m) * k + 0)))) ?_ (.elt _ _ _ _ _ (p + m) .i64 ad _ c1 hb (by simp only [den]; exact hρ))
   rw [hexec]
   refine exec_v (f:=.value) ?_
   rw [hv,hyv,hA']
   unfold Instr.indexAt
   simp only [asIntOf,Sem.run_bind,Sem.run_pure,Result.andThen_ok,run_underlying hu w]
   simp only [Sem.run_ite,Sem.run_bind,size_run hn w,Result.andThen_ok,Sem.run_pure,Int.toNat_natCast]
   rw [if_pos ⟨by omega,by omega⟩,add_add,Nat.add_mul,Nat.add_zero]
  ·cases hev
theorem view_make {dst:Option Nat} {t ty el e:TypeId} {pos after guard} {x z:Operand} {hi:Option Operand} (hs:Sim E ρ β tm hp a w) (hd:∀ x,dst = some x → x < E.N) {K:Act → World → Prop} {jr v k:Nat} {c:SV} {l:List SV} (hu:P.underlying t = some (.slice el)) (hn:cellsOf P el = some k) (hh:hp jr = some (.row v e k c))
 (ha:Args ρ β w (Ok E hp β) (.row jr v :: l) (a.eval x :: a.eval z :: (hi.map a.eval).toList)) (hl:SV.pures l = true) {r:PV} (hρ:ρ[na]? = some r) (hev:(Prim.vsl k hi.isSome).ev (pv ρ c :: pvs ρ l) = some r) {nd:Nd}
 (hK:Then E ρ β tm hp j ⟨dst,.slice t x (some z) hi none,ty,pos,after,guard⟩ ⟨.vw jr v k (.ext (.at na) 0) (.ext (.at na) 1),[],nd⟩ K):(Oper.mk dst (.slice t x (some z) hi none) ty pos after guard).wp P a w K Q:=by
 obtain ⟨val,es,k1,k2,k0,k3⟩:=hs.hpr _ _ hh
 have hv:=row_val ha.head
 rw [k1] at hv
 cases hv
 obtain ⟨A,cap,hval⟩:=k3.slice
 obtain ⟨hec⟩:Nonempty (es.length ≤ cap):=by
  obtain ⟨_,xs,h4,_⟩:=k3
  rcases h4.2 with ⟨h5,h6⟩ | ⟨g,cap',cur,h5,_,_,h6,_⟩
  ·exact ⟨by omega⟩
  ·rw [h5] at hval; injection hval with _ _ e3; exact ⟨by omega⟩
 rw [pv_of k2] at hev
 rw [hval] at k1
 have hlen:=ha.1
 cases l with
 | nil=>simp at hlen
 | cons i l =>
  simp only [SV.pures,Bool.and_eq_true] at hl
  simp only [pvs,List.map_cons,Prim.ev] at hev
  cases hi':idxOf (some (pv ρ i)) with
  | none=>rw [hi'] at hev; simp at hev
  | some p =>
   rw [hi'] at hev
   obtain ⟨kk,hid,hzv⟩:=idx_den ha.tail.head hl.1 hi'
   have fin:∀ q:Nat,p ≤ q → q ≤ es.length → r = .tup [.raw (.int .i64 (p:Int)),.raw (.int .i64 ((q - p:Nat):Int))] → (Instr.sliceBounds true es.length cap (some (a.eval z)) (hi.map a.eval) none).run P w = .ok (p,q,cap) w → (Oper.mk dst (.slice t x (some z) hi none) ty pos after guard).wp P a w K Q:=by
    intro q hpq hq hr hrun
    subst hr
    refine then_value hs hd hK (Below.refl _ w) (v:=.slice (if cap = p then A else A.map (·.add (p * k))) (q - p) (cap - p)) ?_ (.vw _ _ _ _ _ A _ es.length cap _ p (q - p) k1 (by simp only [den,hρ]; rfl) (by simp only [den,hρ]; rfl) (by omega) fun h=>by rw [if_neg (by omega)])
    show (do pure (.value (← Instr.sliceAt t (a.eval x) (some (a.eval z)) (hi.map a.eval) none)):Sem Next).run P w = _
    rw [hval]
    exact exec_v (f:=.value) (sliceAt_run hu hn hrun)
   cases hi with
   | none =>
    simp only [Option.isSome_none,Bool.false_eq_true,if_false] at hev
    ·split at hev
     ·rename_i hcond
      cases hev
      refine fin _ hcond.1 hcond.2.1 rfl ?_
      rw [hzv]
      unfold Instr.sliceBounds
      simp only [Option.map_none,Sem.run_bind,Sem.run_pure,Result.andThen_ok,Option.isSome_none,Bool.false_eq_true,if_false,bound_run hcond.1]
     ·cases hev
   | some u =>
    cases l with
    | nil=>simp at hlen
    | cons i2 l =>
     simp only [SV.pures,Bool.and_eq_true] at hl
     simp only [Option.isSome_some,if_true,List.map_cons,List.head?_cons] at hev
     split at hev
     ·rename_i p' q' e1 e2
      cases e1
      obtain ⟨kk2,hid2,huv⟩:=idx_den (ha.tail.tail.head (s:=i2)) hl.2.1 e2
      split at hev
      ·rename_i hcond
       cases hev
       refine fin _ hcond.1 hcond.2.1 rfl ?_
       rw [hzv]
       unfold Instr.sliceBounds
       have huv':a.eval u = .int kk2 (q':Int):=huv
       simp only [Option.map_some,huv',Sem.run_bind,Sem.run_pure,Result.andThen_ok,Option.isSome_none,if_true,Bool.false_eq_true,if_false,bound_run (show q' ≤ cap by omega),bound_run hcond.1]
      ·cases hev
     ·cases hev
theorem row_shrink {dst:Option Nat} {t ty el e:TypeId} {pos after guard} {x z:Operand} (hs:Sim E ρ β tm hp a w) (hj:β j = none) (hd:∀ x,dst = some x → x < E.N) {K:Act → World → Prop} {jr v k:Nat} {c:SV} {l:List SV} (hu:P.underlying t = some (.slice el)) (hn:cellsOf P el = some k) (hh:hp jr = some (.row v e k c))
 (ha:Args ρ β w (Ok E hp β) (.row jr v :: l) [a.eval x,a.eval z]) (hl:SV.pures l = true) {r:PV} (hρ:ρ[na]? = some r) (hev:(Prim.rsl k false true false).ev (pv ρ c :: pvs ρ l) = some r) {nd:Nd}
 (hK:Then E ρ β tm hp j ⟨dst,.slice t x none (some z) none,ty,pos,after,guard⟩ ⟨.row jr j,[(jr,.row j e k (.at na))],nd⟩ K):(Oper.mk dst (.slice t x none (some z) none) ty pos after guard).wp P a w K Q:=by
 obtain ⟨val,es,k1,k2,k0,k3⟩:=hs.hpr _ _ hh
 have hv:=row_val ha.head
 rw [k1] at hv
 cases hv
 have hlen:=ha.1
 match l,hlen with
 | [i],_ =>
  simp only [SV.pures,Bool.and_eq_true] at hl
  rw [pv_of k2] at hev
  simp only [pvs,List.map_cons,List.map_nil,Prim.ev,Bool.false_and,Bool.false_eq_true,if_false,if_true,List.head?_cons] at hev
  split at hev
  ·rename_i p q m e1 e2 e3
   cases e1
   cases e3
   obtain ⟨kk,hid,hzv⟩:=idx_den ha.tail.head hl.1 e2
   split at hev
   ·rename_i hcond
    obtain ⟨_,hql,_,hall⟩:=hcond
    cases hev
    simp only [List.drop_zero] at hρ
    have hown:∀ b,(a.eval x).ownBlock = some b → Owns β hp jr b:=fun b hb=>⟨_,hh,_,k1,hb⟩
    have k4:=k3
    obtain ⟨hk,xs,h4,hmo,h5⟩:=k3
    obtain ⟨A,cap,hval,hec⟩:∃ A cap,a.eval x = .slice A es.length cap ∧ es.length ≤ cap:=by
     rcases h4.2 with ⟨h5,h6⟩ | ⟨g,cap',cur,h5,_,_,h6,_⟩
     ·exact ⟨none,0,by rw [h5,h6],by omega⟩
     ·exact ⟨_,_,h5,h6⟩
    have hq:(es.take q).length = q:=by rw [List.length_take]; omega
    have hrun:(Instr.sliceAt t (a.eval x) none (some (a.eval z)) none).run P w = .ok (.slice A q cap) w:=by
     rw [hval]
     have hb:(Instr.sliceBounds true es.length cap none (some (a.eval z)) none).run P w = .ok (0,q,cap) w:=by
      rw [hzv]
      unfold Instr.sliceBounds
      simp only [Sem.run_bind,Sem.run_pure,Result.andThen_ok,if_true,bound_run (show q ≤ cap by omega)]
     rw [sliceAt_run hu hn hb]
     congr 2
     split
     ·rfl
     ·cases A with
      | none=>rfl
      | some ad=>simp [add_zero']
    have hS:=hs.row (w':=w) (s0:=a.eval x) (v':=.slice A q cap) (e:=e) (k:=k) (es:=es.take q) hj hown ⟨rfl,rfl,rfl,Nat.le_refl _,fun _ _ _=>rfl⟩ (fun b hb=>.inr (by rw [hval]; cases A <;> simp [Value.ownBlock] at hb ⊢; exact hb)) hρ (fun W' hk'=>by
     refine ⟨hk,xs.take (q * k),?_,fun b hb=>hmo b (by rw [hval]; cases A <;> simp [Value.ownBlock] at hb ⊢; exact hb),fun i' el' hi'=>?_⟩
     ·refine ⟨by rw [List.length_take,h4.1,hq]; exact Nat.min_eq_left (Nat.mul_le_mul_right k hql),?_⟩
      rw [hq]
      rcases h4.2 with ⟨h6,h7⟩ | ⟨g,cap',cur,h6,g1,g2,g3,g4,g5,g6⟩
      ·rw [hval] at h6
       injection h6 with e1 e2 e3
       exact .inl ⟨by rw [e1,e3,show q = 0 by omega],by omega⟩
      ·rw [hval] at h6
       injection h6 with e1 e2 e3
       subst e1 e3
       refine .inr ⟨g,cap,cur,rfl,g1,g2,by omega,g4,g5,?_⟩
       rw [← g6,List.take_take,Nat.min_eq_left (Nat.mul_le_mul_right k hql)]
     ·have hlt:=(List.getElem?_eq_some_iff.1 hi').1
      rw [hq] at hlt
      rw [List.getElem?_take,if_pos hlt] at hi'
      obtain ⟨g1,g2⟩:=h5 i' el' hi'
      refine ⟨g1,fun j' p hj'=>?_⟩
      have hjl:=(List.getElem?_eq_some_iff.1 hj').1
      have hm:=mul_at hlt (show j' < k by omega)
      have e1:(xs.take (q * k)).getD (i' * k + j') undef = xs.getD (i' * k + j') undef:=by simp [List.getD,List.getElem?_take,hm]
      rw [e1]
      exact ⟨(g2 j' p hj').1,(g2 j' p hj').2.1,(g2 j' p hj').2.2.keep hk'⟩)
    refine run_value (s:=.row jr j) (v:=.slice A q cap) (w':=w) ?_ (hK _ _ _ (hS.put ?_ _ hd) fun i h=>?_)
    ·show (do pure (.value (← Instr.sliceAt t (a.eval x) none (some (a.eval z)) none)):Sem Next).run P w = _
     exact exec_v (f:=.value) hrun
    ·exact .row jr j _ _ _ (by rw [if_pos rfl])
    ·by_cases e:i = j
     ·exact .inr e
     ·simp only [e,if_false] at h; exact .inl h
   ·cases hev
  ·cases hev
theorem RowAt.put {M P0 P1:Nat → Prop} {e:TypeId} {k g n c m:Nat} {es ys:List (List PV)} {news:List Value} (h:RowAt w M P0 e k (.slice (some ⟨g,0,none⟩) n c) es) (hle:m + ys.length ≤ es.length) (hnl:news.length = ys.length * k)
 (hel:∀ (i:Nat) (el:List PV),ys[i]? = some el → el.length = k ∧ ∀ (j:Nat) (p:PV),el[j]? = some p → p.flat = true ∧ flatV (news.getD (i * k + j) undef) = true ∧ Rep w P0 p (news.getD (i * k + j) undef)) :
 ∃ cur:Array Value,w.heap[g]? = some (.cells cur e (0,0)) ∧ m * k + news.length ≤ cur.size ∧
  ((∀ b,P0 b → b < w.heap.size → P1 b ∧ (w.setRow g (cur.toList.take (m * k) ++ news ++ cur.toList.drop (m * k + news.length)).toArray).heap[b]? = w.heap[b]?) →
   RowAt (w.setRow g (cur.toList.take (m * k) ++ news ++ cur.toList.drop (m * k + news.length)).toArray) M P1 e k (.slice (some ⟨g,0,none⟩) n c) (es.take m ++ ys ++ es.drop (m + ys.length))):=by
 obtain ⟨hk,xs,h4,hmo,h5⟩:=h
 rcases h4.2 with ⟨hval,_⟩ | ⟨g',cap,cur,hval,k1,k2,k3,k4,k5,k6⟩
 ·cases hval
 injection hval with e1 e2 e3
 cases e1
 subst e2
 subst e3
 have hxl:xs.length = es.length * k:=h4.1
 have hsum:m * k + news.length ≤ es.length * k:=by rw [hnl,← Nat.add_mul]; exact Nat.mul_le_mul_right k hle
 have hcap:es.length * k ≤ c * k:=Nat.mul_le_mul_right k k3
 refine ⟨cur,k2,by omega,fun hkk=>?_⟩
 have hlen':(es.take m ++ ys ++ es.drop (m + ys.length)).length = es.length:=by
  simp only [List.length_append,List.length_take,List.length_drop]; omega
 have hxt:xs = cur.toList.take (es.length * k):=k6.symm
 have hpl:m * k + news.length ≤ xs.length:=by omega
 refine ⟨hk,xs.take (m * k) ++ news ++ xs.drop (m * k + news.length),⟨?_,.inr ⟨g,c,_,by rw [hlen'],k1,setRow_heap w g cur _ e _ k2,by rw [hlen']; exact k3,k4,?_,?_⟩⟩,hmo,fun i el hi=>?_⟩
 ·rw [hlen',List.length_append,List.length_append,List.length_take,List.length_drop]
  omega
 ·simp only [List.size_toArray,List.length_append,List.length_take,List.length_drop,Array.length_toList]
  omega
 ·rw [hlen',hxt,List.take_take,List.drop_take,Nat.min_eq_left (by omega)]
  have e3:(List.take (m * k) cur.toList ++ news).length = m * k + news.length:=by
   rw [List.length_append,List.length_take,Array.length_toList]
   omega
  rw [List.take_append,List.take_of_length_le (by rw [e3]; omega),e3]
 ·by_cases c1:i < m
  ·rw [List.append_assoc,List.getElem?_append_left (by rw [List.length_take]; omega),List.getElem?_take,if_pos c1] at hi
   obtain ⟨f1,f2⟩:=h5 i el hi
   refine ⟨f1,fun j' p hj'=>?_⟩
   have hjl:=(List.getElem?_eq_some_iff.1 hj').1
   have hm:=mul_at c1 (show j' < k by omega)
   rw [put_getD hpl,if_neg (by omega)]
   exact ⟨(f2 j' p hj').1,(f2 j' p hj').2.1,(f2 j' p hj').2.2.keep hkk⟩
  ·by_cases c2:i < m + ys.length
   ·rw [List.append_assoc,List.getElem?_append_right (by rw [List.length_take]; omega),List.getElem?_append_left (by rw [List.length_take]; omega),List.length_take,show min m es.length = m by omega] at hi
    obtain ⟨f1,f2⟩:=hel _ el hi
    refine ⟨f1,fun j' p hj'=>?_⟩
    have hjl:=(List.getElem?_eq_some_iff.1 hj').1
    have hm:=mul_at (show i - m < ys.length by omega) (show j' < k by omega)
    have e1:i * k = m * k + (i - m) * k:=by rw [← Nat.add_mul]; congr 1; omega
    rw [put_getD hpl,if_pos (by omega),show i * k + j' - m * k = (i - m) * k + j' by omega]
    exact ⟨(f2 j' p hj').1,(f2 j' p hj').2.1,(f2 j' p hj').2.2.keep hkk⟩
   ·rw [List.getElem?_append_right (by rw [List.length_append,List.length_take]; omega),List.length_append,List.length_take,List.getElem?_drop,show m + ys.length + (i - (min m es.length + ys.length)) = i by omega] at hi
    obtain ⟨f1,f2⟩:=h5 i el hi
    refine ⟨f1,fun j' p hj'=>?_⟩
    have e1:m * k + news.length ≤ i * k:=by rw [hnl,← Nat.add_mul]; exact Nat.mul_le_mul_right k (by omega)
    rw [put_getD hpl,if_neg (by omega)]
    exact ⟨(f2 j' p hj').1,(f2 j' p hj').2.1,(f2 j' p hj').2.2.keep hkk⟩
theorem zeroCells_list (z:Array Value) (n:Nat):(Builtin.zeroCells z n).size = n * z.size:=by simp [Builtin.zeroCells]
theorem row_clear {dst:Option Nat} {c:Call} {t ty el e:TypeId} {pos after guard} {ie:TypeInfo} {z:Value} (hs:Sim E ρ β tm hp a w) (hd:∀ x,dst = some x → x < E.N) {K:Act → World → Prop} (hcal:c.callee = .builtin .clear) (hty:c.argTypes[0]? = some t)
 (hu:P.underlying t = some (.slice el)) (hi:P.info? el = some ie) (hz:ie.zero = some z) {jr v k:Nat} {x lo len:SV} (hzs:z.cells.size = k) (hh:hp jr = some (.row v e k x)) {v0:Value} (hargs:c.args.map a.eval = #[v0]) (hx:RepS ρ β w (Ok E hp β) (.vw jr v k lo len) v0)
 {r:PV} (hρ:ρ[na]? = some r) (hev:(Prim.clr k z.cells.toList).ev [pv ρ x,pv ρ lo,pv ρ len] = some r) {nd:Nd}
 (hK:Then E ρ β tm hp j ⟨dst,.call c,ty,pos,after,guard⟩ ⟨.tup [],[(jr,.row v e k (.at na))],nd⟩ K):(Oper.mk dst (.call c) ty pos after guard).wp P a w K Q:=by
 obtain ⟨A,A',n,c1,c',p,q,hv,hb,h1,h2,hle,hA⟩:=vw_val hx
 obtain ⟨val,es,k1,k2,k0,k3⟩:=hs.hpr _ _ hh
 rw [hb] at k1
 cases k1
 rw [pv_of h1,pv_of h2,pv_of k2] at hev
 have e1:idxOf (some (.raw (.int .i64 (p:Int)))) = some p:=by simp [idxOf]
 have e2:idxOf (some (.raw (.int .i64 (q:Int)))) = some q:=by simp [idxOf]
 simp only [Prim.ev,e1,e2] at hev
 split at hev
 ·rename_i hcond
  obtain ⟨hpq,hzl,hzf,hall⟩:=hcond
  cases hev
  have hexec:execOp a.eval ⟨dst,.call c,ty,pos,after,guard⟩ = (do let v ← Builtin.clear_ c.argTypes ty #[v0]; pure (.value v)):=by
   simp only [execOp,resolve,hcal,pure_bind,invoke,builtin,hargs]
  have hbase:∀ b,OwnsH β jr (.row v e k (.at na)) b → (Value.slice A n c1).ownBlock = some b:=by
   rintro b ⟨val,g1,g2⟩
   rw [hb] at g1
   cases g1
   exact g2
  by_cases hq:q = 0
  ·subst hq
   have hrun:(Builtin.clear_ c.argTypes ty #[v0]).run P w = .ok (.tuple #[]) w:=by
    rw [hv]
    unfold Builtin.clear_
    simp [hty,run_underlying hu w]
    cases A' <;> rfl
   refine run_value (s:=.tup []) (v:=.tuple #[]) (w':=w) (by rw [hexec]; exact exec_v (f:=.value) hrun) (hK β _ _ (Sim.put ?_ undef_rep _ hd) fun i h=>.inl h)
   refine hs.change (fun i=>i = jr) (fun _ _ h=>h) hs.bel (fun c hc _=>rfl) (fun i hi=>upd_other hi) (fun i b hi ho=>.inr ⟨jr,rfl,⟨_,hh,_,hb,hbase b (by subst hi; exact owns_upd ho rfl)⟩⟩) (fun i i' b hi hi' _ _=>by rw [hi,hi']) (fun i y hi hx hk'=>?_)
   subst hi
   rw [upd_self hx]
   refine ⟨_,es,hb,(by simp only [den]; rw [hρ]; simp),rfl,k3.keep (fun _ h=>h) hk' fun _ _=>rfl⟩
  ·obtain ⟨ad,hAd⟩:∃ ad,A = some ad:=by
    obtain ⟨_,xs,h4,_⟩:=k3
    rcases h4.2 with ⟨h5,h6⟩ | ⟨g,cap,cur,h5,_⟩
    ·cases h5; omega
    ·cases h5; exact ⟨_,rfl⟩
   subst hAd
   have hA':=hA (by omega)
   simp only [Option.map_some] at hA'
   obtain ⟨g,hg⟩:∃ g,ad = ⟨g,0,none⟩:=by
    obtain ⟨_,xs,h4,_⟩:=k3
    rcases h4.2 with ⟨h5,h6⟩ | ⟨g,cap,cur,h5,_⟩
    ·cases h5
    ·cases h5; exact ⟨_,rfl⟩
   subst hg
   generalize hnews:(Builtin.zeroCells z.cells q).toList = news
   have hnl:news.length = q * k:=by rw [← hnews,Array.length_toList,zeroCells_list,hzs]
   have hget:∀ m,m < q * k → news.getD m undef = z.cells.toList.getD (m % k) undef:=by
    intro m hm
    have hk0:0 < k:=Nat.pos_of_ne_zero fun e=>by rw [e,Nat.mul_zero] at hm; omega
    have hmk:=Nat.mod_lt m hk0
    rw [← hnews,getD_toList,getD_toList]
    simp [Builtin.zeroCells,Array.getD,hm,hzs,hmk]
   have hzk:∀ m,m < k → flatV (z.cells.toList.getD m undef) = true ∧ (z.cells.toList)[m]? = some (z.cells.toList.getD m undef):=by
    intro m hm
    have h8:(z.cells.toList)[m]? = some (z.cells.toList.getD m undef):=getD_some (by rw [hzl]; exact hm)
    exact ⟨(List.all_eq_true.1 hzf) _ (List.mem_of_getElem? h8),h8⟩
   obtain ⟨cur,c2,c3,c4⟩:=k3.put (P1:=Ok E (updh hp [(jr,.row v e k (.at na))]) β) (m:=p) (ys:=List.replicate q (z.cells.toList.map pvOf)) (news:=news) (by simpa using hpq) (by simpa using hnl) (fun i el hi'=>by
    rw [List.getElem?_replicate] at hi'
    split at hi'
    ·rename_i hiq
     cases hi'
     refine ⟨by simpa using hzl,fun j' p' hj'=>?_⟩
     rw [List.getElem?_map,Option.map_eq_some_iff] at hj'
     obtain ⟨u,hu',rfl⟩:=hj'
     have hjl:=(List.getElem?_eq_some_iff.1 hu').1
     rw [hzl] at hjl
     have hm:=mul_at hiq hjl
     rw [hget _ hm,show (i * k + j') % k = j' by rw [Nat.add_comm,Nat.add_mul_mod_self_right]; exact Nat.mod_eq_of_lt hjl]
     obtain ⟨f1,f2⟩:=hzk j' hjl
     rw [f2] at hu'
     cases hu'
     exact ⟨pvOf_flat f1,f1,Rep.pvOf _ _ _⟩
    ·cases hi')
   have hone:∀ u ∈ news,u.oneCell' = true:=by
    intro u hu'
    obtain ⟨m,hm,e⟩:=List.mem_iff_getElem.1 hu'
    have hk0:0 < k:=Nat.pos_of_ne_zero fun e=>by rw [hnl,e,Nat.mul_zero] at hm; omega
    have h8:=hget m (by omega)
    rw [oneCell_flat,← e]
    have h9:news.getD m undef = news[m]:=by simp [List.getD,hm]
    rw [← h9,h8]
    exact (hzk _ (Nat.mod_lt _ hk0)).1
   have hst:=run_storeCells_at P g (p * k) e news 0 cur w c2 (by simpa using c3) hone
   simp only [Nat.add_zero] at hst
   have hrun:(Builtin.clear_ c.argTypes ty #[v0]).run P w = .ok (.tuple #[]) (w.setRow g (cur.toList.take (p * k) ++ news ++ cur.toList.drop (p * k + news.length)).toArray):=by
    rw [hv,hA',add_mid,Nat.zero_add]
    unfold Builtin.clear_
    obtain ⟨q',rfl⟩:∃ q',q = q' + 1:=⟨q - 1,by omega⟩
    simp [hty,run_underlying hu w,zeroValue,typeInfo,hi,hz,hnews,hst]
   refine run_value (s:=.tup []) (v:=.tuple #[]) (by rw [hexec]; exact exec_v (f:=.value) hrun) (hK β _ _ (Sim.put ?_ undef_rep _ hd) fun i h=>.inl h)
   have hown:Owns β hp jr g:=⟨_,hh,_,hb,rfl⟩
   refine hs.change (fun i=>i = jr) (fun _ _ h=>h) (hs.bel.turn (b:=g) (hs.owns hown).2 ⟨rfl,rfl,rfl,by simp [World.setRow],fun n hn=>setRow_other w g n _ (by omega)⟩ fun c hc=>setRow_other w g c _ hc) (fun c hc hn=>setRow_other w g c _ fun e=>hn jr rfl (by rw [e]; exact hown)) (fun i hi=>upd_other hi) (fun i b hi ho=>.inr ⟨jr,rfl,⟨_,hh,_,hb,hbase b (by subst hi; exact owns_upd ho rfl)⟩⟩) (fun i i' b hi hi' _ _=>by rw [hi,hi']) (fun i y hi hx hk'=>?_)
   subst hi
   rw [upd_self hx]
   have:=c4 hk'
   simp only [List.length_replicate] at this
   exact ⟨_,_,hb,(by simp only [den]; exact hρ),rfl,this⟩
 ·cases hev
end
end Gv
namespace Gv
open Go Go.RowKit
set_option linter.unusedVariables false
set_option linter.unusedSimpArgs false
section
variable {P:Program} {E:Env} {ρ:List PV} {β:Nat → Option Loc} {tm:Nat → Option SV} {hp:Nat → Option HB} {a:Act} {w:World} {W W':Nat → Prop} {na j:Nat} {o:Oper} {Q:Exit → Act → World → Prop}
theorem nil_val {v:Value} (h:RepS ρ β w W (.con (.slice none 0 0)) v):v = .slice none 0 0:=by
 cases h with
 | pure s p v hd hf hr hn=>exact hn rfl
theorem Args.two {s t:SV} {vs:List Value} (h:Args ρ β w W [s,t] vs):∃ u v,vs = [u,v] ∧ RepS ρ β w W s u ∧ RepS ρ β w W t v:=by
 have hl:=h.1
 match vs,hl with
 | [u,v],_=>exact ⟨u,v,rfl,h.head,h.tail.head⟩
theorem melts_two {P':SV → Bool} {c i:SV} (h:SV.pures [c,i] = true):c.pure = true ∧ i.pure = true:=by
 simp only [SV.pures,Bool.and_eq_true] at h
 exact ⟨h.1,h.2.1⟩
theorem row_run (hs:Sim E ρ β tm hp a w) {args:List SV} (ha:Args ρ β w (Ok E hp β) args (o.op.operands.toList.map a.eval)) {e:Eff}
 (he:symRow P ((hreadR o.op args).map hp) na j o args = some e) (hnd:NdOK P ρ na e.nd) (hj:β j = none) (hd:∀ x,o.dst = some x → x < E.N) {K:Act → World → Prop}
 (hK:Then E ρ β tm hp j o e K):o.wp P a w K Q:=by
 obtain ⟨dst,op,ty,pos,after,guard⟩:=o
 unfold symRow at he
 simp only at he ha
 split at he
 -- an element's place
 ·rename_i t x y jr v i
  simp only [Op.operands,List.map_cons,List.map_nil] at ha
  simp only [hreadR,isAppend,Bool.false_eq_true,if_false,List.map_cons,List.map_nil,List.headD_cons] at he
  split at he
  ·rename_i el c hu hc
   cases hn:cellsOf P el with
   | none=>simp [hn] at he
   | some n =>
    simp only [hn,Option.bind_some] at he
    split at he
    ·rename_i hp1
     cases he
     obtain ⟨r,hρ,hev⟩:=hnd
     exact row_idx hs hd hu hn hc ha.head ha.tail.head (melts_two (P':=SV.pure) hp1).2 (by simpa [pvs] using hev) rfl hK
    ·cases he
  ·cases he
 -- a place within an array
 ·rename_i t x y jr v k i off kk m
  simp only [Op.operands,List.map_cons,List.map_nil] at ha
  split at he
  ·rename_i len el hu
   split at he
   ·rename_i n hn
    split at he
    ·rename_i hle
     cases he
     obtain ⟨n0,kk0,ad,l,c,hv,hb,hi⟩:=elt_val ha.head
     have hy:=int_val ha.tail.head
     refine then_value hs hd hK (Below.refl _ w) (v:=.pointer (some (ad.add (n0 * k + (off + m.toNat * n))))) ?_ (.elt _ _ _ _ _ n0 kk0 ad l c hb hi)
     simp only [execOp,hv,hy,Instr.indexAt,asIntOf,Sem.run_bind,Sem.run_pure,Result.andThen_ok,run_underlying hu w,Instr.sureAddr,Sem.run_ite,size_run hn w,Result.andThen_ite]
     rw [if_pos hle,add_add,Nat.add_assoc]
    ·cases he
   ·cases he
  ·cases he
 -- a field's place
 ·rename_i t x f jr v k i off
  simp only [Op.operands,List.map_cons,List.map_nil] at ha
  split at he
  ·rename_i fl hfl
   split at he
   ·rename_i hz
    cases he
    obtain ⟨n0,kk0,ad,l,c,hv,hb,hi⟩:=elt_val ha.head
    refine then_value hs hd hK (Below.refl _ w) (v:=.pointer (some (ad.add (n0 * k + (off + fl.offset))))) ?_ (.elt _ _ _ _ _ n0 kk0 ad l c hb hi)
    simp only [execOp,hv,Sem.run_bind,fieldAt_run hfl hz,Result.andThen_ok,Sem.run_pure,add_add,Nat.add_assoc]
   ·cases he
  ·cases he
 -- an element is read
 ·rename_i t x jr v k i off
  simp only [Op.operands,List.map_cons,List.map_nil] at ha
  simp only [hreadR,isAppend,Bool.false_eq_true,if_false,List.map_cons,List.map_nil,List.headD_cons] at he
  split at he
  ·rename_i c hc
   split at he
   ·rename_i hag
    cases hn:cellsOf P t with
    | none=>simp [hn] at he
    | some n =>
     simp only [hn,Option.bind_some] at he
     obtain ⟨hp1,rfl⟩:=prim_inv he
     obtain ⟨r,hρ,hev⟩:=hnd
     exact row_ld hs hd hc (.inr ⟨n,rfl,hag,hn⟩) ha.head hρ (by simpa [pvs] using hev) rfl hK
   ·rename_i hag
    obtain ⟨hp1,rfl⟩:=prim_inv he
    obtain ⟨r,hρ,hev⟩:=hnd
    exact row_ld hs hd hc (.inl ⟨rfl,hag⟩) ha.head hρ (by simpa [pvs] using hev) rfl hK
   ·cases he
  ·cases he
 -- an element of a view
 ·rename_i t x y jr v k lo len i
  simp only [Op.operands,List.map_cons,List.map_nil] at ha
  simp only [hreadR,isAppend,Bool.false_eq_true,if_false,List.map_cons,List.map_nil] at he
  split at he
  ·rename_i el v' e' k' c' hu hh
   split at he
   ·rename_i hcond
    obtain ⟨rfl,rfl,hn,hpu⟩:=hcond
    cases he
    obtain ⟨r,hρ,hev⟩:=hnd
    simp only [SV.pures,Bool.and_eq_true] at hpu
    exact view_idx hs hd hu hn (hp_one hh) ha.head ha.tail.head hpu.2.2.1 hρ (by simpa [pvs] using hev) rfl hK
   ·cases he
  ·cases he
 -- a slice
 ·rename_i t x lo hi jr v l
  simp only [hreadR,isAppend,Bool.false_eq_true,if_false,List.map_cons,List.map_nil] at he
  have hops:(Op.slice t x lo hi none).operands.toList.map a.eval = a.eval x :: ((lo.map a.eval).toList ++ (hi.map a.eval).toList):=by
   cases lo <;> cases hi <;> rfl
  rw [hops] at ha
  split at he
  ·rename_i el v' c hu hh
   split at he
   ·rename_i hcond
    obtain ⟨rfl,hlen⟩:=hcond
    cases hn:cellsOf P el with
    | none=>simp [hn] at he
    | some n =>
     simp only [hn,Option.bind_some] at he
     obtain ⟨hp1,rfl⟩:=prim_inv he
     obtain ⟨r,hρ,hev⟩:=hnd
     obtain ⟨val,p,g1,g2,g0,g3,g4⟩:=hs.hpr _ _ (hp_one hh)
     have hv:=row_val ha.head
     rw [g1] at hv
     cases hv
     simp only [SV.pures,Bool.and_eq_true] at hp1
     obtain ⟨h1,h2⟩:=argsN ha.tail hp1.2
     simp only [pvs,List.map_cons,pv_of g2] at hev
     refine then_look hs hd hρ hK (S:=Instr.sliceAt t (a.eval x) (lo.map a.eval) (hi.map a.eval) none) rfl ?_
     refine look_rsl (l:=pvs ρ l) hu hn g4 (by simpa using h1) (fun k q v hk hv=>h2 k q v hk (by simpa using hv)) ?_
     rw [Option.isSome_map,Option.isSome_map]
     exact hev
   ·cases he
  ·rename_i el v' e' k c hu hh
   split at he
   ·rename_i hcond
    obtain ⟨rfl,hn,hlen,hpu⟩:=hcond
    simp only [SV.pures,Bool.and_eq_true] at hpu
    split at he
    ·cases he
     obtain ⟨r,hρ,hev⟩:=hnd
     exact row_shrink hs hj hd hu hn (hp_one hh) ha hpu.2 hρ (by simpa [pvs] using hev) hK
    ·cases he
     obtain ⟨r,hρ,hev⟩:=hnd
     exact view_make hs hd hu hn (hp_one hh) ha hpu.2 hρ (by simpa [pvs] using hev) hK
    ·cases he
   ·cases he
  ·cases he
 -- a store
 ·rename_i t x y jr v k i off s
  simp only [Op.operands,List.map_cons,List.map_nil] at ha
  simp only [hreadR,isAppend,Bool.false_eq_true,if_false,List.map_cons,List.map_nil] at he
  split at he
  ·rename_i v' e' k' c hh
   split at he
   ·rename_i hcond
    cases he
    obtain ⟨rfl,rfl,hsz,htup,hpu⟩:=hcond
    obtain ⟨r,hρ,hev⟩:=hnd
    simp only [SV.pures,Bool.and_eq_true] at hpu
    exact row_store hs hd (hp_one hh) ha.head ha.tail.head hsz htup hpu.2.2 hρ (by simpa [pvs] using hev) hK
   ·cases he
  ·cases he
 -- len
 ·rename_i c jr v
  split at he
  ·rename_i t s hcal hty hc
   have hh:((List.map hp (hreadR (.call c) [.row jr v])).headD none) = hp jr:=by
    simp [hreadR,isAppend,hcal,SV.rowss,SV.rows]
   rw [hh] at hc
   split at he
   ·rename_i el hu
    obtain ⟨hp1,rfl⟩:=prim_inv he
    obtain ⟨r,hρ,hev⟩:=hnd
    have hops:(Op.call c).operands.toList.map a.eval = (c.args.map a.eval).toList:=by simp [Op.operands,Call.operands,hcal]
    rw [hops] at ha
    obtain ⟨v0,hv0,hr0⟩:=argL1 (args:=[]) ha
    have hargs:c.args.map a.eval = #[v0]:=by apply Array.ext'; simpa using hv0
    have hexec:execOp a.eval ⟨dst,.call c,ty,pos,after,guard⟩ = (do let v ← Builtin.len_ c.argTypes ty #[v0]; pure (.value v)):=by
     simp only [execOp,resolve,hcal,pure_bind,invoke,builtin,hargs]
    obtain ⟨val,p,h1,h2,h3,_⟩:=hs.sees hc
    have hv:=row_val hr0
    rw [h1] at hv
    cases hv
    simp only [pvs,List.map_cons,List.map_nil,pv_of h2] at hev
    obtain ⟨u,hu1,hu2,hu3⟩:=look_len (ty:=ty) hu hty h3 hev
    refine then_look hs hd hρ hK hexec ⟨u,hu1,?_,hu3⟩
    cases p <;> simp only [Prim.ev,reduceCtorEq,Option.some.injEq] at hev
    subst hev
    cases hu2
    exact .raw _
   ·cases he
  ·cases he
 -- len,clear of a view
 ·rename_i c jr v k lo len
  split at he
  ·rename_i t hcal hty
   split at he
   ·rename_i el hu
    cases he
    have hops:(Op.call c).operands.toList.map a.eval = (c.args.map a.eval).toList:=by simp [Op.operands,Call.operands,hcal]
    rw [hops] at ha
    obtain ⟨v0,hv0,hr0⟩:=argL1 (args:=[]) ha
    have hargs:c.args.map a.eval = #[v0]:=by apply Array.ext'; simpa using hv0
    obtain ⟨A,A',n,c1,c',p,q,hv,hb,h1,h2,hle,hA⟩:=vw_val hr0
    have hexec:execOp a.eval ⟨dst,.call c,ty,pos,after,guard⟩ = (do let v ← Builtin.len_ c.argTypes ty #[v0]; pure (.value v)):=by
     simp only [execOp,resolve,hcal,pure_bind,invoke,builtin,hargs]
    refine then_value hs hd hK (Below.refl _ w) (v:=.int .i64 (q:Int)) ?_ (.pure _ (.raw (.int .i64 (q:Int))) _ h2 rfl (.raw _) (fun e=>?_))
    ·rw [hexec]
     refine exec_v (f:=.value) ?_
     rw [hv]
     unfold Builtin.len_
     simp [hty,run_underlying hu w]
     rfl
    ·unfold SV.isNil at e
     split at e
     ·simp [den,pvOf] at h2
     ·cases e
   ·cases he
  ·rename_i t hcal hty
   split at he
   ·rename_i el v' e' k' cc hu hlist
    split at he
    ·rename_i zs ie hzs hi
     split at he
     ·rename_i z hz
      split at he
      ·rename_i hcond
       obtain ⟨rfl,rfl,hzk,hpu⟩:=hcond
       cases he
       obtain ⟨r,hρ,hev⟩:=hnd
       have hh:hp jr = some (.row v e' k cc):=by
        have:hreadR (.call c) [.vw jr v k lo len] = [jr]:=by simp [hreadR,isAppend,hcal]
        rw [this] at hlist
        exact hp_one hlist
       have hops:(Op.call c).operands.toList.map a.eval = (c.args.map a.eval).toList:=by simp [Op.operands,Call.operands,hcal]
       rw [hops] at ha
       obtain ⟨v0,hv0,hr0⟩:=argL1 (args:=[]) ha
       have hargs:c.args.map a.eval = #[v0]:=by apply Array.ext'; simpa using hv0
       exact row_clear hs hd hcal hty hu hi hz hzk hh hargs hr0 hρ (by simpa [pvs] using hev) hK
      ·cases he
     ·cases he
    ·cases he
   ·cases he
  ·cases he
 -- append
 ·rename_i c s x
  split at he
  ·rename_i t t' hcal hty
   split at he
   ·rename_i htt
    subst htt
    split at he
    ·rename_i el hu
     split at he
     ·rename_i ie hi
      split at he
      ·rename_i z hz
       split at he
       ·rename_i hzk
        split at he
        ·rename_i j0 cs h' hS
         split at he
         ·rename_i cx hX
          split at he
          ·rename_i hpu
           cases he
           obtain ⟨r,hρ,hev⟩:=hnd
           have hrd:hreadR (.call c) [s,x] = s.rows ++ (x.rows ++ []):=by simp [hreadR,isAppend,hcal,SV.rowss]
           rw [hrd] at hS
           have hops:(Op.call c).operands.toList.map a.eval = (c.args.map a.eval).toList:=by simp [Op.operands,Call.operands,hcal]
           rw [hops] at ha
           obtain ⟨v0,v1,hv,hr0,hr1⟩:=ha.two
           have hargs:c.args.map a.eval = #[v0,v1]:=by apply Array.ext'; simpa using hv
           have htys:c.argTypes = #[t,t]:=by apply Array.ext'; simpa using hty
           obtain ⟨hp0,hp1⟩:=melts_two (P':=SV.pure) hpu
           simp only [pvs,List.map_cons,List.map_nil] at hev
           -- the row
           have hrow:∃ es,den ρ cs = some (.sl es) ∧ RowAt w E.mine (Ok E hp β) el ie.size v0 es ∧ (∀ b,v0.ownBlock = some b → Owns β hp j0 b) ∧ h' = (x.rows ++ []).map hp ∧ (∀ v' e' k' c',hp j0 = some (.row v' e' k' c') → True):=by
            unfold appS at hS
            split at hS
            ·rename_i j1 v v' e' k' c' hrest hlist
             split at hS
             ·rename_i hcond
              obtain ⟨rfl,rfl,rfl⟩:=hcond
              cases hS
              simp only [SV.rows,List.cons_append,List.nil_append,List.map_cons,List.cons.injEq] at hlist
              obtain ⟨hh,hrest'⟩:=hlist
              obtain ⟨val,es,h1,h2,_,h3⟩:=hs.hpr _ _ hh
              have hv:=row_val hr0
              rw [h1] at hv
              cases hv
              exact ⟨es,h2,h3,fun b hb=>⟨_,hh,_,h1,hb⟩,hrest'.symm,fun _ _ _ _ _=>trivial⟩
             ·cases hS
            ·cases hS
             have hv:=nil_val hr0
             subst hv
             exact ⟨[],rfl,⟨hzk.2,[],World.ownsRow_nil _ _ _ _,fun b hb=>(by cases hb),fun i el hi=>by simp at hi⟩,fun b hb=>(by cases hb),(by simp [SV.rows]),fun _ _ _ _ _=>trivial⟩
            ·cases hS
           obtain ⟨es,hd0,hrow,hown,hh',_⟩:=hrow
           rw [pv_of hd0] at hev
           -- what comes behind
           have hx:∃ p,den ρ cx = some p ∧ ∀ ys,p = .sl ys → (∀ (i:Nat) (e:List PV),ys[i]? = some e → e.length = ie.size) → RowTell w (Ok E hp β) ie.size v1 ys:=by
            unfold appX at hX
            split at hX
            ·rename_i j1 v v' e' k' c'
             split at hX
             ·rename_i hcond
              obtain ⟨rfl,rfl,rfl,_⟩:=hcond
              cases hX
              have hh:hp j1 = some (.row v el ie.size cx):=by
               have:=hh'
               simpa [SV.rows] using this.symm
              obtain ⟨val,ys,h1,h2,_,h3⟩:=hs.hpr _ _ hh
              have hv:=row_val hr1
              rw [h1] at hv
              cases hv
              exact ⟨_,h2,fun ys' e1 _=>by cases e1; exact h3.tell⟩
             ·cases hX
            ·rename_i j1 v v' c'
             split at hX
             ·rename_i hcond
              subst hcond
              cases hX
              have hh:hp j1 = some (.fro v cx):=by
               have:=hh'
               simpa [SV.rows] using this.symm
              obtain ⟨val,p,h1,h2,_,h3,h4⟩:=hs.hpr _ _ hh
              have hv:=row_val hr1
              rw [h1] at hv
              cases hv
              exact ⟨_,h2,fun ys' e1 hk=>by subst e1; exact h4.tell hk⟩
             ·cases hX
            ·cases hX
            ·split at hX
             ·cases hX
              obtain ⟨p,hd1⟩:=hr1.den1 hp1
              exact ⟨p,hd1,fun ys e1 hk=>by subst e1; exact (hr1.rep hd1).tell hk⟩
             ·cases hX
            ·cases hX
           obtain ⟨p,hd1,hx⟩:=hx
           rw [pv_of hd1] at hev
           cases p with
           | sl ys =>
            refine row_app hs hj hd hcal htys hu hi hz hzk.1 hzk.2 hargs hrow hown (hx ys rfl fun i e hi'=>?_) hρ hev hK
            simp only [Prim.ev] at hev
            split at hev
            ·rename_i hc
             have:=(List.all_eq_true.1 hc.2.2) e (List.mem_of_getElem? hi')
             simpa using this
            ·cases hev
           | _=>simp [Prim.ev] at hev
          ·cases he
         ·cases he
        ·cases he
       ·cases he
      ·cases he
     ·cases he
    ·cases he
   ·cases he
  ·cases he
 ·cases he
theorem hread_melt {o:Oper} {G:Tab} (h:ruleOf P G o = .melt) (args:List SV):hread o.op args = []:=by
 unfold ruleOf at h
 unfold hread
 split at h <;> simp_all
theorem op_run' (hm:P.follows .mixedOrders = true) {G:Tab} (hs:Sim E ρ β tm hp a w) {args:List SV} (ha:Args ρ β w (Ok E hp β) args (o.op.operands.toList.map a.eval)) {e:Eff}
 (he:symOp' P G ((hread' P G o args).map hp) na j o args = some e) (hnd:NdOK P ρ na e.nd) (hj:β j = none) (hd:∀ x,o.dst = some x → x < E.N) {K:Act → World → Prop}
 (hK:Then E ρ β tm hp j o e K):o.wp P a w K Q:=by
 have callOf:∀ {r:Rule},ruleOf P G o = r → (r = .fresh ∨ r = .turn ∨ r = .back ∨ ∃ sh,r = .borrow sh) → ∃ c fv,o.op = .call c ∧ c.callee = .value fv ∧ callRule P G c o.type = r:=by
  intro r h1 h2
  unfold ruleOf at h1
  split at h1
  ·rename_i c hop
   refine ⟨c,?_⟩
   cases hcal:c.callee with
   | value fv=>exact ⟨fv,hop,rfl,h1⟩
   | _ =>
    unfold callRule at h1
    rw [hcal] at h1
    subst h1
    rcases h2 with h | h | h | ⟨_,h⟩ <;> cases h
  ·subst h1; rcases h2 with h | h | h | ⟨_,h⟩ <;> cases h
  ·subst h1; rcases h2 with h | h | h | ⟨_,h⟩ <;> cases h
  ·subst h1; rcases h2 with h | h | h | ⟨_,h⟩ <;> cases h
 unfold symOp' at he
 unfold hread' at he
 cases hr:ruleOf P G o with
 | none =>
  rw [hr] at he
  simp only at he
  split at he
  ·rename_i hro
   exact row_run hs ha he hnd hj hd hK
  ·rename_i hro
   exact op_run hm hs ha he hnd hj hd hK
 | melt =>
  rw [hr] at he
  simp only at he
  rw [Option.map_eq_some_iff] at he
  obtain ⟨e0,he,rfl⟩:=he
  obtain ⟨hs1,ha1⟩:=frz_step hs ha
  refine op_run hm hs1 ha1 (e:=e0) (by rw [hread_melt hr]; exact he) hnd hj hd fun β' a' w' hs' hβ=>hK β' a' w' ?_ hβ
  rw [updh_app] at hs'
  exact hs'
 | fresh =>
  rw [hr] at he
  simp only at he
  rw [Option.map_eq_some_iff] at he
  obtain ⟨e0,he,rfl⟩:=he
  obtain ⟨hs1,ha1⟩:=frz_step hs ha
  obtain ⟨c,fv,hop,hcal,_⟩:=callOf hr (.inl rfl)
  obtain ⟨dst,op,ty,pos,after,guard⟩:=o
  subst hop
  have hops:(Op.call c).operands.toList.map a.eval = a.eval fv :: (c.args.map a.eval).toList:=by simp [Op.operands,Call.operands,hcal]
  rw [hops] at ha1
  refine fresh_call hs1 hj hcal ha1 he hnd hd fun β' a' w' hs' hβ=>hK β' a' w' ?_ hβ
  rw [updh_app] at hs'
  exact hs'
 | borrow sh =>
  rw [hr] at he
  simp only at he
  obtain ⟨c,fv,hop,hcal,hcr⟩:=callOf hr (.inr (.inr (.inr ⟨sh,rfl⟩)))
  obtain ⟨dst,op,ty,pos,after,guard⟩:=o
  subst hop
  have hops:(Op.call c).operands.toList.map a.eval = a.eval fv :: (c.args.map a.eval).toList:=by simp [Op.operands,Call.operands,hcal]
  rw [hops] at ha
  have hsh:rawSh P ty = some sh:=by
   have hstd:∀ r:Rule,(match rawSh P ty with
    | some sh=>Rule.borrow sh
    | none=>Rule.melt) = .borrow sh → rawSh P ty = some sh:=by
    intro r h
    cases hx:rawSh P ty with
    | none=>rw [hx] at h; cases h
    | some s=>rw [hx] at h; cases h; rfl
   unfold callRule at hcr
   rw [hcal] at hcr
   simp only at hcr
   split at hcr
   ·split at hcr
    ·cases hcr
    ·cases hcr
    ·cases hcr
    ·exact hstd .none hcr
   ·exact hstd .none hcr
   ·cases hcr
  exact look_call hs hcal ha hsh he hnd hd hK
 | turn =>
  rw [hr] at he
  simp only at he
  obtain ⟨c,fv,hop,hcal,_⟩:=callOf hr (.inr (.inl rfl))
  obtain ⟨dst,op,ty,pos,after,guard⟩:=o
  subst hop
  have hops:(Op.call c).operands.toList.map a.eval = a.eval fv :: (c.args.map a.eval).toList:=by simp [Op.operands,Call.operands,hcal]
  rw [hops] at ha
  exact own_call hs hj hcal ha he hnd hd hK
 | back =>
  rw [hr] at he
  simp only at he
  obtain ⟨c,fv,hop,hcal,_⟩:=callOf hr (.inr (.inr (.inl rfl)))
  obtain ⟨dst,op,ty,pos,after,guard⟩:=o
  subst hop
  have hops:(Op.call c).operands.toList.map a.eval = a.eval fv :: (c.args.map a.eval).toList:=by simp [Op.operands,Call.operands,hcal]
  rw [hops] at ha
  exact own_call hs hj hcal ha he hnd hd hK
end
end Gv
