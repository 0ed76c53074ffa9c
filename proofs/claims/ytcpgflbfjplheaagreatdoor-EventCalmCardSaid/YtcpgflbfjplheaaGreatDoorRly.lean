import Derived.Test.YtcpgflbfjplheaaGreatDoorRry
namespace Gs
open Go Go.RowKit
variable {P:Program} {lp n:Nat}
def waitFor (e:Nat) (o:Oper):Oper:={ o with after:=o.after.push { on:=e,ground:=.data } }
def lateL (l:List Oper) (e s:Nat):List Oper:=l.modify s (waitFor e)
def waitsOn (o:Oper):List Nat:=(o.after.toList.filter (Region.binds .any)).map (·.on)
def lateB (l : List Oper) (e s : Nat) : Bool :=
  l.all (fun o => o.guard == none) && decide (e ≠ s) && decide (s < l.length) &&
  (match l[e]?, l[s]? with
   | some oe, some os =>
     (match oe.op, oe.dst, os.op, os.dst with
      | .extract _ _, some d, .store _ x y, none => !(([x, y].filterMap fun | .tmp t => some t | _ => none).contains d)
      | _, _, _, _ => false) &&
     (waitsOn oe).all (fun j => (waitsOn os).contains j) &&
     (List.range l.length).all (fun j => decide (j = e) || decide (j = s) || (waitsOn os).contains j || (match l[j]? with | some oj => (waitsOn oj).contains e | none => false))
   | _, _ => false)
theorem mem_waitsOn {o:Oper} {j:Nat}:j ∈ waitsOn o ↔ ∃ e ∈ o.after,Region.binds .any e = true ∧ e.on = j:=by
 simp only [waitsOn,List.mem_map,List.mem_filter,Array.mem_toList_iff]
 constructor
 ·rintro ⟨e,⟨h1,h2⟩,h3⟩; exact ⟨e,h1,h2,h3⟩
 ·rintro ⟨e,h1,h2,h3⟩; exact ⟨e,⟨h1,h2⟩,h3⟩
theorem ready_iff {ops:Array Oper} {j:Nat} {listed:Array Bool}:j ∈ Region.ready .any ops listed ↔ listed.getD j true = false ∧ ∃ o,ops[j]? = some o ∧ ∀ i ∈ waitsOn o,listed.getD i false = true:=by
 rw [mem_ready]
 constructor
 ·rintro ⟨h1,o,ho,h⟩
  exact ⟨h1,o,ho,fun i hi=>by obtain ⟨e,h2,h3,rfl⟩:=mem_waitsOn.1 hi; exact h e h2 h3⟩
 ·rintro ⟨h1,o,ho,h⟩
  exact ⟨h1,o,ho,fun e he hb=>h _ (mem_waitsOn.2 ⟨e,he,hb,rfl⟩)⟩
theorem waitsOn_waitFor (e:Nat) (o:Oper) (i:Nat):i ∈ waitsOn (waitFor e o) ↔ i ∈ waitsOn o ∨ i = e:=by
 rw [mem_waitsOn,mem_waitsOn]
 simp only [waitFor,Array.mem_push]
 constructor
 ·rintro ⟨x,h1 | h1,h2,h3⟩
  ·exact .inl ⟨x,h1,h2,h3⟩
  ·subst h1; exact .inr h3.symm
 ·rintro (⟨x,h1,h2,h3⟩ | rfl)
  ·exact ⟨x,.inl h1,h2,h3⟩
  ·exact ⟨_,.inr rfl,rfl,rfl⟩
theorem late_get {l:List Oper} {e s j:Nat}:(lateL l e s)[j]? = if s = j then (l[j]?).map (waitFor e) else l[j]?:=by
 unfold lateL
 rw [List.getElem?_modify]
 by_cases h:s = j <;> simp [h]
theorem wpOpIn_late {F:Fence} {l:List Oper} {e s i:Nat} {Q:Exit → Act → World → Prop} {K:Act → World → Prop} {a:Act} {w:World} (hg:∀ o ∈ l,o.guard = none) :
 wpOpIn F n P (lateL l e s).toArray Q i K a w → wpOpIn F n P l.toArray Q i K a w:=by
 unfold wpOpIn
 simp only [List.getElem?_toArray,late_get]
 cases ho:l[i]? with
 | none=>by_cases h:s = i <;> simp [h]
 | some o =>
  have h1:o.guard = none:=hg o (List.mem_of_getElem? ho)
  by_cases h:s = i
  ·simp only [h,if_true,Option.map_some]
   intro hh
   have h2:Region.wanted (waitFor e o) (yielded (lateL l e i).toArray a.tmps) = true:=by unfold Region.wanted waitFor; simp [h1]
   rw [if_pos h2] at hh
   have h3:Region.wanted o (yielded l.toArray a.tmps) = true:=by unfold Region.wanted; simp [h1]
   rw [if_pos h3]
   exact hh
  ·simp only [h,if_false]
   intro hh
   have h2:Region.wanted o (yielded (lateL l e s).toArray a.tmps) = true:=by unfold Region.wanted; simp [h1]
   rw [if_pos h2] at hh
   have h3:Region.wanted o (yielded l.toArray a.tmps) = true:=by unfold Region.wanted; simp [h1]
   rw [if_pos h3]
   exact hh
theorem extract_run {o:Oper} {x:Operand} {m:Nat} (ho:o.op = .extract x m) (a:Act):(∃ v,∀ w,(execOp a.eval o).run P w = .ok (.value v) w) ∨ ∀ w,∃ why,(execOp a.eval o).run P w = .halt (.stuck why) w:=by
 have key:execOp a.eval o = (do let r ← Instr.extract (a.eval x) m; pure (.value r)):=by unfold execOp; simp only [ho]
 rw [key]
 unfold Instr.extract
 cases a.eval x with
 | tuple vs =>
  dsimp only
  cases hv:vs[m]? with
  | some v=>exact .inl ⟨v,fun w=>rfl⟩
  | none=>exact .inr fun w=>⟨_,rfl⟩
 | _=>exact .inr fun w=>⟨_,rfl⟩
theorem extract_wpIn {o:Oper} {x:Operand} {m:Nat} {Q:Exit → Act → World → Prop} {K:Act → World → Prop} {a:Act} {w:World} (ho:o.op = .extract x m) (h:o.wpIn (Fence.wide.inRound lp) n P a w K Q) :
 ∃ v,K (a.put o.dst v) w ∧ ∀ (K':Act → World → Prop) w',K' (a.put o.dst v) w' → o.wpIn (Fence.wide.inRound lp) n P a w' K' Q:=by
 have hd:∀ c,o.op ≠ .defer c:=fun c e=>by rw [ho] at e; cases e
 have h2:o.uponIn (Fence.wide.inRound lp) n P a K Q ((Oper.semAt (some lp) a.eval o).run P w):=h.2
 rw [Oper.semAt_some lp a.eval o hd] at h2
 rcases extract_run (P:=P) ho a with ⟨v,hv⟩ | hs
 ·rw [hv w] at h2
  refine ⟨v,h2,fun K' w' hk=>⟨fun _ _=>trivial,?_⟩⟩
  show o.uponIn (Fence.wide.inRound lp) n P a K' Q ((Oper.semAt (some lp) a.eval o).run P w')
  rw [Oper.semAt_some lp a.eval o hd,hv w']
  exact hk
 ·obtain ⟨why,hw⟩:=hs w
  rw [hw] at h2
  exact absurd h2 (by simp [Oper.uponIn])
theorem store_wpIn {o:Oper} {t:TypeId} {x y:Operand} {d:Tmp} {v:Value} {Q:Exit → Act → World → Prop} {K:Act → World → Prop} {a:Act} {w:World} (ho:o.op = .store t x y) (hdst:o.dst = none)
 (hx:x ≠ .tmp d) (hy:y ≠ .tmp d) (hQ:∀ c a v d w,Q (.panic c) (a.put d v) w → Q (.panic c) a w) (h:o.wpIn (Fence.wide.inRound lp) n P (a.put (some d) v) w K Q) :
 o.wpIn (Fence.wide.inRound lp) n P a w (fun a' w'=>a' = a ∧ K (a.put (some d) v) w') Q:=by
 have hd:∀ c,o.op ≠ .defer c:=fun c e=>by rw [ho] at e; cases e
 have h2:o.uponIn (Fence.wide.inRound lp) n P (a.put (some d) v) K Q ((Oper.semAt (some lp) (a.put (some d) v).eval o).run P w):=h.2
 refine ⟨fun _ _=>trivial,?_⟩
 show o.uponIn (Fence.wide.inRound lp) n P a _ Q ((Oper.semAt (some lp) a.eval o).run P w)
 rw [Oper.semAt_some lp _ o hd] at h2 ⊢
 have key:∀ b:Act,execOp b.eval o = (do Instr.storeAt t (b.eval x) (b.eval y); pure .skip):=fun b=>by unfold execOp; simp only [ho]
 rw [key,Act.eval_put (fun e he=>by injection he with he; subst he; exact hx),Act.eval_put (fun e he=>by injection he with he; subst he; exact hy)] at h2
 rw [key]
 rw [Sem.run_bind] at h2 ⊢
 cases hr:(Instr.storeAt t (a.eval x) (a.eval y)).run P w with
 | ok u w' =>
  rw [hr] at h2
  simp only [Result.andThen,Sem.run_pure,Oper.uponIn,hdst] at h2 ⊢
  exact ⟨rfl,h2⟩
 | halt e w' =>
  rw [hr] at h2
  simp only [Result.andThen] at h2 ⊢
  cases e <;> simp only [Oper.uponIn] at h2 ⊢
  exact hQ _ _ _ _ _ h2
theorem lateB_spec {l:List Oper} {e s:Nat} (h:lateB l e s = true):(∀ o ∈ l,o.guard = none) ∧ e ≠ s ∧ s < l.length ∧ ∃ oe os x m d t y z,l[e]? = some oe ∧ l[s]? = some os ∧ oe.op = .extract x m ∧ oe.dst = some d ∧
 os.op = .store t y z ∧ os.dst = none ∧ y ≠ .tmp d ∧ z ≠ .tmp d ∧ (∀ j ∈ waitsOn oe,j ∈ waitsOn os) ∧ ∀ j < l.length,j = e ∨ j = s ∨ j ∈ waitsOn os ∨ ∃ oj,l[j]? = some oj ∧ e ∈ waitsOn oj:=by
 unfold lateB at h
 simp only [Bool.and_eq_true,decide_eq_true_eq] at h
 obtain ⟨⟨⟨hg,hes⟩,hsl⟩,hm⟩:=h
 refine ⟨fun o ho=>by have:=List.all_eq_true.1 hg o ho; simpa using this,hes,hsl,?_⟩
 split at hm
 ·rename_i oe os h1 h2
  simp only [Bool.and_eq_true] at hm
  obtain ⟨⟨h3,h4⟩,h5⟩:=hm
  split at h3
  ·rename_i x m d t y z e1 e2 e3 e4
   simp only [Bool.not_eq_true',List.contains_eq_mem,decide_eq_false_iff_not,List.mem_filterMap,not_exists,not_and] at h3
   refine ⟨oe,os,x,m,d,t,y,z,h1,h2,e1,e2,e3,e4,fun e=>?_,fun e=>?_,fun j hj=>?_,fun j hj=>?_⟩
   ·subst e; exact h3 (.tmp d) (by simp) rfl
   ·subst e; exact h3 (.tmp d) (by simp) rfl
   ·have:=List.all_eq_true.1 h4 j hj; simpa using this
   ·have:=List.all_eq_true.1 h5 j (List.mem_range.2 hj)
    simp only [Bool.or_eq_true,decide_eq_true_eq,List.contains_eq_mem] at this
    rcases this with ((h6 | h6) | h6) | h6
    ·exact .inl h6
    ·exact .inr (.inl h6)
    ·exact .inr (.inr (.inl h6))
    ·split at h6
     ·rename_i oj ho; exact .inr (.inr (.inr ⟨oj,ho,by simpa using h6⟩))
     ·cases h6
  ·cases h3
 ·cases hm
theorem late_any {l:List Oper} {e s:Nat} {Q:Exit → Act → World → Prop} (hB:lateB l e s = true) (hQ:∀ c a v d w,Q (.panic c) (a.put d v) w → Q (.panic c) a w):∀ (fuel:Nat) (listed:Array Bool) (a:Act) (w:World),listed.size = l.length →
 wpAnyIn (Fence.wide.inRound lp) n P .any (lateL l e s).toArray Q fuel listed a w → wpAnyIn (Fence.wide.inRound lp) n P .any l.toArray Q fuel listed a w:=by
 obtain ⟨hg,hes,hsl,oe,os,x,m,d,t,y,z,he,hs,e1,e2,e3,e4,hy,hz,hsub,hall⟩:=lateB_spec hB
 -- what is ready in the one is in the other,but for s ahead of e
 have up:∀ listed j,j ∈ Region.ready .any (lateL l e s).toArray listed → j ∈ Region.ready .any l.toArray listed:=by
  intro listed j hj
  rw [ready_iff] at hj ⊢
  obtain ⟨h1,o,ho,h2⟩:=hj
  rw [List.getElem?_toArray,late_get] at ho
  by_cases h:s = j
  ·subst h
   rw [if_pos rfl,hs] at ho
   injection ho with ho
   subst ho
   exact ⟨h1,os,by simpa using hs,fun i hi=>h2 i ((waitsOn_waitFor e os i).2 (.inl hi))⟩
  ·rw [if_neg h] at ho
   exact ⟨h1,o,by simpa using ho,h2⟩
 have down:∀ listed j,j ∈ Region.ready .any l.toArray listed → (j ≠ s ∨ listed.getD e false = true) → j ∈ Region.ready .any (lateL l e s).toArray listed:=by
  intro listed j hj hc
  rw [ready_iff] at hj ⊢
  obtain ⟨h1,o,ho,h2⟩:=hj
  rw [List.getElem?_toArray] at ho
  refine ⟨h1,?_⟩
  by_cases h:s = j
  ·subst h
   rw [hs] at ho
   injection ho with ho
   subst ho
   refine ⟨waitFor e os,by rw [List.getElem?_toArray,late_get,if_pos rfl,hs]; rfl,fun i hi=>?_⟩
   rcases (waitsOn_waitFor e os i).1 hi with h3 | rfl
   ·exact h2 i h3
   ·exact hc.resolve_left (by simp)
  ·exact ⟨o,by rw [List.getElem?_toArray,late_get,if_neg h]; exact ho,h2⟩
 have ready_e:∀ listed,s ∈ Region.ready .any l.toArray listed → listed.getD e true = false → e ∈ Region.ready .any (lateL l e s).toArray listed:=by
  intro listed h1 h2
  refine down listed e ?_ (.inl hes)
  rw [ready_iff] at h1 ⊢
  obtain ⟨_,o,ho,h3⟩:=h1
  rw [List.getElem?_toArray,hs] at ho
  injection ho with ho
  subst ho
  exact ⟨h2,oe,by simpa using he,fun i hi=>h3 i (hsub i hi)⟩
 have only_e:∀ listed,s ∈ Region.ready .any l.toArray listed → listed.getD e true = false → ∀ j,j ∈ Region.ready .any l.toArray (listed.setIfInBounds s true) → j = e:=by
  intro listed h1 h2 j hj
  rw [ready_iff] at h1 hj
  obtain ⟨h0,o,ho,h3⟩:=h1
  rw [List.getElem?_toArray,hs] at ho
  injection ho with ho
  subst ho
  obtain ⟨h4,oj,hoj,h5⟩:=hj
  rw [List.getElem?_toArray] at hoj
  have hjl:j < l.length:=(List.getElem?_eq_some_iff.1 hoj).1
  have hjs:j ≠ s:=by
   rintro rfl
   have hsz:j < listed.size:=by
    rcases Nat.lt_or_ge j listed.size with h | h
    ·exact h
    ·rw [Array.getD_eq_getD_getElem?,Array.getElem?_eq_none h] at h0; cases h0
   rw [Array.getD_eq_getD_getElem?,Array.getElem?_setIfInBounds_self_of_lt hsz] at h4
   cases h4
  rw [getD_set_ne true (Ne.symm hjs)] at h4
  rcases hall j hjl with h | h | h | ⟨oj',ho',h⟩
  ·exact h
  ·exact absurd h hjs
  ·have:=h3 j h
   rw [getD_both h4] at this
   cases this
  ·rw [hoj] at ho'
   injection ho' with ho'
   subst ho'
   have h6:=h5 e h
   rw [getD_set_ne false (Ne.symm hes),getD_both h2] at h6
   cases h6
 have hel:e < l.length:=(List.getElem?_eq_some_iff.1 he).1
 have got:∀ listed:Array Bool,listed.size = l.length → listed.getD e true ≠ false → listed.getD e false = true:=by
  intro listed hsz h
  rw [Array.getD_eq_getD_getElem?,Array.getElem?_eq_getElem (by omega)] at h ⊢
  simpa using h
 have hwe:∀ a:Act,Region.wanted oe (yielded l.toArray a.tmps) = true:=fun a=>by unfold Region.wanted; simp [hg oe (List.mem_of_getElem? he)]
 have hws:∀ a:Act,Region.wanted os (yielded l.toArray a.tmps) = true:=fun a=>by unfold Region.wanted; simp [hg os (List.mem_of_getElem? hs)]
 intro fuel
 induction fuel using Nat.strongRecOn with
 | ind fuel ih =>
 intro listed a w hsz h
 match fuel,ih,h with
 | 0,_,h =>
  refine ⟨List.eq_nil_iff_forall_not_mem.2 fun j hj=>?_,h.2⟩
  by_cases hc:listed.getD e true = false
  ·by_cases hjs:j = s
   ·have:=ready_e listed (hjs ▸ hj) hc
    rw [h.1] at this
    cases this
   ·have:=down listed j hj (.inl hjs)
    rw [h.1] at this
    cases this
  ·have:=down listed j hj (.inr (got listed hsz hc))
   rw [h.1] at this
   cases this
 | f + 1,ih,h =>
  refine ⟨fun h0=>h.1 (List.eq_nil_iff_forall_not_mem.2 fun j hj=>by have:=up listed j hj; rw [h0] at this; cases this),fun i hi=>?_⟩
  have usual:(i ≠ s ∨ listed.getD e false = true) → wpOpIn (Fence.wide.inRound lp) n P l.toArray Q i (wpAnyIn (Fence.wide.inRound lp) n P .any l.toArray Q f (listed.setIfInBounds i true)) a w:=fun hc =>
   wpOpIn_late hg (wpOpIn_mono (fun a w hk=>ih f (Nat.lt_succ_self f) _ a w (by rw [Array.size_setIfInBounds]; exact hsz) hk) (h.2 i (down listed i hi hc)))
  by_cases hc:listed.getD e true = false
  ·by_cases hjs:i = s
   ·subst hjs
    have h1:=wpOpIn_late hg (h.2 e (ready_e listed hi hc))
    unfold wpOpIn at h1
    simp only [List.getElem?_toArray,he,hwe,if_true] at h1
    obtain ⟨v,hk,hback⟩:=extract_wpIn e1 h1
    rw [e2] at hk hback
    have hin:(listed.setIfInBounds e true).getD e false = true:=by
     rw [Array.getD_eq_getD_getElem?,Array.getElem?_setIfInBounds_self_of_lt (by omega)]; rfl
    have hrs:=down _ i (ready_mono hi (Ne.symm hes)) (.inr hin)
    match f,ih,hk with
    | 0,_,hk=>rw [hk.1] at hrs; cases hrs
    | f + 1,ih,hk =>
     have h2:=wpOpIn_late hg (hk.2 i hrs)
     unfold wpOpIn at h2 ⊢
     simp only [List.getElem?_toArray,hs,hws,if_true] at h2 ⊢
     refine Oper.wpIn_mono (fun a' w' hh=>?_) (store_wpIn e3 e4 hy hz hQ h2)
     obtain ⟨rfl,hh⟩:=hh
     have hre:e ∈ Region.ready .any l.toArray (listed.setIfInBounds i true):=ready_mono (up _ _ (ready_e listed hi hc)) hes
     refine ⟨fun h0=>by rw [h0] at hre; (cases hre),fun j hj=>?_⟩
     obtain rfl:=only_e listed hi hc j hj
     unfold wpOpIn
     simp only [List.getElem?_toArray,he,hwe,if_true]
     refine hback _ w' ?_
     rw [Array.setIfInBounds_comm _ _ (Ne.symm hes)]
     exact ih f (by omega) _ _ _ (by simp [hsz]) hh
   ·exact usual (.inl hjs)
  ·exact usual (.inr (got listed hsz hc))
theorem round_quiet_tail_late {C:World → Prop} {id:Nat} {Q:Exit → Act → World → Prop} {a:Act} {w:World} {l:List Oper} (e k:Nat) (hm:P.follows .mixedOrders = true) (hL:lateB l e k = true) (hB:Region.lexTailB .any (lateL l e k).toArray k = true) (hd:noDefer l = true)
 (hQ:∀ c a v d w,Q (.panic c) (a.put d v) w → Q (.panic c) a w) (hC:C w.drew)
 (h:wpQuiet P (lateL l e k).toArray C (fun a'=>∀ w',C w' → wpListIn (Fence.wide.inRound lp) n P (lateL l e k).toArray Q ((lateL l e k).drop k) a' w') ((lateL l e k).take k) a):(Code.region id l.toArray true).wpIn (Fence.wide.inRound lp) n P Q a w:=by
 have hd':noDefer (lateL l e k) = true:=by
  refine List.all_eq_true.2 fun o ho=>?_
  obtain ⟨j,hj⟩:=List.mem_iff_getElem?.1 ho
  rw [late_get] at hj
  by_cases h:k = j
  ·rw [if_pos h] at hj
   obtain ⟨o',ho',rfl⟩:=Option.map_eq_some_iff.1 hj
   exact List.all_eq_true.1 hd o' (List.mem_of_getElem? ho')
  ·rw [if_neg h] at hj
   exact List.all_eq_true.1 hd o (List.mem_of_getElem? hj)
 have hlen:(lateL l e k).toArray.size = l.toArray.size:=by simp [lateL]
 obtain ⟨hk,H⟩:=head_of hB h
 have hdl:((lateL l e k).drop k).length = (lateL l e k).toArray.size - k:=by simp
 have htl:((lateL l e k).take k).length = k:=by simp; omega
 refine wpIn_region_any hm ?_
 refine late_any hL hQ _ _ _ _ (by simp) ?_
 have:=head_wpAnyIn (Q':=Q) (n:=n) (lp:=lp) (g:=(lateL l e k).toArray.size - k) (by simpa using hd') (fun listed a' w' hw hL=>by
  have:=wpAnyIn_of_seq (md:=.any) (Q':=Q) (F:=Fence.wide.inRound lp) (n:=n) (P:=P) ((lateL l e k).drop k) k listed a' w' (fun j=>by simp [List.getElem?_drop]) (by rw [hdl]; exact hL.1) (hL.2 _ hw)
  rwa [hdl] at this) _ _ _ w.drew hC H
 rw [htl,show k + ((lateL l e k).toArray.size - k) = l.toArray.size by rw [← hlen]; simp; omega,hlen] at this
 exact this
end Gs
