import Derived.StillTailTactics
import Derived.Deep.QuietTactic
import Derived.OrdersIn
import Derived.TacticsInMore
import Derived.RangeFuncCalls
import Derived.RangeFuncNested
namespace Gs
open Go Go.RowKit
variable {P:Program} {ops:Array Oper} {md:Region.Mode} {w:World} {lp n:Nat}
def noDefer (l:List Oper):Bool:=l.all fun o=>match o.op with | .defer _=>false | _=>true
theorem noDefer_spec {l:List Oper} (h:noDefer l = true) {o:Oper} (ho:o ∈ l):∀ c,o.op ≠ .defer c:=by
 intro c e
 have:=List.all_eq_true.1 h o ho
 rw [e] at this
 cases this
theorem wpIn_of_still {o:Oper} {a:Act} {K:Act → Prop} {K':Act → World → Prop} {Q':Exit → Act → World → Prop} (hd:∀ c,o.op ≠ .defer c) (h:∀ a,K a → K' a w) (hh:o.still P a w K) :
 o.wpIn (Fence.wide.inRound lp) n P a w K' Q':=by
 unfold Oper.still at hh
 refine ⟨fun _ _=>trivial,?_⟩
 show o.uponIn (Fence.wide.inRound lp) n P a K' Q' ((Oper.semAt (some lp) a.eval o).run P w)
 rw [Oper.semAt_some lp a.eval o hd]
 generalize (execOp a.eval o).run P w = r at *
 cases r with
 | ok x w' =>
  cases x <;> simp only [Oper.stillUpon] at hh <;> simp only [Oper.uponIn]
  case enter f args =>
   obtain ⟨rfl,v,hc,hn⟩:=hh
   refine ⟨(fun h=>by cases h),CallsIn.inRound lp (callsIn_wide.2 ?_)⟩
   exact hc.mono fun e w'' ⟨he,hw⟩=>by subst he; subst hw; exact h _ hn
  all_goals (obtain ⟨rfl,h2⟩:=hh; exact h _ h2)
 | halt x w'=>simp only [Oper.stillUpon] at hh
theorem wpOpIn_of_stOp {i:Nat} {a:Act} {K:Act → Prop} {K':Act → World → Prop} {Q':Exit → Act → World → Prop} (hd:noDefer ops.toList = true) (h:∀ a,K a → K' a w) (hh:stOp P ops w i K a) :
 wpOpIn (Fence.wide.inRound lp) n P ops Q' i K' a w:=by
 unfold stOp at hh
 unfold wpOpIn
 split
 ·rename_i ho; simp only [ho] at hh; exact h _ hh
 ·rename_i o ho
  simp only [ho] at hh
  split
  ·rename_i hw
   simp only [hw,if_true] at hh
   exact wpIn_of_still (noDefer_spec hd (Array.mem_toList_iff.2 (Array.mem_of_getElem? ho))) h hh
  ·rename_i hw; simp only [hw] at hh; exact ⟨fun _ _=>trivial,h _ hh⟩
theorem wpAnyIn_of_head {n' g:Nat} {L:Array Bool → Act → Prop} {Q':Exit → Act → World → Prop} (hd:noDefer ops.toList = true) (hL:∀ listed a,L listed a → wpAnyIn (Fence.wide.inRound lp) n P md ops Q' g listed a w) :
 ∀ (f:Nat) (listed:Array Bool) (a:Act),wpAnyL P md ops w n' L f listed a → wpAnyIn (Fence.wide.inRound lp) n P md ops Q' (f + g) listed a w
 | 0,listed,a,h=>by rw [Nat.zero_add]; exact hL _ _ h
 | f + 1,listed,a,h=>by
  rw [show f + 1 + g = (f + g) + 1 by omega]
  exact ⟨fun h0=>absurd h0 h.1,fun i hi=>wpOpIn_of_stOp hd (fun a' h'=>wpAnyIn_of_head hd hL f _ a' h') (h.2 i hi).2⟩
theorem wpAnyIn_of_seq {F:Fence} {Q':Exit → Act → World → Prop}:∀ (l:List Oper) (k:Nat) (listed:Array Bool) (a:Act) (w:World),(∀ j,l[j]? = ops[k + j]?) →
 Region.seqB md ops l.length k listed = true → wpListIn F n P ops Q' l a w → wpAnyIn F n P md ops Q' l.length listed a w
 | [],_,_,_,_,_,hB,h=>⟨by simpa [Region.seqB] using hB,h⟩
 | o :: l,k,listed,a,w,hl,hB,h=>by
  have h0:ops[k]? = some o:=by simpa using (hl 0).symm
  simp only [List.length_cons,Region.seqB,Bool.and_eq_true,decide_eq_true_eq] at hB
  refine ⟨fun h1=>(by rw [hB.1] at h1; cases h1),fun i hi=>?_⟩
  rw [hB.1] at hi
  have hik:i = k:=by simpa using hi
  subst hik
  have hw:wpOpIn F n P ops Q' i (wpListIn F n P ops Q' l) a w:=by unfold wpOpIn; simp only [h0]; exact h
  exact wpOpIn_mono (fun a' w' h'=>wpAnyIn_of_seq l (i + 1) _ a' w' (fun j=>by have:=hl (j + 1); simpa [Nat.add_assoc,Nat.add_comm 1 j] using this) hB.2 h') hw
theorem wpAnyIn_of_still {Q:Act → Prop} {Q':Exit → Act → World → Prop} (hd:noDefer ops.toList = true) (hQ:∀ a,Q a → Q' .normal a w):∀ (fuel:Nat) (listed:Array Bool) (a:Act),
 wpAnyS P md ops w Q fuel listed a → wpAnyIn (Fence.wide.inRound lp) n P md ops Q' fuel listed a w
 | 0,_,_,h=>⟨h.1,hQ _ h.2⟩
 | fuel + 1,_,_,h=>⟨fun h0=>hQ _ (h.1 h0),fun i hi=>wpOpIn_of_stOp hd (fun a'=>wpAnyIn_of_still hd hQ fuel _ a') (h.2 i hi)⟩
theorem round_still {id:Nat} {Q:Exit → Act → World → Prop} {a:Act} {w:World} {l:List Oper} (hm:P.follows .mixedOrders = true) (hB:Region.lexB .any l.toArray = true) (hd:noDefer l = true)
 (h:wpStill P l.toArray w.drew (fun a'=>Q .normal a' w.drew) l a):(Code.region id l.toArray true).wpIn (Fence.wide.inRound lp) n P Q a w:=by
 simp only [Region.lexB,Bool.and_eq_true] at hB
 refine wpIn_region_any hm (wpAnyIn_of_still (by simpa using hd) (fun _ h=>h) _ _ _ ?_)
 have:=wpAnyS_lex (P:=P) (md:=.any) (w:=w.drew) hB.1 l 0 (Array.replicate l.toArray.size false) a (by simp) (by simpa using hB.2) h
 simpa using this
theorem round_still_tail {id:Nat} {Q:Exit → Act → World → Prop} {a:Act} {w:World} {l:List Oper} (k:Nat) (hm:P.follows .mixedOrders = true) (hB:Region.lexTailB .any l.toArray k = true) (hd:noDefer l = true)
 (h:wpStill P l.toArray w.drew (fun a'=>wpListIn (Fence.wide.inRound lp) n P l.toArray Q (l.drop k) a' w.drew) (l.take k) a):(Code.region id l.toArray true).wpIn (Fence.wide.inRound lp) n P Q a w:=by
 simp only [Region.lexTailB,Bool.and_eq_true,decide_eq_true_eq] at hB
 obtain ⟨⟨⟨⟨hsel,hn⟩,hs⟩,hc⟩,hlex⟩:=hB
 have hn':k < l.length:=by simpa using hn
 have htl:(l.take k).length = k:=by simp; omega
 have hdl:(l.drop k).length = l.toArray.size - k:=by simp
 have inv0:HeadInv .any l.toArray k (Array.replicate l.toArray.size false) :=
  ⟨by simp,fun j oj _ hl=>(by rw [getD_replicate_false] at hl; cases hl),fun t _ ht=>getD_in (by simpa using ht) (getD_replicate_false _ _)⟩
 have H:=wpAnyL_lex (md:=.any) (g:=l.toArray.size - k) hsel hs hc hn (l.take k) 0 _ a (fun j hj=>by
  have hj':j < k:=by rw [htl] at hj; exact hj
  simp [hj']) (by simpa using htl) inv0 (by rw [htl]; exact hlex) h
 refine wpIn_region_any hm ?_
 have:=wpAnyIn_of_head (Q':=Q) (g:=l.toArray.size - k) (by simpa using hd) (fun listed a' hL=>by
  have:=wpAnyIn_of_seq (md:=.any) (Q':=Q) (l.drop k) k listed a' w.drew (fun j=>by simp [List.getElem?_drop]) (by rw [hdl]; exact hL.1) hL.2
  rwa [hdl] at this) _ _ _ H
 rw [htl,show k + (l.toArray.size - k) = l.toArray.size by omega] at this
 exact this
theorem region_still {id:Nat} {Q:Exit → Act → World → Prop} {a:Act} {w:World} {l:List Oper} (hm:P.follows .mixedOrders = true) (hB:Region.lexB .any l.toArray = true)
 (h:wpStill P l.toArray w.drew (fun a'=>Q .normal a' w.drew) l a):(Code.region id l.toArray true).wp P Q a w:=wp_region_still_lit hm hB h
theorem region_still_tail {id:Nat} {Q:Exit → Act → World → Prop} {a:Act} {w:World} {l:List Oper} (k:Nat) (hm:P.follows .mixedOrders = true) (hB:Region.lexTailB .any l.toArray k = true)
 (h:wpStill P l.toArray w.drew (fun a'=>wpList P l.toArray Q (l.drop k) a' w.drew) (l.take k) a):(Code.region id l.toArray true).wp P Q a w:=wp_region_still_tail k hm hB h
section
variable {C:World → Prop}
def headAny (P:Program) (md:Region.Mode) (ops:Array Oper) (C:World → Prop) (k:Nat) (L:Array Bool → Act → Prop):Nat → Array Bool → Act → Prop
 | 0,listed,a=>L listed a
 | f + 1,listed,a=>Region.ready md ops listed ≠ [] ∧ ∀ i ∈ Region.ready md ops listed,i < k ∧ qOp P ops C i (headAny P md ops C k L f (listed.setIfInBounds i true)) a
theorem wpIn_of_quiet {o:Oper} {a:Act} {K:Act → Prop} {K':Act → World → Prop} {Q':Exit → Act → World → Prop} (hd:∀ c,o.op ≠ .defer c) (hw:C w) (h:∀ a w',C w' → K a → K' a w') (hh:o.quiet P a C K) :
 o.wpIn (Fence.wide.inRound lp) n P a w K' Q':=by
 obtain ⟨v,h1,h2⟩:=hh
 have h3:=h1 w hw
 unfold Oper.quietAt at h3
 refine ⟨fun _ _=>trivial,?_⟩
 show o.uponIn (Fence.wide.inRound lp) n P a K' Q' ((Oper.semAt (some lp) a.eval o).run P w)
 rw [Oper.semAt_some lp a.eval o hd]
 generalize (execOp a.eval o).run P w = r at *
 cases r with
 | halt x w'=>simp only [Oper.quietUpon] at h3
 | ok x w' =>
  cases x <;> simp only [Oper.quietUpon] at h3 <;> simp only [Oper.uponIn]
  case value u=>rw [h3.1,h3.2]; exact h _ _ hw h2
  case skip=>rw [h3.1,← h3.2]; exact h _ _ hw h2
  case enter f args =>
   refine ⟨(fun h=>by cases h),CallsIn.inRound lp (callsIn_wide.2 ?_)⟩
   rw [h3.1]
   exact h3.2.mono fun e w'' ⟨he,hc⟩=>by subst he; exact h _ _ hc h2
theorem wpOpIn_of_qOp {i:Nat} {a:Act} {K:Act → Prop} {K':Act → World → Prop} {Q':Exit → Act → World → Prop} (hd:noDefer ops.toList = true) (hw:C w) (h:∀ a w',C w' → K a → K' a w') (hh:qOp P ops C i K a) :
 wpOpIn (Fence.wide.inRound lp) n P ops Q' i K' a w:=by
 unfold qOp at hh
 unfold wpOpIn
 split
 ·rename_i ho; simp only [ho] at hh; exact h _ _ hw hh
 ·rename_i o ho
  simp only [ho] at hh
  split
  ·rename_i hwt
   simp only [hwt,if_true] at hh
   exact wpIn_of_quiet (noDefer_spec hd (Array.mem_toList_iff.2 (Array.mem_of_getElem? ho))) hw h hh
  ·rename_i hwt; simp only [hwt] at hh; exact ⟨fun _ _=>trivial,h _ _ hw hh⟩
theorem head_wpAnyIn {k g:Nat} {L:Array Bool → Act → Prop} {Q':Exit → Act → World → Prop} (hd:noDefer ops.toList = true) (hL:∀ listed a w,C w → L listed a → wpAnyIn (Fence.wide.inRound lp) n P md ops Q' g listed a w) :
 ∀ (f:Nat) (listed:Array Bool) (a:Act) (w:World),C w → headAny P md ops C k L f listed a → wpAnyIn (Fence.wide.inRound lp) n P md ops Q' (f + g) listed a w
 | 0,listed,a,w,hw,h=>by rw [Nat.zero_add]; exact hL _ _ _ hw h
 | f + 1,listed,a,w,hw,h=>by
  rw [show f + 1 + g = (f + g) + 1 by omega]
  exact ⟨fun h0=>absurd h0 h.1,fun i hi=>wpOpIn_of_qOp hd hw (fun a' w' hw' h'=>head_wpAnyIn hd hL f _ a' w' hw' h') (h.2 i hi).2⟩
theorem headAny_first {k i:Nat} {oi:Oper} {v:Value} {L:Array Bool → Act → Prop} (hi:ops[i]? = some oi) (hsel:∀ (j:Nat) (o:Oper) cs b,ops[j]? = some o → o.op ≠ .select cs b)
 (hs:Region.sinkB md ops k = true) (hc:Region.chainB md ops k = true) (hk:k < ops.size) (hik:i < k) (hdone:∀ listed a,L listed a → ∀ j ∈ Region.ready md ops listed,k ≤ j)
 (f:Nat):∀ (listed:Array Bool) (a:Act),HeadInv md ops k listed →
  (∀ j oj,ops[j]? = some oj → j ≠ i → listed.getD j true = false → (∀ e ∈ oj.after,Region.binds md e = true → e.on ≠ i) → oi.apart ops oj = true) →
  i ∈ Region.ready md ops listed → YieldsIn P ops C oi v a → headAny P md ops C k L f (listed.setIfInBounds i true) (a.put oi.dst v) → headAny P md ops C k L (f + 1) listed a:=by
 induction f with
 | zero =>
  intro listed a inv _ hr hy H
  refine ⟨List.ne_nil_of_mem hr,fun j hj=>?_⟩
  have hjk:j < k:=Nat.lt_of_not_le fun h=>tail_waits hs hc hk inv _ i rfl hik (mem_ready.1 hr).1 j h hj
  refine ⟨hjk,?_⟩
  by_cases e:j = i
  ·subst e; exact hy.qOp hi H
  ·exact absurd (hdone _ _ H j (ready_mono hj e)) (by omega)
 | succ f ih =>
  intro listed a inv hfree hr hy H
  have hun:=(mem_ready.1 hr).1
  refine ⟨List.ne_nil_of_mem hr,fun j hj=>?_⟩
  have hjk:j < k:=Nat.lt_of_not_le fun h=>tail_waits hs hc hk inv _ i rfl hik hun j h hj
  refine ⟨hjk,?_⟩
  by_cases e:j = i
  ·subst e; exact hy.qOp hi H
  ·obtain ⟨hjun,oj,hoj,hall⟩:=mem_ready.1 hj
   have hnot:∀ e ∈ oj.after,Region.binds md e = true → e.on ≠ i:=fun e he hb heq=>by
    have h1:=hall e he hb
    rw [heq,getD_both hun] at h1
    cases h1
   refine qOp_mono (fun a' h3=>ih (listed.setIfInBounds j true) a' (inv.set hj hjk) (fun m om hm hmi hmu hno=>hfree m om hm hmi ?_ hno) (ready_mono hr (Ne.symm e)) h3.1 ?_)
    (qOp_put hoj (hfree j oj hoj e hjun hnot) (fun cs b=>hsel i oi cs b hi) (fun cs b=>hsel j oj cs b hoj) hy (H.2 j (ready_mono hj e)).2)
   ·by_cases hjm:j = m
    ·subst hjm; exact hjun
    ·rwa [getD_set_ne true hjm] at hmu
   ·rw [Array.setIfInBounds_comm _ _ e]
    exact h3.2
theorem headAny_lex {k g:Nat} {Lq:Act → Prop} (hsel:Region.noSelect ops = true) (hs:Region.sinkB md ops k = true) (hc:Region.chainB md ops k = true) (hk:k < ops.size) :
 ∀ (l:List Oper) (j:Nat) (listed:Array Bool) (a:Act),(∀ i,i < l.length → l[i]? = ops[j + i]?) → j + l.length = k → HeadInv md ops k listed →
 Region.lexHead md ops g l.length j listed = true → wpQuiet P ops C Lq l a → headAny P md ops C k (fun listed' a'=>Region.seqB md ops g k listed' = true ∧ Lq a') l.length listed a
 | [],j,listed,a,_,hj,_,hB,h=>by
  have:j = k:=by simpa using hj
  subst this
  exact ⟨by simpa [Region.lexHead] using hB,h⟩
 | o :: l,j,listed,a,hl,hj,inv,hB,h=>by
  have h0:ops[j]? = some o:=by simpa using (hl 0 (by simp)).symm
  simp only [List.length_cons,Region.lexHead,Bool.and_eq_true] at hB
  obtain ⟨⟨hr,hf⟩,hB'⟩:=hB
  have hjk:j < k:=by simp only [List.length_cons] at hj; omega
  have hr':j ∈ Region.ready md ops listed:=by simpa using hr
  have hst:qOp P ops C j (wpQuiet P ops C Lq l) a:=by unfold qOp; simp only [h0]; exact h
  obtain ⟨v,hy,hK⟩:=yieldsIn_of_qOp h0 hst
  exact headAny_first h0 (Region.noSelect_spec hsel) hs hc hk hjk (fun listed' a' hL=>seqB_ready hL.1) l.length listed a inv (Region.free_spec h0 hf) hr' hy
   (headAny_lex hsel hs hc hk l (j + 1) _ _ (fun i hi=>by have:=hl (i + 1) (by simp; omega); simpa [Nat.add_assoc,Nat.add_comm 1 i] using this) (by simp only [List.length_cons] at hj; omega) (inv.set hr' hjk) hB' hK)
theorem head_of {l:List Oper} {a:Act} {Lq:Act → Prop} {k:Nat} (hB:Region.lexTailB .any l.toArray k = true) (h:wpQuiet P l.toArray C Lq (l.take k) a) :
 k ≤ l.length ∧ headAny P .any l.toArray C k (fun listed' a'=>Region.seqB .any l.toArray (l.toArray.size - k) k listed' = true ∧ Lq a') (l.take k).length (Array.replicate l.toArray.size false) a:=by
 simp only [Region.lexTailB,Bool.and_eq_true,decide_eq_true_eq] at hB
 obtain ⟨⟨⟨⟨hsel,hn⟩,hs⟩,hc⟩,hlex⟩:=hB
 have hn':k < l.length:=by simpa using hn
 have htl:(l.take k).length = k:=by simp; omega
 refine ⟨by omega,headAny_lex (g:=l.toArray.size - k) hsel hs hc hn (l.take k) 0 _ a (fun j hj=>?_) (by simpa using htl) ⟨by simp,fun j oj _ hl=>(by rw [getD_replicate_false] at hl; cases hl),fun t _ ht=>getD_in (by simpa using ht) (getD_replicate_false _ _)⟩ (by rw [htl]; exact hlex) h⟩
 rw [htl] at hj
 simp [hj]
theorem round_quiet_tail {id:Nat} {Q:Exit → Act → World → Prop} {a:Act} {w:World} {l:List Oper} (k:Nat) (hm:P.follows .mixedOrders = true) (hB:Region.lexTailB .any l.toArray k = true) (hd:noDefer l = true) (hC:C w.drew)
 (h:wpQuiet P l.toArray C (fun a'=>∀ w',C w' → wpListIn (Fence.wide.inRound lp) n P l.toArray Q (l.drop k) a' w') (l.take k) a):(Code.region id l.toArray true).wpIn (Fence.wide.inRound lp) n P Q a w:=by
 obtain ⟨hk,H⟩:=head_of hB h
 have hdl:(l.drop k).length = l.toArray.size - k:=by simp
 have htl:(l.take k).length = k:=by simp; omega
 refine wpIn_region_any hm ?_
 have:=head_wpAnyIn (Q':=Q) (g:=l.toArray.size - k) (by simpa using hd) (fun listed a' w' hw hL=>by
  have:=wpAnyIn_of_seq (md:=.any) (Q':=Q) (l.drop k) k listed a' w' (fun j=>by simp [List.getElem?_drop]) (by rw [hdl]; exact hL.1) (hL.2 _ hw)
  rwa [hdl] at this) _ _ _ w.drew hC H
 rw [htl,show k + (l.toArray.size - k) = l.toArray.size by simp; omega] at this
 exact this
end
end Gs
