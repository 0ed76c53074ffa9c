import Derived.Test.YtcpgflbfjplheaaGreatDoorIH
import Derived.Test.YtcpgflbfjplheaaGreatDoorQvz
import Derived.ChangeMaps5
/- The card of EventCalm: for every input the law answers true, and each argument reads as it did. -/
namespace Go.Proofs.YtcpgflbfjplheaaGreatDoor.eventCalm
open Go.ChangeShapes Go.WideShapes Go.ChangeAt Go.RowKit Gs Gv
set_option linter.unusedVariables false
set_option maxRecDepth 100000 in
/-- WHAT THE WALK GIVES, FOR EVERY ARGUMENT. -/
theorem contract (H:Type) (enc:TypeId × Value → H) (W:World) (base:Nat) (args:Array Value) (ds gs:List (DataW H)) (before:List MemPlace)
 (hval:∀ (j:Nat) t v,Tryz.f5.params[j]? = some t → args[j]? = some v → Value.okWide Tryz.prog W .any base t v)
 (hW:DataW.Whole enc Tryz.prog Tryz.f5.params.toList Rows.eventCalmSpec.vars false W args.toList ds gs before) {ts:List TypeId}
 (hwt:(DataW.weightsEach Tryz.prog (Tryz.f5.params.toList ++ ts) (ds ++ gs)).all (· ≤ reachBytes) = true) :
 Calls Tryz.prog 5 args W fun e W'=>∃ v,e = .returned v ∧ Rows.eventCalmSpec.post enc Tryz.prog Tryz.f5 false true false false W args v W':=by
 have hW':=hW
 obtain ⟨p,q,hA0,hV,rfl,hfz,hnd⟩:=hW
 have hA:DataW.TrodAll enc Tryz.prog W 0 (fun _=>true) true Tryz.f5.params.toList args.toList ds p:=hA0
 rw [Tryz.params5] at hA hval hwt
 obtain ⟨v0,vs0,d0,ds0,p0,q0,hargs,rfl,rfl,h0,r0⟩:=trodAll_cons hA
 obtain ⟨v1,vs1,d1,ds1,p1,q1,rfl,rfl,rfl,h1,r1⟩:=trodAll_cons r0
 obtain ⟨v2,vs2,d2,ds2,p2,q2,rfl,rfl,rfl,h2,r2⟩:=trodAll_cons r1
 obtain ⟨rfl,rfl,rfl⟩:=trodAll_nil r2
 obtain rfl:args = #[v0,v1,v2]:=by cases args; simp_all
 obtain ⟨rfl,rfl⟩:=trodVars_none hV
 have hw0:∀ n ∈ d0.weights Tryz.prog 56,n ≤ reachBytes:=fun n hn=>by
  have:=List.all_eq_true.1 hwt n (DataW.weights_mem_each (j:=0) rfl rfl n hn)
  simpa using this
 obtain ⟨L0,hL0,hl0,he0,k0⟩:=open_groups (hval 0 56 v0 rfl rfl) h0 hw0
 obtain ⟨b1,hb1,k1⟩:=open_box (hval 1 58 v1 rfl rfl) h1
 have g20:=h2
 obtain ⟨z2,rfl,rfl,rfl,wf2⟩:=open_int Tryz.underlying5 (hval 2 5 v2 rfl rfl) h2
 have k2:Rep W (fun _=>True) (.raw (.int .u8 z2)) (.int .u8 z2):=.raw _
 refine (law_calls (vs:=[v0,v1,(.int .u8 z2)]) (law_EventCalm hL0 hl0 he0 hb1 wf2) rfl (reps_cons k0 (reps_cons k1 (reps_cons k2 reps_nil)))).mono fun e W' ⟨he,hb⟩=>?_
 subst he
 have hlt:∀ x ∈ ((p0 ++ (p1 ++ ([] ++ []))) ++ []:List MemPlace),x.block < W.heap.size:=fun x hx=>by simpa using hW'.lt x hx
 have g0:=Below.trod laidOut (by kernel_rfl) (of_decide_eq_true (by kernel_rfl)) h0 hb (fun x hx=>hlt x (by simp [hx]))
 have g1:=Below.trod laidOut (by kernel_rfl) (of_decide_eq_true (by kernel_rfl)) h1 hb (fun x hx=>hlt x (by simp [hx]))
 have g2:=Below.trod laidOut (by kernel_rfl) (of_decide_eq_true (by kernel_rfl)) g20 hb (fun x hx=>hlt x (by simp at hx))
 refine ⟨_,rfl,_,_,_,[],p0 ++ (p1 ++ ([] ++ [])),[],hW',trodAll_cons_mk (shut_bool Tryz.underlying4 _) trodAll_mk0,trodAll_cons_mk g0 (trodAll_cons_mk g1 (trodAll_cons_mk g2 trodAll_mk0)),rfl,hb.frame _,fun h=>by cases h⟩
theorem laid_met (os:Os):laidMet Tryz.prog Rows.eventCalmRow.laid ((laidWorld os).forCall (fun _ _=>0) ⟨#[],#[.slice none 0 0,.agg #[.bool false,.slice none 0 0,.slice none 0 0,.bool false,.slice none 0 0,.slice none 0 0,.bool false,.slice none 0 0,.slice none 0 0,.bool false,.slice none 0 0,.slice none 0 0],.int .u8 0],[]⟩).memory :=
 laidMet_of_run' 8 (by kernel_rfl) (by kernel_rfl)
theorem reads (os:Os) {H:Type} (enc:TypeId × Value → H):∃ places,DataW.whole enc Tryz.prog ((laidWorld os).forCall (fun _ _=>0) ⟨#[],#[.slice none 0 0,.agg #[.bool false,.slice none 0 0,.slice none 0 0,.bool false,.slice none 0 0,.slice none 0 0,.bool false,.slice none 0 0,.slice none 0 0,.bool false,.slice none 0 0,.slice none 0 0],.int .u8 0],[]⟩).memory Tryz.f5.params.toList Rows.eventCalmSpec.vars false (#[.slice none 0 0,.agg #[.bool false,.slice none 0 0,.slice none 0 0,.bool false,.slice none 0 0,.slice none 0 0,.bool false,.slice none 0 0,.slice none 0 0,.bool false,.slice none 0 0,.slice none 0 0],.int .u8 0]:Array Value).toList 8 = some ([.nil,.agg [.agg [.agg [.lit (.bool false),.nil],.nil],.agg [.agg [.lit (.bool false),.nil],.nil],.agg [.agg [.lit (.bool false),.nil],.nil],.agg [.agg [.lit (.bool false),.nil],.nil]],.lit (.int .u8 0)],[],places) :=
 ⟨[],by kernel_rfl⟩
set_option maxRecDepth 100000 in
theorem lifted (os:Os) (started:os.Started) (H:Type) (enc:TypeId × Value → H) (F:Stop.Interp) :
 ReturnsInHanded {} Tryz.checked os 5 .any ((OpenSpec.ofChange Rows.eventCalmSpec).preRow enc Tryz.prog Tryz.f5 Rows.eventCalmRow.domain false Rows.eventCalmRow.laid) (((OpenSpec.ofChange Rows.eventCalmSpec).at F).post enc Tryz.prog Tryz.f5 false true false false):=by
 obtain ⟨places,hx⟩:=reads os enc
 refine returnsInHanded_of_row (C:=Tryz.checked) (s:=OpenSpec.ofChange Rows.eventCalmSpec) own started (by kernel_rfl) Tryz.func5
  (witness_row_at (enc:=enc) (C:=Tryz.checked) false (laidWorld os) #[.slice none 0 0,.agg #[.bool false,.slice none 0 0,.slice none 0 0,.bool false,.slice none 0 0,.slice none 0 0,.bool false,.slice none 0 0,.slice none 0 0,.bool false,.slice none 0 0,.slice none 0 0],.int .u8 0] rfl (by kernel_rfl) (by kernel_rfl) (by kernel_rfl)
   (OpenSpec.preRow_of_cond 8 hx (by kernel_rfl) (fun k hk=>by cases hk) (by kernel_rfl) (laid_met os))) ?_
 intro W base args ds gs before hval hW _ _ hwt hL _ _
 exact contract H enc W base args ds gs before hval hW hwt
set_option maxRecDepth 100000 in
theorem named:Tryz.pinned.checked.prog.funcNamed Rows.eventCalmRow.func = some 5:=by kernel_rfl
set_option maxRecDepth 100000 in
theorem jc9:((Rows.eventCalmRow.inPlace == Tryz.pinned.checked.prog.inPlace 5)) = true:=by kernel_rfl
set_option maxRecDepth 100000 in
theorem jc10:((Rows.eventCalmRow.unfollowed == Tryz.pinned.checked.prog.unfollowed 5)) = true:=by kernel_rfl
set_option maxRecDepth 100000 in
theorem jc11:((Rows.eventCalmRow.recurses == Tryz.pinned.checked.prog.recurses 5)) = true:=by kernel_rfl
set_option maxRecDepth 100000 in
theorem jc12:((Rows.eventCalmRow.named == Tryz.pinned.checked.prog.varsNamed 5)) = true:=by kernel_rfl
set_option maxRecDepth 100000 in
theorem jc22:((Rows.eventCalmRow.plainKeys == Tryz.pinned.checked.prog.plainKeys)) = true:=by kernel_rfl
set_option maxRecDepth 100000 in
theorem jc26:((Rows.eventCalmRow.lifted == Tryz.pinned.checked.prog.liftsFinal)) = true:=by kernel_rfl
set_option maxRecDepth 100000 in
theorem jc27:((Tryz.pinned.checked.prog.make == some Rows.eventCalmRow.make)) = true:=by kernel_rfl
set_option maxRecDepth 100000 in
theorem closed:joinedFacts Tryz.pinned.checked.prog 5 Tryz.f5 (OpenSpec.ofChange Rows.eventCalmSpec).bare Rows.eventCalmRow = true :=
 joined_mk (by kernel_rfl) jf1 jf2 (by kernel_rfl) (by kernel_rfl) (by kernel_rfl) jf6 (by kernel_rfl) jf8 jc9 jc10 jc11 jc12 (by kernel_rfl) (by kernel_rfl) (by kernel_rfl) (by kernel_rfl) (by kernel_rfl) (by kernel_rfl) (by kernel_rfl) (by kernel_rfl) (by kernel_rfl) jc22 (by kernel_rfl) jf24 jf25 jc26 jc27 (by kernel_rfl) (by kernel_rfl) (by kernel_rfl) (by kernel_rfl)
theorem said:Rows.EventCalmSaid :=
 OpenClaim.holds_of_cond 5 Tryz.f5 rfl rfl rfl rfl rfl rfl rfl ⟨rfl,rfl,rfl,rfl,rfl⟩ rfl rfl rfl rfl rfl named Tryz.func5 closed
  (of_decide_eq_true (by kernel_rfl)) (by unfold Func.isWrapper; first | (rw [if_pos (by decide +kernel)]; kernel_rfl) | (rw [if_neg (by decide +kernel)]; exact ⟨rfl,rfl⟩))
  (fun os started H enc _ F=>by rw [OpenClaim.pre_eq_preRow]; exact lifted os started H enc F)
/-- No parameter wants a stand-in; the program's own looks are off. -/
theorem plain (f:FuncId) (fn:Func) (hf : Tryz.pinned.checked.prog.funcNamed "gesso/gessolaw24.EventCalm" = some f) (hfn:Tryz.pinned.checked.prog.funcs[f]? = some fn) :
 false = Tryz.pinned.checked.prog.looks [] ∧ ∀ (j:Nat) t,fn.params[j]? = some t → Tryz.pinned.checked.prog.wantsStandIn t = false:=by
 obtain rfl:f = 5:=Option.some.inj ((show Tryz.prog.funcNamed "gesso/gessolaw24.EventCalm" = some 5 by kernel_rfl).symm.trans hf) |>.symm
 obtain rfl:fn = Tryz.f5:=(Option.some.inj (Tryz.func5.symm.trans hfn)).symm
 refine ⟨by kernel_rfl,fun j t ht=>?_⟩
 rw [Tryz.params5] at ht
 have hm:=Array.mem_of_getElem? ht
 simp only [List.mem_toArray,List.mem_cons,List.mem_nil_iff,or_false] at hm
 rcases hm with rfl | rfl | rfl
 ·exact (show Tryz.prog.wantsStandIn 56 = false by kernel_rfl)
 ·exact (show Tryz.prog.wantsStandIn 58 = false by kernel_rfl)
 ·exact (show Tryz.prog.wantsStandIn 5 = false by kernel_rfl)
theorem card:Rows.EventCalmCardSaid :=
 Claim7.holds_tied_plain_at .later [] _ _ _ _ said (fun _ h=>by cases h) (by kernel_rfl) (fun _ h=>by cases h) eventCalm_row_tie rfl ⟨rfl,rfl⟩ (by kernel_rfl) rfl plain (by kernel_rfl)
end Go.Proofs.YtcpgflbfjplheaaGreatDoor.eventCalm
