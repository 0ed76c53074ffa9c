import Derived.Test.YtcpgflbfjplheaaGreatDoorEP
import Derived.Scope
import Derived.Handy
namespace Gv
open Go Go.RowKit
set_option linter.unusedVariables false
set_option linter.unusedSimpArgs false
def Refi (ρ:List PV) (s0 s:SV):Prop:=s = s0 ∨ ∃ b,s = .con (.bool b) ∧ den ρ s0 = some (.raw (.bool b))
theorem Refi.rep {ρ:List PV} {β:Nat → Option Loc} {w:World} {W:Nat → Prop} {s0 s:SV} {v:Value} (h:Refi ρ s0 s) (hr:RepS ρ β w W s0 v):RepS ρ β w W s v:=by
 rcases h with rfl | ⟨b,rfl,hd⟩
 ·exact hr
 ·rw [hr.bool hd]
  exact .con _ rfl
theorem Refi.app {ρ ρ':List PV} {s0 s:SV} (h:Refi ρ s0 s):Refi (ρ ++ ρ') s0 s:=by
 rcases h with h | ⟨b,h,hd⟩
 ·exact .inl h
 ·exact .inr ⟨b,h,den_app ρ ρ' hd⟩
section
variable (P:Program) (G:Tab) (ops:List Oper) (N nj0:Nat)
inductive Did (ρ:List PV) (tm:Nat → Option SV) (hp:Nat → Option HB) (k:Nat) (o:Oper) (te:TE):Prop
 | skip (hw:wantOf ops tm o = .no) (hd:∀ d,o.dst = some d → d < N) (ht:te = ⟨o.dst,.tup [],[],[]⟩)
 | run (hw:wantOf ops tm o = .yes) (hd:∀ d,o.dst = some d → d < N) (args:List SV) (ha:evalOps tm o.op.operands.toList = some args) (na:Nat) (e:Eff)
  (he:symOp' P G ((hread' P G o args).map hp) na (nj0 + k) o args = some e) (hn:NdOK P ρ na e.nd) (hwf:e.nd.wf na = true) (hna:na ≤ ρ.length) (ht:te = ⟨o.dst,e.s,e.h,hread' P G o args⟩)
def updP {α:Type} (f:Nat → Option α) (l:List (Nat × α)):Nat → Option α:=fun t=>match look l t with
 | some h=>some h
 | none=>f t
def gS {α:Type} (pr:TE → List (Nat × α)) (T:List TE) (listed:Nat → Bool) (f0:Nat → Option α):Nat → (Nat → Option α)
 | 0=>f0
 | m + 1=>if listed m then (match T[m]? with
  | some te=>updP (gS pr T listed f0 m) (pr te)
  | none=>gS pr T listed f0 m) else gS pr T listed f0 m
def prT (te:TE):List (Nat × SV):=(te.d.map fun d=>(d,te.s)).toList
def prH (te:TE):List (Nat × HB):=te.h
def tmS (T:List TE) (listed:Nat → Bool) (tm0:Nat → Option SV):Nat → (Nat → Option SV):=gS prT T listed tm0
def hpS (T:List TE) (listed:Nat → Bool) (hp0:Nat → Option HB):Nat → (Nat → Option HB):=gS prH T listed hp0
def Told (ρ:List PV) (tm0:Nat → Option SV) (hp0:Nat → Option HB) (T:List TE):Prop :=
 ∀ k o te,ops[k]? = some o → T[k]? = some te → ∃ tmr,(∀ t s,tmr t = some s → ∃ s0,tmS T (fun _=>true) tm0 k t = some s0 ∧ Refi ρ s0 s) ∧ Did P G ops N nj0 ρ tmr (hpS T (fun _=>true) hp0 k) k o te
end
mutual
theorem wf_den {n j:Nat} (ρ ρ':List PV) (hn:n ≤ ρ.length):∀ {s:SV},s.wf n j = true → den (ρ ++ ρ') s = den ρ s
 | .at k,h=>by
  simp only [SV.wf,decide_eq_true_eq] at h
  simp only [den]
  exact List.getElem?_append_left (by omega)
 | .con v,h=>by simp only [den]
 | .cel s i,h=>by simp only [SV.wf] at h; simp only [den,wf_den ρ ρ' hn h]
 | .ext s i,h=>by simp only [SV.wf] at h; simp only [den,wf_den ρ ρ' hn h]
 | .agg l,h=>by simp only [SV.wf] at h; simp only [den,wfs_dens ρ ρ' hn h]
 | .tup l,h=>by simp only [SV.wf] at h; simp only [den,wfs_dens ρ ρ' hn h]
 | .clo fn fs cs,h=>by simp only [SV.wf,Bool.and_eq_true] at h; simp only [den,wfs_dens ρ ρ' hn h.1,wfs_dens ρ ρ' hn h.2]
 | .box _ _,h=>by simp only [den]
 | .mapp _,h=>by simp only [den]
 | .row _ _,h=>by simp only [den]
 | .elt _ _ _ _ _,h=>by simp only [den]
 | .ref l,h=>by simp only [SV.wf] at h; simp only [den,wfs_dens ρ ρ' hn h]
 | .vw _ _ _ _ _,h=>by simp only [den]
theorem wfs_dens {n j:Nat} (ρ ρ':List PV) (hn:n ≤ ρ.length):∀ {l:List SV},SV.wfs n j l = true → dens (ρ ++ ρ') l = dens ρ l
 | [],h=>by simp only [dens]
 | s :: l,h=>by simp only [SV.wfs,Bool.and_eq_true] at h; simp only [dens,wf_den ρ ρ' hn h.1,wfs_dens ρ ρ' hn h.2]
end
theorem wf_pvs {n j:Nat} (ρ ρ':List PV) (hn:n ≤ ρ.length):∀ {l:List SV},SV.wfs n j l = true → pvs (ρ ++ ρ') l = pvs ρ l
 | [],h=>rfl
 | s :: l,h=>by
  simp only [SV.wfs,Bool.and_eq_true] at h
  simp only [pvs,List.map_cons]
  have:=wf_pvs ρ ρ' hn h.2
  simp only [pvs] at this
  rw [this]
  simp only [pv,wf_den ρ ρ' hn h.1]
theorem NdOK.app {P:Program} {ρ:List PV} {na:Nat} {nd:Nd} (h:NdOK P ρ na nd) (hw:nd.wf na = true) (hn:na ≤ ρ.length) (ρ':List PV):NdOK P (ρ ++ ρ') na nd:=by
 cases nd with
 | none=>trivial
 | call f args sh =>
  obtain ⟨r,h1,h2,h3⟩:=h
  exact ⟨r,getElem?_app h1,by rw [wf_pvs ρ ρ' hn hw]; exact h2,h3⟩
 | callv fv args sh =>
  obtain ⟨r,h1,h2,h3⟩:=h
  simp only [Nd.wf,Bool.and_eq_true] at hw
  exact ⟨r,getElem?_app h1,by rw [wf_pvs ρ ρ' hn hw.2,show pv (ρ ++ ρ') fv = pv ρ fv by simp only [pv,wf_den ρ ρ' hn hw.1]]; exact h2,h3⟩
 | prim p args =>
  obtain ⟨r,h1,h2⟩:=h
  exact ⟨r,getElem?_app h1,by rw [wf_pvs ρ ρ' hn hw]; exact h2⟩
 | mk c n args =>
  simp only [NdOK] at h ⊢
  rw [wf_pvs ρ ρ' hn hw]
  exact getElem?_app h
 | calln f e n args =>
  obtain ⟨es,h1,h2⟩:=h
  exact ⟨es,getElem?_app h1,by rw [wf_pvs ρ ρ' hn hw]; exact h2⟩
 | callt f e n c args sh =>
  obtain ⟨es,es',r,h1,h2,h3,h4⟩:=h
  simp only [Nd.wf,Bool.and_eq_true] at hw
  exact ⟨es,es',r,getElem?_app h1,by rw [show pv (ρ ++ ρ') c = pv ρ c by simp only [pv,wf_den ρ ρ' hn hw.1]]; exact h2,by rw [wf_pvs ρ ρ' hn hw.2]; exact h3,h4⟩
 | callb f e n c args =>
  obtain ⟨es,es',h1,h2,h3⟩:=h
  simp only [Nd.wf,Bool.and_eq_true] at hw
  exact ⟨es,es',getElem?_app h1,by rw [show pv (ρ ++ ρ') c = pv ρ c by simp only [pv,wf_den ρ ρ' hn hw.1]]; exact h2,by rw [wf_pvs ρ ρ' hn hw.2]; exact h3⟩
theorem Did.app {P:Program} {G:Tab} {ops:List Oper} {N nj0:Nat} {ρ:List PV} {tm:Nat → Option SV} {hp:Nat → Option HB} {k:Nat} {o:Oper} {te:TE} (h:Did P G ops N nj0 ρ tm hp k o te) (ρ':List PV):Did P G ops N nj0 (ρ ++ ρ') tm hp k o te:=by
 cases h with
 | skip hw hd ht=>exact .skip hw hd ht
 | run hw hd args ha na e he hn hwf hna ht=>exact .run hw hd args ha na e he (hn.app hwf hna ρ') hwf (by simp; omega) ht
theorem looks_operand {ops:List Oper} {o:Oper} {t:Nat} (h:Operand.tmp t ∈ o.op.operands.toList):t ∈ looksAt ops o:=by
 unfold looksAt
 exact List.mem_append_left _ (List.mem_filterMap.2 ⟨_,h,rfl⟩)
theorem looks_guard {ops:List Oper} {o:Oper} {g:Nat} {want:Bool} {t:Nat} (h:o.guard = some (g,want)) (ht:(ops[g]?).bind (·.dst) = some t):t ∈ looksAt ops o:=by
 unfold looksAt
 refine List.mem_append_right _ ?_
 rw [h]
 simp [ht]
section
variable {P:Program} {G:Tab} {E:Env} {ρ:List PV} {β:Nat → Option Loc} {tm:Nat → Option SV} {hp:Nat → Option HB} {a:Act} {w:World} {Q:Exit → Act → World → Prop}
theorem evalOps_args:∀ {l:List Operand} {args:List SV} {tm:Nat → Option SV},evalOps tm l = some args → (∀ t s,Operand.tmp t ∈ l → tm t = some s → RepS ρ β w (Ok E hp β) s (a.tmps.getD t undef)) → Args ρ β w (Ok E hp β) args (l.map a.eval)
 | [],args,tm,h,_=>by simp [evalOps] at h; subst h; exact .nil
 | x :: l,args,tm,h,hr=>by
  simp only [evalOps,List.mapM_cons,Option.bind_eq_bind,Option.pure_def] at h
  cases hx:evalOp tm x with
  | none=>simp [hx] at h
  | some s =>
   cases hl:l.mapM (evalOp tm) with
   | none=>simp [hx,hl] at h
   | some ss =>
    simp [hx,hl] at h
    subst h
    refine .cons ?_ (evalOps_args hl fun t s ht=>hr t s (by simp [ht]))
    cases x with
    | tmp t=>exact hr t s (by simp) hx
    | const v=>exact svOf_rep hx
    | global g=>simp only [evalOp,Option.some.injEq] at hx; subst hx; exact .con _ rfl
    | func f =>
     simp only [evalOp,Option.some.injEq] at hx
     subst hx
     exact .clo _ [] [] #[] #[] rfl rfl (fun j s h=>by simp at h) (fun j s h=>by simp at h)
theorem wanted_yes {ops:Array Oper} {tmr:Nat → Option SV} {o:Oper} (h:wantOf ops.toList tmr o = .yes) (hr:∀ t s,t ∈ looksAt ops.toList o → tmr t = some s → RepS ρ β w (Ok E hp β) s (a.tmps.getD t undef)):Region.wanted o (yielded ops a.tmps) = true:=by
 unfold wantOf at h
 unfold Region.wanted
 split at h
 ·rename_i hg; rw [hg]
 ·rename_i g want hg
  rw [hg]
  split at h
  ·rename_i t ht
   split at h
   ·rename_i b hb
    split at h
    ·rename_i hbw
     have:=(hr t _ (looks_guard hg ht) hb).bool rfl
     have hsz:a.tmps[t]? = some (.bool b):=by
      simp only [Array.getD_eq_getD_getElem?] at this
      cases hx:a.tmps[t]? with
      | none=>rw [hx] at this; cases this
      | some v=>rw [hx] at this; simp at this; rw [this]
     have ht':(ops[g]?).bind (·.dst) = some t:=by simpa using ht
     simp only [yielded,ht',Option.bind_some,hsz]
     simpa using hbw
    ·cases h
   ·cases h
   ·split at h <;> cases h
   ·cases h
  ·cases h
theorem wanted_no {ops:Array Oper} {tmr:Nat → Option SV} {o:Oper} (h:wantOf ops.toList tmr o = .no) (hr:∀ t s,t ∈ looksAt ops.toList o → tmr t = some s → RepS ρ β w (Ok E hp β) s (a.tmps.getD t undef)):Region.wanted o (yielded ops a.tmps) = false:=by
 unfold wantOf at h
 unfold Region.wanted
 split at h
 ·cases h
 ·rename_i g want hg
  rw [hg]
  split at h
  ·rename_i t ht
   have ht':(ops[g]?).bind (·.dst) = some t:=by simpa using ht
   split at h
   ·rename_i b hb
    split at h
    ·cases h
    ·rename_i hbw
     have:=(hr t _ (looks_guard hg ht) hb).bool rfl
     have hsz:a.tmps[t]? = some (.bool b):=by
      simp only [Array.getD_eq_getD_getElem?] at this
      cases hx:a.tmps[t]? with
      | none=>rw [hx] at this; cases this
      | some v=>rw [hx] at this; simp at this; rw [this]
     simp only [yielded,ht',Option.bind_some,hsz]
     simpa using hbw
   ·rename_i hb
    have:=hr t _ (looks_guard hg ht) hb
    generalize hv:a.tmps.getD t undef = v at this
    have hv2:v = .tuple #[]:=by
     cases this with
     | pure s p v hd hf hr' hn=>simp only [den,dens,Option.map_some,Option.some.injEq] at hd; subst hd; simp [PV.flat] at hf
     | tup _ vs hl _=>congr 1; exact Array.eq_empty_of_size_eq_zero (by simpa using hl.symm)
    simp only [yielded,ht',Option.bind_some]
    cases hx:a.tmps[t]? with
    | none=>simp
    | some u =>
     have:u = .tuple #[]:=by rw [← hv2,← hv]; simp [hx]
     subst this
     simp
   ·split at h <;> cases h
   ·cases h
  ·cases h
theorem did_op {ops:Array Oper} (hm:P.follows .mixedOrders = true) {k:Nat} {o:Oper} {te:TE} {nj0:Nat} {tmr:Nat → Option SV} {hpr:Nat → Option HB} (ho:ops[k]? = some o) (hs:Sim E ρ β tm hp a w)
 (hr:∀ t s,t ∈ looksAt ops.toList o → tmr t = some s → ∃ s0,tm t = some s0 ∧ Refi ρ s0 s) (hh:∀ j,j ∈ te.rd → hp j = hpr j) (hD:Did P G ops.toList E.N nj0 ρ tmr hpr k o te) (hj:β (nj0 + k) = none) {K:Act → World → Prop}
 (hK:∀ β' a' w',Sim E ρ β' (upd tm te.d te.s) (updh hp te.h) a' w' → (∀ i,β' i ≠ none → β i ≠ none ∨ i = nj0 + k) → K a' w'):wpOp P ops Q k K a w:=by
 have hr':∀ t s,t ∈ looksAt ops.toList o → tmr t = some s → RepS ρ β w (Ok E hp β) s (a.tmps.getD t undef):=by
  intro t s ht hts
  obtain ⟨s0,h1,h2⟩:=hr t s ht hts
  exact h2.rep (hs.tmr t s0 h1)
 unfold wpOp
 simp only [ho]
 cases hD with
 | skip hw hd ht =>
  subst ht
  rw [wanted_no hw hr']
  exact hK β _ _ (hs.put undef_rep _ hd) fun i h=>.inl h
 | run hw hd args ha na e he hn hwf hna ht =>
  subst ht
  rw [wanted_yes hw hr',if_pos rfl]
  refine .inl (op_run' hm (G:=G) hs (evalOps_args ha fun t s ht=>hr' t s (looks_operand ht)) (j:=nj0 + k) (na:=na) ?_ hn hj hd hK)
  rw [← he]
  congr 1
  exact List.map_congr_left fun j hj=>hh j hj
end
end Gv
namespace Gv
open Go Go.RowKit
set_option linter.unusedVariables false
set_option linter.unusedSimpArgs false
theorem look_none {α:Type}:∀ {l:List (Nat × α)} {t:Nat},(∀ q,q ∈ l → q.1 ≠ t) → look l t = none
 | [],_,_=>rfl
 | (k,x) :: l,t,h=>by
  simp only [look]
  have:(k == t) = false:=by simpa using h (k,x) (by simp)
  rw [this]
  exact look_none fun q hq=>h q (by simp [hq])
theorem look_app {α:Type}:∀ (l m:List (Nat × α)) (t:Nat),look (l ++ m) t = (match look l t with
 | some x=>some x
 | none=>look m t)
 | [],m,t=>rfl
 | (k,x) :: l,m,t=>by
  simp only [List.cons_append,look]
  cases k == t with
  | true=>rfl
  | false=>exact look_app l m t
theorem upd_updP {α:Type} (f:Nat → Option α) (d:Option Nat) (x:α):upd f d x = updP f ((d.map fun d=>(d,x)).toList):=by
 cases d with
 | none=>rfl
 | some d =>
  funext t
  simp only [upd,updP,Option.map_some,Option.toList_some,look]
  by_cases e:t = d
  ·subst e; simp
  ·have:(d == t) = false:=by simpa using fun e'=>e e'.symm
   rw [this,if_neg e]
   rfl
theorem updh_updP (f:Nat → Option HB) (e:List (Nat × HB)):updh f e = updP f e:=by
 funext t
 unfold updh updP
 cases look e t <;> rfl
section
variable {α:Type} {pr:TE → List (Nat × α)} {T:List TE} {f0:Nat → Option α}
theorem updP_at (f:Nat → Option α) (e:List (Nat × α)) (t:Nat) (h:∀ q,q ∈ e → q.1 ≠ t):updP f e t = f t:=by
 unfold updP
 rw [look_none h]
theorem updP_in (f g:Nat → Option α) (e:List (Nat × α)) (t:Nat) (h:∃ q,q ∈ e ∧ q.1 = t):updP f e t = updP g e t:=by
 unfold updP
 cases hl:look e t with
 | some x=>rfl
 | none =>
  exfalso
  obtain ⟨q,h1,h2⟩:=h
  clear f g
  induction e with
  | nil=>simp at h1
  | cons p e ih =>
   obtain ⟨k,y⟩:=p
   simp only [look] at hl
   cases hk:k == t with
   | true=>rw [hk] at hl; cases hl
   | false =>
    rw [hk] at hl
    rcases List.mem_cons.1 h1 with rfl | h1
    ·simp only at h2
     subst h2
     simp at hk
    ·exact ih hl h1
theorem gS_agree {listed listed':Nat → Bool} (t:Nat):∀ n,(∀ m te q,m < n → T[m]? = some te → q ∈ pr te → q.1 = t → listed m = listed' m) → gS pr T listed f0 n t = gS pr T listed' f0 n t
 | 0,_=>rfl
 | n + 1,h=>by
  have ih:=gS_agree (listed:=listed) (listed':=listed') t n fun m te q hm=>h m te q (by omega)
  simp only [gS]
  cases hT:T[n]? with
  | none=>simp only [ite_self]; exact ih
  | some te =>
   show (if listed n = true then updP (gS pr T listed f0 n) (pr te) else gS pr T listed f0 n) t = (if listed' n = true then updP (gS pr T listed' f0 n) (pr te) else gS pr T listed' f0 n) t
   by_cases hq:∃ q,q ∈ pr te ∧ q.1 = t
   ·obtain ⟨q,h1,h2⟩:=hq
    rw [h n te q (by omega) hT h1 h2]
    split
    ·exact updP_in _ _ _ _ ⟨q,h1,h2⟩
    ·exact ih
   ·have hno:∀ f,updP f (pr te) t = f t:=fun f=>updP_at f _ t fun q h1 h2=>hq ⟨q,h1,h2⟩
    split <;> split <;> first | (rw [hno,hno]; exact ih) | (rw [hno]; exact ih) | exact ih
theorem gS_prefix (k : Nat) : ∀ n, k ≤ n → gS pr T (fun m => decide (m < k)) f0 n = gS pr T (fun _ => true) f0 k := by
  intro n
  induction n with
  | zero => intro h; have : k = 0 := by omega
            subst this; rfl
  | succ n ih =>
    intro h
    by_cases e : k = n + 1
    · subst e
      funext t
      refine gS_agree t _ fun m te q hm _ _ _ => ?_
      simp [hm]
    · rw [← ih (by omega)]
      simp only [gS]
      rw [if_neg (by simp; omega)]
theorem gS_add {listed listed':Nat → Bool} {k:Nat} {te:TE} (hk:listed k = false) (hk':listed' k = true) (ho:∀ m,m ≠ k → listed' m = listed m) (hT:T[k]? = some te):∀ n,k < n →
 (∀ m te' q q',k < m → m < n → listed m = true → T[m]? = some te' → q' ∈ pr te' → q ∈ pr te → q.1 ≠ q'.1) → gS pr T listed' f0 n = updP (gS pr T listed f0 n) (pr te)
 | 0,h,_=>by omega
 | n + 1,h,hd=>by
  by_cases e:k = n
  ·subst e
   have e1:gS pr T listed' f0 k = gS pr T listed f0 k:=by
    funext t
    exact gS_agree t k fun m _ _ hm _ _ _=>ho m (by omega)
   simp only [gS,hk,hk',if_true,hT,e1,Bool.false_eq_true,if_false]
  ·have ih:=gS_add hk hk' ho hT n (by omega) fun m te' q q' h1 h2=>hd m te' q q' h1 (by omega)
   simp only [gS]
   rw [ho n (by omega),ih]
   split
   ·rename_i hl
    cases hT':T[n]? with
    | none=>rfl
    | some te' =>
     simp only
     funext t
     by_cases hq:∃ q,q ∈ pr te ∧ q.1 = t
     ·obtain ⟨q,q1,q2⟩:=hq
      rw [updP_at _ (pr te') t fun q' h1 h2=>hd n te' q q' (by omega) (by omega) hl hT' h1 q1 (q2.trans h2.symm)]
      exact updP_in _ _ _ _ ⟨q,q1,q2⟩
     ·rw [updP_at _ (pr te) t fun q h1 h2=>hq ⟨q,h1,h2⟩]
      by_cases hq':∃ q,q ∈ pr te' ∧ q.1 = t
      ·exact updP_in _ _ _ _ hq'
      ·have hno:∀ f,updP f (pr te') t = f t:=fun f=>updP_at f _ t fun q h1 h2=>hq' ⟨q,h1,h2⟩
       rw [hno,hno,updP_at _ (pr te) t fun q h1 h2=>hq ⟨q,h1,h2⟩]
   ·rfl
theorem gS_append (T':List TE) (listed:Nat → Bool):∀ n,n ≤ T.length → gS pr (T ++ T') listed f0 n = gS pr T listed f0 n
 | 0,_=>rfl
 | n + 1,h=>by
  simp only [gS,gS_append T' listed n (by omega),List.getElem?_append_left (show n < T.length by omega)]
end
def edgeMask (acc:List Nat) (o:Oper):Nat:=o.after.foldl (fun s e=>if Region.binds .any e then s ||| 2 ^ e.on ||| acc.getD e.on 0 else s) 0
theorem edgeMask_bit (acc:List Nat) (es:List Edge):∀ (s i:Nat),(es.foldl (fun s e=>if Region.binds .any e then s ||| 2 ^ e.on ||| acc.getD e.on 0 else s) s).testBit i = true →
 s.testBit i = true ∨ ∃ e ∈ es,Region.binds .any e = true ∧ (i = e.on ∨ (acc.getD e.on 0).testBit i = true):=by
 induction es with
 | nil=>intro s i h; exact .inl h
 | cons e es ih =>
  intro s i h
  simp only [List.foldl_cons] at h
  rcases ih _ i h with h | ⟨e',h1,h2,h3⟩
  ·split at h
   ·rename_i hb
    simp only [Nat.testBit_or,Bool.or_eq_true] at h
    rcases h with (h | h) | h
    ·exact .inl h
    ·refine .inr ⟨e,by simp,hb,.inl ?_⟩
     rw [Nat.testBit_two_pow] at h
     exact (by simpa using h:e.on = i).symm
    ·exact .inr ⟨e,by simp,hb,.inr h⟩
   ·exact .inl h
  ·exact .inr ⟨e',by simp [h1],h2,h3⟩
theorem masks_go:∀ (l:List Oper) (acc:List Nat),∃ ms,l.foldl (fun acc o=>acc ++ [o.after.foldl (fun s e=>if Region.binds .any e then s ||| 2 ^ e.on ||| acc.getD e.on 0 else s) 0]) acc = acc ++ ms ∧ ms.length = l.length ∧
 ∀ k o,l[k]? = some o → ms[k]? = some (edgeMask (acc ++ ms.take k) o)
 | [],acc=>⟨[],by simp,rfl,fun k o h=>by simp at h⟩
 | o :: l,acc=>by
  obtain ⟨ms,h1,h2,h3⟩:=masks_go l (acc ++ [edgeMask acc o])
  refine ⟨edgeMask acc o :: ms,?_,by simp [h2],fun k o' hk=>?_⟩
  ·simp only [List.foldl_cons]
   unfold edgeMask at h1 ⊢
   rw [h1]
   simp
  ·cases k with
   | zero=>simp at hk; subst hk; simp
   | succ k =>
    simp at hk
    have:=h3 k o' hk
    simpa [List.append_assoc] using this
theorem masks_bit {ops:List Oper} {k i m:Nat} {o:Oper} (ho:ops[k]? = some o) (hm:(masks ops)[k]? = some m) (h:m.testBit i = true) :
 ∃ e ∈ o.after.toList,Region.binds .any e = true ∧ (i = e.on ∨ (e.on < k ∧ ∃ m',(masks ops)[e.on]? = some m' ∧ m'.testBit i = true)):=by
 obtain ⟨ms,h1,h2,h3⟩:=masks_go ops []
 have e0:masks ops = ms:=by unfold masks; rw [h1]; rfl
 rw [e0] at hm ⊢
 have:=h3 k o ho
 rw [hm] at this
 cases this
 unfold edgeMask at h
 rw [← Array.foldl_toList] at h
 rcases edgeMask_bit _ _ _ _ h with h | ⟨e,he,hb,h⟩
 ·simp at h
 ·refine ⟨e,he,hb,?_⟩
  rcases h with h | h
  ·exact .inl h
  ·right
   simp only [List.nil_append,List.getD_eq_getElem?_getD] at h
   cases hx:(ms.take k)[e.on]? with
   | none=>rw [hx] at h; simp at h
   | some m' =>
    rw [hx] at h
    have hlt:=(List.getElem?_eq_some_iff.1 hx).1
    rw [List.length_take] at hlt
    rw [List.getElem?_take,if_pos (by omega)] at hx
    exact ⟨by omega,m',hx,h⟩
theorem ordered_pair {ops:List Oper} {T:List TE} (h:ordered ops T = true) {i k:Nat} (hik:i < k) (hk:k < ops.length):∃ oi ok a b m,ops[i]? = some oi ∧ ops[k]? = some ok ∧ T[i]? = some a ∧ T[k]? = some b ∧ (masks ops)[k]? = some m ∧
 (m.testBit i = true ∨ apartTE (looksAt ops oi) (looksAt ops ok) a b = true):=by
 unfold ordered at h
 simp only [Bool.and_eq_true,List.all_eq_true] at h
 have h1:=h.2 k (List.mem_range.2 hk) i (List.mem_range.2 hik)
 split at h1
 ·rename_i oi ok a b m e1 e2 e3 e4 e5
  exact ⟨oi,ok,a,b,m,e1,e2,e3,e4,e5,by simpa [Bool.or_eq_true] using h1⟩
 ·cases h1
theorem ordered_edge {ops:List Oper} {T:List TE} (h:ordered ops T = true) {k:Nat} {o:Oper} (ho:ops[k]? = some o) {e:Edge} (he:e ∈ o.after.toList) (hb:Region.binds .any e = true):e.on < k:=by
 unfold ordered at h
 simp only [Bool.and_eq_true,List.all_eq_true] at h
 have hmem:(o,k) ∈ ops.zipIdx:=by
  refine List.mem_of_getElem? (i:=k) ?_
  rw [List.getElem?_zipIdx,ho]
  simp
 have:=h.1 (o,k) hmem
 simp only [Array.all_eq_true_iff_forall_mem] at this
 have:=this e (by simpa using he)
 rw [hb] at this
 simpa using this
theorem apart_tm {la lb:List Nat} {a b:TE} (h:apartTE la lb a b = true):(∀ d,a.d = some d → d ∉ lb ∧ b.d ≠ some d) ∧ (∀ d,b.d = some d → d ∉ la):=by
 unfold apartTE at h
 simp only [Bool.and_eq_true] at h
 obtain ⟨⟨⟨h1,h2⟩,h3⟩,h4⟩:=h
 refine ⟨fun d hd=>?_,fun d hd=>?_⟩
 ·rw [hd] at h1; simpa using h1
 ·rw [hd] at h2; simpa using h2
theorem apart_hp {la lb:List Nat} {a b:TE} (h:apartTE la lb a b = true):(∀ x ∈ a.h,x.1 ∉ b.rd ∧ ∀ y ∈ b.h,x.1 ≠ y.1) ∧ (∀ y ∈ b.h,y.1 ∉ a.rd):=by
 unfold apartTE at h
 simp only [Bool.and_eq_true] at h
 obtain ⟨⟨⟨h1,h2⟩,h3⟩,h4⟩:=h
 rw [List.all_eq_true] at h3 h4
 refine ⟨fun x hx=>?_,fun y hy=>?_⟩
 ·have:=h3 x hx
  simp only [Bool.and_eq_true,Bool.not_eq_true',List.contains_eq_mem,decide_eq_false_iff_not,List.all_eq_true,bne_iff_ne] at this
  exact this
 ·have:=h4 y hy
  simpa using this
def togo (n:Nat) (listed:Nat → Bool):Nat:=(List.range n).countP fun i=>!listed i
theorem togo_step {n k:Nat} {listed listed':Nat → Bool} (hk:k < n) (h0:listed k = false) (h1:listed' k = true) (ho:∀ m,m ≠ k → listed' m = listed m):togo n listed = togo n listed' + 1:=by
 unfold togo
 induction n with
 | zero=>omega
 | succ n ih =>
  simp only [List.range_succ,List.countP_append,List.countP_cons,List.countP_nil]
  by_cases e:k = n
  ·subst e
   have:(List.range k).countP (fun i=>!listed i) = (List.range k).countP (fun i=>!listed' i):=by
    refine List.countP_congr fun i hi=>?_
    rw [ho i (by have:=List.mem_range.1 hi; omega)]
   rw [this,h0,h1]
   simp
  ·rw [ih (by omega),ho n (by omega)]
   omega
theorem togo_zero {n:Nat} {listed:Nat → Bool} (h:togo n listed = 0):∀ k,k < n → listed k = true:=by
 intro k hk
 unfold togo at h
 rw [List.countP_eq_zero] at h
 have:=h k (List.mem_range.2 hk)
 simpa using this
section
variable {P:Program} {G:Tab} {E:Env} {ρ:List PV} {Q:Exit → Act → World → Prop} {nj0:Nat} {ops:Array Oper} {T:List TE} {tm0:Nat → Option SV} {hp0:Nat → Option HB}
theorem prT_mem {te:TE} {q:Nat × SV} (h:q ∈ prT te):∃ d,te.d = some d ∧ q = (d,te.s):=by
 unfold prT at h
 cases hd:te.d with
 | none=>rw [hd] at h; simp at h
 | some d=>rw [hd] at h; exact ⟨d,rfl,by simpa using h⟩
def Stands (P:Program) (G:Tab) (E:Env) (ρ:List PV) (nj0:Nat) (ops:Array Oper) (T:List TE) (tm0:Nat → Option SV) (hp0:Nat → Option HB) (listed:Nat → Bool) (a:Act) (w:World):Prop :=
 ∃ β,Sim E ρ β (tmS T listed tm0 ops.size) (hpS T listed hp0 ops.size) a w ∧ ∀ j,β j ≠ none → j < nj0 ∨ ∃ k,j = nj0 + k ∧ k < ops.size ∧ listed k = true
theorem stands_step (hm:P.follows .mixedOrders = true) (hlen:T.length = ops.size) (hT:Told P G ops.toList E.N nj0 ρ tm0 hp0 T) {listed listed':Nat → Bool} {k:Nat} (hk:k < ops.size) (h0:listed k = false) (h1:listed' k = true) (hot:∀ m,m ≠ k → listed' m = listed m)
 (hpre:∀ te te' m,T[k]? = some te → T[m]? = some te' → m ≠ k → m < ops.size → ∀ o,ops[k]? = some o →
  ((∀ d,te'.d = some d → d ∈ looksAt ops.toList o → listed m = decide (m < k)) ∧ (∀ x,x ∈ te'.h → x.1 ∈ te.rd → listed m = decide (m < k))) ∧
  (k < m → listed m = true → (∀ d,te.d = some d → te'.d ≠ some d) ∧ (∀ x y,x ∈ te.h → y ∈ te'.h → x.1 ≠ y.1)))
 {a:Act} {w:World} (hS:Stands P G E ρ nj0 ops T tm0 hp0 listed a w) {K:Act → World → Prop} (hK:∀ a' w',Stands P G E ρ nj0 ops T tm0 hp0 listed' a' w' → K a' w'):wpOp P ops Q k K a w:=by
 obtain ⟨β,hs,hβ⟩:=hS
 obtain ⟨o,ho⟩:∃ o,ops[k]? = some o:=⟨ops[k],Array.getElem?_eq_getElem hk⟩
 obtain ⟨te,ht⟩:∃ te,T[k]? = some te:=⟨T[k]'(by omega),List.getElem?_eq_getElem _⟩
 obtain ⟨tmr,hr,hD⟩:=hT k o te (by simpa using ho) ht
 have hj:β (nj0 + k) = none:=by
  cases hx:β (nj0 + k) with
  | none=>rfl
  | some b =>
   rcases hβ (nj0 + k) (by rw [hx]; simp) with h | ⟨k',h2,_,h3⟩
   ·omega
   ·have:k' = k:=by omega
    subst this
    rw [h0] at h3
    cases h3
 have hself:∀ d,te.d = some d → ∀ m,m = k → listed m = decide (m < k):=by
  rintro d _ m rfl
  rw [h0]
  simp
 have agree_tm:∀ t,t ∈ looksAt ops.toList o → tmS T listed tm0 ops.size t = tmS T (fun _=>true) tm0 k t:=by
  intro t htl
  have e1:tmS T (fun _=>true) tm0 k = tmS T (fun m=>decide (m < k)) tm0 ops.size:=(gS_prefix k ops.size (by omega)).symm
  rw [e1]
  refine gS_agree t ops.size fun m te' q hmn hTm hq hqt=>?_
  obtain ⟨d,hd,rfl⟩:=prT_mem hq
  simp only at hqt
  subst hqt
  by_cases e:m = k
  ·subst e; rw [h0]; simp
  ·exact (hpre te te' m ht hTm e hmn o ho).1.1 d hd htl
 have agree_hp:∀ j,j ∈ te.rd → hpS T listed hp0 ops.size j = hpS T (fun _=>true) hp0 k j:=by
  intro j hrd
  have e1:hpS T (fun _=>true) hp0 k = hpS T (fun m=>decide (m < k)) hp0 ops.size:=(gS_prefix k ops.size (by omega)).symm
  rw [e1]
  refine gS_agree j ops.size fun m te' q hmn hTm hq hqt=>?_
  by_cases e:m = k
  ·subst e; rw [h0]; simp
  ·exact (hpre te te' m ht hTm e hmn o ho).1.2 q hq (by rw [hqt]; exact hrd)
 refine did_op hm ho hs (fun t s htl hts=>?_) agree_hp hD hj fun β' a' w' hs' hβ'=>hK a' w' ⟨β',?_,fun j hj'=>?_⟩
 ·obtain ⟨s0,h2,h3⟩:=hr t s hts
  exact ⟨s0,by rw [agree_tm t htl]; exact h2,h3⟩
 ·have e1:tmS T listed' tm0 ops.size = upd (tmS T listed tm0 ops.size) te.d te.s:=by
   rw [upd_updP]
   refine gS_add h0 h1 hot ht ops.size hk fun m te' q q' hkm hmn hl hTm hq' hq=>?_
   obtain ⟨d,hd,rfl⟩:=prT_mem hq
   obtain ⟨d',hd',rfl⟩:=prT_mem hq'
   simp only
   intro e
   subst e
   exact ((hpre te te' m ht hTm (by omega) hmn o ho).2 hkm hl).1 d hd hd'
  have e2:hpS T listed' hp0 ops.size = updh (hpS T listed hp0 ops.size) te.h:=by
   rw [updh_updP]
   refine gS_add h0 h1 hot ht ops.size hk fun m te' q q' hkm hmn hl hTm hq' hq=>?_
   exact ((hpre te te' m ht hTm (by omega) hmn o ho).2 hkm hl).2 q q' hq hq'
  rw [e1,e2]
  exact hs'
 ·rcases hβ' j hj' with h | h
  ·rcases hβ j h with h | ⟨k',h2,h3,h4⟩
   ·exact .inl h
   ·refine .inr ⟨k',h2,h3,?_⟩
    by_cases e:k' = k
    ·rw [e]; exact h1
    ·rw [hot k' e]; exact h4
  ·exact .inr ⟨k,h,hk,h1⟩
theorem reg_seq (hm:P.follows .mixedOrders = true) (hlen:T.length = ops.size) (hT:Told P G ops.toList E.N nj0 ρ tm0 hp0 T) (hQ:∀ a w,Stands P G E ρ nj0 ops T tm0 hp0 (fun _=>true) a w → Q .normal a w) :
 ∀ (r k:Nat),k + r = ops.size → ∀ a w,Stands P G E ρ nj0 ops T tm0 hp0 (fun m=>decide (m < k)) a w → wpOps P ops Q ((List.range r).map (k + ·)) a w:=by
 intro r
 induction r with
 | zero =>
  intro k hk a w hS
  refine hQ a w ?_
  obtain ⟨β,h1,h2⟩:=hS
  have e:∀ m,m < ops.size → decide (m < k) = true:=fun m hm=>by simp; omega
  refine ⟨β,?_,fun j hj=>?_⟩
  ·have e1:tmS T (fun _=>true) tm0 ops.size = tmS T (fun m=>decide (m < k)) tm0 ops.size:=by
    funext t; exact (gS_agree t _ fun m _ _ hm _ _ _=>(e m hm).symm)
   have e2:hpS T (fun _=>true) hp0 ops.size = hpS T (fun m=>decide (m < k)) hp0 ops.size:=by
    funext t; exact (gS_agree t _ fun m _ _ hm _ _ _=>(e m hm).symm)
   rw [e1,e2]; exact h1
  ·rcases h2 j hj with h | ⟨k',h3,h4,_⟩
   ·exact .inl h
   ·exact .inr ⟨k',h3,h4,rfl⟩
 | succ r ih =>
  intro k hk a w hS
  rw [List.range_succ_eq_map,List.map_cons,Nat.add_zero,List.map_map,wpOps_cons]
  refine stands_step hm hlen hT (listed':=fun m=>decide (m < k + 1)) (by omega) (by simp) (by simp) (fun m hm=>?_) (fun te te' m _ _ hne hmn o _=>⟨⟨fun _ _ _=>rfl,fun _ _ _=>rfl⟩,fun hkm hl=>?_⟩) hS fun a' w' hS'=>?_
  ·simp only [decide_eq_decide]; omega
  ·simp at hl; omega
  ·have:=ih (k + 1) (by omega) a' w' hS'
   have e:(List.range r).map ((fun x=>k + x) ∘ Nat.succ) = (List.range r).map (k + 1 + ·):=by
    refine List.map_congr_left fun x _=>?_
    simp only [Function.comp]
    omega
   rw [e]
   exact this
end
end Gv
namespace Gv
open Go Go.RowKit
set_option linter.unusedVariables false
set_option linter.unusedSimpArgs false
section
variable {P:Program} {G:Tab} {E:Env} {ρ:List PV} {Q:Exit → Act → World → Prop} {nj0:Nat} {ops:Array Oper} {T:List TE} {tm0:Nat → Option SV} {hp0:Nat → Option HB}
def Down (ops:Array Oper) (listed:Nat → Bool):Prop:=∀ k o,ops[k]? = some o → listed k = true → ∀ e ∈ o.after.toList,Region.binds .any e = true → listed e.on = true
theorem down_mask {listed:Nat → Bool} (hd:Down ops listed):∀ (k:Nat) (o:Oper) (m i:Nat),ops[k]? = some o → (masks ops.toList)[k]? = some m → m.testBit i = true → (∀ e ∈ o.after.toList,Region.binds .any e = true → listed e.on = true) → listed i = true:=by
 intro k
 induction k using Nat.strongRecOn with
 | _ k ih =>
  intro o m i ho hm hb hpre
  obtain ⟨e,he,hbn,h⟩:=masks_bit (by simpa using ho) hm hb
  rcases h with rfl | ⟨hlt,m',hm',hb'⟩
  ·exact hpre e he hbn
  ·have hl:=hpre e he hbn
   have hsz:e.on < ops.size:=by
    have:=(Array.getElem?_eq_some_iff.1 ho).1
    omega
   exact ih e.on hlt ops[e.on] m' i (Array.getElem?_eq_getElem hsz) hm' hb' (hd e.on _ (Array.getElem?_eq_getElem hsz) hl)
theorem reg_any (hm:P.follows .mixedOrders = true) (hlen:T.length = ops.size) (hT:Told P G ops.toList E.N nj0 ρ tm0 hp0 T) (hord:ordered ops.toList T = true) (hQ:∀ a w,Stands P G E ρ nj0 ops T tm0 hp0 (fun _=>true) a w → Q .normal a w) :
 ∀ (fuel:Nat) (ls:Array Bool),ls.size = ops.size → togo ops.size (fun m=>ls.getD m false) ≤ fuel → Down ops (fun m=>ls.getD m false) → ∀ a w,Stands P G E ρ nj0 ops T tm0 hp0 (fun m=>ls.getD m false) a w → wpAny P .any ops Q fuel ls a w:=by
 have hdone:∀ (ls:Array Bool),(∀ m,m < ops.size → ls.getD m false = true) → ∀ a w,Stands P G E ρ nj0 ops T tm0 hp0 (fun m=>ls.getD m false) a w → Q .normal a w:=by
  intro ls hall a w hS
  refine hQ a w ?_
  obtain ⟨β,h1,h2⟩:=hS
  refine ⟨β,?_,fun j hj=>?_⟩
  ·have e1:tmS T (fun _=>true) tm0 ops.size = tmS T (fun m=>ls.getD m false) tm0 ops.size:=by
    funext t; exact gS_agree t _ fun m _ _ hm _ _ _=>(hall m hm).symm
   have e2:hpS T (fun _=>true) hp0 ops.size = hpS T (fun m=>ls.getD m false) hp0 ops.size:=by
    funext t; exact gS_agree t _ fun m _ _ hm _ _ _=>(hall m hm).symm
   rw [e1,e2]; exact h1
  ·rcases h2 j hj with h | ⟨k',h3,h4,_⟩
   ·exact .inl h
   ·exact .inr ⟨k',h3,h4,rfl⟩
 have hready:∀ (ls:Array Bool) (i:Nat),i ∈ Region.ready .any ops ls ↔ i < ops.size ∧ ls.getD i true = false ∧ ∀ o,ops[i]? = some o → ∀ e ∈ o.after.toList,Region.binds .any e = true → ls.getD e.on false = true:=by
  intro ls i
  unfold Region.ready
  simp only [List.mem_filter,List.mem_range,Bool.and_eq_true,Bool.not_eq_true']
  constructor
  ·rintro ⟨h1,h2,h3⟩
   refine ⟨h1,h2,fun o ho e he hb=>?_⟩
   rw [ho] at h3
   simp only [Option.map_some,Option.getD_some,Array.all_eq_true_iff_forall_mem,Bool.or_eq_true,Bool.not_eq_true'] at h3
   rcases h3 e (by simpa using he) with h | h
   ·rw [hb] at h; cases h
   ·exact h
  ·rintro ⟨h1,h2,h3⟩
   refine ⟨h1,h2,?_⟩
   rw [Array.getElem?_eq_getElem h1]
   simp only [Option.map_some,Option.getD_some,Array.all_eq_true_iff_forall_mem,Bool.or_eq_true,Bool.not_eq_true']
   intro e he
   by_cases hb:Region.binds .any e = true
   ·exact .inr (h3 _ (Array.getElem?_eq_getElem h1) e (by simpa using he) hb)
   ·exact .inl (by simpa using hb)
 have hnone:∀ (ls:Array Bool),ls.size = ops.size → Region.ready .any ops ls = [] → ∀ m,m < ops.size → ls.getD m false = true:=by
  intro ls hsz hr m
  induction m using Nat.strongRecOn with
  | _ m ih =>
   intro hmn
   cases hx:ls.getD m false with
   | true=>rfl
   | false =>
    exfalso
    have hx':ls.getD m true = false:=by
     have:m < ls.size:=by omega
     simp [Array.getD,this] at hx ⊢
     exact hx
    have:m ∈ Region.ready .any ops ls:=(hready ls m).2 ⟨hmn,hx',fun o ho e he hb=>by
     have hlt:=ordered_edge hord (by simpa using ho:ops.toList[m]? = some o) he hb
     exact ih e.on hlt (by omega)⟩
    rw [hr] at this
    simp at this
 intro fuel
 induction fuel with
 | zero =>
  intro ls hsz hf hd a w hS
  have hall:=togo_zero (Nat.le_zero.1 hf)
  refine ⟨?_,hdone ls hall a w hS⟩
  apply List.eq_nil_iff_forall_not_mem.2
  intro i hi
  obtain ⟨h1,h2,_⟩:=(hready ls i).1 hi
  have:=hall i h1
  have hlt:i < ls.size:=by omega
  simp only [Array.getD,hlt,dite_true] at this h2
  rw [this] at h2
  cases h2
 | succ fuel ih =>
  intro ls hsz hf hd a w hS
  refine ⟨fun hr=>hdone ls (hnone ls hsz hr) a w hS,fun k hk=>?_⟩
  obtain ⟨h1,h2,h3⟩:=(hready ls k).1 hk
  have hklt:k < ls.size:=by omega
  have h0:(fun m=>ls.getD m false) k = false:=by
   simp only [Array.getD,hklt,dite_true] at h2 ⊢
   exact h2
  have h1':(fun m=>(ls.setIfInBounds k true).getD m false) k = true:=by
   simp [Array.getD,hklt]
  have hot:∀ m,m ≠ k → (fun m=>(ls.setIfInBounds k true).getD m false) m = (fun m=>ls.getD m false) m:=by
   intro m hne
   simp only [Array.getD_eq_getD_getElem?,Array.getElem?_setIfInBounds_ne (Ne.symm hne)]
  obtain ⟨ok,hok⟩:∃ o,ops[k]? = some o:=⟨ops[k],Array.getElem?_eq_getElem h1⟩
  refine stands_step hm hlen hT h1 h0 h1' hot (fun te te' m ht ht' hne hmn o ho=>?_) hS fun a' w' hS'=>?_
  ·rw [hok] at ho
   cases ho
   by_cases hmk:m < k
   ·obtain ⟨oi,ok',x,y,msk,e1,e2,e3,e4,e5,h⟩:=ordered_pair hord hmk (by simpa using h1)
    have e2':ok' = ok:=by simp at e2; rw [hok] at e2; exact (Option.some.inj e2).symm
    subst e2'
    rw [ht] at e4
    cases e4
    rw [ht'] at e3
    cases e3
    rcases h with h | h
    ·have hl:ls.getD m false = true:=down_mask hd k ok' msk m hok e5 h (h3 ok' hok)
     exact ⟨⟨fun _ _ _=>by simp only [hl]; simp [hmk],fun _ _ _=>by simp only [hl]; simp [hmk]⟩,fun hkm=>by omega⟩
    ·refine ⟨⟨fun d hd1 hd2=>absurd hd2 ((apart_tm h).1 d hd1).1,fun z hz hrd=>absurd hrd ((apart_hp h).1 z hz).1⟩,fun hkm=>by omega⟩
   ·have hkm:k < m:=by omega
    obtain ⟨oi,ok',x,y,msk,e1,e2,e3,e4,e5,h⟩:=ordered_pair hord hkm (by simpa using hmn)
    have e1':oi = ok:=by simp at e1; rw [hok] at e1; exact (Option.some.inj e1).symm
    subst e1'
    rw [ht] at e3
    cases e3
    rw [ht'] at e4
    cases e4
    rcases h with h | h
    ·have hl:ls.getD m false = false:=by
      cases hx:ls.getD m false with
      | false=>rfl
      | true =>
       have:=down_mask hd m ok' msk k (by simpa using e2) e5 h (hd m ok' (by simpa using e2) hx)
       simp only at this h0
       rw [h0] at this
       cases this
     refine ⟨⟨fun _ _ _=>by simp only [hl]; simp; omega,fun _ _ _=>by simp only [hl]; simp; omega⟩,fun _ hlm=>?_⟩
     rw [hl] at hlm
     cases hlm
    ·refine ⟨⟨fun d hd1 hd2=>absurd hd2 ((apart_tm h).2 d hd1),fun z hz hrd=>absurd hrd ((apart_hp h).2 z hz)⟩,fun _ _=>⟨fun d hd1=>((apart_tm h).1 d hd1).2,fun z y hz hy=>((apart_hp h).1 z hz).2 y hy⟩⟩
  ·refine ih _ (by simp [hsz]) ?_ ?_ a' w' hS'
   ·have:=togo_step h1 h0 h1' hot
    omega
   ·intro m o ho hl e he hb
    by_cases e1:m = k
    ·subst e1
     have:=h3 o ho e he hb
     by_cases e2:e.on = m
     ·rw [e2]; exact h1'
     ·rw [hot _ e2]; exact this
    ·rw [hot _ e1] at hl
     have:=hd m o ho hl e he hb
     by_cases e2:e.on = k
     ·rw [e2]; exact h1'
     ·rw [hot _ e2]; exact this
end
end Gv
namespace Gv
open Go Go.RowKit
set_option linter.unusedVariables false
set_option linter.unusedSimpArgs false
section
variable {P:Program} {G:Tab} {ρ:List PV} {N nj0:Nat} {ops:List Oper} {tm0:Nat → Option SV} {hp0:Nat → Option HB} {R:PV → Prop} {C:List (List PV → Prop)}
theorem look_cons {α:Type} (l:List (Nat × α)) (k n:Nat) (x:α):look ((k,x) :: l) n = if n = k then some x else look l n:=by
 simp only [look]
 by_cases h:n = k
 ·subst h; simp
 ·rw [if_neg h]
  have:(k == n) = false:=by simpa using fun e=>h e.symm
  rw [this]; rfl
structure Sofar (P:Program) (G:Tab) (ops:List Oper) (N nj0:Nat) (tm0:Nat → Option SV) (hp0:Nat → Option HB) (ρ:List PV) (st:St) (T:List TE):Prop where
 tm:∀ t s,look st.tm t = some s → ∃ s0,tmS T (fun _=>true) tm0 T.length t = some s0 ∧ Refi ρ s0 s
 hp:∀ j,look st.hp j = hpS T (fun _=>true) hp0 T.length j
 told:Told P G ops N nj0 ρ tm0 hp0 T
 na:ρ.length = st.na
theorem tmS_snoc (T:List TE) (te:TE) (k:Nat) (hk:k ≤ T.length):tmS (T ++ [te]) (fun _=>true) tm0 k = tmS T (fun _=>true) tm0 k:=gS_append _ _ k hk
theorem hpS_snoc (T:List TE) (te:TE) (k:Nat) (hk:k ≤ T.length):hpS (T ++ [te]) (fun _=>true) hp0 k = hpS T (fun _=>true) hp0 k:=gS_append _ _ k hk
theorem tmS_last (T:List TE) (te:TE):tmS (T ++ [te]) (fun _=>true) tm0 (T ++ [te]).length = upd (tmS T (fun _=>true) tm0 T.length) te.d te.s:=by
 rw [upd_updP,List.length_append]
 show gS prT (T ++ [te]) (fun _=>true) tm0 (T.length + 1) = _
 simp only [gS,if_true]
 have e:(T ++ [te])[T.length]? = some te:=by simp
 rw [e]
 simp only
 rw [gS_append _ _ _ (Nat.le_refl _)]
 rfl
theorem hpS_last (T:List TE) (te:TE):hpS (T ++ [te]) (fun _=>true) hp0 (T ++ [te]).length = updh (hpS T (fun _=>true) hp0 T.length) te.h:=by
 rw [updh_updP,List.length_append]
 show gS prH (T ++ [te]) (fun _=>true) hp0 (T.length + 1) = _
 simp only [gS,if_true]
 have e:(T ++ [te])[T.length]? = some te:=by simp
 rw [e]
 simp only
 rw [gS_append _ _ _ (Nat.le_refl _)]
 rfl
theorem Told.snoc {T:List TE} {te:TE} {o:Oper} {tmr:Nat → Option SV} (h:Told P G ops N nj0 ρ tm0 hp0 T) (ho:ops[T.length]? = some o) (hr:∀ t s,tmr t = some s → ∃ s0,tmS T (fun _=>true) tm0 T.length t = some s0 ∧ Refi ρ s0 s)
 (hD:Did P G ops N nj0 ρ tmr (hpS T (fun _=>true) hp0 T.length) T.length o te):Told P G ops N nj0 ρ tm0 hp0 (T ++ [te]):=by
 intro k o' te' hk ht
 by_cases e:k < T.length
 ·rw [List.getElem?_append_left e] at ht
  rw [tmS_snoc T te k (by omega),hpS_snoc T te k (by omega)]
  exact h k o' te' hk ht
 ·have hlt:=(List.getElem?_eq_some_iff.1 ht).1
  simp at hlt
  have e:k = T.length:=by omega
  subst e
  rw [ho] at hk
  cases hk
  simp at ht
  subst ht
  rw [tmS_snoc T _ _ (Nat.le_refl _),hpS_snoc T _ _ (Nat.le_refl _)]
  exact ⟨tmr,hr,hD⟩
theorem Told.app {T:List TE} (h:Told P G ops N nj0 ρ tm0 hp0 T) (ρ':List PV):Told P G ops N nj0 (ρ ++ ρ') tm0 hp0 T:=by
 intro k o te ho ht
 obtain ⟨tmr,h1,h2⟩:=h k o te ho ht
 refine ⟨tmr,fun t s hts=>?_,h2.app ρ'⟩
 obtain ⟨s0,h3,h4⟩:=h1 t s hts
 exact ⟨s0,h3,h4.app⟩
theorem Sofar.app {st:St} {T:List TE} (h:Sofar P G ops N nj0 tm0 hp0 ρ st T) (ρ':List PV) (st':St) (h1:st'.tm = st.tm) (h2:st'.hp = st.hp) (h3:(ρ ++ ρ').length = st'.na):Sofar P G ops N nj0 tm0 hp0 (ρ ++ ρ') st' T :=
 ⟨fun t s ht=>by
  rw [h1] at ht
  obtain ⟨s0,h4,h5⟩:=h.tm t s ht
  exact ⟨s0,h4,h5.app⟩,by rw [h2]; exact h.hp,h.told.app ρ',h3⟩
theorem Sofar.know {st:St} {T:List TE} (h:Sofar P G ops N nj0 tm0 hp0 ρ st T) {t:Nat} {s:SV} {b:Bool} (hs:look st.tm t = some s) (hd:pv ρ s = .raw (.bool b)):Sofar P G ops N nj0 tm0 hp0 ρ { st with tm:=(t,.con (.bool b)) :: st.tm } T:=by
 refine ⟨fun u s' hu=>?_,h.hp,h.told,h.na⟩
 rw [look_cons] at hu
 split at hu
 ·rename_i e
  subst e
  cases hu
  obtain ⟨s0,h1,h2⟩:=h.tm u s hs
  refine ⟨s0,h1,.inr ⟨b,rfl,?_⟩⟩
  have hd':den ρ s = some (.raw (.bool b)):=by
   unfold pv at hd
   cases hx:den ρ s with
   | none=>rw [hx] at hd; simp [undef] at hd
   | some p=>rw [hx] at hd; simp at hd; rw [hd]
  rcases h2 with rfl | ⟨b',rfl,hd2⟩
  ·exact hd'
  ·simp only [den,pvOf,Option.some.injEq] at hd'
   rw [hd2,hd']
 ·exact h.tm u s' hu
theorem Sofar.step {st:St} {T:List TE} (h:Sofar P G ops N nj0 tm0 hp0 ρ st T) {o:Oper} {te:TE} {tm':List (Nat × SV)} {hp':List (Nat × HB)} {na':Nat} (ho:ops[T.length]? = some o) (hD:Did P G ops N nj0 ρ (look st.tm) (look st.hp) T.length o te)
 (h1:∀ t,look tm' t = upd (look st.tm) te.d te.s t) (h2:∀ j,look hp' j = updh (look st.hp) te.h j) (h3:ρ.length = na'):Sofar P G ops N nj0 tm0 hp0 ρ { tm:=tm',hp:=hp',na:=na',nj:=st.nj,nl:=st.nl } (T ++ [te]):=by
 have ehp:look st.hp = hpS T (fun _=>true) hp0 T.length:=funext h.hp
 refine ⟨fun t s ht=>?_,fun j=>?_,h.told.snoc ho h.tm (by rw [← ehp]; exact hD),h3⟩
 ·rw [tmS_last]
  have ht':upd (look st.tm) te.d te.s t = some s:=by rw [← h1]; exact ht
  cases hd:te.d with
  | none =>
   rw [hd] at ht'
   simp only [upd] at ht' ⊢
   exact h.tm t s ht'
  | some d =>
   rw [hd] at ht'
   simp only [upd] at ht' ⊢
   split at ht'
   ·rename_i e; cases ht'; rw [if_pos e]; exact ⟨_,rfl,.inl rfl⟩
   ·rename_i e; rw [if_neg e]; exact h.tm t s ht'
 ·rw [hpS_last,← ehp]
  exact h2 j
theorem vc_node {nd:Nd} {k:VC} (h:(nd.vc k).ok P R ρ C) (hw:nd.wf ρ.length = true):∃ rs,rs.length = nd.new ∧ NdOK P (ρ ++ rs) ρ.length nd ∧ k.ok P R (ρ ++ rs) C:=by
 cases nd with
 | none=>exact ⟨[],rfl,trivial,by rw [List.append_nil]; exact h⟩
 | call f args sh =>
  obtain ⟨r,h1,h2,h3⟩:=h
  exact ⟨[r],rfl,⟨r,by simp,by rw [wf_pvs ρ [r] (Nat.le_refl _) hw]; exact h1,h2⟩,h3⟩
 | callv fv args sh =>
  obtain ⟨r,h1,h2,h3⟩:=h
  simp only [Nd.wf,Bool.and_eq_true] at hw
  refine ⟨[r],rfl,⟨r,by simp,?_,h2⟩,h3⟩
  rw [wf_pvs ρ [r] (Nat.le_refl _) hw.2,show pv (ρ ++ [r]) fv = pv ρ fv by simp only [pv,wf_den ρ [r] (Nat.le_refl _) hw.1]]
  exact h1
 | prim p args =>
  obtain ⟨r,h1,h3⟩:=h
  exact ⟨[r],rfl,⟨r,by simp,by rw [wf_pvs ρ [r] (Nat.le_refl _) hw]; exact h1⟩,h3⟩
 | mk c n args =>
  refine ⟨[.sl (chunk c n (pvs ρ args))],rfl,?_,h⟩
  simp only [NdOK]
  rw [wf_pvs ρ _ (Nat.le_refl _) hw]
  simp
 | calln f e n args =>
  obtain ⟨es,h1,h3⟩:=h
  exact ⟨[.sl es],rfl,⟨es,by simp,by rw [wf_pvs ρ _ (Nat.le_refl _) hw]; exact h1⟩,h3⟩
 | callt f e n c args sh =>
  obtain ⟨es,es',r,h1,h2,h3,h4⟩:=h
  simp only [Nd.wf,Bool.and_eq_true] at hw
  exact ⟨[.tup [.sl es',r]],rfl,⟨es,es',r,by simp,by rw [show pv (ρ ++ _) c = pv ρ c by simp only [pv,wf_den ρ _ (Nat.le_refl _) hw.1]]; exact h1,by rw [wf_pvs ρ _ (Nat.le_refl _) hw.2]; exact h2,h3⟩,h4⟩
 | callb f e n c args =>
  obtain ⟨es,es',h1,h2,h4⟩:=h
  simp only [Nd.wf,Bool.and_eq_true] at hw
  exact ⟨[.sl es'],rfl,⟨es,es',by simp,by rw [show pv (ρ ++ _) c = pv ρ c by simp only [pv,wf_den ρ _ (Nat.le_refl _) hw.1]]; exact h1,by rw [wf_pvs ρ _ (Nat.le_refl _) hw.2]; exact h2⟩,h4⟩
def Behind (P:Program) (G:Tab) (ops:List Oper) (N nj0:Nat) (draw:Bool) (tm0:Nat → Option SV) (hp0:Nat → Option HB) (R:PV → Prop) (C:List (List PV → Prop)) (K:St → VC) (ρ:List PV) (nl:Nat):Prop :=
 ∃ rs T st,T.length = ops.length ∧ Sofar P G ops N nj0 tm0 hp0 (ρ ++ rs) st T ∧ (draw = true → ordered ops T = true) ∧ st.nj = nj0 + ops.length ∧ st.nl = nl ∧ (K st).ok P R (ρ ++ rs) C
theorem Behind.app {draw:Bool} {K:St → VC} {nl:Nat} {rs:List PV} (h:Behind P G ops N nj0 draw tm0 hp0 R C K (ρ ++ rs) nl):Behind P G ops N nj0 draw tm0 hp0 R C K ρ nl:=by
 obtain ⟨rs',T,st,h1,h2,h3,h4,h5,h6⟩:=h
 exact ⟨rs ++ rs',T,st,h1,by rw [← List.append_assoc]; exact h2,h3,h4,h5,by rw [← List.append_assoc]; exact h6⟩
theorem reg_trace {draw:Bool} {K:St → VC}:∀ (rest:List Oper) (T:List TE) (st:St) (ρ:List PV),ops.drop T.length = rest → T.length ≤ ops.length → Sofar P G ops N nj0 tm0 hp0 ρ st T →
 (regVC P G N ops draw nj0 K rest T.length st T).ok P R ρ C → Behind P G ops N nj0 draw tm0 hp0 R C K ρ st.nl
 | [],T,st,ρ,hd,hle,hS,h=>by
  have hlen:T.length = ops.length:=by
   have:=congrArg List.length hd
   simp at this
   omega
  simp only [regVC] at h
  split at h
  ·exact h.elim
  ·rename_i hc
   refine ⟨[],T,{ st with nj:=nj0 + T.length },hlen,?_,fun hdr=>?_,by simp [hlen],rfl,by rw [List.append_nil]; exact h⟩
   ·rw [List.append_nil]
    exact ⟨hS.tm,hS.hp,hS.told,hS.na⟩
   ·simp only [hdr,Bool.true_and,Bool.not_eq_true',Bool.not_eq_false] at hc
    simpa using hc
 | o :: rest,T,st,ρ,hd,hle,hS,h=>by
  have ho:ops[T.length]? = some o:=by
   have:(ops.drop T.length)[0]? = some o:=by rw [hd]; rfl
   simpa using this
  have hd':ops.drop (T.length + 1) = rest:=by
   rw [← List.drop_drop,hd]; rfl
  have hlt:T.length < ops.length:=(List.getElem?_eq_some_iff.1 ho).1
  -- passed over
  have skip:∀ st:St,Sofar P G ops N nj0 tm0 hp0 ρ st T → wantOf ops (look st.tm) o = .no →
   VC.ok P R (match o.dst with
    | some d=>if d < N then regVC P G N ops draw nj0 K rest (T.length + 1) { st with tm:=(d,.tup []) :: st.tm } (T ++ [⟨o.dst,.tup [],[],[]⟩]) else .bad
    | none=>regVC P G N ops draw nj0 K rest (T.length + 1) st (T ++ [⟨none,.tup [],[],[]⟩])) ρ C → Behind P G ops N nj0 draw tm0 hp0 R C K ρ st.nl:=by
   intro st hS hw h
   cases hdst:o.dst with
   | none =>
    rw [hdst] at h
    simp only at h
    have hS':=hS.step (te:=⟨none,.tup [],[],[]⟩) (tm':=st.tm) (hp':=st.hp) (na':=st.na) ho (.skip hw (by rw [hdst]; intro d hd; cases hd) (by rw [hdst])) (fun _=>rfl) (fun _=>rfl) hS.na
    exact reg_trace rest (T ++ [⟨none,.tup [],[],[]⟩]) st ρ (by simp [hd']) (by simp; omega) hS' (by simpa using h)
   | some d =>
    rw [hdst] at h
    simp only at h
    split at h
    ·rename_i hdN
     have hS':=hS.step (te:=⟨some d,.tup [],[],[]⟩) (tm':=(d,.tup []) :: st.tm) (hp':=st.hp) (na':=st.na) ho (.skip hw (by rw [hdst]; intro d' hd; cases hd; exact hdN) (by rw [hdst])) (fun t=>look_cons _ _ _ _) (fun _=>rfl) hS.na
     exact reg_trace rest (T ++ [⟨some d,.tup [],[],[]⟩]) { st with tm:=(d,.tup []) :: st.tm } ρ (by simp [hd']) (by simp; omega) hS' (by simpa using h)
    ·exact h.elim
  -- carried out
  have run':∀ st:St,Sofar P G ops N nj0 tm0 hp0 ρ st T → wantOf ops (look st.tm) o = .yes →
   VC.ok P R (match evalOps (look st.tm) o.op.operands.toList with
    | none=>.bad
    | some args=>match symOp' P G ((hread' P G o args).map (look st.hp)) st.na (nj0 + T.length) o args with
     | none=>.bad
     | some e=>if e.nd.wf st.na then
      let hp:=e.h ++ st.hp
      match o.dst with
      | some d=>if d < N then e.nd.vc (regVC P G N ops draw nj0 K rest (T.length + 1) { tm:=(d,e.s) :: st.tm,hp:=hp,na:=st.na + e.nd.new,nj:=st.nj,nl:=st.nl } (T ++ [⟨o.dst,e.s,e.h,hread' P G o args⟩])) else .bad
      | none=>e.nd.vc (regVC P G N ops draw nj0 K rest (T.length + 1) { tm:=st.tm,hp:=hp,na:=st.na + e.nd.new,nj:=st.nj,nl:=st.nl } (T ++ [⟨none,e.s,e.h,hread' P G o args⟩]))
      else .bad) ρ C → Behind P G ops N nj0 draw tm0 hp0 R C K ρ st.nl:=by
   intro st hS hw h
   cases ha:evalOps (look st.tm) o.op.operands.toList with
   | none=>rw [ha] at h; exact h.elim
   | some args =>
    rw [ha] at h
    simp only at h
    cases he:symOp' P G ((hread' P G o args).map (look st.hp)) st.na (nj0 + T.length) o args with
    | none=>rw [he] at h; exact h.elim
    | some e =>
     rw [he] at h
     simp only at h
     split at h
     ·rename_i hwf
      have hhp:∀ j,look (e.h ++ st.hp) j = updh (look st.hp) e.h j:=fun j=>by
       rw [look_app]
       unfold updh
       cases look e.h j <;> rfl
      have hna:=hS.na
      cases hdst:o.dst with
      | none =>
       rw [hdst] at h
       simp only at h
       obtain ⟨rs,h1,h2,h3⟩:=vc_node h (by rw [hna]; exact hwf)
       rw [hna] at h2
       have hS1:=hS.app rs { st with na:=st.na + e.nd.new } rfl rfl (by simp [hna,h1])
       have hS':=hS1.step (te:=⟨none,e.s,e.h,hread' P G o args⟩) (tm':=st.tm) (hp':=e.h ++ st.hp) (na':=st.na + e.nd.new) ho
        (.run hw (by rw [hdst]; intro d hd; cases hd) args ha st.na e he h2 hwf (by simp [hna]) (by rw [hdst])) (fun _=>rfl) hhp (by simp [hna,h1])
       exact Behind.app (reg_trace rest (T ++ [⟨none,e.s,e.h,hread' P G o args⟩]) { tm:=st.tm,hp:=e.h ++ st.hp,na:=st.na + e.nd.new,nj:=st.nj,nl:=st.nl } (ρ ++ rs) (by simp [hd']) (by simp; omega) hS' (by simpa using h3))
      | some d =>
       rw [hdst] at h
       simp only at h
       split at h
       ·rename_i hdN
        obtain ⟨rs,h1,h2,h3⟩:=vc_node h (by rw [hna]; exact hwf)
        rw [hna] at h2
        have hS1:=hS.app rs { st with na:=st.na + e.nd.new } rfl rfl (by simp [hna,h1])
        have hS':=hS1.step (te:=⟨some d,e.s,e.h,hread' P G o args⟩) (tm':=(d,e.s) :: st.tm) (hp':=e.h ++ st.hp) (na':=st.na + e.nd.new) ho
         (.run hw (by rw [hdst]; intro d' hd; cases hd; exact hdN) args ha st.na e he h2 hwf (by simp [hna]) (by rw [hdst])) (fun t=>look_cons _ _ _ _) hhp (by simp [hna,h1])
        exact Behind.app (reg_trace rest (T ++ [⟨some d,e.s,e.h,hread' P G o args⟩]) { tm:=(d,e.s) :: st.tm,hp:=e.h ++ st.hp,na:=st.na + e.nd.new,nj:=st.nj,nl:=st.nl } (ρ ++ rs) (by simp [hd']) (by simp; omega) hS' (by simpa using h3))
       ·exact h.elim
     ·exact h.elim
  -- a bool is told apart ahead
  have run:∀ st:St,Sofar P G ops N nj0 tm0 hp0 ρ st T → wantOf ops (look st.tm) o = .yes →
   VC.ok P R (let run' (st:St):VC:=match evalOps (look st.tm) o.op.operands.toList with
    | none=>.bad
    | some args=>match symOp' P G ((hread' P G o args).map (look st.hp)) st.na (nj0 + T.length) o args with
     | none=>.bad
     | some e=>if e.nd.wf st.na then
      let hp:=e.h ++ st.hp
      match o.dst with
      | some d=>if d < N then e.nd.vc (regVC P G N ops draw nj0 K rest (T.length + 1) { tm:=(d,e.s) :: st.tm,hp:=hp,na:=st.na + e.nd.new,nj:=st.nj,nl:=st.nl } (T ++ [⟨o.dst,e.s,e.h,hread' P G o args⟩])) else .bad
      | none=>e.nd.vc (regVC P G N ops draw nj0 K rest (T.length + 1) { tm:=st.tm,hp:=hp,na:=st.na + e.nd.new,nj:=st.nj,nl:=st.nl } (T ++ [⟨none,e.s,e.h,hread' P G o args⟩]))
      else .bad
    match pickOf (look st.tm) o.op with
    | none=>run' st
    | some (t,s)=>.ite s (run' { st with tm:=(t,.con (.bool true)) :: st.tm }) (run' { st with tm:=(t,.con (.bool false)) :: st.tm })) ρ C → Behind P G ops N nj0 draw tm0 hp0 R C K ρ st.nl:=by
   intro st hS hw h
   simp only at h
   split at h
   ·exact run' st hS hw h
   ·rename_i t s hp
    obtain ⟨hs,hne⟩:look st.tm t = some s ∧ ∀ b,s ≠ .con (.bool b):=by
     unfold pickOf at hp
     split at hp
     ·split at hp
      ·cases hp
      ·rename_i s' hnb hs'
       split at hp
       ·cases hp; exact ⟨hs',fun b e=>hnb b e⟩
       ·cases hp
      ·cases hp
     ·cases hp
    obtain ⟨b,hb,ht,hf⟩:=h
    have hw':∀ b,wantOf ops (look ((t,.con (.bool b)) :: st.tm)) o = .yes:=by
     intro b
     unfold wantOf at hw ⊢
     cases hg:o.guard with
     | none=>rfl
     | some q =>
      obtain ⟨g,want⟩:=q
      rw [hg] at hw
      simp only at hw ⊢
      cases ht0:(ops[g]?).bind (·.dst) with
      | none=>rw [ht0] at hw; cases hw
      | some t0 =>
       rw [ht0] at hw
       simp only at hw ⊢
       split at hw
       ·rename_i b0 hb0
        have:t0 ≠ t:=fun e=>by subst e; rw [hs] at hb0; exact hne b0 (Option.some.inj hb0)
        rw [look_cons,if_neg this,hb0]
        simp only
        exact hw
       ·cases hw
       ·split at hw <;> cases hw
       ·cases hw
    cases b
    ·exact run' { st with tm:=(t,.con (.bool false)) :: st.tm } (hS.know hs hb) (hw' false) (hf rfl)
    ·exact run' { st with tm:=(t,.con (.bool true)) :: st.tm } (hS.know hs hb) (hw' true) (ht rfl)
  simp only [regVC] at h
  split at h
  ·rename_i hw; exact run st hS hw h
  ·rename_i hw; exact skip st hS hw h
  ·rename_i t s want hw
   obtain ⟨g,hg,ht,hs⟩:∃ g,o.guard = some (g,want) ∧ (ops[g]?).bind (·.dst) = some t ∧ look st.tm t = some s:=by
    unfold wantOf at hw
    split at hw
    ·cases hw
    ·rename_i g want' hg
     split at hw
     ·rename_i t0 ht0
      split at hw
      ·split at hw <;> cases hw
      ·cases hw
      ·rename_i s0 _ _ hs0
       split at hw
       ·cases hw; exact ⟨g,hg,ht0,hs0⟩
       ·cases hw
      ·cases hw
     ·cases hw
   have hwant:∀ b,wantOf ops (look ((t,.con (.bool b)) :: st.tm)) o = if b == want then .yes else .no:=by
    intro b
    unfold wantOf
    rw [hg]
    simp only [ht,look_cons,if_true]
   obtain ⟨b,hb,h1,h2⟩:=h
   cases b
   ·have h2:=h2 rfl
    have hS':=hS.know hs hb
    by_cases e:(false == want) = true
    ·rw [if_pos e] at h2
     exact run { st with tm:=(t,.con (.bool false)) :: st.tm } hS' (by rw [hwant,if_pos e]) h2
    ·rw [if_neg e] at h2
     exact skip { st with tm:=(t,.con (.bool false)) :: st.tm } hS' (by rw [hwant,if_neg e]) h2
   ·have h1:=h1 rfl
    have hS':=hS.know hs hb
    by_cases e:(true == want) = true
    ·rw [if_pos e] at h1
     exact run { st with tm:=(t,.con (.bool true)) :: st.tm } hS' (by rw [hwant,if_pos e]) h1
    ·rw [if_neg e] at h1
     exact skip { st with tm:=(t,.con (.bool true)) :: st.tm } hS' (by rw [hwant,if_neg e]) h1
  ·exact h.elim
end
end Gv
namespace Gv
open Go Go.RowKit
set_option linter.unusedVariables false
set_option linter.unusedSimpArgs false
theorem valSame_eq {v u:Value} (h:valSame v u = true):v = u:=by
 unfold valSame at h
 split at h
 ·simp only [Bool.and_eq_true,beq_iff_eq] at h; rw [h.1,h.2]
 ·simp only [beq_iff_eq] at h; rw [h]
 ·rfl
 ·rename_i a b
  simp only [beq_iff_eq] at h
  cases a; cases b
  simp only at h
  rw [h]
 ·rfl
 ·cases h
theorem fnSame_eq {f g:Go.Fn} (h:fnSame f g = true):f = g:=by
 unfold fnSame at h
 split at h
 ·simp only [beq_iff_eq] at h; rw [h]
 ·cases h
mutual
theorem same_eq:∀ {s t:SV},s.same t = true → s = t
 | .at n,t,h=>by cases t <;> simp [SV.same] at h; rw [h]
 | .con v,t,h=>by cases t <;> simp [SV.same] at h; rw [valSame_eq h]
 | .cel s i,t,h=>by cases t <;> simp [SV.same] at h; rw [h.1,same_eq h.2]
 | .ext s i,t,h=>by cases t <;> simp [SV.same] at h; rw [h.1,same_eq h.2]
 | .agg l,t,h=>by cases t <;> simp [SV.same] at h; rw [sames_eq h]
 | .tup l,t,h=>by cases t <;> simp [SV.same] at h; rw [sames_eq h]
 | .clo fn fs cs,t,h=>by cases t <;> simp [SV.same] at h; rw [fnSame_eq h.1.1,sames_eq h.1.2,sames_eq h.2]
 | .box j o,t,h=>by cases t <;> simp [SV.same] at h; rw [h.1,h.2]
 | .mapp j,t,h=>by cases t <;> simp [SV.same] at h; rw [h]
 | .row j v,t,h=>by cases t <;> simp [SV.same] at h; rw [h.1,h.2]
 | .elt j v k i o,t,h=>by cases t <;> simp [SV.same] at h; rw [h.1.1.1.1,h.1.1.1.2,h.1.1.2,h.1.2,same_eq h.2]
 | .ref l,t,h=>by cases t <;> simp [SV.same] at h; rw [sames_eq h]
 | .vw j v k a b,t,h=>by cases t <;> simp [SV.same] at h; rw [h.1.1.1.1,h.1.1.1.2,h.1.1.2,same_eq h.1.2,same_eq h.2]
theorem sames_eq:∀ {l m:List SV},SV.sames l m = true → l = m
 | [],m,h=>by cases m <;> simp [SV.sames] at h; rfl
 | s :: l,m,h=>by
  cases m with
  | nil=>simp [SV.sames] at h
  | cons t m=>simp [SV.sames] at h; rw [same_eq h.1,sames_eq h.2]
end
theorem wfs_mem {n j:Nat}:∀ {l:List SV},SV.wfs n j l = true → ∀ (k:Nat) (s:SV),l[k]? = some s → s.wf n j = true
 | [],_,k,s,h=>by simp at h
 | t :: l,hw,k,s,h=>by
  simp only [SV.wfs,Bool.and_eq_true] at hw
  cases k with
  | zero=>simp at h; subst h; exact hw.1
  | succ k=>simp at h; exact wfs_mem hw.2 k s h
section
variable {P:Program} {E:Env} {ρ0 ρ1 ρ2:List PV} {β β':Nat → Option Loc} {w:World} {W W':Nat → Prop}
theorem RepS.old {s:SV} {v:Value} {nj:Nat} (hb:∀ j b,j < nj → β j = some b → β' j = some b) (hk:∀ b,W b → W' b) (h:RepS (ρ0 ++ ρ1) β w W s v):s.wf ρ0.length nj = true → RepS (ρ0 ++ ρ2) β' w W' s v:=by
 induction h with
 | pure s p v hd hf hr hn =>
  intro hw
  refine .pure s p v ?_ hf (hr.mono hk) hn
  rw [wf_den ρ0 ρ2 (Nat.le_refl _) hw,← wf_den ρ0 ρ1 (Nat.le_refl _) hw]
  exact hd
 | box j off b h=>intro hw; simp only [SV.wf,decide_eq_true_eq] at hw; exact .box j off b (hb j _ hw h)
 | mapp j b h=>intro hw; simp only [SV.wf,decide_eq_true_eq] at hw; exact .mapp j b (hb j _ hw h)
 | row j v A n c h=>intro hw; simp only [SV.wf,Bool.and_eq_true,decide_eq_true_eq] at hw; exact .row j v A n c (hb v _ hw.2 h)
 | elt j v k i off n kk ad l c h hi =>
  intro hw
  simp only [SV.wf,Bool.and_eq_true,decide_eq_true_eq] at hw
  refine .elt j v k i off n kk ad l c (hb v _ hw.1.2 h) ?_
  rw [wf_den ρ0 ρ2 (Nat.le_refl _) hw.2,← wf_den ρ0 ρ1 (Nat.le_refl _) hw.2]
  exact hi
 | vw j v k lo len A A' n c c' x y h h1 h2 hle hA =>
  intro hw
  simp only [SV.wf,Bool.and_eq_true,decide_eq_true_eq] at hw
  refine .vw j v k lo len A A' n c c' x y (hb v _ hw.1.1.2 h) ?_ ?_ hle hA
  ·rw [wf_den ρ0 ρ2 (Nat.le_refl _) hw.1.2,← wf_den ρ0 ρ1 (Nat.le_refl _) hw.1.2]
   exact h1
  ·rw [wf_den ρ0 ρ2 (Nat.le_refl _) hw.2,← wf_den ρ0 ρ1 (Nat.le_refl _) hw.2]
   exact h2
 | agg l vs hl hf hr ih=>intro hw; simp only [SV.wf] at hw; exact .agg l vs hl hf fun j s hj=>ih j s hj (wfs_mem hw j s hj)
 | tup l vs hl hr ih=>intro hw; simp only [SV.wf] at hw; exact .tup l vs hl fun j s hj=>ih j s hj (wfs_mem hw j s hj)
 | clo fn fs cs fv cv hl hl' hr hr' ih ih' =>
  intro hw
  simp only [SV.wf,Bool.and_eq_true] at hw
  exact .clo fn fs cs fv cv hl hl' (fun j s hj=>ih j s hj (wfs_mem hw.1 j s hj)) (fun j s hj=>ih' j s hj (wfs_mem hw.2 j s hj))
end
theorem look_mem {α:Type}:∀ {l:List (Nat × α)} {k:Nat} {x:α},look l k = some x → (k,x) ∈ l
 | [],k,x,h=>by simp [look] at h
 | (k',y) :: l,k,x,h=>by
  rw [look_cons] at h
  split at h
  ·rename_i e; cases h; subst e; simp
  ·simp [look_mem h]
theorem look_append {α:Type}:∀ {l m:List (Nat × α)} {k:Nat} {x:α},look (l ++ m) k = some x → look l k = some x ∨ look m k = some x
 | [],m,k,x,h=>.inr h
 | (k',y) :: l,m,k,x,h=>by
  rw [List.cons_append,look_cons] at h
  rw [look_cons]
  split at h
  ·rename_i e; rw [if_pos e]; exact .inl h
  ·rename_i e; rw [if_neg e]; exact look_append h
theorem posOf_at {q:Nat × Nat}:∀ {l:List (Nat × Nat)} {x:Nat},posOf q l = some x → l[x]? = some q
 | [],x,h=>by simp [posOf] at h
 | p :: l,x,h=>by
  simp only [posOf] at h
  split at h
  ·rename_i e
   cases h
   simp only [Bool.and_eq_true,beq_iff_eq] at e
   simp
   exact Prod.ext e.1 e.2
  ·rw [Option.map_eq_some_iff] at h
   obtain ⟨y,hy,rfl⟩:=h
   simp
   exact posOf_at hy
theorem mapM_at {α β:Type} {f:α → Option β}:∀ {l:List α} {r:List β},l.mapM f = some r → l.length = r.length ∧ ∀ (k:Nat) (x:α),l[k]? = some x → ∃ y,r[k]? = some y ∧ f x = some y
 | [],r,h=>by simp at h; subst h; exact ⟨rfl,fun k x h=>by simp at h⟩
 | a :: l,r,h=>by
  simp only [List.mapM_cons,Option.bind_eq_bind,Option.pure_def] at h
  cases hx:f a with
  | none=>simp [hx] at h
  | some y =>
   cases hl:l.mapM f with
   | none=>simp [hx,hl] at h
   | some ys =>
    simp [hx,hl] at h
    subst h
    obtain ⟨h1,h2⟩:=mapM_at hl
    refine ⟨by simp [h1],fun k x hk=>?_⟩
    cases k with
    | zero=>simp at hk; subst hk; exact ⟨y,by simp,hx⟩
    | succ k=>simp at hk; simpa using h2 k x hk
section
variable {P:Program} {E:Env} {ρ0 ρ1:List PV} {β:Nat → Option Loc} {a:Act} {w:World}
theorem pv_val {ρ:List PV} {W:Nat → Prop} {s:SV} {v:Value} (h:RepS ρ β w W s v) (h1:s.one = true) (h2:s.pure = true):den ρ s = some (pv ρ s) ∧ (pv ρ s).flat = true ∧ Rep w W (pv ρ s) v:=by
 obtain ⟨p,hd⟩:=h.den1 h2
 rw [pv_of hd]
 exact ⟨hd,(h.rep hd).flat' (h.flat h1),h.rep hd⟩
theorem rowIx_at {j:Nat}:∀ {l:List RowT} {x:Nat},rowIx j l = some x → ∃ r,l[x]? = some r ∧ r.j = j
 | [],x,h=>by simp [rowIx] at h
 | r :: l,x,h=>by
  simp only [rowIx] at h
  split at h
  ·rename_i e; cases h; exact ⟨r,rfl,by simpa using e⟩
  ·rw [Option.map_eq_some_iff] at h
   obtain ⟨y,hy,rfl⟩:=h
   simpa using rowIx_at hy
theorem Pl.same_eq {p q:Pl} (h:p.same q = true):p = q:=by
 cases p <;> cases q <;> simp [Pl.same] at h
 ·rw [h]
 ·rw [h.1,h.2]
theorem plIx_at {p:Pl}:∀ {l:List RowT} {x:Nat},plIx p l = some x → ∃ r,l[x]? = some r ∧ r.pl = p
 | [],x,h=>by simp [plIx] at h
 | r :: l,x,h=>by
  simp only [plIx] at h
  split at h
  ·rename_i e; cases h; exact ⟨r,rfl,Pl.same_eq e⟩
  ·rw [Option.map_eq_some_iff] at h
   obtain ⟨y,hy,rfl⟩:=h
   simpa using plIx_at hy
theorem rowTm_at {t:Nat} {s:SV}:∀ {l:List RowT} {v:Nat},(t,s) ∈ rowTm l v → ∃ x r,l[x]? = some r ∧ r.pl = .t t ∧ s = .row r.j (v + x)
 | [],v,h=>by simp [rowTm] at h
 | r :: l,v,h=>by
  simp only [rowTm] at h
  have key:(t,s) ∈ rowTm l (v + 1) → ∃ x r',(r :: l)[x]? = some r' ∧ r'.pl = .t t ∧ s = .row r'.j (v + x):=by
   intro h
   obtain ⟨x,r',h1,h2,h3⟩:=rowTm_at h
   exact ⟨x + 1,r',by simpa using h1,h2,by rw [h3]; congr 1; omega⟩
  split at h
  ·rename_i n hn
   simp only [List.mem_cons,Prod.mk.injEq] at h
   rcases h with ⟨rfl,rfl⟩ | h
   ·exact ⟨0,r,rfl,hn,rfl⟩
   ·exact key h
  ·exact key h
theorem rowNow_inv {st:St} {r:RowT} {v:Nat} {c:SV} (h:rowNow st r = some (v,c)):∃ j,rowJ st r = some j ∧ getPl st r.pl = some (.row j v) ∧ look st.hp j = some (.row v r.e r.k c):=by
 unfold rowNow at h
 split at h
 ·rename_i j v0 hg
  split at h
  ·rename_i v' e k c' hh
   split at h
   ·rename_i hc
    obtain ⟨rfl,rfl,rfl⟩:=hc
    cases h
    exact ⟨j,by unfold rowJ; rw [hg],hg,hh⟩
   ·cases h
  ·cases h
 ·cases h
theorem rowsOk_inv {nj1:Nat} {st:St} {rows:List RowT} (h:rowsOk nj1 st rows = true) {x:Nat} {r:RowT} (hx:rows[x]? = some r) :
 ∃ j,rowJ st r = some j ∧ (j = r.j ∨ nj1 ≤ j) ∧ ∀ (y:Nat) (r':RowT),y < x → rows[y]? = some r' → rowJ st r' ≠ some j:=by
 unfold rowsOk at h
 have hlt:=(List.getElem?_eq_some_iff.1 hx).1
 have h1:=(List.all_eq_true.1 h) x (List.mem_range.2 hlt)
 rw [hx] at h1
 simp only at h1
 split at h1
 ·rename_i j hj
  rw [Bool.and_eq_true,Bool.or_eq_true,beq_iff_eq,decide_eq_true_iff] at h1
  refine ⟨j,hj,h1.1,fun y r' hy hr' e=>?_⟩
  have h2:=(List.all_eq_true.1 h1.2) y (List.mem_range.2 hy)
  rw [hr'] at h2
  simp only [e] at h2
  simp at h2
 ·cases h1
theorem RepS.rerow {ρ ρ':List PV} {β β':Nat → Option Loc} {w:World} {W W':Nat → Prop} {j j' v v':Nat} {val:Value} (h:RepS ρ β w W (.row j v) val) (hb:β' v' = β v):RepS ρ' β' w W' (.row j' v') val:=by
 cases h with
 | pure s p v hd hf hr hn=>simp [den] at hd
 | row _ _ A n c h=>exact .row _ _ A n c (by rw [hb]; exact h)
def headβ (st:St) (l:LoopAt) (β:Nat → Option Loc):Nat → Option Loc:=fun i=>if i < l.nj1 then β i else ((l.rows[i - l.nj1]?).bind (rowNow st)).bind fun q=>β q.1
theorem headβ_lt {st:St} {l:LoopAt} {i:Nat} (h:headβ st l β i ≠ none):i < l.nj1 + l.rows.length:=by
 unfold headβ at h
 split at h
 ·omega
 ·rename_i hlt
  cases hx:l.rows[i - l.nj1]? with
  | none=>rw [hx] at h; simp at h
  | some r =>
   have:=(List.getElem?_eq_some_iff.1 hx).1
   omega
theorem ixOf_at {j:Nat}:∀ {l:List Nat} {x:Nat},ixOf j l = some x → l[x]? = some j
 | [],x,h=>by simp [ixOf] at h
 | i :: l,x,h=>by
  simp only [ixOf] at h
  split at h
  ·rename_i e
   simp only [beq_iff_eq] at e
   cases h
   simp [e]
  ·rw [Option.map_eq_some_iff] at h
   obtain ⟨y,h1,rfl⟩:=h
   simpa using ixOf_at h1
theorem wsNow_inv {st:St} {j:Nat} {c:SV} (h:wsNow st j = some c):∃ v e k,look st.hp j = some (.row v e k c):=by
 unfold wsNow at h
 split at h
 ·rename_i v e k c' hh
  cases h
  exact ⟨v,e,k,hh⟩
 ·cases h
theorem froOf_row {h:Nat → Option HB} {j v:Nat} {c:SV} (hc:rowOf v (froOf h j) = some c):h j = some (.fro v c):=by
 unfold froOf at hc
 split at hc
 ·rename_i v' c' hh
  simp only [rowOf] at hc
  split at hc
  ·rename_i e; cases hc; subst e; exact hh
  ·cases hc
 ·simp [rowOf] at hc
 ·simp [rowOf] at hc
theorem froOf_box {h:Nat → Option HB} {j:Nat} {cs:List SV} (hc:boxOf (froOf h j) = some cs):∃ t,h j = some (.fbx cs t):=by
 unfold froOf at hc
 split at hc
 ·simp [boxOf] at hc
 ·rename_i cs' t hh
  simp only [boxOf] at hc
  split at hc
  ·cases hc; exact ⟨t,hh⟩
  ·cases hc
 ·simp [boxOf] at hc
theorem Sh.same_eq {a b:Sh} (h:a.same b = true):a = b:=by
 cases a <;> cases b <;> simp [Sh.same] at h <;> first | rfl | rw [h]
theorem shsSame_eq:∀ {l m:List Sh},shsSame l m = true → l = m
 | [],[],_=>rfl
 | [],_ :: _,h=>by simp [shsSame] at h
 | _ :: _,[],h=>by simp [shsSame] at h
 | a :: l,b :: m,h=>by
  simp only [shsSame,Bool.and_eq_true] at h
  rw [Sh.same_eq h.1,shsSame_eq h.2]
theorem shape_rep {ρ ρ':List PV} {β':Nat → Option Loc} {W':Nat → Prop} {W:Nat → Prop} {s:SV} {v:Value} {m:Nat} (h:RepS ρ β w W s v) (h1:s.isTup = false) (h2:s.pure = true) (hd:den ρ' (.at m) = some (pv ρ s)) (hW:∀ b,W b → W' b) :
 RepS ρ' β' w W' (expand (.at m) s.shape) v:=by
 obtain ⟨p,hp⟩:=h.den1 h2
 rw [pv_of hp] at hd
 have hr:=h.rep hp
 refine expand_rep rfl hd ?_ (hr.mono hW)
 have one:s.one = true → fits .sc p = true:=fun h3=>hr.flat' (h.flat h3)
 cases s with
 | agg l =>
  simp only [den,Option.map_eq_some_iff] at hp
  obtain ⟨ps,h3,rfl⟩:=hp
  obtain ⟨h4,_⟩:=dens_some h3
  simp [SV.shape,fits,h4]
 | tup l=>simp [SV.isTup] at h1
 | _=>exact one rfl
set_option maxHeartbeats 1000000 in
theorem head_sim {st:St} {l:LoopAt} {vs:List SV} (hS:Sim E (ρ0 ++ ρ1) β (look st.tm) (look st.hp) a w) (hh:headOk ρ0.length l = true) (hb:backOk l st = true) (hv:varsOf st l.ann l.rows = some vs) (hsh:shsSame ((vs.take l.ann.ts.length).map SV.shape) l.shs = true) (hn0:∀ v,E.hd0 = some v → 0 < l.nj1) :
 Sim E (ρ0 ++ pvs (ρ0 ++ ρ1) vs) (headβ st l β) (look (headTm ρ0.length l)) (look l.hp) a w:=by
 unfold headOk at hh
 unfold backOk at hb
 obtain ⟨hb3,hb⟩:=(Bool.and_eq_true ..).mp (by rw [Bool.and_assoc] at hb; exact hb)
 simp only [Bool.and_eq_true,List.all_eq_true] at hh hb
 obtain ⟨hh1,hh2⟩:=hh
 obtain ⟨hb1,hb2⟩:=hb
 unfold varsOf at hv
 split at hv
 ·rename_i va0 vb vc vd ha0 hbv hcv hdv
  split at hv
  ·rename_i hall
   cases hv
   simp only [Bool.and_eq_true] at hall
   obtain ⟨hall0,hall⟩:=hall
   obtain ⟨la0,ka0⟩:=mapM_at ha0
   obtain ⟨lb,kb⟩:=mapM_at hbv
   obtain ⟨lc,kc⟩:=mapM_at hcv
   obtain ⟨ld,kd⟩:=mapM_at hdv
   have hmelt:MeltOK (ρ0 ++ ρ1) β w (Ok E (look st.hp) β) (froOf (look st.hp)):=hS.meltOK (fun j v c h=>froOf_row h) (fun j cs h=>froOf_box h)
   generalize hva:SV.melts (froOf (look st.hp)) va0 = va at *
   have la:l.ann.ts.length = va.length:=by rw [← hva,melts_map,List.length_map]; exact la0
   have ka:∀ (k t:Nat),l.ann.ts[k]? = some t → ∃ s,va[k]? = some s ∧ RepS (ρ0 ++ ρ1) β w (Ok E (look st.hp) β) s (a.tmps.getD t undef):=by
    intro k t hk
    obtain ⟨s,h1,h2⟩:=ka0 k t hk
    exact ⟨s.melt (froOf (look st.hp)),by rw [← hva,melts_map,List.getElem?_map,h1]; rfl,(hS.tmr t s h2).melt hmelt⟩
   have hshs:va.map SV.shape = l.shs:=by
    have:=shsSame_eq hsh
    rw [la,List.take_left] at this
    exact this
   have hβ:∀ j b,j < l.nj1 → β j = some b → headβ st l β j = some b:=by
    intro j b hj e
    simp only [headβ,hj,if_true]
    exact e
   have hrow:∀ (x:Nat) (r:RowT),l.rows[x]? = some r → ∃ j v c,vc[x]? = some (v,c) ∧ getPl st r.pl = some (.row j v) ∧ look st.hp j = some (.row v r.e r.k c) ∧ headβ st l β (l.nj1 + x) = β v ∧ rowJ st r = some j:=by
    intro x r hx
    obtain ⟨⟨v,c⟩,h1,h2⟩:=kc x r hx
    obtain ⟨j,h0,h3,h4⟩:=rowNow_inv h2
    refine ⟨j,v,c,h1,h3,h4,?_,h0⟩
    unfold headβ
    rw [if_neg (by omega),show l.nj1 + x - l.nj1 = x by omega,hx]
    simp only [Option.bind_some,h2]
   have hown:∀ j b,Owns (headβ st l β) (look l.hp) j b → ∃ m,Owns β (look st.hp) m b ∧ ((∃ (x:Nat) (r:RowT),l.rows[x]? = some r ∧ r.j = j ∧ rowJ st r = some m) ∨ (m = j ∧ j < l.nj1)):=by
    rintro j b ⟨x,hx,ho⟩
    have hm:=look_mem hx
    have h1:=hh2 _ hm
    have h2:=hb2 _ hm
    simp only [Bool.and_eq_true,decide_eq_true_eq] at h1
    have hlt:∀ y,headβ st l β j = some y → β j = some y:=by
     intro y hy
     simpa only [headβ,h1.1,if_true] using hy
    cases x with
    | box cs t =>
     simp only at h2
     split at h2 <;> first | (cases ‹HB.box _ _ = HB.mp _›; done) | (cases ‹HB.box _ _ = HB.row _ _ _ _›; done) | (cases ‹HB.box _ _ = HB.fro _ _›; done) | (cases ‹HB.box _ _ = HB.fbx _ _›; done) | (cases h2; done) | skip
     rename_i hst
     exact ⟨j,⟨_,hst,hlt _ ho⟩,.inr ⟨rfl,h1.1⟩⟩
    | mp es =>
     simp only at h2
     split at h2 <;> first | (cases ‹HB.mp _ = HB.box _ _›; done) | (cases ‹HB.mp _ = HB.row _ _ _ _›; done) | (cases ‹HB.mp _ = HB.fro _ _›; done) | (cases ‹HB.mp _ = HB.fbx _ _›; done) | (cases h2; done) | skip
     rename_i hst
     exact ⟨j,⟨_,hst,hlt _ ho⟩,.inr ⟨rfl,h1.1⟩⟩
    | fro v s=>exact ho.elim
    | fbx cs t=>exact ho.elim
    | row v e k s =>
     have h3:=h1.2
     simp only at h3
     split at h3
     ·rename_i x hxi
      obtain ⟨r,hr1,hr2⟩:=rowIx_at hxi
      rw [hr1] at h3
      simp only [Bool.and_eq_true,beq_iff_eq] at h3
      obtain ⟨m,v0,c,_,_,h6,h7,h8⟩:=hrow x r hr1
      obtain ⟨val,k1,k2⟩:=ho
      rw [h3.1.1.1,h7] at k1
      exact ⟨m,⟨_,h6,val,k1,k2⟩,.inl ⟨x,r,hr1,hr2,h8⟩⟩
     ·split at h3
      ·rename_i x hwi
       have hmem:=ixOf_at hwi
       simp only [Bool.and_eq_true,decide_eq_true_eq] at h3
       have hcon:l.ann.ws.contains j = true:=by simpa using List.mem_of_getElem? hmem
       simp only at h2
       rw [if_pos hcon] at h2
       split at h2
       ·rename_i v' e' k' c' hst
        simp only [Bool.and_eq_true,beq_iff_eq] at h2
        obtain ⟨⟨rfl,rfl⟩,rfl⟩:=h2
        obtain ⟨val,k1,k2⟩:=ho
        exact ⟨j,⟨_,hst,val,by simpa only [headβ,h3.1,if_true] using k1,k2⟩,.inr ⟨rfl,h1.1⟩⟩
       ·cases h2
      ·cases h3
   have hok:∀ b,Ok E (look st.hp) β b → Ok E (look l.hp) (headβ st l β) b:=by
    rintro b ⟨h1,h2⟩
    refine ⟨h1,fun j hj=>?_⟩
    obtain ⟨m,hm,_⟩:=hown j b hj
    exact h2 m hm
   have hinj:∀ j j' c,Owns (headβ st l β) (look l.hp) j c → Owns (headβ st l β) (look l.hp) j' c → j = j':=by
    intro j j' c hj hj'
    obtain ⟨m,hm,hmj⟩:=hown j c hj
    obtain ⟨m',hm',hmj'⟩:=hown j' c hj'
    have:=hS.inj m m' c hm hm'
    subst this
    rcases hmj with ⟨x,r,hx,rfl,hr⟩ | ⟨rfl,hlt⟩
    ·rcases hmj' with ⟨y,r',hy,rfl,hr'⟩ | ⟨rfl,hlt'⟩
     ·obtain ⟨_,_,_,hx3⟩:=rowsOk_inv hb3 hx
      obtain ⟨i1,hi1,_,hx3⟩:=rowsOk_inv hb3 hx
      obtain ⟨i2,hi2,_,hy3⟩:=rowsOk_inv hb3 hy
      rw [hr] at hi1
      rw [hr'] at hi2
      cases hi1
      cases hi2
      rcases Nat.lt_trichotomy x y with h | h | h
      ·exact absurd hr (hy3 x r h hx)
      ·subst h
       rw [hx] at hy
       cases hy
       rfl
      ·exact absurd hr' (hx3 y r' h hy)
     ·obtain ⟨i1,hi1,h,_⟩:=rowsOk_inv hb3 hx
      rw [hr] at hi1
      cases hi1
      rcases h with h | h
      ·exact h.symm
      ·omega
    ·rcases hmj' with ⟨y,r',hy,rfl,hr'⟩ | ⟨rfl,hlt'⟩
     ·obtain ⟨i1,hi1,h,_⟩:=rowsOk_inv hb3 hy
      rw [hr'] at hi1
      cases hi1
      rcases h with h | h
      ·exact h
      ·omega
     ·rfl
   -- the turned ones
   have hden:∀ (x:Nat) (s:SV),(va ++ (vb ++ vc.map (·.2) ++ vd))[x]? = some s → den (ρ0 ++ pvs (ρ0 ++ ρ1) (va ++ (vb ++ vc.map (·.2) ++ vd))) (.at (ρ0.length + x)) = some (pv (ρ0 ++ ρ1) s):=by
    intro x s hx
    simp only [den]
    rw [List.getElem?_append_right (by omega)]
    simp only [pvs,List.getElem?_map]
    rw [show ρ0.length + x - ρ0.length = x by omega,hx]
    rfl
   have hvar:∀ (x:Nat) (s:SV) (v:Value),(vb ++ vc.map (·.2) ++ vd)[x]? = some s → RepS (ρ0 ++ ρ1) β w (Ok E (look st.hp) β) s v → RepS (ρ0 ++ pvs (ρ0 ++ ρ1) (va ++ (vb ++ vc.map (·.2) ++ vd))) (headβ st l β) w (Ok E (look l.hp) (headβ st l β)) (.at (ρ0.length + (va.length + x))) v:=by
    intro x s v hx hr
    have hp:=(List.all_eq_true.1 hall) s (List.mem_of_getElem? hx)
    simp only [Bool.and_eq_true] at hp
    obtain ⟨h1,h2,h3⟩:=pv_val hr hp.1 hp.2
    exact .pure _ (pv (ρ0 ++ ρ1) s) v (hden (va.length + x) s (by rw [List.getElem?_append_right (by omega),show va.length + x - va.length = x by omega]; exact hx)) h2 (h3.mono hok) (fun e=>by cases e)
   refine ⟨hS.df,hS.nt,hS.bel,fun t s ht=>?_,fun j b hj=>?_,hinj,fun v hv=>hβ 0 _ (hn0 v hv) (hS.h0 v hv)⟩
   ·unfold headTm at ht
    rcases look_append ht with ht | ht
    ·rcases look_append ht with ht | ht
     ·have hm:=look_mem ht
      simp only [List.mem_map] at hm
      obtain ⟨⟨⟨t',sh⟩,i⟩,hm,e⟩:=hm
      cases e
      have hi:(l.ann.ts.zip l.shs)[i]? = some (t',sh):=by
       have:=List.mem_iff_getElem?.1 hm
       obtain ⟨k,hk⟩:=this
       rw [List.getElem?_zipIdx,Option.map_eq_some_iff] at hk
       obtain ⟨y,hy,e⟩:=hk
       cases e
       simpa using hy
      rw [List.getElem?_zip_eq_some] at hi
      obtain ⟨hi1,hi2⟩:=hi
      obtain ⟨s,hs1,hs2⟩:=ka i t' hi1
      rw [← hshs,List.getElem?_map,hs1] at hi2
      simp only [Option.map_some,Option.some.injEq] at hi2
      subst hi2
      have hp:=(List.all_eq_true.1 hall0) s (List.mem_of_getElem? hs1)
      simp only [Bool.and_eq_true,Bool.not_eq_true'] at hp
      have hil:=(List.getElem?_eq_some_iff.1 hs1).1
      exact shape_rep hs2 hp.1 hp.2 (hden i s (by rw [List.getElem?_append_left hil]; exact hs1)) hok
     ·obtain ⟨x,r,hr1,hr2,rfl⟩:=rowTm_at (look_mem ht)
      obtain ⟨_,v0,c,_,h5,h6,h7,_⟩:=hrow x r hr1
      rw [hr2] at h5
      exact (hS.tmr t _ h5).rerow h7
    ·have hm:=look_mem ht
     have h1:=hh1 _ hm
     have h2:=hb1 _ hm
     simp only at h1 h2
     split at h2
     ·rename_i s' hs'
      have:=same_eq h2
      subst this
      exact (hS.tmr t s hs').old hβ hok h1
     ·cases h2
   ·have hm:=look_mem hj
    have h1:=hh2 _ hm
    have h2:=hb2 _ hm
    cases b with
    | mp es =>
     simp only [Bool.and_eq_true,decide_eq_true_eq,List.all_eq_true] at h1 h2
     split at h2 <;> first | (cases ‹HB.mp _ = HB.box _ _›; done) | (cases ‹HB.mp _ = HB.row _ _ _ _›; done) | (cases ‹HB.mp _ = HB.fro _ _›; done) | (cases ‹HB.mp _ = HB.fbx _ _›; done) | (cases h2; done) | skip
     ·rename_i e1 es' he1 hst
      cases he1
      simp only [Bool.and_eq_true,beq_iff_eq,List.all_eq_true] at h2
      obtain ⟨hlen,h3⟩:=h2
      obtain ⟨b,ents,hb,hblk,hsz,hbase,hcell⟩:=hS.hpr j _ hst
      refine ⟨b,ents,hβ j _ h1.1 hb,by rw [hblk,hlen],by rw [hsz,hlen],hbase,fun i x y hx hy=>?_⟩
      have hilt:=(List.getElem?_eq_some_iff.1 hx).1
      obtain ⟨x',hx'⟩:∃ x',es'[i]? = some x':=⟨es'[i]'(by omega),List.getElem?_eq_getElem _⟩
      have h4:=h3 (x,x') (List.mem_of_getElem? (i:=i) (by simp [List.getElem?_zip_eq_some,hx,hx']))
      simp only at h4
      obtain ⟨k1,k2,k3⟩:=hcell i x' y hx' hy
      have e1:=valSame_eq h4.1
      have e2:=same_eq h4.2
      rw [← e1] at k1
      rw [← e2] at k3
      exact ⟨k1,k2,k3.old hβ hok (h1.2 _ (List.mem_of_getElem? hx))⟩
    | row v e k s =>
     have h3:=h1
     simp only [Bool.and_eq_true] at h3
     replace h3:=h3.2
     split at h3
     ·rename_i x hxi
      obtain ⟨r,hr1,hr2⟩:=rowIx_at hxi
      rw [hr1] at h3
      simp only [Bool.and_eq_true,beq_iff_eq] at h3
      obtain ⟨⟨⟨rfl,rfl⟩,rfl⟩,h3⟩:=h3
      have:=same_eq h3
      subst this
      obtain ⟨_,v0,c,h4,_,h6,h7,_⟩:=hrow x r hr1
      obtain ⟨val,es,k1,k2,_,k3⟩:=hS.hpr _ _ h6
      refine ⟨val,es,by rw [h7]; exact k1,?_,rfl,k3.keep (fun _ h=>h) (fun b hb _=>⟨hok b hb,rfl⟩) (fun _ _=>rfl)⟩
      have hcx:=(List.getElem?_eq_some_iff.1 h4).1
      have:=hden (va.length + (vb.length + x)) c (by rw [List.getElem?_append_right (by omega),show va.length + (vb.length + x) - va.length = vb.length + x by omega,List.getElem?_append_left (by rw [List.length_append,List.length_map]; omega),List.getElem?_append_right (by omega),show vb.length + x - vb.length = x by omega,List.getElem?_map,h4]; rfl)
      rw [show ρ0.length + l.ann.ts.length + l.ann.cs.length + x = ρ0.length + (va.length + (vb.length + x)) by omega,this,pv_of k2]
     ·split at h3
      ·rename_i x hwi
       have hmem:=ixOf_at hwi
       simp only [Bool.and_eq_true,decide_eq_true_eq] at h3
       obtain ⟨hvl,h3⟩:=h3
       have:=same_eq h3
       subst this
       have hcon:l.ann.ws.contains j = true:=by simpa using List.mem_of_getElem? hmem
       simp only at h2
       rw [if_pos hcon] at h2
       split at h2
       ·rename_i v' e' k' c' hst
        simp only [Bool.and_eq_true,beq_iff_eq] at h2
        obtain ⟨⟨rfl,rfl⟩,rfl⟩:=h2
        obtain ⟨c,hc1,hc2⟩:=kd x j hmem
        obtain ⟨v2,e2,k2',hst2⟩:=wsNow_inv hc2
        rw [hst] at hst2
        cases hst2
        obtain ⟨val,es,k1,k2,_,k3⟩:=hS.hpr _ _ hst
        refine ⟨val,es,hβ _ _ hvl k1,?_,rfl,k3.keep (fun _ h=>h) (fun b hb _=>⟨hok b hb,rfl⟩) (fun _ _=>rfl)⟩
        have hcx:=(List.getElem?_eq_some_iff.1 hc1).1
        have:=hden (va.length + (vb.length + vc.length + x)) c' (by rw [List.getElem?_append_right (by omega),show va.length + (vb.length + vc.length + x) - va.length = vb.length + vc.length + x by omega,List.getElem?_append_right (by rw [List.length_append,List.length_map]; omega),List.length_append,List.length_map,show vb.length + vc.length + x - (vb.length + vc.length) = x by omega]; exact hc1)
        rw [show ρ0.length + l.ann.ts.length + l.ann.cs.length + l.rows.length + x = ρ0.length + (va.length + (vb.length + vc.length + x)) by omega,this,pv_of k2]
       ·cases h2
      ·cases h3
    | fbx cs t =>
     simp only [Bool.and_eq_true,decide_eq_true_eq,List.all_eq_true] at h1 h2
     split at h2
     all_goals first | (cases ‹HB.fbx _ _ = HB.mp _›; done) | (cases ‹HB.fbx _ _ = HB.box _ _›; done) | (cases ‹HB.fbx _ _ = HB.row _ _ _ _›; done) | (cases ‹HB.fbx _ _ = HB.fro _ _›; done) | (cases h2; done) | skip
     rename_i e1 cs' t' he1 hst
     cases he1
     simp only [Bool.and_eq_true,beq_iff_eq] at h2
     obtain ⟨rfl,h3⟩:=h2
     have:=sames_eq h3
     subst this
     obtain ⟨b,us,k1,k2,k3,k4,k5⟩:=hS.hpr j _ hst
     exact ⟨b,us,hβ _ _ h1.1 k1,k2,k3,hok b k4,fun i s hs=>⟨(k5 i s hs).1,(k5 i s hs).2.old hβ hok (h1.2 s (List.mem_of_getElem? hs))⟩⟩
    | fro v s =>
     simp only [Bool.and_eq_true,decide_eq_true_eq,Bool.not_eq_true'] at h1 h2
     split at h2 <;> first | (cases ‹HB.fro _ _ = HB.mp _›; done) | (cases ‹HB.fro _ _ = HB.box _ _›; done) | (cases ‹HB.fro _ _ = HB.row _ _ _ _›; done) | (cases ‹HB.fro _ _ = HB.fbx _ _›; done) | (cases h2; done) | skip
     ·rename_i e1 v' s' he1 hst
      cases he1
      simp only [Bool.and_eq_true,beq_iff_eq] at h2
      obtain ⟨rfl,h3⟩:=h2
      have:=same_eq h3
      subst this
      obtain ⟨val,p,k1,k2,k0,k3,k4⟩:=hS.hpr j _ hst
      refine ⟨val,p,hβ _ _ h1.2.1.1 k1,?_,k0,k3,k4.mono hok⟩
      rw [wf_den ρ0 _ (Nat.le_refl _) h1.2.1.2,← wf_den ρ0 ρ1 (Nat.le_refl _) h1.2.1.2]
      exact k2
    | box cs t =>
     simp only [Bool.and_eq_true,decide_eq_true_eq,List.all_eq_true] at h1 h2
     split at h2 <;> first | (cases ‹HB.box _ _ = HB.mp _›; done) | (cases ‹HB.box _ _ = HB.row _ _ _ _›; done) | (cases ‹HB.box _ _ = HB.fro _ _›; done) | (cases ‹HB.box _ _ = HB.fbx _ _›; done) | (cases h2; done) | skip
     ·rename_i cs0 t0 cs' t' he0 hst
      cases he0
      simp only [Bool.and_eq_true,beq_iff_eq,List.all_eq_true,List.mem_range,Bool.or_eq_true] at h2
      obtain ⟨⟨rfl,hlen⟩,h3⟩:=h2
      obtain ⟨b,us,hb,hblk,hsz,hbase,hcell⟩:=hS.hpr j _ hst
      refine ⟨b,us,hβ j _ h1.1 hb,hblk,by rw [hsz,hlen],hbase,fun i s hi=>?_⟩
      have hilt:=(List.getElem?_eq_some_iff.1 hi).1
      obtain ⟨s',hs'⟩:∃ s',cs'[i]? = some s':=⟨cs'[i]'(by omega),List.getElem?_eq_getElem _⟩
      obtain ⟨hf,hr⟩:=hcell i s' hs'
      refine ⟨hf,?_⟩
      have hw:=h1.2 (s,i) (by
       refine List.mem_of_getElem? (i:=i) ?_
       rw [List.getElem?_zipIdx,hi]
       simp)
      simp only at hw
      split at hw
      ·rename_i x hx
       have:=same_eq hw
       subst this
       have hp:=posOf_at hx
       obtain ⟨y,hy1,hy2⟩:=kb x (j,i) hp
       simp only [cellAt,hst] at hy2
       rw [hs'] at hy2
       cases hy2
       rw [show ρ0.length + l.ann.ts.length + x = ρ0.length + (va.length + x) by omega]
       refine hvar _ s' _ ?_ hr
       have hxl:=(List.getElem?_eq_some_iff.1 hy1).1
       rw [List.append_assoc,List.getElem?_append_left hxl]
       exact hy1
      ·rename_i hx
       split at hw
       ·rename_i x hpx
        obtain ⟨r,hr1,hr2⟩:=plIx_at hpx
        rw [hr1] at hw
        have:=same_eq hw
        subst this
        obtain ⟨_,v0,c,_,h5,h6,h7,_⟩:=hrow x r hr1
        rw [hr2] at h5
        simp only [getPl,cellAt,hst] at h5
        rw [hs'] at h5
        cases h5
        exact hr.rerow h7
       ·rename_i hpx
        rcases h3 i hilt with (h | h) | h
        ·rw [hx] at h; cases h
        ·rw [hpx] at h; cases h
        ·rw [hi,hs'] at h
         have:=same_eq h
         subst this
         exact hr.old hβ hok hw
  ·cases hv
 ·cases hv
end
end Gv
namespace Gv
open Go Go.RowKit
set_option linter.unusedVariables false
set_option linter.unusedSimpArgs false
def cont (P:Program) (Q0:Exit → Act → World → Prop) (Js:List (Act → World → Prop)):List It → Exit → Act → World → Prop
 | []=>Q0
 | .code c :: K=>Exit.then (c.wp P (cont P Q0 Js K)) (cont P Q0 Js K)
 | .blk id :: K=>Exit.inBlock id (cont P Q0 Js K)
 | .lp l :: K=>Exit.then (fun a w=>match Js[Js.length - 1 - l.lev]? with
  | some J=>J a w
  | none=>False) (cont P Q0 Js K)
 | .un b n :: K=>Exit.then (Code.rounds P b (cont P Q0 Js K) n) (cont P Q0 Js K)
 | .scp :: K=>Exit.noGoto (cont P Q0 Js K)
section
variable {P:Program} {Q0:Exit → Act → World → Prop} {Js:List (Act → World → Prop)} {a:Act} {w:World}
theorem cont_push {J:Act → World → Prop}:∀ {K:List It},(∀ l,It.lp l ∈ K → l.lev < Js.length) → cont P Q0 (J :: Js) K = cont P Q0 Js K
 | [],_=>rfl
 | .code c :: K,h=>by simp only [cont]; rw [cont_push fun l hl=>h l (by simp [hl])]
 | .blk id :: K,h=>by simp only [cont]; rw [cont_push fun l hl=>h l (by simp [hl])]
 | .un b n :: K,h=>by simp only [cont]; rw [cont_push fun l hl=>h l (by simp [hl])]
 | .scp :: K,h=>by simp only [cont]; rw [cont_push fun l hl=>h l (by simp [hl])]
 | .lp l :: K,h=>by
  have hl:=h l (by simp)
  simp only [cont]
  rw [cont_push fun l hl=>h l (by simp [hl])]
  have e:(J :: Js).length - 1 - l.lev = (Js.length - 1 - l.lev) + 1:=by simp; omega
  rw [e,List.getElem?_cons_succ]
theorem cont_exit {id:Nat}:∀ {K K':List It},dropTo id K = some K' → cont P Q0 Js K' .normal a w → cont P Q0 Js K (.exit id) a w
 | [],K',h,_=>by simp [dropTo] at h
 | .code c :: K,K',h,hc=>by simp only [dropTo] at h; exact cont_exit (K:=K) h hc
 | .lp l :: K,K',h,hc=>by simp only [dropTo] at h; exact cont_exit (K:=K) h hc
 | .un b n :: K,K',h,hc=>by simp only [dropTo] at h; exact cont_exit (K:=K) h hc
 | .scp :: K,K',h,hc=>by simp only [dropTo] at h; exact cont_exit (K:=K) h hc
 | .blk i :: K,K',h,hc=>by
  simp only [dropTo] at h
  show Exit.inBlock i (cont P Q0 Js K) (.exit id) a w
  simp only [Exit.inBlock]
  split at h
  ·rename_i e
   cases h
   rw [if_pos (by simpa using (beq_iff_eq.1 e).symm)]
   exact hc
  ·rename_i e
   rw [if_neg (fun e'=>e (by simp [e']))]
   exact cont_exit h hc
theorem cont_ret:∀ {K:List It},Q0 .ret a w → cont P Q0 Js K .ret a w
 | [],h=>h
 | .code c :: K,h=>cont_ret (K:=K) h
 | .lp l :: K,h=>cont_ret (K:=K) h
 | .un b n :: K,h=>cont_ret (K:=K) h
 | .scp :: K,h=>cont_ret (K:=K) h
 | .blk i :: K,h=>cont_ret (K:=K) h
theorem dropTo_mem {id:Nat}:∀ {K K':List It},dropTo id K = some K' → ∀ x ∈ K',x ∈ K
 | [],K',h,x,hx=>by simp [dropTo] at h
 | .code c :: K,K',h,x,hx=>by simp only [dropTo] at h; simp [dropTo_mem h x hx]
 | .lp l :: K,K',h,x,hx=>by simp only [dropTo] at h; simp [dropTo_mem h x hx]
 | .un b n :: K,K',h,x,hx=>by simp only [dropTo] at h; simp [dropTo_mem h x hx]
 | .scp :: K,K',h,x,hx=>by simp only [dropTo] at h; simp [dropTo_mem h x hx]
 | .blk i :: K,K',h,x,hx=>by
  simp only [dropTo] at h
  split at h
  ·cases h; simp [hx]
  ·simp [dropTo_mem h x hx]
end
def LpOK (E:Env) (ρ:List PV) (C:List (List PV → Prop)) (Js:List (Act → World → Prop)) (l:LoopAt):Prop :=
 ∃ ρ0 ρr Cv Jv,ρ = ρ0 ++ ρr ∧ l.lev < C.length ∧ C[C.length - 1 - l.lev]? = some Cv ∧ Js[Js.length - 1 - l.lev]? = some Jv ∧
  ∀ ρ1 β st vs a w,Sim E (ρ0 ++ ρ1) β (look st.tm) (look st.hp) a w → backOk l st = true → varsOf st l.ann l.rows = some vs → shsSame ((vs.take l.ann.ts.length).map SV.shape) l.shs = true → Cv (pvs (ρ0 ++ ρ1) vs) → Jv a w
theorem LpOK.app {E:Env} {ρ:List PV} {C:List (List PV → Prop)} {Js:List (Act → World → Prop)} {l:LoopAt} (h:LpOK E ρ C Js l) (rs:List PV):LpOK E (ρ ++ rs) C Js l:=by
 obtain ⟨ρ0,ρr,Cv,Jv,e,h1,h2,h3,h4⟩:=h
 exact ⟨ρ0,ρr ++ rs,Cv,Jv,by rw [e,List.append_assoc],h1,h2,h3,h4⟩
theorem LpOK.push {E:Env} {ρ:List PV} {C:List (List PV → Prop)} {Js:List (Act → World → Prop)} {l:LoopAt} (h:LpOK E ρ C Js l) (hl:C.length = Js.length) (c:List PV → Prop) (J:Act → World → Prop):LpOK E ρ (c :: C) (J :: Js) l:=by
 obtain ⟨ρ0,ρr,Cv,Jv,e,h1,h2,h3,h4⟩:=h
 refine ⟨ρ0,ρr,Cv,Jv,e,by simp; omega,?_,?_,h4⟩
 ·have e:(c :: C).length - 1 - l.lev = (C.length - 1 - l.lev) + 1:=by simp; omega
  rw [e,List.getElem?_cons_succ]; exact h2
 ·have e:(J :: Js).length - 1 - l.lev = (Js.length - 1 - l.lev) + 1:=by simp; omega
  rw [e,List.getElem?_cons_succ]; exact h3
theorem vars_len {st:St} {ann:Ann} {rows:List RowT} {vs:List SV} (h:varsOf st ann rows = some vs):vs.length = ann.ts.length + ann.cs.length + rows.length + ann.ws.length:=by
 unfold varsOf at h
 split at h
 ·rename_i va vb vc vd ha hb hc hd
  split at h
  ·cases h
   rw [melts_map,List.length_append,List.length_append,List.length_append,List.length_map,List.length_map,(mapM_at ha).1,(mapM_at hb).1,(mapM_at hc).1,(mapM_at hd).1]
   omega
  ·cases h
 ·cases h
section
variable {P:Program} {G:Tab} {E:Env} {fn:Func} {anns:List (Nat × Ann)} {rk:RK} {R:PV → Prop} {Q0:Exit → Act → World → Prop}
theorem Sim.know {ρ:List PV} {β:Nat → Option Loc} {tm tm':Nat → Option SV} {hp hp':Nat → Option HB} {a:Act} {w:World} (h:Sim E ρ β tm hp a w) (h1:∀ t s,tm' t = some s → ∃ s0,tm t = some s0 ∧ Refi ρ s0 s) (h2:∀ j,hp' j = hp j):Sim E ρ β tm' hp' a w:=by
 have e:hp' = hp:=funext h2
 subst e
 refine ⟨h.df,h.nt,h.bel,fun t s ht=>?_,h.hpr,h.inj,h.h0⟩
 obtain ⟨s0,h3,h4⟩:=h1 t s ht
 exact h4.rep (h.tmr t s0 h3)
theorem Sim.bool {ρ:List PV} {β:Nat → Option Loc} {st:St} {a:Act} {w:World} (h:Sim E ρ β (look st.tm) (look st.hp) a w) {t:Nat} {s:SV} {b:Bool} (hs:look st.tm t = some s) (hd:pv ρ s = .raw (.bool b)) :
 a.eval (.tmp t) = .bool b ∧ Sim E ρ β (look ((t,.con (.bool b)) :: st.tm)) (look st.hp) a w:=by
 have hd':den ρ s = some (.raw (.bool b)):=by
  unfold pv at hd
  cases hx:den ρ s with
  | none=>rw [hx] at hd; simp [undef] at hd
  | some p=>rw [hx] at hd; simp at hd; rw [hd]
 refine ⟨(h.tmr t s hs).bool hd',h.know (fun u s' hu=>?_) fun _=>rfl⟩
 rw [look_cons] at hu
 split at hu
 ·rename_i e
  cases hu
  subst e
  exact ⟨s,hs,.inr ⟨b,rfl,hd'⟩⟩
 ·exact ⟨s',hu,.inl rfl⟩
theorem look_frzList (rs:List Nat):∀ (l:List (Nat × HB)) (j:Nat),look (frzList rs l) j = (look l j).map fun b=>if rs.contains j then b.frozen else b
 | [],j=>rfl
 | (k,b) :: l,j=>by
  have ih:=look_frzList rs l j
  simp only [frzList]
  by_cases e:j = k
  ·subst e
   split
   ·rename_i h; simp [look,h]
   ·rename_i h; simp [look,h]
  ·have e':(k == j) = false:=by simpa using fun e'=>e e'.symm
   split <;> simp only [look,e',cond_false] <;> exact ih
theorem frozen_row (b:HB):b.frozen = b ∨ ∃ v e k c,b = .row v e k c ∧ b.frozen = .fro v c:=by
 cases b with
 | row v e k c=>exact .inr ⟨v,e,k,c,rfl,rfl⟩
 | _=>exact .inl rfl
theorem Sim.pre {ρ:List PV} {β:Nat → Option Loc} {tm:Nat → Option SV} {l:List (Nat × HB)} {a:Act} {w:World} (h:Sim E ρ β tm (look l) a w) (rs:List Nat):Sim E ρ β tm (look (frzList rs l)) a w:=by
 refine h.frz fun j=>?_
 rw [look_frzList]
 cases hx:look l j with
 | none=>exact .inl rfl
 | some b =>
  simp only [Option.map_some]
  split
  ·rename_i hcon
   rcases frozen_row b with e | ⟨v,e,k,c,rfl,e2⟩
   ·rw [e]; exact .inl rfl
   ·exact .inr (.inl ⟨v,e,k,c,hx,by rw [look_frzList,hx]; simp only [Option.map_some]; rw [if_pos hcon,e2]⟩)
  ·exact .inl rfl
theorem Sim.adopt1 {ρ:List PV} {β:Nat → Option Loc} {st st':St} {a:Act} {w:World} (h:Sim E ρ β (look st.tm) (look st.hp) a w) {pl:Pl} {s:SV} {e:TypeId} {k:Nat} (hg:getPl st pl = some s) (hn:s.isNil = true) (hk:0 < k) (hs:setPl st e k pl = some st') (hj:β st.nj = none) (hna:ρ.length = st.na) :
 Sim E (ρ ++ [.sl []]) (fun i=>if i = st.nj then some (.hdr (.slice none 0 0)) else β i) (look st'.tm) (look st'.hp) a w ∧ st'.na = st.na + 1 ∧ st'.nj = st.nj + 1 ∧ st'.nl = st.nl:=by
 have hs0:s = .con (.slice none 0 0):=by
  unfold SV.isNil at hn
  split at hn
  ·rfl
  ·cases hn
 subst hs0
 have hβ:∀ i b,β i = some b → (if i = st.nj then some (Loc.hdr (.slice none 0 0)) else β i) = some b:=by
  intro i b e
  rw [if_neg (fun e'=>by subst e'; rw [hj] at e; cases e)]
  exact e
 have h1:=h.more [.sl []]
 have hA:Sim E (ρ ++ [.sl []]) (fun i=>if i = st.nj then some (.hdr (.slice none 0 0)) else β i) (look st.tm) (updh (look st.hp) [(st.nj,.row st.nj e k (.at st.na))]) a w:=by
  refine h1.change (fun i=>i = st.nj) hβ h1.bel (fun _ _ _=>rfl) (fun i hi=>upd_other hi) (fun i b hi ho=>?_) (fun i i' b hi hi' _ _=>by rw [hi,hi']) (fun i x hi hx hk'=>?_)
  ·obtain ⟨val,e1,e2⟩:=owns_upd ho hi
   simp only [if_true,Option.some.injEq,Loc.hdr.injEq] at e1
   subst e1
   cases e2
  ·subst hi
   rw [upd_self hx]
   exact ⟨_,[],if_pos rfl,by simp [den,← hna],rfl,hk,[],World.ownsRow_nil _ _ _ _,fun b hb=>(by cases hb),fun i el hi=>by simp at hi⟩
 have hrow:∀ {v:Value},v = .slice none 0 0 → RepS (ρ ++ [.sl []]) (fun i=>if i = st.nj then some (.hdr (.slice none 0 0)) else β i) w (Ok E (updh (look st.hp) [(st.nj,.row st.nj e k (.at st.na))]) (fun i=>if i = st.nj then some (.hdr (.slice none 0 0)) else β i)) (.row st.nj st.nj) v:=by
  rintro v rfl
  exact .row _ _ none 0 0 (if_pos rfl)
 have ehp:look ((st.nj,HB.row st.nj e k (.at st.na)) :: st.hp) = updh (look st.hp) [(st.nj,.row st.nj e k (.at st.na))]:=by
  funext i
  rw [look_cons,updh_one]
 cases pl with
 | t n =>
  simp only [setPl,Option.some.injEq] at hs
  subst hs
  refine ⟨?_,rfl,rfl,rfl⟩
  simp only
  rw [ehp]
  refine ⟨hA.df,hA.nt,hA.bel,fun t s ht=>?_,hA.hpr,hA.inj,hA.h0⟩
  rw [look_cons] at ht
  split at ht
  ·rename_i e1
   cases ht
   subst e1
   exact hrow (nil_val (h.tmr t _ hg))
  ·exact hA.tmr t s ht
 | c jb off =>
  simp only [setPl] at hs
  split at hs
  ·rename_i cs t hh
   cases hs
   refine ⟨?_,rfl,rfl,rfl⟩
   simp only
   simp only [getPl,cellAt,hh] at hg
   have hne:jb ≠ st.nj:=by
    rintro rfl
    obtain ⟨b,vs,e1,_⟩:=h.hpr _ _ hh
    rw [hj] at e1
    cases e1
   have hh':updh (look st.hp) [(st.nj,.row st.nj e k (.at st.na))] jb = some (.box cs t):=by rw [upd_other hne]; exact hh
   have e2:look ((jb,HB.box (cs.set off (.row st.nj st.nj)) t) :: (st.nj,HB.row st.nj e k (.at st.na)) :: st.hp) = updh (updh (look st.hp) [(st.nj,.row st.nj e k (.at st.na))]) [(jb,.box (cs.set off (.row st.nj st.nj)) t)]:=by
    funext i
    rw [look_cons,updh_one (updh (look st.hp) [(st.nj,.row st.nj e k (.at st.na))]),ehp]
   rw [e2]
   obtain ⟨b,vs,k1,k2,k3,k4,k5⟩:=hA.hpr _ _ hh'
   have hlt:=(List.getElem?_eq_some_iff.1 hg).1
   obtain ⟨_,_,_,_,_,_,k6⟩:=h.hpr _ _ hh
   have hv:vs.getD off undef = .slice none 0 0:=nil_val (k5 off _ hg).2
   refine hA.change (fun i=>i = jb) (fun _ _ h=>h) hA.bel (fun _ _ _=>rfl) (fun i hi=>upd_other hi) (fun i c hi hc=>.inr ⟨jb,rfl,?_⟩) (fun i i' b hi hi' _ _=>by rw [hi,hi']) (fun i x hi hx hk'=>?_)
   ·have h9:=owns_upd hc hi
    exact ⟨_,hh',h9⟩
   ·subst hi
    rw [upd_self hx]
    refine ⟨b,vs,k1,k2,by simpa using k3,k4,fun i' s' hi'=>?_⟩
    by_cases c1:i' = off
    ·subst c1
     rw [List.getElem?_set_self hlt] at hi'
     cases hi'
     rw [hv]
     exact ⟨rfl,.row _ _ none 0 0 (if_pos rfl)⟩
    ·rw [List.getElem?_set_ne (fun e=>c1 e.symm)] at hi'
     exact ⟨(k5 i' s' hi').1,(k5 i' s' hi').2.keep' (fun _ _ h=>h) hk'⟩
  ·cases hs
theorem adopt_ok {C:List (List PV → Prop)} {K:St → VC} {a:Act} {w:World}:∀ (l:List (Pl × TypeId)) (st:St) (ρ:List PV) (β:Nat → Option Loc),(adopt P K l st).ok P R ρ C → Sim E ρ β (look st.tm) (look st.hp) a w → (∀ j,β j ≠ none → j < st.nj) → ρ.length = st.na →
 ∃ rs β' st',(K st').ok P R (ρ ++ rs) C ∧ Sim E (ρ ++ rs) β' (look st'.tm) (look st'.hp) a w ∧ (∀ j,β' j ≠ none → j < st'.nj) ∧ (ρ ++ rs).length = st'.na ∧ st'.nl = st.nl
 | [],st,ρ,β,h,hS,hβ,hna=>⟨[],β,st,by rw [List.append_nil]; exact h,by rw [List.append_nil]; exact hS,hβ,by rw [List.append_nil]; exact hna,rfl⟩
 | (pl,e) :: l,st,ρ,β,h,hS,hβ,hna=>by
  simp only [adopt] at h
  split at h
  ·exact adopt_ok l st ρ β h hS hβ hna
  ·rename_i s _ hg
   split at h
   ·rename_i hn
    split at h
    ·rename_i k hk
     split at h
     ·exact h.elim
     ·rename_i hk0
      split at h
      ·rename_i st' hs
       have h':(adopt P K l st').ok P R (ρ ++ [.sl (chunk k 0 (pvs ρ []))]) C:=h
       have hj:β st.nj = none:=by
        cases hx:β st.nj with
        | none=>rfl
        | some b=>exact absurd (hβ st.nj (by rw [hx]; simp)) (by omega)
       obtain ⟨h1,h2,h3,h4⟩:=hS.adopt1 hg hn (Nat.pos_of_ne_zero hk0) hs hj hna
       obtain ⟨rs,β',st2,k1,k2,k3,k4,k5⟩:=adopt_ok l st' (ρ ++ [.sl []]) _ h' h1 (fun j hj'=>by
        by_cases e:j = st.nj
        ·omega
        ·simp only [e,if_false] at hj'
         have:=hβ j hj'
         omega) (by simp [hna,h2])
       exact ⟨[.sl []] ++ rs,β',st2,by rw [← List.append_assoc]; exact k1,by rw [← List.append_assoc]; exact k2,k3,by rw [← List.append_assoc]; exact k4,by rw [k5,h4]⟩
      ·exact h.elim
    ·exact h.elim
   ·exact h.elim
  ·exact h.elim
theorem Sim.fbox {ρ:List PV} {β:Nat → Option Loc} {st:St} {a:Act} {w:World} (h:Sim E ρ β (look st.tm) (look st.hp) a w) (t:Nat):Sim E ρ β (look (frzBox st t).tm) (look (frzBox st t).hp) a w:=by
 unfold frzBox
 split
 ·rename_i j off hj
  split
  ·rename_i cs ty hh
   have hmelt:=h.meltOK (h':=froOf (look st.hp)) (fun j v c h=>froOf_row h) (fun j cs h=>froOf_box h)
   -- first the cells stand melted,then the box is frozen
   obtain ⟨b,vs,k1,k2,k3,k4,k5⟩:=h.hpr _ _ hh
   have hb0:Owns β (look st.hp) j b:=⟨_,hh,k1⟩
   refine h.change (fun i=>i = j) (fun _ _ h=>h) h.bel (fun _ _ _=>rfl) (fun i hi=>?_) (fun i b hi ho=>?_) (fun i i' b hi hi' _ _=>by rw [hi,hi']) (fun i x hi hx hk'=>?_)
   ·rw [look_cons,if_neg hi]
   ·subst hi
    obtain ⟨x,h1,h2⟩:=ho
    rw [look_cons,if_pos rfl] at h1
    cases h1
    exact h2.elim
   ·subst hi
    rw [look_cons,if_pos rfl] at hx
    cases hx
    refine ⟨b,vs,k1,k2,by rw [melts_map,List.length_map]; exact k3,⟨.inr k4,fun i' ho=>?_⟩,fun m s hs=>?_⟩
    ·obtain ⟨x,h1,h2⟩:=ho
     rw [look_cons] at h1
     split at h1
     ·cases h1; exact h2.elim
     ·rename_i hne
      exact hne (h.inj i' i b ⟨x,h1,h2⟩ hb0)
    ·rw [melts_map,List.getElem?_map,Option.map_eq_some_iff] at hs
     obtain ⟨s',hs',rfl⟩:=hs
     exact ⟨(k5 m s' hs').1,((k5 m s' hs').2.melt hmelt).keep' (fun _ _ h=>h) fun b hb hl=>hk' b hb hl⟩
  ·exact h
 ·exact h
theorem Sim.fboxs {ρ:List PV} {β:Nat → Option Loc} {a:Act} {w:World}:∀ (l:List Nat) {st:St},Sim E ρ β (look st.tm) (look st.hp) a w → Sim E ρ β (look (l.foldl frzBox st).tm) (look (l.foldl frzBox st).hp) a w
 | [],_,h=>h
 | t :: l,_,h=>Sim.fboxs l (h.fbox t)
theorem fbox_st:∀ (l:List Nat) (st:St),(l.foldl frzBox st).nj = st.nj ∧ (l.foldl frzBox st).na = st.na ∧ (l.foldl frzBox st).nl = st.nl
 | [],_=>⟨rfl,rfl,rfl⟩
 | t :: l,st=>by
  have:=fbox_st l (frzBox st t)
  have h1:(frzBox st t).nj = st.nj ∧ (frzBox st t).na = st.na ∧ (frzBox st t).nl = st.nl:=by
   unfold frzBox
   split
   ·split <;> exact ⟨rfl,rfl,rfl⟩
   ·exact ⟨rfl,rfl,rfl⟩
  simp only [List.foldl_cons]
  exact ⟨this.1.trans h1.1,this.2.1.trans h1.2.1,this.2.2.trans h1.2.2⟩
theorem exec_ok (hm:P.follows .mixedOrders = true) (hN:E.N = fn.ntmps)
 (hQ0:∀ ρ β st s a w,retK P fn rk st = some s → R (pv ρ s) → Sim E ρ β (look st.tm) (look st.hp) a w → Q0 .normal a w ∧ Q0 .ret a w) :
 ∀ (n:Nat) (K:List It) (st:St) (ρ:List PV) (C:List (List PV → Prop)) (Js:List (Act → World → Prop)) (β:Nat → Option Loc) (a:Act) (w:World),(exec P G rk fn anns n K st).ok P R ρ C → Sim E ρ β (look st.tm) (look st.hp) a w →
  (∀ j,β j ≠ none → j < st.nj) → ρ.length = st.na → C.length = st.nl → Js.length = st.nl → (∀ l,It.lp l ∈ K → LpOK E ρ C Js l) → cont P Q0 Js K .normal a w:=by
 intro n
 induction n with
 | zero=>intro K st ρ C Js β a w h; exact (show False by unfold exec at h; exact h).elim
 | succ n ih =>
  intro K st ρ C Js β a w h hS hβ hna hC hJ hL
  cases K with
  | nil =>
   simp only [exec] at h
   split at h
   ·rename_i s hs; exact (hQ0 ρ β st s a w hs h hS).1
   ·exact h.elim
  | cons x K =>
   cases x with
   | scp=>exact ih K st ρ C Js β a w (by simpa only [exec] using h) hS hβ hna hC hJ fun l hl=>hL l (by simp [hl])
   | blk id=>exact ih K st ρ C Js β a w (by simpa only [exec] using h) hS hβ hna hC hJ fun l hl=>hL l (by simp [hl])
   | lp l =>
    simp only [exec] at h
    obtain ⟨ρ0,ρr,Cv,Jv,e,h1,h2,h3,h4⟩:=hL l (by simp)
    split at h
    ·rename_i vs hvs
     split at h
     ·rename_i hc
      simp only [Bool.and_eq_true] at hc
      simp only [VC.ok] at h
      rw [show (frzBack l.rows l.ann.ws st).nl = st.nl from rfl,← hC,h2] at h
      show Exit.then _ _ .normal a w
      simp only [Exit.then,h3]
      subst e
      exact h4 ρr β (frzBack l.rows l.ann.ws st) vs a w (hS.pre _) hc.1.1 hvs hc.1.2 h
     ·exact h.elim
    ·exact h.elim
   | un b m =>
    simp only [exec] at h
    split at h
    ·exact h.elim
    ·rename_i m
     have:=ih (.code b :: .un b m :: K) st ρ C Js β a w h hS hβ hna hC hJ fun l hl=>hL l (by simpa using hl)
     exact this
   | code c =>
    have hL':∀ l,It.lp l ∈ K → LpOK E ρ C Js l:=fun l hl=>hL l (by simp [hl])
    show c.wp P (cont P Q0 Js K) a w
    cases c with
    | skip=>exact wp_skip (ih K st ρ C Js β a w (by simpa only [exec] using h) hS hβ hna hC hJ hL')
    | seq x y =>
     refine wp_seq ?_
     have:=ih (.code x :: .code y :: K) st ρ C Js β a w (by simpa only [exec] using h) hS hβ hna hC hJ fun l hl=>hL' l (by simpa using hl)
     exact this
    | block id b =>
     refine wp_block ?_
     have:=ih (.code b :: .blk id :: K) st ρ C Js β a w (by simpa only [exec] using h) hS hβ hna hC hJ fun l hl=>hL' l (by simpa using hl)
     exact this
    | exit id =>
     simp only [exec] at h
     split at h
     ·rename_i k' hk
      refine wp_exit (cont_exit hk (ih k' st ρ C Js β a w h hS hβ hna hC hJ fun l hl=>hL' l (dropTo_mem hk _ hl)))
     ·exact h.elim
    | ret =>
     simp only [exec] at h
     split at h
     ·rename_i s hs; exact wp_ret (cont_ret (hQ0 ρ β st s a w hs h hS).2)
     ·exact h.elim
    | cond c x y =>
     simp only [exec] at h
     split at h
     ·rename_i t
      split at h
      ·rename_i hs
       have hb:=(hS.tmr t _ hs).bool rfl
       exact wp_cond_true hb (ih (.code x :: K) st ρ C Js β a w h hS hβ hna hC hJ fun l hl=>hL' l (by simpa using hl))
      ·rename_i hs
       have hb:=(hS.tmr t _ hs).bool rfl
       exact wp_cond_false hb (ih (.code y :: K) st ρ C Js β a w h hS hβ hna hC hJ fun l hl=>hL' l (by simpa using hl))
      ·rename_i s _ _ hs
       split at h
       ·obtain ⟨b,hb,h1,h2⟩:=h
        obtain ⟨hv,hS'⟩:=hS.bool hs hb
        cases b
        ·exact wp_cond_false hv (ih (.code y :: K) _ ρ C Js β a w (h2 rfl) hS' hβ hna hC hJ fun l hl=>hL' l (by simpa using hl))
        ·exact wp_cond_true hv (ih (.code x :: K) _ ρ C Js β a w (h1 rfl) hS' hβ hna hC hJ fun l hl=>hL' l (by simpa using hl))
       ·exact h.elim
      ·exact h.elim
     ·exact wp_cond_true rfl (ih (.code x :: K) st ρ C Js β a w h hS hβ hna hC hJ fun l hl=>hL' l (by simpa using hl))
     ·exact wp_cond_false rfl (ih (.code y :: K) st ρ C Js β a w h hS hβ hna hC hJ fun l hl=>hL' l (by simpa using hl))
     ·exact h.elim
    | region id ops draw =>
     simp only [exec] at h
     replace hS:=hS.pre (preRows P G ops.toList st)
     have hst:∃ st1,st1 = preFrz P G ops.toList st:=⟨_,rfl⟩
     obtain ⟨st1,hst⟩:=hst
     have hS:Sim E ρ β (look st1.tm) (look st1.hp) a w:=by rw [hst]; exact hS
     have hnj:st1.nj = st.nj:=by rw [hst]; rfl
     rw [← hst,← hnj] at h
     replace hβ:∀ j,β j ≠ none → j < st1.nj:=by rw [hnj]; exact hβ
     replace hna:ρ.length = st1.na:=by rw [hst]; exact hna
     replace hC:C.length = st1.nl:=by rw [hst]; exact hC
     replace hJ:Js.length = st1.nl:=by rw [hst]; exact hJ
     clear hst hnj
     revert h hS hβ hna hC hJ
     generalize st1 = st
     intro h hS hβ hna hC hJ
     have hS0:Sofar P G ops.toList E.N st.nj (look st.tm) (look st.hp) ρ st [] :=
      ⟨fun t s ht=>⟨s,ht,.inl rfl⟩,fun _=>rfl,fun k o te _ ht=>by simp at ht,hna⟩
     obtain ⟨rs,T,st',h1,h2,h3,h4,h5,h6⟩:=reg_trace ops.toList [] st ρ (by simp) (by simp) hS0 (by rw [hN]; exact h)
     have hlen:T.length = ops.size:=by simpa using h1
     have hfin:∀ a w,Stands P G E (ρ ++ rs) st.nj ops T (look st.tm) (look st.hp) (fun _=>true) a w → cont P Q0 Js K .normal a w:=by
      rintro a w ⟨β',hs1,hs2⟩
      refine ih K st' (ρ ++ rs) C Js β' a w h6 ?_ (fun j hj=>?_) h2.na (by rw [h5,hC]) (by rw [h5,hJ]) fun l hl=>(hL' l hl).app rs
      ·have htm:=h2.tm
       have hhp:=h2.hp
       rw [hlen] at htm hhp
       exact hs1.know htm hhp
      ·rw [h4]
       rcases hs2 j hj with h | ⟨k,h,hk,_⟩
       ·omega
       ·simp; omega
     have hstart:∀ w',Sim E ρ β (look st.tm) (look st.hp) a w' → ∀ listed:Nat → Bool,(∀ m,m < ops.size → listed m = false) → Stands P G E (ρ ++ rs) st.nj ops T (look st.tm) (look st.hp) listed a w':=by
      intro w' hS' listed hl
      refine ⟨β,?_,fun j hj=>.inl (hβ j hj)⟩
      have e1:tmS T listed (look st.tm) ops.size = look st.tm:=by
       have:tmS T listed (look st.tm) ops.size = tmS T (fun m=>decide (m < 0)) (look st.tm) ops.size:=by
        funext t
        exact gS_agree t _ fun m _ _ hm _ _ _=>by rw [hl m hm]; simp
       rw [this]
       exact gS_prefix 0 ops.size (by omega)
      have e2:hpS T listed (look st.hp) ops.size = look st.hp:=by
       have:hpS T listed (look st.hp) ops.size = hpS T (fun m=>decide (m < 0)) (look st.hp) ops.size:=by
        funext t
        exact gS_agree t _ fun m _ _ hm _ _ _=>by rw [hl m hm]; simp
       rw [this]
       exact gS_prefix 0 ops.size (by omega)
      rw [e1,e2]
      exact hS'.more rs
     cases draw with
     | false =>
      refine wp_region ?_
      have:=reg_seq hm hlen h2.told hfin ops.size 0 (by omega) a w (hstart w hS _ fun m _=>by simp)
      have e:(List.range ops.size).map (0 + ·) = List.range ops.size:=by simp
      rwa [e] at this
     | true =>
      refine wp_region_any hm ?_
      have hS':Sim E ρ β (look st.tm) (look st.hp) a w.drew:=hS.grow (Below.refl _ w).drew
      have hl:∀ m,m < ops.size → (Array.replicate ops.size false).getD m false = false:=by
       intro m hm; simp [Array.getD,hm]
      refine reg_any hm hlen h2.told (h3 rfl) hfin ops.size (Array.replicate ops.size false) (by simp) ?_ ?_ a w.drew (hstart _ hS' _ hl)
      ·unfold togo
       have:=List.countP_le_length (p:=fun i=>!(Array.replicate ops.size false).getD i false) (l:=List.range ops.size)
       simpa using this
      ·intro k o ho hl'
       have hk:=(Array.getElem?_eq_some_iff.1 ho).1
       have h0:=hl k hk
       have hl2:(Array.replicate ops.size false).getD k false = true:=hl'
       rw [h0] at hl2
       cases hl2
    | loop b =>
     simp only [exec] at h
     split at h
     ·rename_i m hun
      refine wp_loop_rounds (m + 1) ?_
      have:=ih (.code b :: .un b m :: K) st ρ C Js β a w h hS hβ hna hC hJ fun l hl=>hL' l (by simpa using hl)
      exact this
     obtain ⟨rs0,β1,st1,h,hS,hβ,hna',hnl⟩:=adopt_ok _ _ _ _ h hS hβ hna
     have hL0:∀ l,It.lp l ∈ K → LpOK E (ρ ++ rs0) C Js l:=fun l hl=>(hL' l hl).app rs0
     replace hC:C.length = st1.nl:=by rw [hnl]; exact hC
     replace hJ:Js.length = st1.nl:=by rw [hnl]; exact hJ
     replace hna:=hna'
     clear hnl hL' hL
     revert h hS hβ hna hC hJ hL0
     generalize ρ ++ rs0 = ρ
     generalize st1 = st
     generalize β1 = β
     intro h hS hβ hL' hC hJ hna
     split at h
     ·exact h.elim
     ·rename_i rows hrows
      have hSf:=(hS.pre ((st.hp.map (·.1)).filter fun j=>(rowIx j rows).isNone && !(annOf b anns).ws.contains j))
      replace hSf:=Sim.fboxs (annOf b anns).fz (st:=frzBut rows (annOf b anns).ws st) hSf
      have hst:=fbox_st (annOf b anns).fz (frzBut rows (annOf b anns).ws st)
      generalize hst1:(annOf b anns).fz.foldl frzBox (frzBut rows (annOf b anns).ws st) = st1 at hSf hst
      have hβf:∀ j,β j ≠ none → j < st1.nj:=by rw [hst.1]; exact hβ
      have hnaf:ρ.length = st1.na:=by rw [hst.2.1]; exact hna
      have hCf:C.length = st1.nl:=by rw [hst.2.2]; exact hC
      have hJf:Js.length = st1.nl:=by rw [hst.2.2]; exact hJ
      simp only [hst1] at h
      clear hst hst1 hS hβ hna hC hJ hrows
      revert h hSf hβf hnaf hCf hJf
      generalize st1 = st
      intro hS hβ hna hC hJ h
      try simp only at h
      split at h
      ·exact h.elim
      ·rename_i vs hvs
       split at h
       ·rename_i hc
        simp only [Bool.and_eq_true] at hc
        obtain ⟨I,μ,hI,hround⟩:=h
        generalize hann:annOf b anns = ann at hc hvs hround
        generalize hlp:(LoopAt.mk st.nl ((dedup st.tm).filter fun (t,s)=>!(writes b).contains t && !ann.ts.contains t && s.wf st.na st.nj) (headHp (dedup st.hp) ann rows (st.na + ann.ts.length) st.nj) ann rows st.nj ((vs.take ann.ts.length).map SV.shape)) = l at hc hround
        have hlev:l.lev = st.nl:=by rw [← hlp]
        have hlann:l.ann = ann:=by rw [← hlp]
        have hlrows:l.rows = rows:=by rw [← hlp]
        have hlnj:l.nj1 = st.nj:=by rw [← hlp]
        have hlhp:l.hp = headHp (dedup st.hp) ann rows (st.na + ann.ts.length) st.nj:=by rw [← hlp]
        have hlshs:l.shs = (vs.take ann.ts.length).map SV.shape:=by rw [← hlp]
        have shsRefl:∀ x:List Sh,shsSame x x = true:=fun x=>by induction x with
         | nil=>rfl
         | cons a x ih=>simp only [shsSame,ih,Bool.and_true]; cases a <;> simp [Sh.same]
        have hvl:=vars_len hvs
        have hn0:∀ v,E.hd0 = some v → 0 < l.nj1:=fun v hv=>by
         rw [hlnj]
         exact hβ 0 (by rw [hS.h0 v hv]; exact fun h=>by cases h)
        have hhead:∀ {ρ1:List PV} {β:Nat → Option Loc} {st':St} {vs':List SV} {a:Act} {w:World},Sim E (ρ ++ ρ1) β (look st'.tm) (look st'.hp) a w → backOk l st' = true → varsOf st' l.ann l.rows = some vs' → shsSame ((vs'.take l.ann.ts.length).map SV.shape) l.shs = true →
         ∃ β',Sim E (ρ ++ pvs (ρ ++ ρ1) vs') β' (look (headTm ρ.length l)) (look l.hp) a w ∧ ∀ j,β' j ≠ none → j < st.nj + rows.length:=fun hs hb hv hsh=>⟨_,head_sim hs (by rw [hna]; exact hc.1) hb hv hsh hn0,fun j hj=>by
          have:=headβ_lt hj
          rw [hlnj,hlrows] at this
          exact this⟩
        refine wp_loop_ghost (fun n a w=>∃ us:List PV,us.length = vs.length ∧ I us ∧ μ us = n ∧ ∃ β',Sim E (ρ ++ us) β' (look (headTm ρ.length l)) (look l.hp) a w ∧ ∀ j,β' j ≠ none → j < st.nj + rows.length) (μ (pvs ρ vs)) ?_ ?_
        ·have:=hhead (ρ1:=[]) (by rw [List.append_nil]; exact hS) hc.2 (by rw [hlann,hlrows]; exact hvs) (by rw [hlann,hlshs]; exact shsRefl _)
         rw [List.append_nil] at this
         exact ⟨pvs ρ vs,by simp [pvs],hI,rfl,this⟩
        ·rintro m a w ⟨us,hu1,hu2,hu3,β',hu4,hu5⟩
         have hbody:=hround us hu1 hu2
         have hall:∀ l',It.lp l' ∈ K → l'.lev < Js.length:=fun l' hl'=>by
          obtain ⟨_,_,_,_,_,h1,_⟩:=hL' l' hl'
          omega
         have key:=ih (.code b :: .lp l :: K) _ (ρ ++ us) _ ((fun a' w'=>∃ n',n' < m ∧ ∃ us:List PV,us.length = vs.length ∧ I us ∧ μ us = n' ∧ ∃ β',Sim E (ρ ++ us) β' (look (headTm ρ.length l)) (look l.hp) a' w' ∧ ∀ j,β' j ≠ none → j < st.nj + rows.length) :: Js) β' a w hbody (by rw [hna,hlhp] at hu4; exact hu4) hu5 (by simp [hna,hu1]) (by simp [hC]) (by simp [hJ]) ?_
         ·have key2:b.wp P (cont P Q0 _ (.lp l :: K)) a w:=key
          refine wp_mono key2 fun e a' w' hq=>?_
          simp only [cont] at hq
          rw [cont_push hall] at hq
          have e0:∀ J:Act → World → Prop,(J :: Js).length - 1 - l.lev = 0:=fun J=>by simp; omega
          rw [e0] at hq
          exact hq
         ·intro l' hl'
          simp only [List.mem_cons,reduceCtorEq,It.lp.injEq,false_or] at hl'
          rcases hl' with rfl | hl'
          ·refine ⟨ρ,us,(fun us'=>I us' ∧ μ us' < μ us),(fun a' w'=>∃ n',n' < m ∧ ∃ us:List PV,us.length = vs.length ∧ I us ∧ μ us = n' ∧ ∃ β',Sim E (ρ ++ us) β' (look (headTm ρ.length l')) (look l'.hp) a' w' ∧ ∀ j,β' j ≠ none → j < st.nj + rows.length),rfl,by simp; omega,?_,?_,?_⟩
           ·rw [hlev]; simp [hC]
           ·rw [hlev]; simp [hJ]
           ·rintro ρ1 β1 st1 vs1 a1 w1 hs hb hv hsh ⟨h1,h2⟩
            refine ⟨μ (pvs (ρ ++ ρ1) vs1),by omega,pvs (ρ ++ ρ1) vs1,?_,h1,rfl,hhead hs hb hv hsh⟩
            have:=vars_len hv
            rw [hlann,hlrows] at this
            simp [pvs,this,hvl]
          ·exact ((hL' l' hl').app us).push (by rw [hC,hJ]) _ _
       ·exact h.elim
    | rangeFunc=>simp only [exec] at h; exact h.elim
    | scope b =>
     refine wp_scope_straight ?_
     have:=ih (.code b :: .scp :: K) st ρ C Js β a w (by simpa only [exec] using h) hS hβ hna hC hJ fun l hl=>hL' l (by simpa using hl)
     exact this
    | label l=>exact wp_label (ih K st ρ C Js β a w (by simpa only [exec] using h) hS hβ hna hC hJ hL')
    | goto=>simp only [exec] at h; exact h.elim
    | refuse=>simp only [exec] at h; exact h.elim
def resV (tmps:Array Value):ResultVar → Sem Value
 | .tmp t=>Pure.pure (tmps.getD t undef)
 | .cell a t=>do loadVar t (← asAddr (tmps.getD a undef))
theorem results_eq (fn:Func) (tmps:Array Value):results fn tmps = (do
 let vs ← fn.results.mapM (resV tmps)
 Pure.pure (if h:vs.size = 1 then vs[0] else .tuple vs)):=by
 unfold results
 congr 1
theorem res_run {ρ:List PV} {β:Nat → Option Loc} {st:St} {a:Act} {w:World} (hS:Sim E ρ β (look st.tm) (look st.hp) a w):∀ (l:List ResultVar) (ss:List SV),l.mapM (resS P st) = some ss →
 ∃ vs:List Value,(l.mapM (resV a.tmps)).run P w = .ok vs w ∧ Args ρ β w (Ok E (look st.hp) β) ss vs
 | [],ss,h=>by simp at h; subst h; exact ⟨[],rfl,.nil⟩
 | x :: l,ss,h=>by
  simp only [List.mapM_cons,Option.bind_eq_bind,Option.pure_def] at h
  rw [Option.bind_eq_some_iff] at h
  obtain ⟨s,hx,h⟩:=h
  rw [Option.bind_eq_some_iff] at h
  obtain ⟨ss',hl,h⟩:=h
  cases h
  obtain ⟨vs,h1,h2⟩:=res_run hS l ss' hl
  cases x with
  | tmp t =>
   simp only [resS] at hx
   refine ⟨a.tmps.getD t undef :: vs,?_,.cons (hS.tmr t s hx) h2⟩
   simp only [List.mapM_cons,Sem.run_bind,resV,Sem.run_pure,Result.andThen_ok,h1]
  | cell c t =>
   simp only [resS] at hx
   split at hx
   ·rename_i j off hc
    split at hx
    ·rename_i cs T hh
     obtain ⟨b,us,k1,k2,k3,k4,k5⟩:=hS.hpr j _ hh
     obtain ⟨b',hb',hv⟩:=box_val (hS.tmr c _ hc)
     rw [k1] at hb'
     cases hb'
     obtain ⟨v,hv1,hv2⟩:=partS_load hx k2 k3 k5
     refine ⟨v :: vs,?_,.cons hv2 h2⟩
     simp only [List.mapM_cons,Sem.run_bind,resV,hv,asAddr,Sem.run_pure,Result.andThen_ok,hv1,h1]
    ·rename_i cs T hh
     obtain ⟨b,us,k1,k2,k3,k4,k5⟩:=hS.hpr j _ hh
     obtain ⟨b',hb',hv⟩:=box_val (hS.tmr c _ hc)
     rw [k1] at hb'
     cases hb'
     obtain ⟨v,hv1,hv2⟩:=partS_load hx k2 k3 k5
     refine ⟨v :: vs,?_,.cons hv2 h2⟩
     simp only [List.mapM_cons,Sem.run_bind,resV,hv,asAddr,Sem.run_pure,Result.andThen_ok,hv1,h1]
    ·cases hx
   ·cases hx
def frzAll (h:Nat → Option HB) (j:Nat):Option HB:=(h j).map HB.frozenB
theorem retS_run {ρ:List PV} {β:Nat → Option Loc} {st:St} {s:SV} {a:Act} {w:World} (hr:retS P fn st = some s) (hS:Sim E ρ β (look st.tm) (look st.hp) a w) :
 ∃ v,(results fn a.tmps).run P w = .ok v w ∧ ∃ p,den ρ s = some p ∧ Rep w (fun b=>E.P0 b ∨ E.mine b) p v:=by
 have key:=res_run (P:=P) hS
 have hf:∀ j,frzAll (look st.hp) j = look st.hp j ∨ Froze (look st.hp) (frzAll (look st.hp)) j:=by
  intro j
  unfold Froze frzAll
  cases hx:look st.hp j with
  | none=>left; rfl
  | some b =>
   cases b with
   | row v e k c=>exact .inr (.inl ⟨v,e,k,c,rfl,rfl⟩)
   | box cs t=>exact .inr (.inr ⟨cs,t,rfl,rfl⟩)
   | _=>exact .inl rfl
 have hs1:=hS.frz hf
 have hmelt:MeltOK ρ β w (Ok E (frzAll (look st.hp)) β) (look st.hp):=hs1.meltOK (fun j v c h=>by
  unfold frzAll
  cases hx:look st.hp j with
  | none=>rw [hx] at h; simp [rowOf] at h
  | some b =>
   rw [hx] at h
   cases b with
   | row v' e k c' =>
    simp only [rowOf] at h
    split at h
    ·rename_i e1; cases h; subst e1; rfl
    ·cases h
   | fro v' c' =>
    simp only [rowOf] at h
    split at h
    ·rename_i e1; cases h; subst e1; rfl
    ·cases h
   | _=>simp [rowOf] at h) (fun j cs h=>by
  unfold frzAll
  cases hx:look st.hp j with
  | none=>rw [hx] at h; simp [boxOf] at h
  | some b =>
   rw [hx] at h
   cases b with
   | box cs' t =>
    simp only [boxOf] at h
    split at h
    ·cases h; exact ⟨t,rfl⟩
    ·cases h
   | fbx cs' t =>
    simp only [boxOf] at h
    split at h
    ·cases h; exact ⟨t,rfl⟩
    ·cases h
   | _=>simp [boxOf] at h)
 have hargs:∀ {l:List SV} {vs:List Value},Args ρ β w (Ok E (look st.hp) β) l vs → Args ρ β w (Ok E (frzAll (look st.hp)) β) (SV.melts (look st.hp) l) vs:=by
  intro l vs h
  rw [melts_map]
  refine ⟨by simpa using h.1,fun k s v hk hv=>?_⟩
  rw [List.getElem?_map,Option.map_eq_some_iff] at hk
  obtain ⟨s',hk,rfl⟩:=hk
  exact ((h.2 k s' v hk hv).keep' (fun _ _ h=>h) fun b hb _=>⟨ok_frz hf hb,rfl⟩).melt hmelt
 unfold retS at hr
 split at hr
 ·rename_i s' hm
  simp only at hr
  split at hr
  ·rename_i hp
   cases hr
   obtain ⟨vs,h1,h2⟩:=key _ _ hm
   obtain ⟨v,rfl,h3⟩:=argL1 (args:=[]) (hargs h2)
   obtain ⟨p,hd⟩:=h3.den1 hp
   refine ⟨v,?_,p,hd,(h3.rep hd).mono fun b hb=>hb.1⟩
   rw [results_eq,Sem.run_bind,Array.mapM_eq_mapM_toList,Sem.run_map]
   rw [h1]
   rfl
  ·cases hr
 ·rename_i l hne hm
  simp only at hr
  split at hr
  ·rename_i hp
   cases hr
   obtain ⟨vs,h1,h2⟩:=key _ _ hm
   have hlen0:l.length = vs.length:=h2.1
   replace h2:=hargs h2
   obtain ⟨ps,hd⟩:=h2.dens hp
   obtain ⟨h3,h4⟩:=h2.reps hd
   refine ⟨.tuple vs.toArray,?_,.tup ps,by simp only [den,hd,Option.map_some],.tup ps _ (by simpa using h3) fun j p hj=>?_⟩
   ·rw [results_eq,Sem.run_bind,Array.mapM_eq_mapM_toList,Sem.run_map]
    rw [h1]
    have hl:vs.toArray.size ≠ 1:=by
     intro e
     have e1:vs.length = 1:=by simpa using e
     have e2:l.length = 1:=by rw [hlen0,e1]
     match l,e2 with
     | [s],_=>exact hne s rfl
    simp only [Result.andThen_ok]
    rw [dif_neg hl]
    rfl
   ·have hlt:=(List.getElem?_eq_some_iff.1 hj).1
    refine (h4 j p _ hj ?_).mono fun b hb=>hb.1
    simp [Array.getD,show j < vs.length by omega]
  ·cases hr
 ·cases hr
theorem fitsAll_at:∀ {l:List Sh} {ps:List PV},fitsAll l ps = true → l.length = ps.length ∧ ∀ (k:Nat) (h:Sh) (p:PV),l[k]? = some h → ps[k]? = some p → fits h p = true
 | [],[],_=>⟨rfl,fun k h p hk=>by simp at hk⟩
 | [],_ :: _,h=>by simp [fitsAll] at h
 | _ :: _,[],h=>by simp [fitsAll] at h
 | h :: l,p :: ps,hf=>by
  simp only [fitsAll,Bool.and_eq_true] at hf
  obtain ⟨h1,h2⟩:=fitsAll_at hf.2
  refine ⟨by simp [h1],fun k h' p' hk hp=>?_⟩
  cases k with
  | zero=>simp at hk hp; subst hk hp; exact hf.1
  | succ k=>simp at hk hp; exact h2 k h' p' hk hp
end
end Gv
namespace Gv
open Go Go.RowKit
set_option linter.unusedVariables false
set_option linter.unusedSimpArgs false
section
variable {P:Program} {G:Tab} {R:PV → Prop} {anns:List (Nat × Ann)}
theorem info_inv {rk:RK} {f:FuncId} {xs shs:List Sh} {vc:VC} (hi:fnInfoG P G rk f xs anns = some (shs,vc)):∃ fn c,P.funcs[f]? = some fn ∧ fn.body = some c ∧ FnIs P f ∧ shs.length ≤ fn.ntmps ∧ vc = exec P G rk fn anns 100000 [.code c] (stK rk shs):=by
 unfold fnInfoG at hi
 split at hi
 ·rename_i fn hfn
  split at hi
  ·cases hi
  ·rename_i hname
   split at hi
   ·rename_i c shs' hbody hshs
    split at hi
    ·rename_i hle
     cases hi
     exact ⟨fn,c,hfn,hbody,⟨fn,hfn,by rw [hbody]; rfl,by simpa using hname⟩,hle,rfl⟩
    ·cases hi
   ·cases hi
 ·cases hi
theorem sim_start {N:Nat} {shs:List Sh} {args:List PV} {w:World} {P0:Nat → Prop} {vs:Array Value} (hle:shs.length ≤ N) (hf:fitsAll shs args = true) (hlen:args.length = vs.size) (hrep:∀ (j:Nat) (p:PV),args[j]? = some p → Rep w P0 p (vs.getD j undef)) :
 Sim ⟨w,P0,N,fun _=>False,none⟩ args (fun _=>none) (look (st0 shs).tm) (look (st0 shs).hp) { tmps:=vs ++ Array.replicate (N - vs.size) undef,defers:=[] } w:=by
 obtain ⟨k1,k2⟩:=fitsAll_at hf
 have hE:∀ b,P0 b → Ok ⟨w,P0,N,fun _=>False,none⟩ (fun _=>none) (fun _=>none) b:=fun b hb=>⟨.inl hb,fun j ⟨x,hx,_⟩=>by cases hx⟩
 refine ⟨rfl,by simp; omega,Kept.refl _,fun t s ht=>?_,fun j h hj=>by simp [st0,look] at hj,fun j j' b ⟨x,hx,_⟩=>by simp [st0,look] at hx,fun v hv=>by cases hv⟩
 have hm:=look_mem ht
 simp only [st0,List.mem_map] at hm
 obtain ⟨⟨sh,t'⟩,hm,e⟩:=hm
 obtain ⟨rfl,rfl⟩:t' = t ∧ expand (.at t') sh = s:=by simpa using e
 have hsh:shs[t']? = some sh:=by
  obtain ⟨k,hk⟩:=List.mem_iff_getElem?.1 hm
  rw [List.getElem?_zipIdx,Option.map_eq_some_iff] at hk
  obtain ⟨y,hy,e⟩:=hk
  cases e
  simpa using hy
 have hlt:=(List.getElem?_eq_some_iff.1 hsh).1
 obtain ⟨p,hp⟩:∃ p,args[t']? = some p:=⟨args[t']'(by omega),List.getElem?_eq_getElem _⟩
 have hv:(vs ++ Array.replicate (N - vs.size) undef).getD t' undef = vs.getD t' undef:=by
  simp only [Array.getD_eq_getD_getElem?]
  rw [Array.getElem?_append_left (by omega)]
 simp only
 rw [hv]
 exact expand_rep rfl (by simp only [den]; exact hp) (k2 _ sh p hsh hp) ((hrep _ p hp).mono fun b hb=>hE b hb)
theorem kept_below {w w':World} {P0:Nat → Prop} {N:Nat} {v:Option Value} (h:Kept ⟨w,P0,N,fun _=>False,v⟩ w'):Below w.heap.size w w' :=
 ⟨h.os,h.tape,h.output,h.size,fun k hk=>h.block k hk fun h=>h⟩
theorem FnR.introG {f:FuncId} {xs shs:List Sh} {vc:VC} {args:List PV} (hm:P.follows .mixedOrders = true) (hi:fnInfoG P G .pure f xs anns = some (shs,vc)) (hf:fitsAll shs args = true) (h:vc.ok P R args []):FnR P f args R:=by
 obtain ⟨fn,c,hfn,hbody,his,hle,rfl⟩:=info_inv hi
 refine ⟨his,fun w P0 vs hP hlen hrep=>?_⟩
 refine calls_of_wp hfn hbody ?_
 have hS:=sim_start hle hf hlen hrep
 have k1:=(fitsAll_at hf).1
 refine exec_ok (E:=⟨w,P0,fn.ntmps,fun _=>False,none⟩) (R:=R) (Q0:=bodyPost P fn _) hm rfl ?_ 100000 [.code c] (st0 shs) args [] [] (fun _=>none) _ w h hS (fun j hj=>absurd rfl hj) (by simp [st0]; omega) rfl rfl (fun l hl=>by simp at hl)
 intro ρ β st s a' w' hr hR hS'
 obtain ⟨v,h1,p,h2,h3⟩:=retS_run hr hS'
 rw [pv_of h2] at hR
 have:a'.defers = [] ∧ ∃ v,(results fn a'.tmps).run P w' = .ok v w' ∧ ∃ v_1 p,Ending.returned v = .returned v_1 ∧ R p ∧ Rep w' (fun b=>P0 b ∨ w.heap.size ≤ b) p v_1 ∧ Below w.heap.size w w' :=
  ⟨hS'.df,v,h1,v,p,rfl,hR,h3.mono fun b hb=>hb.imp id fun h=>h.elim id False.elim,kept_below hS'.bel⟩
 exact ⟨this,this⟩
theorem Fn.introG {f:FuncId} {xs shs:List Sh} {vc:VC} {args:List PV} {r:PV} (hm:P.follows .mixedOrders = true) (hi:fnInfoG P G .pure f xs anns = some (shs,vc)) (hf:fitsAll shs args = true) (h:vc.ok P (· = r) args []):Fn P f args r:=FnR.introG hm hi hf h
theorem FnR.intro {f:FuncId} {shs:List Sh} {vc:VC} {args:List PV} (hm:P.follows .mixedOrders = true) (hi:fnInfo P f anns = some (shs,vc)) (hf:fitsAll shs args = true) (h:vc.ok P R args []):FnR P f args R:=FnR.introG hm hi hf h
theorem Fn.intro {f:FuncId} {shs:List Sh} {vc:VC} {args:List PV} {r:PV} (hm:P.follows .mixedOrders = true) (hi:fnInfo P f anns = some (shs,vc)) (hf:fitsAll shs args = true) (h:vc.ok P (· = r) args []):Fn P f args r:=FnR.introG hm hi hf h
theorem FnR.introC {f:FuncId} {xs shs:List Sh} {vc:VC} {args:List PV} (hm:P.follows .mixedOrders = true) (hi:fnInfoC P f xs anns = some (shs,vc)) (hf:fitsAll shs args = true) (h:vc.ok P R args []):FnR P f args R:=FnR.introG hm hi hf h
theorem Fn.introC {f:FuncId} {xs shs:List Sh} {vc:VC} {args:List PV} {r:PV} (hm:P.follows .mixedOrders = true) (hi:fnInfoC P f xs anns = some (shs,vc)) (hf:fitsAll shs args = true) (h:vc.ok P (· = r) args []):Fn P f args r:=FnR.introG hm hi hf h
theorem res_one {fn:Func} {E:Env} {ρ:List PV} {β:Nat → Option Loc} {st:St} {s:SV} {a:Act} {w:World} (hr:fn.results.toList.mapM (resS P st) = some [s]) (hS:Sim E ρ β (look st.tm) (look st.hp) a w) :
 ∃ v,(results fn a.tmps).run P w = .ok v w ∧ RepS ρ β w (Ok E (look st.hp) β) s v:=by
 obtain ⟨vs,h1,h2⟩:=res_run (P:=P) hS _ _ hr
 obtain ⟨v,rfl,h3⟩:=argL1 (args:=[]) h2
 refine ⟨v,?_,h3⟩
 rw [results_eq,Sem.run_bind,Array.mapM_eq_mapM_toList,Sem.run_map]
 rw [h1]
 rfl
theorem res_many {fn:Func} {E:Env} {ρ:List PV} {β:Nat → Option Loc} {st:St} {l:List SV} {a:Act} {w:World} (hr:fn.results.toList.mapM (resS P st) = some l) (hl:l.length ≠ 1) (hS:Sim E ρ β (look st.tm) (look st.hp) a w) :
 ∃ vs:List Value,(results fn a.tmps).run P w = .ok (.tuple vs.toArray) w ∧ Args ρ β w (Ok E (look st.hp) β) l vs:=by
 obtain ⟨vs,h1,h2⟩:=res_run (P:=P) hS _ _ hr
 refine ⟨vs,?_,h2⟩
 rw [results_eq,Sem.run_bind,Array.mapM_eq_mapM_toList,Sem.run_map]
 rw [h1]
 have hl':vs.toArray.size ≠ 1:=by
  have:=h2.1
  simp only [List.size_toArray]
  omega
 simp only [Result.andThen_ok]
 rw [dif_neg hl']
 rfl
theorem rowRes_at {E:Env} {ρ:List PV} {β:Nat → Option Loc} {st:St} {s c:SV} {e:TypeId} {k:Nat} {v:Value} {a:Act} {w:World} (hk:0 < k) (hr:rowRes e k st.hp s = some c) (hS:Sim E ρ β (look st.tm) (look st.hp) a w) (hv:RepS ρ β w (Ok E (look st.hp) β) s v) :
 ∃ es,den ρ c = some (.sl es) ∧ RowAt w E.mine (Ok E (look st.hp) β) e k v es ∧ ∀ b,v.ownBlock = some b → ∃ j,Owns β (look st.hp) j b:=by
 unfold rowRes at hr
 split at hr
 ·rename_i j v0
  split at hr
  ·rename_i v' e' k' c' hh
   split at hr
   ·rename_i hcond
    cases hr
    obtain ⟨rfl,rfl,rfl⟩:=hcond
    obtain ⟨val,es,h1,h2,_,h3⟩:=hS.hpr _ _ hh
    have hx:=row_val hv
    rw [h1] at hx
    cases hx
    exact ⟨es,h2,h3,fun b hb=>⟨j,_,hh,_,h1,hb⟩⟩
   ·cases hr
  ·cases hr
 ·split at hr
  ·rename_i hnil
   cases hr
   obtain ⟨rfl⟩:s = .con (.slice none 0 0):=by
    unfold SV.isNil at hnil
    split at hnil
    ·rfl
    ·cases hnil
   have:=nil_val hv
   subst this
   exact ⟨[],rfl,⟨hk,[],World.ownsRow_nil _ _ _ _,fun b hb=>(by cases hb),fun i el hi=>by simp at hi⟩,fun b hb=>by cases hb⟩
  ·cases hr
theorem FnN.intro {f:FuncId} {xs shs:List Sh} {vc:VC} {args:List PV} {e:TypeId} {k:Nat} (hm:P.follows .mixedOrders = true) (hi:fnInfoG P G (.fresh e k) f xs anns = some (shs,vc)) (hk:0 < k) (hf:fitsAll shs args = true) (h:vc.ok P R args []):FnN P f args e k R:=by
 obtain ⟨fn,c,hfn,hbody,his,hle,rfl⟩:=info_inv hi
 refine ⟨his,fun w P0 vs hP hlen hrep=>?_⟩
 refine calls_of_wp hfn hbody ?_
 have hS:=sim_start hle hf hlen hrep
 have k1:=(fitsAll_at hf).1
 refine exec_ok (E:=⟨w,P0,fn.ntmps,fun _=>False,none⟩) (R:=R) (Q0:=bodyPost P fn _) hm rfl ?_ 100000 [.code c] (st0 shs) args [] [] (fun _=>none) _ w h hS (fun j hj=>absurd rfl hj) (by simp [st0]; omega) rfl rfl (fun l hl=>by simp at hl)
 intro ρ β st s a' w' hr hR hS'
 simp only [retK] at hr
 split at hr
 ·rename_i s0 hs0
  obtain ⟨v,h1,h2⟩:=res_one hs0 hS'
  obtain ⟨es,h3,h4,h5⟩:=rowRes_at hk hr hS' h2
  rw [pv_of h3] at hR
  have hrow:RowAt w' (fun b=>w.heap.size ≤ b) (fun b=>(P0 b ∨ w.heap.size ≤ b) ∧ v.ownBlock ≠ some b) e k v es:=h4.as (fun b hb=>(h4.owns hb).2.elim id False.elim) fun b hb=>⟨hb.1.imp id fun h=>h.elim id False.elim,fun e=>by
   obtain ⟨j,hj⟩:=h5 b e
   exact hb.2 j hj⟩
  have:a'.defers = [] ∧ ∃ v,(results fn a'.tmps).run P w' = .ok v w' ∧ ∃ v_1 es,Ending.returned v = .returned v_1 ∧ R (.sl es) ∧ Below w.heap.size w w' ∧ RowAt w' (fun b=>w.heap.size ≤ b) (fun b=>(P0 b ∨ w.heap.size ≤ b) ∧ v_1.ownBlock ≠ some b) e k v_1 es :=
   ⟨hS'.df,v,h1,v,es,rfl,hR,kept_below hS'.bel,hrow⟩
  exact ⟨this,this⟩
 ·cases hr
theorem sim_given {N:Nat} {shs:List Sh} {args:List PV} {w:World} {P0:Nat → Prop} {val:Value} {vs:Array Value} {e:TypeId} {k:Nat} {es:List (List PV)} (hle:shs.length ≤ N) (hf:fitsAll shs (.sl es :: args) = true) (hP:∀ b,P0 b → b < w.heap.size ∧ val.ownBlock ≠ some b) (hrow:RowAt w (fun _=>True) P0 e k val es) (hlen:args.length = vs.size) (hrep:∀ (j:Nat) (p:PV),args[j]? = some p → Rep w P0 p (vs.getD j undef)) :
 Sim ⟨w,P0,N,fun b=>val.ownBlock = some b,some val⟩ (.sl es :: args) (fun i=>if i = 0 then some (.hdr val) else none) (look (st1 e k shs).tm) (look (st1 e k shs).hp) { tmps:=(#[val] ++ vs) ++ Array.replicate (N - (#[val] ++ vs).size) undef,defers:=[] } w:=by
 obtain ⟨k1,k2⟩:=fitsAll_at hf
 have hh:∀ j x,look (st1 e k shs).hp j = some x → j = 0 ∧ x = .row 0 e k (.at 0):=by
  intro j x hj
  simp only [st1] at hj
  rw [look_cons] at hj
  split at hj
  ·cases hj; exact ⟨by assumption,rfl⟩
  ·simp [look] at hj
 have hown:∀ j b,Owns (fun i=>if i = 0 then some (Loc.hdr val) else none) (look (st1 e k shs).hp) j b → j = 0 ∧ val.ownBlock = some b:=by
  rintro j b ⟨x,hx,ho⟩
  obtain ⟨rfl,rfl⟩:=hh j x hx
  obtain ⟨v,h1,h2⟩:=ho
  simp only [if_true,Option.some.injEq,Loc.hdr.injEq] at h1
  rw [h1]
  exact ⟨rfl,h2⟩
 have hE:∀ b,P0 b → Ok ⟨w,P0,N,fun b=>val.ownBlock = some b,some val⟩ (look (st1 e k shs).hp) (fun i=>if i = 0 then some (.hdr val) else none) b:=fun b hb=>⟨.inl hb,fun j ho=>(hP b hb).2 (hown j b ho).2⟩
 have hsz:(#[val] ++ vs).size = args.length + 1:=by simp; omega
 simp only [List.length_cons] at k1
 refine ⟨rfl,by simp only [Array.size_append,Array.size_replicate] at hsz ⊢; omega,Kept.refl _,fun t s ht=>?_,fun j h hj=>?_,fun j j' b h1 h2=>by rw [(hown j b h1).1,(hown j' b h2).1],fun v hv=>by cases hv; rfl⟩
 ·simp only [st1] at ht
  rw [look_cons] at ht
  split at ht
  ·rename_i e0
   subst e0
   cases ht
   obtain ⟨A,c,hv⟩:=hrow.slice
   have:((#[val] ++ vs) ++ Array.replicate (N - (#[val] ++ vs).size) undef).getD 0 undef = val:=by
    simp [Array.getD]
   simp only
   rw [this,hv]
   exact .row 0 0 _ _ _ (by simp [hv])
  ·rename_i hne
   have hm:=look_mem ht
   simp only [List.mem_map] at hm
   obtain ⟨⟨sh,t'⟩,hm,e1⟩:=hm
   obtain ⟨rfl,rfl⟩:t' = t ∧ expand (.at t') sh = s:=by simpa using e1
   have hsh:shs[t']? = some sh:=by
    obtain ⟨k,hk⟩:=List.mem_iff_getElem?.1 hm
    rw [List.getElem?_zipIdx,Option.map_eq_some_iff] at hk
    obtain ⟨y,hy,e⟩:=hk
    cases e
    simpa using hy
   have hlt:=(List.getElem?_eq_some_iff.1 hsh).1
   obtain ⟨m,rfl⟩:∃ m,t' = m + 1:=⟨t' - 1,by omega⟩
   obtain ⟨p,hp⟩:∃ p,args[m]? = some p:=⟨args[m]'(by omega),List.getElem?_eq_getElem _⟩
   have hv:((#[val] ++ vs) ++ Array.replicate (N - (#[val] ++ vs).size) undef).getD (m + 1) undef = vs.getD m undef:=by
    have hml:=(List.getElem?_eq_some_iff.1 hp).1
    simp only [Array.getD_eq_getD_getElem?]
    rw [Array.getElem?_append_left (by omega),Array.getElem?_append_right (by simp)]
    simp
   simp only
   rw [hv]
   have hp':(PV.sl es :: args)[m + 1]? = some p:=by simpa using hp
   exact expand_rep rfl (by simp only [den]; exact hp') (k2 _ sh p hsh hp') ((hrep _ p hp).mono fun b hb=>hE b hb)
 ·obtain ⟨rfl,rfl⟩:=hh j h hj
  exact ⟨val,es,by simp,rfl,rfl,hrow.as (fun b hb=>.inr hb) fun b hb=>hE b hb⟩
theorem FnB.intro {f:FuncId} {xs shs:List Sh} {vc:VC} {args:List PV} {e:TypeId} {k:Nat} {es:List (List PV)} (hm:P.follows .mixedOrders = true) (hi:fnInfoG P G (.back e k) f xs anns = some (shs,vc)) (hk:0 < k) (hf:fitsAll shs (.sl es :: args) = true) (h:vc.ok P R (.sl es :: args) []):FnB P f e k es args R:=by
 obtain ⟨fn,c,hfn,hbody,his,hle,rfl⟩:=info_inv hi
 refine ⟨his,fun w P0 val vs hP hrow hlen hrep=>?_⟩
 refine calls_of_wp hfn hbody ?_
 have hS:=sim_given hle hf hP hrow hlen hrep
 have k1:=(fitsAll_at hf).1
 have hlow:∀ b,val.ownBlock = some b → b < w.heap.size:=fun b hb=>(hrow.owns hb).1
 refine exec_ok (E:=⟨w,P0,fn.ntmps,fun b=>val.ownBlock = some b,some val⟩) (R:=R) (Q0:=bodyPost P fn _) hm rfl ?_ 100000 [.code c] (st1 e k shs) (.sl es :: args) [] [] _ _ w h hS (fun j hj=>by
  by_cases e:j = 0
  ·subst e; exact Nat.zero_lt_one
  ·simp only [e,if_false,ne_eq,not_true_eq_false] at hj) (by simp [st1] at k1 ⊢; omega) rfl rfl (fun l hl=>by simp at hl)
 intro ρ β st s a' w' hr hR hS'
 simp only [retK] at hr
 split at hr
 ·rename_i s0 hs0
  obtain ⟨v,h1,h2⟩:=res_one hs0 hS'
  obtain ⟨es',h3,h4,h5⟩:=rowRes_at hk hr hS' h2
  rw [pv_of h3] at hR
  have hg:w.grownBy w' val.ownBlock:=⟨hS'.bel.os,hS'.bel.tape,hS'.bel.output,hS'.bel.size,fun k hk hn=>hS'.bel.block k hk fun h=>hn h.symm⟩
  have hrow2:RowAt w' (fun _=>True) (fun b=>(P0 b ∨ w.heap.size ≤ b ∨ val.ownBlock = some b) ∧ v.ownBlock ≠ some b) e k v es':=h4.as (fun _ _=>trivial) fun b hb=>⟨hb.1,fun e=>by
   obtain ⟨j,hj⟩:=h5 b e
   exact hb.2 j hj⟩
  have:a'.defers = [] ∧ ∃ v,(results fn a'.tmps).run P w' = .ok v w' ∧ ∃ v_1 es',Ending.returned v = .returned v_1 ∧ R (.sl es') ∧ w.grownBy w' val.ownBlock ∧ (∀ b,v_1.ownBlock = some b → w.heap.size ≤ b ∨ val.ownBlock = some b) ∧ RowAt w' (fun _=>True) (fun b=>(P0 b ∨ w.heap.size ≤ b ∨ val.ownBlock = some b) ∧ v_1.ownBlock ≠ some b) e k v_1 es' :=
   ⟨hS'.df,v,h1,v,es',rfl,hR,hg,fun b hb=>(h4.owns hb).2,hrow2⟩
  exact ⟨this,this⟩
 ·cases hr
theorem FnT.intro {f:FuncId} {xs shs:List Sh} {vc:VC} {args:List PV} {e:TypeId} {k:Nat} {es:List (List PV)} (hm:P.follows .mixedOrders = true) (hi:fnInfoG P G (.turn e k) f xs anns = some (shs,vc)) (hf:fitsAll shs (.sl es :: args) = true) (h:vc.ok P R (.sl es :: args) []):FnT P f e k es args R:=by
 obtain ⟨fn,c,hfn,hbody,his,hle,rfl⟩:=info_inv hi
 refine ⟨his,fun w P0 val vs hP hrow hlen hrep=>?_⟩
 refine calls_of_wp hfn hbody ?_
 have hS:=sim_given hle hf hP hrow hlen hrep
 have k1:=(fitsAll_at hf).1
 have hk:=hrow.1
 refine exec_ok (E:=⟨w,P0,fn.ntmps,fun b=>val.ownBlock = some b,some val⟩) (R:=R) (Q0:=bodyPost P fn _) hm rfl ?_ 100000 [.code c] (st1 e k shs) (.sl es :: args) [] [] _ _ w h hS (fun j hj=>by
  by_cases e:j = 0
  ·subst e; exact Nat.zero_lt_one
  ·simp only [e,if_false,ne_eq,not_true_eq_false] at hj) (by simp [st1] at k1 ⊢; omega) rfl rfl (fun l hl=>by simp at hl)
 intro ρ β st s a' w' hr hR hS'
 have hg:w.grownBy w' val.ownBlock:=⟨hS'.bel.os,hS'.bel.tape,hS'.bel.output,hS'.bel.size,fun k hk hn=>hS'.bel.block k hk fun h=>hn h.symm⟩
 have hβ0:=hS'.h0 val rfl
 -- the row
 have hrowR:∀ c,rowRes e k st.hp (.row 0 0) = some c → ∃ es',den ρ c = some (.sl es') ∧ RowAt w' (fun _=>True) (fun b=>(P0 b ∨ w.heap.size ≤ b) ∧ val.ownBlock ≠ some b) e k val es' ∧ ∀ b,Ok ⟨w,P0,fn.ntmps,fun b=>val.ownBlock = some b,some val⟩ (look st.hp) β b → (P0 b ∨ w.heap.size ≤ b) ∧ val.ownBlock ≠ some b:=by
  intro c hc
  obtain ⟨A,n,hv⟩:=hrow.slice
  obtain ⟨es',h3,h4,_⟩:=rowRes_at (v:=val) hk hc hS' (by rw [hv]; exact .row 0 0 _ _ _ (by rw [hβ0,hv]))
  have hown:∀ b,val.ownBlock = some b → Owns β (look st.hp) 0 b:=by
   intro b hb
   simp only [rowRes] at hc
   split at hc
   ·rename_i v' e' k' c' hh
    split at hc
    ·rename_i hcond
     obtain ⟨rfl,_,_⟩:=hcond
     exact ⟨_,hh,val,hβ0,hb⟩
    ·cases hc
   ·cases hc
  have hok:∀ b,Ok ⟨w,P0,fn.ntmps,fun b=>val.ownBlock = some b,some val⟩ (look st.hp) β b → (P0 b ∨ w.heap.size ≤ b) ∧ val.ownBlock ≠ some b:=by
   intro b hb
   have hne:val.ownBlock ≠ some b:=fun e=>hb.2 0 (hown b e)
   refine ⟨?_,hne⟩
   rcases hb.1 with h | h | h
   ·exact .inl h
   ·exact .inr h
   ·exact absurd h hne
  exact ⟨es',h3,h4.as (fun _ _=>trivial) hok,hok⟩
 have fin:∀ v es' r,(results fn a'.tmps).run P w' = .ok v w' → R (.tup [.sl es',r]) → RowAt w' (fun _=>True) (fun b=>(P0 b ∨ w.heap.size ≤ b) ∧ val.ownBlock ≠ some b) e k val es' → Rep w' (fun b=>(P0 b ∨ w.heap.size ≤ b) ∧ val.ownBlock ≠ some b) r v → bodyPost P fn (fun x w'=>∃ v es' r,x = .returned v ∧ R (.tup [.sl es',r]) ∧ w.grownBy w' val.ownBlock ∧ RowAt w' (fun _=>True) (fun b=>(P0 b ∨ w.heap.size ≤ b) ∧ val.ownBlock ≠ some b) e k val es' ∧ Rep w' (fun b=>(P0 b ∨ w.heap.size ≤ b) ∧ val.ownBlock ≠ some b) r v) .normal a' w' ∧ bodyPost P fn (fun x w'=>∃ v es' r,x = .returned v ∧ R (.tup [.sl es',r]) ∧ w.grownBy w' val.ownBlock ∧ RowAt w' (fun _=>True) (fun b=>(P0 b ∨ w.heap.size ≤ b) ∧ val.ownBlock ≠ some b) e k val es' ∧ Rep w' (fun b=>(P0 b ∨ w.heap.size ≤ b) ∧ val.ownBlock ≠ some b) r v) .ret a' w':=by
  intro v es' r h1 h2 h3 h4
  have:a'.defers = [] ∧ ∃ v,(results fn a'.tmps).run P w' = .ok v w' ∧ ∃ v_1 es' r,Ending.returned v = .returned v_1 ∧ R (.tup [.sl es',r]) ∧ w.grownBy w' val.ownBlock ∧ RowAt w' (fun _=>True) (fun b=>(P0 b ∨ w.heap.size ≤ b) ∧ val.ownBlock ≠ some b) e k val es' ∧ Rep w' (fun b=>(P0 b ∨ w.heap.size ≤ b) ∧ val.ownBlock ≠ some b) r v_1 :=
   ⟨hS'.df,v,h1,v,es',r,rfl,h2,hg,h3,h4⟩
  exact ⟨this,this⟩
 simp only [retK] at hr
 split at hr
 ·rename_i c s0 hc hs0
  split at hr
  ·rename_i hp
   cases hr
   obtain ⟨es',g1,g2,g3⟩:=hrowR c hc
   obtain ⟨v,h1,h2⟩:=res_one hs0 hS'
   obtain ⟨p,hd⟩:=h2.den1 hp
   have hR':R (.tup [.sl es',p]):=by
    have:pv ρ (.tup [c,s0]) = .tup [.sl es',p]:=pv_of (by simp only [den,dens,g1,hd,Option.map_some])
    rwa [this] at hR
   exact fin v es' p h1 hR' g2 ((h2.rep hd).mono g3)
  ·cases hr
 ·rename_i c l hne hc hl
  split at hr
  ·rename_i hp
   cases hr
   obtain ⟨es',g1,g2,g3⟩:=hrowR c hc
   have hl1:l.length ≠ 1:=by
    intro e1
    match l,e1 with
    | [s],_=>exact hne s rfl
   obtain ⟨vs',h1,h2⟩:=res_many hl hl1 hS'
   obtain ⟨ps,hd⟩:=h2.dens hp
   obtain ⟨h3,h4⟩:=h2.reps hd
   have hR':R (.tup [.sl es',.tup ps]):=by
    have:pv ρ (.tup [c,.tup l]) = .tup [.sl es',.tup ps]:=pv_of (by simp only [den,dens,g1,hd,Option.map_some])
    rwa [this] at hR
   refine fin _ es' (.tup ps) h1 hR' g2 (.tup ps _ (by simpa using h3) fun j p hj=>?_)
   have hlt:=(List.getElem?_eq_some_iff.1 hj).1
   refine (h4 j p _ hj ?_).mono g3
   simp [Array.getD,show j < vs'.length by omega]
  ·cases hr
 ·cases hr
def findReg (id:Nat):Code → Option Code
 | .region i ops d=>if i == id then some (.region i ops d) else none
 | .seq a b=>(findReg id a).orElse fun _=>findReg id b
 | .cond _ a b=>(findReg id a).orElse fun _=>findReg id b
 | .block _ b=>findReg id b
 | .loop b=>findReg id b
 | _=>none
def execReg (P:Program) (fn:Func) (id:Nat) (st:St):VC:=match fn.body.bind (findReg id) with
 | some c=>exec P [] .pure fn [] 1000 [.code c] st
 | none=>.bad
theorem wp_of_reg {fn:Func} {id:Nat} {c:Code} {st:St} {ρ:List PV} {β:Nat → Option Loc} {E:Env} {Q0:Exit → Act → World → Prop} {a:Act} {w:World} {vc:VC} (hm:P.follows .mixedOrders = true) (hN:E.N = fn.ntmps)
 (hc:fn.body.bind (findReg id) = some c) (hv:execReg P fn id st = vc) (h:vc.ok P R ρ []) (hS:Sim E ρ β (look st.tm) (look st.hp) a w) (hβ:∀ j,β j ≠ none → j < st.nj) (hna:ρ.length = st.na) (hnl:st.nl = 0)
 (hQ0:∀ ρ β st s a w,retS P fn st = some s → R (pv ρ s) → Sim E ρ β (look st.tm) (look st.hp) a w → Q0 .normal a w ∧ Q0 .ret a w):c.wp P Q0 a w:=by
 unfold execReg at hv
 rw [hc] at hv
 subst hv
 exact exec_ok (anns:=[]) (G:=[]) (rk:=.pure) hm hN hQ0 1000 [.code c] st ρ [] [] β a w h hS hβ hna (by rw [hnl]; rfl) (by rw [hnl]; rfl) (fun l hl=>by simp at hl)
end
end Gv
