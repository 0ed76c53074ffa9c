import Derived.Test.YtlpfbcilnfgaaaaGreatDoorEgz
import Derived.Handy
/- The engine, 8: a region, in its text's order and in any order. Over any program. -/
namespace Gv
open Go Go.RowKit
set_option linter.unusedVariables false
set_option linter.unusedSimpArgs false

/-- a bool that is known -/
def Refi (ρ : List PV) (s0 s : SV) : Prop := s = s0 ∨ ∃ b, s = .con (.bool b) ∧ den ρ s0 = some (.raw (.bool b))
theorem Refi.rep {ρ : List PV} {β : Nat → Option Nat} {w : World} {W : Nat → Prop} {s0 s : SV} {v : Value} (h : Refi ρ s0 s) (hr : RepS ρ β w W s0 v) : RepS ρ β w W s v := by
  rcases h with rfl | ⟨b, rfl, hd⟩
  · exact hr
  · rw [hr.bool hd]
    exact .con _ rfl
theorem Refi.app {ρ ρ' : List PV} {s0 s : SV} (h : Refi ρ s0 s) : Refi (ρ ++ ρ') s0 s := by
  rcases h with h | ⟨b, h, hd⟩
  · exact .inl h
  · exact .inr ⟨b, h, den_app ρ ρ' hd⟩

section
variable (P : Program) (ops : List Oper) (N nj0 : Nat)
/-- what an operation did, told by names -/
inductive Did (ρ : List PV) (tm : Nat → Option SV) (hp : Nat → Option HB) (k : Nat) (o : Oper) (te : TE) : Prop
  | skip (hw : wantOf ops tm o = .no) (hd : ∀ d, o.dst = some d → d < N) (ht : te = ⟨o.dst, .tup [], none, none⟩)
  | run (hw : wantOf ops tm o = .yes) (hd : ∀ d, o.dst = some d → d < N) (args : List SV) (ha : evalOps tm o.op.operands.toList = some args) (na : Nat) (e : Eff)
      (he : symOp P ((hread o.op args).bind hp) na (nj0 + k) o args = some e) (hn : NdOK P ρ na e.nd) (hwf : e.nd.wf na = true) (hna : na ≤ ρ.length) (ht : te = ⟨o.dst, e.s, e.h, hread o.op args⟩)
/-- the names behind the operations that were told, in the text's order -/
def updP {α : Type} (f : Nat → Option α) : Option (Nat × α) → (Nat → Option α)
  | some (j, h) => fun t => if t = j then some h else f t
  | none => f
def gS {α : Type} (pr : TE → Option (Nat × α)) (T : List TE) (listed : Nat → Bool) (f0 : Nat → Option α) : Nat → (Nat → Option α)
  | 0 => f0
  | m + 1 => if listed m then (match T[m]? with
    | some te => updP (gS pr T listed f0 m) (pr te)
    | none => gS pr T listed f0 m) else gS pr T listed f0 m
def prT (te : TE) : Option (Nat × SV) := te.d.map fun d => (d, te.s)
def prH (te : TE) : Option (Nat × HB) := te.h
def tmS (T : List TE) (listed : Nat → Bool) (tm0 : Nat → Option SV) : Nat → (Nat → Option SV) := gS prT T listed tm0
def hpS (T : List TE) (listed : Nat → Bool) (hp0 : Nat → Option HB) : Nat → (Nat → Option HB) := gS prH T listed hp0
/-- all operations told -/
def Told (ρ : List PV) (tm0 : Nat → Option SV) (hp0 : Nat → Option HB) (T : List TE) : Prop :=
  ∀ k o te, ops[k]? = some o → T[k]? = some te → ∃ tmr, (∀ t s, tmr t = some s → ∃ s0, tmS T (fun _ => true) tm0 k t = some s0 ∧ Refi ρ s0 s) ∧ Did P ops N nj0 ρ tmr (hpS T (fun _ => true) hp0 k) k o te
end

mutual
theorem wf_den {n j : Nat} (ρ ρ' : List PV) (hn : n ≤ ρ.length) : ∀ {s : SV}, s.wf n j = true → den (ρ ++ ρ') s = den ρ s
  | .at k, h => by
    simp only [SV.wf, decide_eq_true_eq] at h
    simp only [den]
    exact List.getElem?_append_left (by omega)
  | .con v, h => by simp only [den]
  | .cel s i, h => by simp only [SV.wf] at h; simp only [den, wf_den ρ ρ' hn h]
  | .ext s i, h => by simp only [SV.wf] at h; simp only [den, wf_den ρ ρ' hn h]
  | .agg l, h => by simp only [SV.wf] at h; simp only [den, wfs_dens ρ ρ' hn h]
  | .tup l, h => by simp only [SV.wf] at h; simp only [den, wfs_dens ρ ρ' hn h]
  | .clo fn fs cs, h => by simp only [SV.wf, Bool.and_eq_true] at h; simp only [den, wfs_dens ρ ρ' hn h.1, wfs_dens ρ ρ' hn h.2]
  | .box _ _, h => by simp only [den]
  | .mapp _, h => by simp only [den]
theorem wfs_dens {n j : Nat} (ρ ρ' : List PV) (hn : n ≤ ρ.length) : ∀ {l : List SV}, SV.wfs n j l = true → dens (ρ ++ ρ') l = dens ρ l
  | [], h => by simp only [dens]
  | s :: l, h => by simp only [SV.wfs, Bool.and_eq_true] at h; simp only [dens, wf_den ρ ρ' hn h.1, wfs_dens ρ ρ' hn h.2]
end
theorem wf_pvs {n j : Nat} (ρ ρ' : List PV) (hn : n ≤ ρ.length) : ∀ {l : List SV}, SV.wfs n j l = true → pvs (ρ ++ ρ') l = pvs ρ l
  | [], h => rfl
  | s :: l, h => by
    simp only [SV.wfs, Bool.and_eq_true] at h
    simp only [pvs, List.map_cons]
    have := wf_pvs ρ ρ' hn h.2
    simp only [pvs] at this
    rw [this]
    simp only [pv, wf_den ρ ρ' hn h.1]
theorem NdOK.app {P : Program} {ρ : List PV} {na : Nat} {nd : Nd} (h : NdOK P ρ na nd) (hw : nd.wf na = true) (hn : na ≤ ρ.length) (ρ' : List PV) : NdOK P (ρ ++ ρ') na nd := by
  cases nd with
  | none => trivial
  | call f args sh =>
    obtain ⟨r, h1, h2, h3⟩ := h
    exact ⟨r, getElem?_app h1, by rw [wf_pvs ρ ρ' hn hw]; exact h2, h3⟩
  | callv fv args sh =>
    obtain ⟨r, h1, h2, h3⟩ := h
    simp only [Nd.wf, Bool.and_eq_true] at hw
    exact ⟨r, getElem?_app h1, by rw [wf_pvs ρ ρ' hn hw.2, show pv (ρ ++ ρ') fv = pv ρ fv by simp only [pv, wf_den ρ ρ' hn hw.1]]; exact h2, h3⟩
  | prim p args =>
    obtain ⟨r, h1, h2⟩ := h
    exact ⟨r, getElem?_app h1, by rw [wf_pvs ρ ρ' hn hw]; exact h2⟩
  | mk c n args =>
    simp only [NdOK] at h ⊢
    rw [wf_pvs ρ ρ' hn hw]
    exact getElem?_app h
theorem Did.app {P : Program} {ops : List Oper} {N nj0 : Nat} {ρ : List PV} {tm : Nat → Option SV} {hp : Nat → Option HB} {k : Nat} {o : Oper} {te : TE} (h : Did P ops N nj0 ρ tm hp k o te) (ρ' : List PV) : Did P ops N nj0 (ρ ++ ρ') tm hp k o te := by
  cases h with
  | skip hw hd ht => exact .skip hw hd ht
  | run hw hd args ha na e he hn hwf hna ht => exact .run hw hd args ha na e he (hn.app hwf hna ρ') hwf (by simp; omega) ht

/-- what stands among the operands -/
theorem looks_operand {ops : List Oper} {o : Oper} {t : Nat} (h : Operand.tmp t ∈ o.op.operands.toList) : t ∈ looksAt ops o := by
  unfold looksAt
  exact List.mem_append_left _ (List.mem_filterMap.2 ⟨_, h, rfl⟩)
theorem looks_guard {ops : List Oper} {o : Oper} {g : Nat} {want : Bool} {t : Nat} (h : o.guard = some (g, want)) (ht : (ops[g]?).bind (·.dst) = some t) : t ∈ looksAt ops o := by
  unfold looksAt
  refine List.mem_append_right _ ?_
  rw [h]
  simp [ht]

section
variable {P : Program} {E : Env} {ρ : List PV} {β : Nat → Option Nat} {tm : Nat → Option SV} {hp : Nat → Option HB} {a : Act} {w : World} {Q : Exit → Act → World → Prop}

theorem evalOps_args : ∀ {l : List Operand} {args : List SV} {tm : Nat → Option SV}, evalOps tm l = some args → (∀ t s, Operand.tmp t ∈ l → tm t = some s → RepS ρ β w (Ok E hp β) s (a.tmps.getD t undef)) → Args ρ β w (Ok E hp β) args (l.map a.eval)
  | [], args, tm, h, _ => by simp [evalOps] at h; subst h; exact .nil
  | x :: l, args, tm, h, hr => by
    simp only [evalOps, List.mapM_cons, Option.bind_eq_bind, Option.pure_def] at h
    cases hx : evalOp tm x with
    | none => simp [hx] at h
    | some s =>
      cases hl : l.mapM (evalOp tm) with
      | none => simp [hx, hl] at h
      | some ss =>
        simp [hx, hl] at h
        subst h
        refine .cons ?_ (evalOps_args hl fun t s ht => hr t s (by simp [ht]))
        cases x with
        | tmp t => exact hr t s (by simp) hx
        | const v => exact svOf_rep hx
        | global g => simp only [evalOp, Option.some.injEq] at hx; subst hx; exact .con _ rfl
        | func f =>
          simp only [evalOp, Option.some.injEq] at hx
          subst hx
          exact .clo _ [] [] #[] #[] rfl rfl (fun j s h => by simp at h) (fun j s h => by simp at h)
theorem wanted_yes {ops : Array Oper} {tmr : Nat → Option SV} {o : Oper} (h : wantOf ops.toList tmr o = .yes) (hr : ∀ t s, t ∈ looksAt ops.toList o → tmr t = some s → RepS ρ β w (Ok E hp β) s (a.tmps.getD t undef)) : Region.wanted o (yielded ops a.tmps) = true := by
  unfold wantOf at h
  unfold Region.wanted
  split at h
  · rename_i hg; rw [hg]
  · rename_i g want hg
    rw [hg]
    split at h
    · rename_i t ht
      split at h
      · rename_i b hb
        split at h
        · rename_i hbw
          have := (hr t _ (looks_guard hg ht) hb).bool rfl
          have hsz : a.tmps[t]? = some (.bool b) := by
            simp only [Array.getD_eq_getD_getElem?] at this
            cases hx : a.tmps[t]? with
            | none => rw [hx] at this; cases this
            | some v => rw [hx] at this; simp at this; rw [this]
          have ht' : (ops[g]?).bind (·.dst) = some t := by simpa using ht
          simp only [yielded, ht', Option.bind_some, hsz]
          simpa using hbw
        · cases h
      · cases h
      · split at h <;> cases h
      · cases h
    · cases h
theorem wanted_no {ops : Array Oper} {tmr : Nat → Option SV} {o : Oper} (h : wantOf ops.toList tmr o = .no) (hr : ∀ t s, t ∈ looksAt ops.toList o → tmr t = some s → RepS ρ β w (Ok E hp β) s (a.tmps.getD t undef)) : Region.wanted o (yielded ops a.tmps) = false := by
  unfold wantOf at h
  unfold Region.wanted
  split at h
  · cases h
  · rename_i g want hg
    rw [hg]
    split at h
    · rename_i t ht
      have ht' : (ops[g]?).bind (·.dst) = some t := by simpa using ht
      split at h
      · rename_i b hb
        split at h
        · cases h
        · rename_i hbw
          have := (hr t _ (looks_guard hg ht) hb).bool rfl
          have hsz : a.tmps[t]? = some (.bool b) := by
            simp only [Array.getD_eq_getD_getElem?] at this
            cases hx : a.tmps[t]? with
            | none => rw [hx] at this; cases this
            | some v => rw [hx] at this; simp at this; rw [this]
          simp only [yielded, ht', Option.bind_some, hsz]
          simpa using hbw
      · rename_i hb
        have := hr t _ (looks_guard hg ht) hb
        generalize hv : a.tmps.getD t undef = v at this
        have hv2 : v = .tuple #[] := by
          cases this with
          | pure s p v hd hf hr' => simp only [den, dens, Option.map_some, Option.some.injEq] at hd; subst hd; simp [PV.flat] at hf
          | tup _ vs hl _ => congr 1; exact Array.eq_empty_of_size_eq_zero (by simpa using hl.symm)
        simp only [yielded, ht', Option.bind_some]
        cases hx : a.tmps[t]? with
        | none => simp
        | some u =>
          have : u = .tuple #[] := by rw [← hv2, ← hv]; simp [hx]
          subst this
          simp
      · split at h <;> cases h
      · cases h
    · cases h

/-- an operation that was told, in a frame where what it looks at is as it was told -/
theorem did_op {ops : Array Oper} (hm : P.follows .mixedOrders = true) {k : Nat} {o : Oper} {te : TE} {nj0 : Nat} {tmr : Nat → Option SV} {hpr : Nat → Option HB} (ho : ops[k]? = some o) (hs : Sim E ρ β tm hp a w)
    (hr : ∀ t s, t ∈ looksAt ops.toList o → tmr t = some s → ∃ s0, tm t = some s0 ∧ Refi ρ s0 s) (hh : ∀ j, te.rd = some j → hp j = hpr j) (hD : Did P ops.toList E.N nj0 ρ tmr hpr k o te) (hj : β (nj0 + k) = none) {K : Act → World → Prop}
    (hK : ∀ β' a' w', Sim E ρ β' (upd tm te.d te.s) (updh hp te.h) a' w' → (∀ i, β' i ≠ none → β i ≠ none ∨ i = nj0 + k) → K a' w') : wpOp P ops Q k K a w := by
  have hr' : ∀ t s, t ∈ looksAt ops.toList o → tmr t = some s → RepS ρ β w (Ok E hp β) s (a.tmps.getD t undef) := by
    intro t s ht hts
    obtain ⟨s0, h1, h2⟩ := hr t s ht hts
    exact h2.rep (hs.tmr t s0 h1)
  unfold wpOp
  simp only [ho]
  cases hD with
  | skip hw hd ht =>
    subst ht
    rw [wanted_no hw hr']
    exact hK β _ _ (hs.put undef_rep _ hd) fun i h => .inl h
  | run hw hd args ha na e he hn hwf hna ht =>
    subst ht
    rw [wanted_yes hw hr', if_pos rfl]
    refine .inl (op_run hm hs (evalOps_args ha fun t s ht => hr' t s (looks_operand ht)) (j := nj0 + k) (na := na) ?_ hn hj hd hK)
    rw [← he]
    congr 1
    cases hx : hread o.op args with
    | none => rfl
    | some j => exact hh j hx
end
end Gv


/- The engine, 9: a region in any order, and its condition. Over any program. -/
namespace Gv
open Go Go.RowKit
set_option linter.unusedVariables false
set_option linter.unusedSimpArgs false

theorem upd_updP {α : Type} (f : Nat → Option α) (d : Option Nat) (x : α) : upd f d x = updP f (d.map fun d => (d, x)) := by cases d <;> rfl
theorem updh_updP (f : Nat → Option HB) (e : Option (Nat × HB)) : updh f e = updP f e := by cases e <;> rfl

section
variable {α : Type} {pr : TE → Option (Nat × α)} {T : List TE} {f0 : Nat → Option α}
theorem updP_at (f : Nat → Option α) (e : Option (Nat × α)) (t : Nat) (h : ∀ q, e = some q → q.1 ≠ t) : updP f e t = f t := by
  cases e with
  | none => rfl
  | some q => simp only [updP]; rw [if_neg (fun e => h q rfl e.symm)]
theorem gS_agree {listed listed' : Nat → Bool} (t : Nat) : ∀ n, (∀ m te q, m < n → T[m]? = some te → pr te = some q → q.1 = t → listed m = listed' m) → gS pr T listed f0 n t = gS pr T listed' f0 n t
  | 0, _ => rfl
  | n + 1, h => by
    have ih := gS_agree (listed := listed) (listed' := listed') t n fun m te q hm => h m te q (by omega)
    simp only [gS]
    cases hT : T[n]? with
    | none => simp only [ite_self]; exact ih
    | some te =>
      show (if listed n = true then updP (gS pr T listed f0 n) (pr te) else gS pr T listed f0 n) t = (if listed' n = true then updP (gS pr T listed' f0 n) (pr te) else gS pr T listed' f0 n) t
      by_cases hq : ∃ q, pr te = some q ∧ q.1 = t
      · obtain ⟨q, h1, h2⟩ := hq
        rw [h n te q (by omega) hT h1 h2]
        split
        · rw [h1]; simp only [updP, h2, if_true]
        · exact ih
      · have hno : ∀ f, updP f (pr te) t = f t := fun f => updP_at f _ t fun q h1 h2 => hq ⟨q, h1, h2⟩
        split <;> split <;> first | (rw [hno, hno]; exact ih) | (rw [hno]; exact ih) | exact ih
theorem gS_prefix (k : Nat) : ∀ n, k ≤ n → gS pr T (fun m => decide (m < k)) f0 n = gS pr T (fun _ => true) f0 k := by
  intro n
  induction n with
  | zero => intro h; have : k = 0 := by omega
            subst this; rfl
  | succ n ih =>
    intro h
    by_cases e : k = n + 1
    · subst e
      funext t
      refine gS_agree t _ fun m te q hm _ _ _ => ?_
      simp [hm]
    · rw [← ih (by omega)]
      simp only [gS]
      rw [if_neg (by simp; omega)]
theorem gS_add {listed listed' : Nat → Bool} {k : Nat} {te : TE} (hk : listed k = false) (hk' : listed' k = true) (ho : ∀ m, m ≠ k → listed' m = listed m) (hT : T[k]? = some te) : ∀ n, k < n →
    (∀ m te' q q', k < m → m < n → listed m = true → T[m]? = some te' → pr te' = some q' → pr te = some q → q.1 ≠ q'.1) → gS pr T listed' f0 n = updP (gS pr T listed f0 n) (pr te)
  | 0, h, _ => by omega
  | n + 1, h, hd => by
    by_cases e : k = n
    · subst e
      have e1 : gS pr T listed' f0 k = gS pr T listed f0 k := by
        funext t
        exact gS_agree t k fun m _ _ hm _ _ _ => ho m (by omega)
      simp only [gS, hk, hk', if_true, hT, e1, Bool.false_eq_true, if_false]
    · have ih := gS_add hk hk' ho hT n (by omega) fun m te' q q' h1 h2 => hd m te' q q' h1 (by omega)
      simp only [gS]
      rw [ho n (by omega), ih]
      split
      · rename_i hl
        cases hT' : T[n]? with
        | none => rfl
        | some te' =>
          simp only
          funext t
          cases h1 : pr te with
          | none => rfl
          | some q =>
            cases h2 : pr te' with
            | none => rfl
            | some q' =>
              have := hd n te' q q' (by omega) (by omega) hl hT' h2 h1
              simp only [updP]
              split
              · split
                · rename_i e1 e2; exact absurd (e2.symm.trans e1) this
                · rfl
              · rfl
      · rfl
theorem gS_append (T' : List TE) (listed : Nat → Bool) : ∀ n, n ≤ T.length → gS pr (T ++ T') listed f0 n = gS pr T listed f0 n
  | 0, _ => rfl
  | n + 1, h => by
    simp only [gS, gS_append T' listed n (by omega), List.getElem?_append_left (show n < T.length by omega)]
end

/-! the order of a region -/
def edgeMask (acc : List Nat) (o : Oper) : Nat := o.after.foldl (fun s e => if Region.binds .any e then s ||| 2 ^ e.on ||| acc.getD e.on 0 else s) 0
theorem edgeMask_bit (acc : List Nat) (es : List Edge) : ∀ (s i : Nat), (es.foldl (fun s e => if Region.binds .any e then s ||| 2 ^ e.on ||| acc.getD e.on 0 else s) s).testBit i = true →
    s.testBit i = true ∨ ∃ e ∈ es, Region.binds .any e = true ∧ (i = e.on ∨ (acc.getD e.on 0).testBit i = true) := by
  induction es with
  | nil => intro s i h; exact .inl h
  | cons e es ih =>
    intro s i h
    simp only [List.foldl_cons] at h
    rcases ih _ i h with h | ⟨e', h1, h2, h3⟩
    · split at h
      · rename_i hb
        simp only [Nat.testBit_or, Bool.or_eq_true] at h
        rcases h with (h | h) | h
        · exact .inl h
        · refine .inr ⟨e, by simp, hb, .inl ?_⟩
          rw [Nat.testBit_two_pow] at h
          exact (by simpa using h : e.on = i).symm
        · exact .inr ⟨e, by simp, hb, .inr h⟩
      · exact .inl h
    · exact .inr ⟨e', by simp [h1], h2, h3⟩
theorem masks_go : ∀ (l : List Oper) (acc : List Nat), ∃ ms, l.foldl (fun acc o => acc ++ [o.after.foldl (fun s e => if Region.binds .any e then s ||| 2 ^ e.on ||| acc.getD e.on 0 else s) 0]) acc = acc ++ ms ∧ ms.length = l.length ∧
    ∀ k o, l[k]? = some o → ms[k]? = some (edgeMask (acc ++ ms.take k) o)
  | [], acc => ⟨[], by simp, rfl, fun k o h => by simp at h⟩
  | o :: l, acc => by
    obtain ⟨ms, h1, h2, h3⟩ := masks_go l (acc ++ [edgeMask acc o])
    refine ⟨edgeMask acc o :: ms, ?_, by simp [h2], fun k o' hk => ?_⟩
    · simp only [List.foldl_cons]
      unfold edgeMask at h1 ⊢
      rw [h1]
      simp
    · cases k with
      | zero => simp at hk; subst hk; simp
      | succ k =>
        simp at hk
        have := h3 k o' hk
        simpa [List.append_assoc] using this
theorem masks_bit {ops : List Oper} {k i m : Nat} {o : Oper} (ho : ops[k]? = some o) (hm : (masks ops)[k]? = some m) (h : m.testBit i = true) :
    ∃ e ∈ o.after.toList, Region.binds .any e = true ∧ (i = e.on ∨ (e.on < k ∧ ∃ m', (masks ops)[e.on]? = some m' ∧ m'.testBit i = true)) := by
  obtain ⟨ms, h1, h2, h3⟩ := masks_go ops []
  have e0 : masks ops = ms := by unfold masks; rw [h1]; rfl
  rw [e0] at hm ⊢
  have := h3 k o ho
  rw [hm] at this
  cases this
  unfold edgeMask at h
  rw [← Array.foldl_toList] at h
  rcases edgeMask_bit _ _ _ _ h with h | ⟨e, he, hb, h⟩
  · simp at h
  · refine ⟨e, he, hb, ?_⟩
    rcases h with h | h
    · exact .inl h
    · right
      simp only [List.nil_append, List.getD_eq_getElem?_getD] at h
      cases hx : (ms.take k)[e.on]? with
      | none => rw [hx] at h; simp at h
      | some m' =>
        rw [hx] at h
        have hlt := (List.getElem?_eq_some_iff.1 hx).1
        rw [List.length_take] at hlt
        rw [List.getElem?_take, if_pos (by omega)] at hx
        exact ⟨by omega, m', hx, h⟩
/-- what is told of an order -/
theorem ordered_pair {ops : List Oper} {T : List TE} (h : ordered ops T = true) {i k : Nat} (hik : i < k) (hk : k < ops.length) : ∃ oi ok a b m, ops[i]? = some oi ∧ ops[k]? = some ok ∧ T[i]? = some a ∧ T[k]? = some b ∧ (masks ops)[k]? = some m ∧
    (m.testBit i = true ∨ apartTE (looksAt ops oi) (looksAt ops ok) a b = true) := by
  unfold ordered at h
  simp only [Bool.and_eq_true, List.all_eq_true] at h
  have h1 := h.2 k (List.mem_range.2 hk) i (List.mem_range.2 hik)
  split at h1
  · rename_i oi ok a b m e1 e2 e3 e4 e5
    exact ⟨oi, ok, a, b, m, e1, e2, e3, e4, e5, by simpa [Bool.or_eq_true] using h1⟩
  · cases h1
theorem ordered_edge {ops : List Oper} {T : List TE} (h : ordered ops T = true) {k : Nat} {o : Oper} (ho : ops[k]? = some o) {e : Edge} (he : e ∈ o.after.toList) (hb : Region.binds .any e = true) : e.on < k := by
  unfold ordered at h
  simp only [Bool.and_eq_true, List.all_eq_true] at h
  have hmem : (o, k) ∈ ops.zipIdx := by
    refine List.mem_of_getElem? (i := k) ?_
    rw [List.getElem?_zipIdx, ho]
    simp
  have := h.1 (o, k) hmem
  simp only [Array.all_eq_true_iff_forall_mem] at this
  have := this e (by simpa using he)
  rw [hb] at this
  simpa using this
theorem apart_tm {la lb : List Nat} {a b : TE} (h : apartTE la lb a b = true) : (∀ d, a.d = some d → d ∉ lb ∧ b.d ≠ some d) ∧ (∀ d, b.d = some d → d ∉ la) := by
  unfold apartTE at h
  simp only [Bool.and_eq_true] at h
  obtain ⟨⟨⟨h1, h2⟩, h3⟩, h4⟩ := h
  refine ⟨fun d hd => ?_, fun d hd => ?_⟩
  · rw [hd] at h1; simpa using h1
  · rw [hd] at h2; simpa using h2
theorem apart_hp {la lb : List Nat} {a b : TE} (h : apartTE la lb a b = true) : (∀ j x, a.h = some (j, x) → b.rd ≠ some j ∧ ∀ j' y, b.h = some (j', y) → j ≠ j') ∧ (∀ j x, b.h = some (j, x) → a.rd ≠ some j) := by
  unfold apartTE at h
  simp only [Bool.and_eq_true] at h
  obtain ⟨⟨⟨h1, h2⟩, h3⟩, h4⟩ := h
  refine ⟨fun j x hj => ?_, fun j x hj => ?_⟩
  · rw [hj] at h3
    simp only [Bool.and_eq_true] at h3
    refine ⟨by simpa using h3.1, fun j' y hy => ?_⟩
    have := h3.2
    rw [hy] at this
    simpa using this
  · rw [hj] at h4; simpa using h4

/-- how many operations are still to come -/
def togo (n : Nat) (listed : Nat → Bool) : Nat := (List.range n).countP fun i => !listed i
theorem togo_step {n k : Nat} {listed listed' : Nat → Bool} (hk : k < n) (h0 : listed k = false) (h1 : listed' k = true) (ho : ∀ m, m ≠ k → listed' m = listed m) : togo n listed = togo n listed' + 1 := by
  unfold togo
  induction n with
  | zero => omega
  | succ n ih =>
    simp only [List.range_succ, List.countP_append, List.countP_cons, List.countP_nil]
    by_cases e : k = n
    · subst e
      have : (List.range k).countP (fun i => !listed i) = (List.range k).countP (fun i => !listed' i) := by
        refine List.countP_congr fun i hi => ?_
        rw [ho i (by have := List.mem_range.1 hi; omega)]
      rw [this, h0, h1]
      simp
    · rw [ih (by omega), ho n (by omega)]
      omega
theorem togo_zero {n : Nat} {listed : Nat → Bool} (h : togo n listed = 0) : ∀ k, k < n → listed k = true := by
  intro k hk
  unfold togo at h
  rw [List.countP_eq_zero] at h
  have := h k (List.mem_range.2 hk)
  simpa using this

section
variable {P : Program} {E : Env} {ρ : List PV} {Q : Exit → Act → World → Prop} {nj0 : Nat} {ops : Array Oper} {T : List TE} {tm0 : Nat → Option SV} {hp0 : Nat → Option HB}

/-- which operations stand in a frame and a world -/
def Stands (P : Program) (E : Env) (ρ : List PV) (nj0 : Nat) (ops : Array Oper) (T : List TE) (tm0 : Nat → Option SV) (hp0 : Nat → Option HB) (listed : Nat → Bool) (a : Act) (w : World) : Prop :=
  ∃ β, Sim E ρ β (tmS T listed tm0 ops.size) (hpS T listed hp0 ops.size) a w ∧ ∀ j, β j ≠ none → j < nj0 ∨ ∃ k, j = nj0 + k ∧ k < ops.size ∧ listed k = true

theorem stands_step (hm : P.follows .mixedOrders = true) (hlen : T.length = ops.size) (hT : Told P ops.toList E.N nj0 ρ tm0 hp0 T) {listed listed' : Nat → Bool} {k : Nat} (hk : k < ops.size) (h0 : listed k = false) (h1 : listed' k = true) (hot : ∀ m, m ≠ k → listed' m = listed m)
    (hpre : ∀ te te' m, T[k]? = some te → T[m]? = some te' → m ≠ k → m < ops.size → ∀ o, ops[k]? = some o →
      ((∀ d, te'.d = some d → d ∈ looksAt ops.toList o → listed m = decide (m < k)) ∧ (∀ j x, te'.h = some (j, x) → te.rd = some j → listed m = decide (m < k))) ∧
      (k < m → listed m = true → (∀ d, te.d = some d → te'.d ≠ some d) ∧ (∀ j x y, te.h = some (j, x) → te'.h ≠ some (j, y))))
    {a : Act} {w : World} (hS : Stands P E ρ nj0 ops T tm0 hp0 listed a w) {K : Act → World → Prop} (hK : ∀ a' w', Stands P E ρ nj0 ops T tm0 hp0 listed' a' w' → K a' w') : wpOp P ops Q k K a w := by
  obtain ⟨β, hs, hβ⟩ := hS
  obtain ⟨o, ho⟩ : ∃ o, ops[k]? = some o := ⟨ops[k], Array.getElem?_eq_getElem hk⟩
  obtain ⟨te, ht⟩ : ∃ te, T[k]? = some te := ⟨T[k]'(by omega), List.getElem?_eq_getElem _⟩
  obtain ⟨tmr, hr, hD⟩ := hT k o te (by simpa using ho) ht
  have hj : β (nj0 + k) = none := by
    cases hx : β (nj0 + k) with
    | none => rfl
    | some b =>
      rcases hβ (nj0 + k) (by rw [hx]; simp) with h | ⟨k', h2, _, h3⟩
      · omega
      · have : k' = k := by omega
        subst this
        rw [h0] at h3
        cases h3
  have hself : ∀ d, te.d = some d → ∀ m, m = k → listed m = decide (m < k) := by
    rintro d _ m rfl
    rw [h0]
    simp
  have agree_tm : ∀ t, t ∈ looksAt ops.toList o → tmS T listed tm0 ops.size t = tmS T (fun _ => true) tm0 k t := by
    intro t htl
    have e1 : tmS T (fun _ => true) tm0 k = tmS T (fun m => decide (m < k)) tm0 ops.size := (gS_prefix k ops.size (by omega)).symm
    rw [e1]
    refine gS_agree t ops.size fun m te' q hmn hTm hq hqt => ?_
    simp only [prT, Option.map_eq_some_iff] at hq
    obtain ⟨d, hd, rfl⟩ := hq
    simp only at hqt
    subst hqt
    by_cases e : m = k
    · subst e; rw [h0]; simp
    · exact (hpre te te' m ht hTm e hmn o ho).1.1 d hd htl
  have agree_hp : ∀ j, te.rd = some j → hpS T listed hp0 ops.size j = hpS T (fun _ => true) hp0 k j := by
    intro j hrd
    have e1 : hpS T (fun _ => true) hp0 k = hpS T (fun m => decide (m < k)) hp0 ops.size := (gS_prefix k ops.size (by omega)).symm
    rw [e1]
    refine gS_agree j ops.size fun m te' q hmn hTm hq hqt => ?_
    simp only [prH] at hq
    obtain ⟨j', x⟩ := q
    simp only at hqt
    subst hqt
    by_cases e : m = k
    · subst e; rw [h0]; simp
    · exact (hpre te te' m ht hTm e hmn o ho).1.2 j' x hq hrd
  refine did_op hm ho hs (fun t s htl hts => ?_) agree_hp hD hj fun β' a' w' hs' hβ' => hK a' w' ⟨β', ?_, fun j hj' => ?_⟩
  · obtain ⟨s0, h2, h3⟩ := hr t s hts
    exact ⟨s0, by rw [agree_tm t htl]; exact h2, h3⟩
  · have e1 : tmS T listed' tm0 ops.size = upd (tmS T listed tm0 ops.size) te.d te.s := by
      rw [upd_updP]
      refine gS_add h0 h1 hot ht ops.size hk fun m te' q q' hkm hmn hl hTm hq' hq => ?_
      simp only [prT, Option.map_eq_some_iff] at hq hq'
      obtain ⟨d, hd, rfl⟩ := hq
      obtain ⟨d', hd', rfl⟩ := hq'
      simp only
      intro e
      subst e
      exact ((hpre te te' m ht hTm (by omega) hmn o ho).2 hkm hl).1 d hd hd'
    have e2 : hpS T listed' hp0 ops.size = updh (hpS T listed hp0 ops.size) te.h := by
      rw [updh_updP]
      refine gS_add h0 h1 hot ht ops.size hk fun m te' q q' hkm hmn hl hTm hq' hq => ?_
      simp only [prH] at hq hq'
      obtain ⟨j, x⟩ := q
      obtain ⟨j', y⟩ := q'
      simp only
      intro e
      subst e
      exact ((hpre te te' m ht hTm (by omega) hmn o ho).2 hkm hl).2 j x y hq hq'
    rw [e1, e2]
    exact hs'
  · rcases hβ' j hj' with h | h
    · rcases hβ j h with h | ⟨k', h2, h3, h4⟩
      · exact .inl h
      · refine .inr ⟨k', h2, h3, ?_⟩
        by_cases e : k' = k
        · rw [e]; exact h1
        · rw [hot k' e]; exact h4
    · exact .inr ⟨k, h, hk, h1⟩

/-- in the text's order -/
theorem reg_seq (hm : P.follows .mixedOrders = true) (hlen : T.length = ops.size) (hT : Told P ops.toList E.N nj0 ρ tm0 hp0 T) (hQ : ∀ a w, Stands P E ρ nj0 ops T tm0 hp0 (fun _ => true) a w → Q .normal a w) :
    ∀ (r k : Nat), k + r = ops.size → ∀ a w, Stands P E ρ nj0 ops T tm0 hp0 (fun m => decide (m < k)) a w → wpOps P ops Q ((List.range r).map (k + ·)) a w := by
  intro r
  induction r with
  | zero =>
    intro k hk a w hS
    refine hQ a w ?_
    obtain ⟨β, h1, h2⟩ := hS
    have e : ∀ m, m < ops.size → decide (m < k) = true := fun m hm => by simp; omega
    refine ⟨β, ?_, fun j hj => ?_⟩
    · have e1 : tmS T (fun _ => true) tm0 ops.size = tmS T (fun m => decide (m < k)) tm0 ops.size := by
        funext t; exact (gS_agree t _ fun m _ _ hm _ _ _ => (e m hm).symm)
      have e2 : hpS T (fun _ => true) hp0 ops.size = hpS T (fun m => decide (m < k)) hp0 ops.size := by
        funext t; exact (gS_agree t _ fun m _ _ hm _ _ _ => (e m hm).symm)
      rw [e1, e2]; exact h1
    · rcases h2 j hj with h | ⟨k', h3, h4, _⟩
      · exact .inl h
      · exact .inr ⟨k', h3, h4, rfl⟩
  | succ r ih =>
    intro k hk a w hS
    rw [List.range_succ_eq_map, List.map_cons, Nat.add_zero, List.map_map, wpOps_cons]
    refine stands_step hm hlen hT (listed' := fun m => decide (m < k + 1)) (by omega) (by simp) (by simp) (fun m hm => ?_) (fun te te' m _ _ hne hmn o _ => ⟨⟨fun _ _ _ => rfl, fun _ _ _ _ => rfl⟩, fun hkm hl => ?_⟩) hS fun a' w' hS' => ?_
    · simp only [decide_eq_decide]; omega
    · simp at hl; omega
    · have := ih (k + 1) (by omega) a' w' hS'
      have e : (List.range r).map ((fun x => k + x) ∘ Nat.succ) = (List.range r).map (k + 1 + ·) := by
        refine List.map_congr_left fun x _ => ?_
        simp only [Function.comp]
        omega
      rw [e]
      exact this
end
end Gv


/- The engine, 10: a region in any order; what a region's condition tells. Over any program. -/
namespace Gv
open Go Go.RowKit
set_option linter.unusedVariables false
set_option linter.unusedSimpArgs false
section
variable {P : Program} {E : Env} {ρ : List PV} {Q : Exit → Act → World → Prop} {nj0 : Nat} {ops : Array Oper} {T : List TE} {tm0 : Nat → Option SV} {hp0 : Nat → Option HB}

/-- what comes ahead of an operation has come -/
def Down (ops : Array Oper) (listed : Nat → Bool) : Prop := ∀ k o, ops[k]? = some o → listed k = true → ∀ e ∈ o.after.toList, Region.binds .any e = true → listed e.on = true
theorem down_mask {listed : Nat → Bool} (hd : Down ops listed) : ∀ (k : Nat) (o : Oper) (m i : Nat), ops[k]? = some o → (masks ops.toList)[k]? = some m → m.testBit i = true → (∀ e ∈ o.after.toList, Region.binds .any e = true → listed e.on = true) → listed i = true := by
  intro k
  induction k using Nat.strongRecOn with
  | _ k ih =>
    intro o m i ho hm hb hpre
    obtain ⟨e, he, hbn, h⟩ := masks_bit (by simpa using ho) hm hb
    rcases h with rfl | ⟨hlt, m', hm', hb'⟩
    · exact hpre e he hbn
    · have hl := hpre e he hbn
      have hsz : e.on < ops.size := by
        have := (Array.getElem?_eq_some_iff.1 ho).1
        omega
      exact ih e.on hlt ops[e.on] m' i (Array.getElem?_eq_getElem hsz) hm' hb' (hd e.on _ (Array.getElem?_eq_getElem hsz) hl)

theorem reg_any (hm : P.follows .mixedOrders = true) (hlen : T.length = ops.size) (hT : Told P ops.toList E.N nj0 ρ tm0 hp0 T) (hord : ordered ops.toList T = true) (hQ : ∀ a w, Stands P E ρ nj0 ops T tm0 hp0 (fun _ => true) a w → Q .normal a w) :
    ∀ (fuel : Nat) (ls : Array Bool), ls.size = ops.size → togo ops.size (fun m => ls.getD m false) ≤ fuel → Down ops (fun m => ls.getD m false) → ∀ a w, Stands P E ρ nj0 ops T tm0 hp0 (fun m => ls.getD m false) a w → wpAny P .any ops Q fuel ls a w := by
  have hdone : ∀ (ls : Array Bool), (∀ m, m < ops.size → ls.getD m false = true) → ∀ a w, Stands P E ρ nj0 ops T tm0 hp0 (fun m => ls.getD m false) a w → Q .normal a w := by
    intro ls hall a w hS
    refine hQ a w ?_
    obtain ⟨β, h1, h2⟩ := hS
    refine ⟨β, ?_, fun j hj => ?_⟩
    · have e1 : tmS T (fun _ => true) tm0 ops.size = tmS T (fun m => ls.getD m false) tm0 ops.size := by
        funext t; exact gS_agree t _ fun m _ _ hm _ _ _ => (hall m hm).symm
      have e2 : hpS T (fun _ => true) hp0 ops.size = hpS T (fun m => ls.getD m false) hp0 ops.size := by
        funext t; exact gS_agree t _ fun m _ _ hm _ _ _ => (hall m hm).symm
      rw [e1, e2]; exact h1
    · rcases h2 j hj with h | ⟨k', h3, h4, _⟩
      · exact .inl h
      · exact .inr ⟨k', h3, h4, rfl⟩
  have hready : ∀ (ls : Array Bool) (i : Nat), i ∈ Region.ready .any ops ls ↔ i < ops.size ∧ ls.getD i true = false ∧ ∀ o, ops[i]? = some o → ∀ e ∈ o.after.toList, Region.binds .any e = true → ls.getD e.on false = true := by
    intro ls i
    unfold Region.ready
    simp only [List.mem_filter, List.mem_range, Bool.and_eq_true, Bool.not_eq_true']
    constructor
    · rintro ⟨h1, h2, h3⟩
      refine ⟨h1, h2, fun o ho e he hb => ?_⟩
      rw [ho] at h3
      simp only [Option.map_some, Option.getD_some, Array.all_eq_true_iff_forall_mem, Bool.or_eq_true, Bool.not_eq_true'] at h3
      rcases h3 e (by simpa using he) with h | h
      · rw [hb] at h; cases h
      · exact h
    · rintro ⟨h1, h2, h3⟩
      refine ⟨h1, h2, ?_⟩
      rw [Array.getElem?_eq_getElem h1]
      simp only [Option.map_some, Option.getD_some, Array.all_eq_true_iff_forall_mem, Bool.or_eq_true, Bool.not_eq_true']
      intro e he
      by_cases hb : Region.binds .any e = true
      · exact .inr (h3 _ (Array.getElem?_eq_getElem h1) e (by simpa using he) hb)
      · exact .inl (by simpa using hb)
  have hnone : ∀ (ls : Array Bool), ls.size = ops.size → Region.ready .any ops ls = [] → ∀ m, m < ops.size → ls.getD m false = true := by
    intro ls hsz hr m
    induction m using Nat.strongRecOn with
    | _ m ih =>
      intro hmn
      cases hx : ls.getD m false with
      | true => rfl
      | false =>
        exfalso
        have hx' : ls.getD m true = false := by
          have : m < ls.size := by omega
          simp [Array.getD, this] at hx ⊢
          exact hx
        have : m ∈ Region.ready .any ops ls := (hready ls m).2 ⟨hmn, hx', fun o ho e he hb => by
          have hlt := ordered_edge hord (by simpa using ho : ops.toList[m]? = some o) he hb
          exact ih e.on hlt (by omega)⟩
        rw [hr] at this
        simp at this
  intro fuel
  induction fuel with
  | zero =>
    intro ls hsz hf hd a w hS
    have hall := togo_zero (Nat.le_zero.1 hf)
    refine ⟨?_, hdone ls hall a w hS⟩
    apply List.eq_nil_iff_forall_not_mem.2
    intro i hi
    obtain ⟨h1, h2, _⟩ := (hready ls i).1 hi
    have := hall i h1
    have hlt : i < ls.size := by omega
    simp only [Array.getD, hlt, dite_true] at this h2
    rw [this] at h2
    cases h2
  | succ fuel ih =>
    intro ls hsz hf hd a w hS
    refine ⟨fun hr => hdone ls (hnone ls hsz hr) a w hS, fun k hk => ?_⟩
    obtain ⟨h1, h2, h3⟩ := (hready ls k).1 hk
    have hklt : k < ls.size := by omega
    have h0 : (fun m => ls.getD m false) k = false := by
      simp only [Array.getD, hklt, dite_true] at h2 ⊢
      exact h2
    have h1' : (fun m => (ls.setIfInBounds k true).getD m false) k = true := by
      simp [Array.getD, hklt]
    have hot : ∀ m, m ≠ k → (fun m => (ls.setIfInBounds k true).getD m false) m = (fun m => ls.getD m false) m := by
      intro m hne
      simp only [Array.getD_eq_getD_getElem?, Array.getElem?_setIfInBounds_ne (Ne.symm hne)]
    obtain ⟨ok, hok⟩ : ∃ o, ops[k]? = some o := ⟨ops[k], Array.getElem?_eq_getElem h1⟩
    refine stands_step hm hlen hT h1 h0 h1' hot (fun te te' m ht ht' hne hmn o ho => ?_) hS fun a' w' hS' => ?_
    · rw [hok] at ho
      cases ho
      by_cases hmk : m < k
      · obtain ⟨oi, ok', x, y, msk, e1, e2, e3, e4, e5, h⟩ := ordered_pair hord hmk (by simpa using h1)
        have e2' : ok' = ok := by simp at e2; rw [hok] at e2; exact (Option.some.inj e2).symm
        subst e2'
        rw [ht] at e4
        cases e4
        rw [ht'] at e3
        cases e3
        rcases h with h | h
        · have hl : ls.getD m false = true := down_mask hd k ok' msk m hok e5 h (h3 ok' hok)
          exact ⟨⟨fun _ _ _ => by simp only [hl]; simp [hmk], fun _ _ _ _ => by simp only [hl]; simp [hmk]⟩, fun hkm => by omega⟩
        · refine ⟨⟨fun d hd1 hd2 => absurd hd2 ((apart_tm h).1 d hd1).1, fun j z hz hrd => absurd hrd ((apart_hp h).1 j z hz).1⟩, fun hkm => by omega⟩
      · have hkm : k < m := by omega
        obtain ⟨oi, ok', x, y, msk, e1, e2, e3, e4, e5, h⟩ := ordered_pair hord hkm (by simpa using hmn)
        have e1' : oi = ok := by simp at e1; rw [hok] at e1; exact (Option.some.inj e1).symm
        subst e1'
        rw [ht] at e3
        cases e3
        rw [ht'] at e4
        cases e4
        rcases h with h | h
        · have hl : ls.getD m false = false := by
            cases hx : ls.getD m false with
            | false => rfl
            | true =>
              have := down_mask hd m ok' msk k (by simpa using e2) e5 h (hd m ok' (by simpa using e2) hx)
              simp only at this h0
              rw [h0] at this
              cases this
          refine ⟨⟨fun _ _ _ => by simp only [hl]; simp; omega, fun _ _ _ _ => by simp only [hl]; simp; omega⟩, fun _ hlm => ?_⟩
          rw [hl] at hlm
          cases hlm
        · refine ⟨⟨fun d hd1 hd2 => absurd hd2 ((apart_tm h).2 d hd1), fun j z hz hrd => absurd hrd ((apart_hp h).2 j z hz)⟩, fun _ _ => ⟨fun d hd1 => ((apart_tm h).1 d hd1).2, fun j z y hz hy => ((apart_hp h).1 j z hz).2 j y hy rfl⟩⟩
    · refine ih _ (by simp [hsz]) ?_ ?_ a' w' hS'
      · have := togo_step h1 h0 h1' hot
        omega
      · intro m o ho hl e he hb
        by_cases e1 : m = k
        · subst e1
          have := h3 o ho e he hb
          by_cases e2 : e.on = m
          · rw [e2]; exact h1'
          · rw [hot _ e2]; exact this
        · rw [hot _ e1] at hl
          have := hd m o ho hl e he hb
          by_cases e2 : e.on = k
          · rw [e2]; exact h1'
          · rw [hot _ e2]; exact this
end
end Gv


/- The engine, 11: what a region's condition tells. Over any program. -/
namespace Gv
open Go Go.RowKit
set_option linter.unusedVariables false
set_option linter.unusedSimpArgs false
section
variable {P : Program} {ρ : List PV} {N nj0 : Nat} {ops : List Oper} {tm0 : Nat → Option SV} {hp0 : Nat → Option HB} {R : PV → Prop} {C : List (List PV → Prop)}

theorem look_cons {α : Type} (l : List (Nat × α)) (k n : Nat) (x : α) : look ((k, x) :: l) n = if n = k then some x else look l n := by
  simp only [look]
  by_cases h : n = k
  · subst h; simp
  · rw [if_neg h]
    have : (k == n) = false := by simpa using fun e => h e.symm
    rw [this]; rfl
/-- the names so far -/
structure Sofar (P : Program) (ops : List Oper) (N nj0 : Nat) (tm0 : Nat → Option SV) (hp0 : Nat → Option HB) (ρ : List PV) (st : St) (T : List TE) : Prop where
  tm : ∀ t s, look st.tm t = some s → ∃ s0, tmS T (fun _ => true) tm0 T.length t = some s0 ∧ Refi ρ s0 s
  hp : ∀ j, look st.hp j = hpS T (fun _ => true) hp0 T.length j
  told : Told P ops N nj0 ρ tm0 hp0 T
  na : ρ.length = st.na

theorem tmS_snoc (T : List TE) (te : TE) (k : Nat) (hk : k ≤ T.length) : tmS (T ++ [te]) (fun _ => true) tm0 k = tmS T (fun _ => true) tm0 k := gS_append _ _ k hk
theorem hpS_snoc (T : List TE) (te : TE) (k : Nat) (hk : k ≤ T.length) : hpS (T ++ [te]) (fun _ => true) hp0 k = hpS T (fun _ => true) hp0 k := gS_append _ _ k hk
theorem tmS_last (T : List TE) (te : TE) : tmS (T ++ [te]) (fun _ => true) tm0 (T ++ [te]).length = upd (tmS T (fun _ => true) tm0 T.length) te.d te.s := by
  rw [upd_updP, List.length_append]
  show gS prT (T ++ [te]) (fun _ => true) tm0 (T.length + 1) = _
  simp only [gS, if_true]
  have e : (T ++ [te])[T.length]? = some te := by simp
  rw [e]
  simp only
  rw [gS_append _ _ _ (Nat.le_refl _)]
  rfl
theorem hpS_last (T : List TE) (te : TE) : hpS (T ++ [te]) (fun _ => true) hp0 (T ++ [te]).length = updh (hpS T (fun _ => true) hp0 T.length) te.h := by
  rw [updh_updP, List.length_append]
  show gS prH (T ++ [te]) (fun _ => true) hp0 (T.length + 1) = _
  simp only [gS, if_true]
  have e : (T ++ [te])[T.length]? = some te := by simp
  rw [e]
  simp only
  rw [gS_append _ _ _ (Nat.le_refl _)]
  rfl
theorem Told.snoc {T : List TE} {te : TE} {o : Oper} {tmr : Nat → Option SV} (h : Told P ops N nj0 ρ tm0 hp0 T) (ho : ops[T.length]? = some o) (hr : ∀ t s, tmr t = some s → ∃ s0, tmS T (fun _ => true) tm0 T.length t = some s0 ∧ Refi ρ s0 s)
    (hD : Did P ops N nj0 ρ tmr (hpS T (fun _ => true) hp0 T.length) T.length o te) : Told P ops N nj0 ρ tm0 hp0 (T ++ [te]) := by
  intro k o' te' hk ht
  by_cases e : k < T.length
  · rw [List.getElem?_append_left e] at ht
    rw [tmS_snoc T te k (by omega), hpS_snoc T te k (by omega)]
    exact h k o' te' hk ht
  · have hlt := (List.getElem?_eq_some_iff.1 ht).1
    simp at hlt
    have e : k = T.length := by omega
    subst e
    rw [ho] at hk
    cases hk
    simp at ht
    subst ht
    rw [tmS_snoc T _ _ (Nat.le_refl _), hpS_snoc T _ _ (Nat.le_refl _)]
    exact ⟨tmr, hr, hD⟩
theorem Told.app {T : List TE} (h : Told P ops N nj0 ρ tm0 hp0 T) (ρ' : List PV) : Told P ops N nj0 (ρ ++ ρ') tm0 hp0 T := by
  intro k o te ho ht
  obtain ⟨tmr, h1, h2⟩ := h k o te ho ht
  refine ⟨tmr, fun t s hts => ?_, h2.app ρ'⟩
  obtain ⟨s0, h3, h4⟩ := h1 t s hts
  exact ⟨s0, h3, h4.app⟩
theorem Sofar.app {st : St} {T : List TE} (h : Sofar P ops N nj0 tm0 hp0 ρ st T) (ρ' : List PV) (st' : St) (h1 : st'.tm = st.tm) (h2 : st'.hp = st.hp) (h3 : (ρ ++ ρ').length = st'.na) : Sofar P ops N nj0 tm0 hp0 (ρ ++ ρ') st' T :=
  ⟨fun t s ht => by
    rw [h1] at ht
    obtain ⟨s0, h4, h5⟩ := h.tm t s ht
    exact ⟨s0, h4, h5.app⟩, by rw [h2]; exact h.hp, h.told.app ρ', h3⟩
/-- a bool gets known -/
theorem Sofar.know {st : St} {T : List TE} (h : Sofar P ops N nj0 tm0 hp0 ρ st T) {t : Nat} {s : SV} {b : Bool} (hs : look st.tm t = some s) (hd : pv ρ s = .raw (.bool b)) : Sofar P ops N nj0 tm0 hp0 ρ { st with tm := (t, .con (.bool b)) :: st.tm } T := by
  refine ⟨fun u s' hu => ?_, h.hp, h.told, h.na⟩
  rw [look_cons] at hu
  split at hu
  · rename_i e
    subst e
    cases hu
    obtain ⟨s0, h1, h2⟩ := h.tm u s hs
    refine ⟨s0, h1, .inr ⟨b, rfl, ?_⟩⟩
    have hd' : den ρ s = some (.raw (.bool b)) := by
      unfold pv at hd
      cases hx : den ρ s with
      | none => rw [hx] at hd; simp [undef] at hd
      | some p => rw [hx] at hd; simp at hd; rw [hd]
    rcases h2 with rfl | ⟨b', rfl, hd2⟩
    · exact hd'
    · simp only [den, pvOf, Option.some.injEq] at hd'
      rw [hd2, hd']
  · exact h.tm u s' hu
/-- an operation gets told -/
theorem Sofar.step {st : St} {T : List TE} (h : Sofar P ops N nj0 tm0 hp0 ρ st T) {o : Oper} {te : TE} {tm' : List (Nat × SV)} {hp' : List (Nat × HB)} {na' : Nat} (ho : ops[T.length]? = some o) (hD : Did P ops N nj0 ρ (look st.tm) (look st.hp) T.length o te)
    (h1 : ∀ t, look tm' t = upd (look st.tm) te.d te.s t) (h2 : ∀ j, look hp' j = updh (look st.hp) te.h j) (h3 : ρ.length = na') : Sofar P ops N nj0 tm0 hp0 ρ { tm := tm', hp := hp', na := na', nj := st.nj, nl := st.nl } (T ++ [te]) := by
  have ehp : look st.hp = hpS T (fun _ => true) hp0 T.length := funext h.hp
  refine ⟨fun t s ht => ?_, fun j => ?_, h.told.snoc ho h.tm (by rw [← ehp]; exact hD), h3⟩
  · rw [tmS_last]
    have ht' : upd (look st.tm) te.d te.s t = some s := by rw [← h1]; exact ht
    cases hd : te.d with
    | none =>
      rw [hd] at ht'
      simp only [upd] at ht' ⊢
      exact h.tm t s ht'
    | some d =>
      rw [hd] at ht'
      simp only [upd] at ht' ⊢
      split at ht'
      · rename_i e; cases ht'; rw [if_pos e]; exact ⟨_, rfl, .inl rfl⟩
      · rename_i e; rw [if_neg e]; exact h.tm t s ht'
  · rw [hpS_last, ← ehp]
    exact h2 j

/-- what a node says, once it is answered -/
theorem vc_node {nd : Nd} {k : VC} (h : (nd.vc k).ok P R ρ C) (hw : nd.wf ρ.length = true) : ∃ rs, rs.length = nd.new ∧ NdOK P (ρ ++ rs) ρ.length nd ∧ k.ok P R (ρ ++ rs) C := by
  cases nd with
  | none => exact ⟨[], rfl, trivial, by rw [List.append_nil]; exact h⟩
  | call f args sh =>
    obtain ⟨r, h1, h2, h3⟩ := h
    exact ⟨[r], rfl, ⟨r, by simp, by rw [wf_pvs ρ [r] (Nat.le_refl _) hw]; exact h1, h2⟩, h3⟩
  | callv fv args sh =>
    obtain ⟨r, h1, h2, h3⟩ := h
    simp only [Nd.wf, Bool.and_eq_true] at hw
    refine ⟨[r], rfl, ⟨r, by simp, ?_, h2⟩, h3⟩
    rw [wf_pvs ρ [r] (Nat.le_refl _) hw.2, show pv (ρ ++ [r]) fv = pv ρ fv by simp only [pv, wf_den ρ [r] (Nat.le_refl _) hw.1]]
    exact h1
  | prim p args =>
    obtain ⟨r, h1, h3⟩ := h
    exact ⟨[r], rfl, ⟨r, by simp, by rw [wf_pvs ρ [r] (Nat.le_refl _) hw]; exact h1⟩, h3⟩
  | mk c n args =>
    refine ⟨[.sl (chunk c n (pvs ρ args))], rfl, ?_, h⟩
    simp only [NdOK]
    rw [wf_pvs ρ _ (Nat.le_refl _) hw]
    simp

/-- what is known behind a region -/
def Behind (P : Program) (ops : List Oper) (N nj0 : Nat) (draw : Bool) (tm0 : Nat → Option SV) (hp0 : Nat → Option HB) (R : PV → Prop) (C : List (List PV → Prop)) (K : St → VC) (ρ : List PV) (nl : Nat) : Prop :=
  ∃ rs T st, T.length = ops.length ∧ Sofar P ops N nj0 tm0 hp0 (ρ ++ rs) st T ∧ (draw = true → ordered ops T = true) ∧ st.nj = nj0 + ops.length ∧ st.nl = nl ∧ (K st).ok P R (ρ ++ rs) C
theorem Behind.app {draw : Bool} {K : St → VC} {nl : Nat} {rs : List PV} (h : Behind P ops N nj0 draw tm0 hp0 R C K (ρ ++ rs) nl) : Behind P ops N nj0 draw tm0 hp0 R C K ρ nl := by
  obtain ⟨rs', T, st, h1, h2, h3, h4, h5, h6⟩ := h
  exact ⟨rs ++ rs', T, st, h1, by rw [← List.append_assoc]; exact h2, h3, h4, h5, by rw [← List.append_assoc]; exact h6⟩

theorem reg_trace {draw : Bool} {K : St → VC} : ∀ (rest : List Oper) (T : List TE) (st : St) (ρ : List PV), ops.drop T.length = rest → T.length ≤ ops.length → Sofar P ops N nj0 tm0 hp0 ρ st T →
    (regVC P N ops draw nj0 K rest T.length st T).ok P R ρ C → Behind P ops N nj0 draw tm0 hp0 R C K ρ st.nl
  | [], T, st, ρ, hd, hle, hS, h => by
    have hlen : T.length = ops.length := by
      have := congrArg List.length hd
      simp at this
      omega
    simp only [regVC] at h
    split at h
    · exact h.elim
    · rename_i hc
      refine ⟨[], T, { st with nj := nj0 + T.length }, hlen, ?_, fun hdr => ?_, by simp [hlen], rfl, by rw [List.append_nil]; exact h⟩
      · rw [List.append_nil]
        exact ⟨hS.tm, hS.hp, hS.told, hS.na⟩
      · simp only [hdr, Bool.true_and, Bool.not_eq_true', Bool.not_eq_false] at hc
        simpa using hc
  | o :: rest, T, st, ρ, hd, hle, hS, h => by
    have ho : ops[T.length]? = some o := by
      have : (ops.drop T.length)[0]? = some o := by rw [hd]; rfl
      simpa using this
    have hd' : ops.drop (T.length + 1) = rest := by
      rw [← List.drop_drop, hd]; rfl
    have hlt : T.length < ops.length := (List.getElem?_eq_some_iff.1 ho).1
    -- passed over
    have skip : ∀ st : St, Sofar P ops N nj0 tm0 hp0 ρ st T → wantOf ops (look st.tm) o = .no →
        VC.ok P R (match o.dst with
          | some d => if d < N then regVC P N ops draw nj0 K rest (T.length + 1) { st with tm := (d, .tup []) :: st.tm } (T ++ [⟨o.dst, .tup [], none, none⟩]) else .bad
          | none => regVC P N ops draw nj0 K rest (T.length + 1) st (T ++ [⟨none, .tup [], none, none⟩])) ρ C → Behind P ops N nj0 draw tm0 hp0 R C K ρ st.nl := by
      intro st hS hw h
      cases hdst : o.dst with
      | none =>
        rw [hdst] at h
        simp only at h
        have hS' := hS.step (te := ⟨none, .tup [], none, none⟩) (tm' := st.tm) (hp' := st.hp) (na' := st.na) ho (.skip hw (by rw [hdst]; intro d hd; cases hd) (by rw [hdst])) (fun _ => rfl) (fun _ => rfl) hS.na
        exact reg_trace rest (T ++ [⟨none, .tup [], none, none⟩]) st ρ (by simp [hd']) (by simp; omega) hS' (by simpa using h)
      | some d =>
        rw [hdst] at h
        simp only at h
        split at h
        · rename_i hdN
          have hS' := hS.step (te := ⟨some d, .tup [], none, none⟩) (tm' := (d, .tup []) :: st.tm) (hp' := st.hp) (na' := st.na) ho (.skip hw (by rw [hdst]; intro d' hd; cases hd; exact hdN) (by rw [hdst])) (fun t => look_cons _ _ _ _) (fun _ => rfl) hS.na
          exact reg_trace rest (T ++ [⟨some d, .tup [], none, none⟩]) { st with tm := (d, .tup []) :: st.tm } ρ (by simp [hd']) (by simp; omega) hS' (by simpa using h)
        · exact h.elim
    -- carried out
    have run' : ∀ st : St, Sofar P ops N nj0 tm0 hp0 ρ st T → wantOf ops (look st.tm) o = .yes →
        VC.ok P R (match evalOps (look st.tm) o.op.operands.toList with
          | none => .bad
          | some args => match symOp P ((hread o.op args).bind (look st.hp)) st.na (nj0 + T.length) o args with
            | none => .bad
            | some e => if e.nd.wf st.na then
              let hp := match e.h with
                | some p => p :: st.hp
                | none => st.hp
              match o.dst with
              | some d => if d < N then e.nd.vc (regVC P N ops draw nj0 K rest (T.length + 1) { tm := (d, e.s) :: st.tm, hp := hp, na := st.na + e.nd.new, nj := st.nj, nl := st.nl } (T ++ [⟨o.dst, e.s, e.h, hread o.op args⟩])) else .bad
              | none => e.nd.vc (regVC P N ops draw nj0 K rest (T.length + 1) { tm := st.tm, hp := hp, na := st.na + e.nd.new, nj := st.nj, nl := st.nl } (T ++ [⟨none, e.s, e.h, hread o.op args⟩]))
              else .bad) ρ C → Behind P ops N nj0 draw tm0 hp0 R C K ρ st.nl := by
      intro st hS hw h
      cases ha : evalOps (look st.tm) o.op.operands.toList with
      | none => rw [ha] at h; exact h.elim
      | some args =>
        rw [ha] at h
        simp only at h
        cases he : symOp P ((hread o.op args).bind (look st.hp)) st.na (nj0 + T.length) o args with
        | none => rw [he] at h; exact h.elim
        | some e =>
          rw [he] at h
          simp only at h
          split at h
          · rename_i hwf
            have hhp : ∀ j, look (match e.h with | some p => p :: st.hp | none => st.hp) j = updh (look st.hp) e.h j := by
              intro j
              cases hh : e.h with
              | none => rfl
              | some p => obtain ⟨j', x⟩ := p; exact look_cons _ _ _ _
            have hna := hS.na
            cases hdst : o.dst with
            | none =>
              rw [hdst] at h
              simp only at h
              obtain ⟨rs, h1, h2, h3⟩ := vc_node h (by rw [hna]; exact hwf)
              rw [hna] at h2
              have hS1 := hS.app rs { st with na := st.na + e.nd.new } rfl rfl (by simp [hna, h1])
              have hS' := hS1.step (te := ⟨none, e.s, e.h, hread o.op args⟩) (tm' := st.tm) (hp' := match e.h with | some p => p :: st.hp | none => st.hp) (na' := st.na + e.nd.new) ho
                (.run hw (by rw [hdst]; intro d hd; cases hd) args ha st.na e he h2 hwf (by simp [hna]) (by rw [hdst])) (fun _ => rfl) hhp (by simp [hna, h1])
              exact Behind.app (reg_trace rest (T ++ [⟨none, e.s, e.h, hread o.op args⟩]) { tm := st.tm, hp := match e.h with | some p => p :: st.hp | none => st.hp, na := st.na + e.nd.new, nj := st.nj, nl := st.nl } (ρ ++ rs) (by simp [hd']) (by simp; omega) hS' (by simpa using h3))
            | some d =>
              rw [hdst] at h
              simp only at h
              split at h
              · rename_i hdN
                obtain ⟨rs, h1, h2, h3⟩ := vc_node h (by rw [hna]; exact hwf)
                rw [hna] at h2
                have hS1 := hS.app rs { st with na := st.na + e.nd.new } rfl rfl (by simp [hna, h1])
                have hS' := hS1.step (te := ⟨some d, e.s, e.h, hread o.op args⟩) (tm' := (d, e.s) :: st.tm) (hp' := match e.h with | some p => p :: st.hp | none => st.hp) (na' := st.na + e.nd.new) ho
                  (.run hw (by rw [hdst]; intro d' hd; cases hd; exact hdN) args ha st.na e he h2 hwf (by simp [hna]) (by rw [hdst])) (fun t => look_cons _ _ _ _) hhp (by simp [hna, h1])
                exact Behind.app (reg_trace rest (T ++ [⟨some d, e.s, e.h, hread o.op args⟩]) { tm := (d, e.s) :: st.tm, hp := match e.h with | some p => p :: st.hp | none => st.hp, na := st.na + e.nd.new, nj := st.nj, nl := st.nl } (ρ ++ rs) (by simp [hd']) (by simp; omega) hS' (by simpa using h3))
              · exact h.elim
          · exact h.elim
    -- a bool is told apart ahead
    have run : ∀ st : St, Sofar P ops N nj0 tm0 hp0 ρ st T → wantOf ops (look st.tm) o = .yes →
        VC.ok P R (let run' (st : St) : VC := match evalOps (look st.tm) o.op.operands.toList with
          | none => .bad
          | some args => match symOp P ((hread o.op args).bind (look st.hp)) st.na (nj0 + T.length) o args with
            | none => .bad
            | some e => if e.nd.wf st.na then
              let hp := match e.h with
                | some p => p :: st.hp
                | none => st.hp
              match o.dst with
              | some d => if d < N then e.nd.vc (regVC P N ops draw nj0 K rest (T.length + 1) { tm := (d, e.s) :: st.tm, hp := hp, na := st.na + e.nd.new, nj := st.nj, nl := st.nl } (T ++ [⟨o.dst, e.s, e.h, hread o.op args⟩])) else .bad
              | none => e.nd.vc (regVC P N ops draw nj0 K rest (T.length + 1) { tm := st.tm, hp := hp, na := st.na + e.nd.new, nj := st.nj, nl := st.nl } (T ++ [⟨none, e.s, e.h, hread o.op args⟩]))
              else .bad
          match pickOf (look st.tm) o.op with
          | none => run' st
          | some (t, s) => .ite s (run' { st with tm := (t, .con (.bool true)) :: st.tm }) (run' { st with tm := (t, .con (.bool false)) :: st.tm })) ρ C → Behind P ops N nj0 draw tm0 hp0 R C K ρ st.nl := by
      intro st hS hw h
      simp only at h
      split at h
      · exact run' st hS hw h
      · rename_i t s hp
        obtain ⟨hs, hne⟩ : look st.tm t = some s ∧ ∀ b, s ≠ .con (.bool b) := by
          unfold pickOf at hp
          split at hp
          · split at hp
            · cases hp
            · rename_i s' hnb hs'
              split at hp
              · cases hp; exact ⟨hs', fun b e => hnb b e⟩
              · cases hp
            · cases hp
          · cases hp
        obtain ⟨b, hb, ht, hf⟩ := h
        have hw' : ∀ b, wantOf ops (look ((t, .con (.bool b)) :: st.tm)) o = .yes := by
          intro b
          unfold wantOf at hw ⊢
          cases hg : o.guard with
          | none => rfl
          | some q =>
            obtain ⟨g, want⟩ := q
            rw [hg] at hw
            simp only at hw ⊢
            cases ht0 : (ops[g]?).bind (·.dst) with
            | none => rw [ht0] at hw; cases hw
            | some t0 =>
              rw [ht0] at hw
              simp only at hw ⊢
              split at hw
              · rename_i b0 hb0
                have : t0 ≠ t := fun e => by subst e; rw [hs] at hb0; exact hne b0 (Option.some.inj hb0)
                rw [look_cons, if_neg this, hb0]
                simp only
                exact hw
              · cases hw
              · split at hw <;> cases hw
              · cases hw
        cases b
        · exact run' { st with tm := (t, .con (.bool false)) :: st.tm } (hS.know hs hb) (hw' false) (hf rfl)
        · exact run' { st with tm := (t, .con (.bool true)) :: st.tm } (hS.know hs hb) (hw' true) (ht rfl)
    simp only [regVC] at h
    split at h
    · rename_i hw; exact run st hS hw h
    · rename_i hw; exact skip st hS hw h
    · rename_i t s want hw
      obtain ⟨g, hg, ht, hs⟩ : ∃ g, o.guard = some (g, want) ∧ (ops[g]?).bind (·.dst) = some t ∧ look st.tm t = some s := by
        unfold wantOf at hw
        split at hw
        · cases hw
        · rename_i g want' hg
          split at hw
          · rename_i t0 ht0
            split at hw
            · split at hw <;> cases hw
            · cases hw
            · rename_i s0 _ _ hs0
              split at hw
              · cases hw; exact ⟨g, hg, ht0, hs0⟩
              · cases hw
            · cases hw
          · cases hw
      have hwant : ∀ b, wantOf ops (look ((t, .con (.bool b)) :: st.tm)) o = if b == want then .yes else .no := by
        intro b
        unfold wantOf
        rw [hg]
        simp only [ht, look_cons, if_true]
      obtain ⟨b, hb, h1, h2⟩ := h
      cases b
      · have h2 := h2 rfl
        have hS' := hS.know hs hb
        by_cases e : (false == want) = true
        · rw [if_pos e] at h2
          exact run { st with tm := (t, .con (.bool false)) :: st.tm } hS' (by rw [hwant, if_pos e]) h2
        · rw [if_neg e] at h2
          exact skip { st with tm := (t, .con (.bool false)) :: st.tm } hS' (by rw [hwant, if_neg e]) h2
      · have h1 := h1 rfl
        have hS' := hS.know hs hb
        by_cases e : (true == want) = true
        · rw [if_pos e] at h1
          exact run { st with tm := (t, .con (.bool true)) :: st.tm } hS' (by rw [hwant, if_pos e]) h1
        · rw [if_neg e] at h1
          exact skip { st with tm := (t, .con (.bool true)) :: st.tm } hS' (by rw [hwant, if_neg e]) h1
    · exact h.elim
end
end Gv


/- The engine, 12: loops, and a function's whole text. Over any program. -/
namespace Gv
open Go Go.RowKit
set_option linter.unusedVariables false
set_option linter.unusedSimpArgs false

theorem valSame_eq {v u : Value} (h : valSame v u = true) : v = u := by
  unfold valSame at h
  split at h
  · simp only [Bool.and_eq_true, beq_iff_eq] at h; rw [h.1, h.2]
  · simp only [beq_iff_eq] at h; rw [h]
  · rfl
  · rename_i a b
    simp only [beq_iff_eq] at h
    cases a; cases b
    simp only at h
    rw [h]
  · rfl
  · cases h
theorem fnSame_eq {f g : Go.Fn} (h : fnSame f g = true) : f = g := by
  unfold fnSame at h
  split at h
  · simp only [beq_iff_eq] at h; rw [h]
  · cases h
mutual
theorem same_eq : ∀ {s t : SV}, s.same t = true → s = t
  | .at n, t, h => by cases t <;> simp [SV.same] at h; rw [h]
  | .con v, t, h => by cases t <;> simp [SV.same] at h; rw [valSame_eq h]
  | .cel s i, t, h => by cases t <;> simp [SV.same] at h; rw [h.1, same_eq h.2]
  | .ext s i, t, h => by cases t <;> simp [SV.same] at h; rw [h.1, same_eq h.2]
  | .agg l, t, h => by cases t <;> simp [SV.same] at h; rw [sames_eq h]
  | .tup l, t, h => by cases t <;> simp [SV.same] at h; rw [sames_eq h]
  | .clo fn fs cs, t, h => by cases t <;> simp [SV.same] at h; rw [fnSame_eq h.1.1, sames_eq h.1.2, sames_eq h.2]
  | .box j o, t, h => by cases t <;> simp [SV.same] at h; rw [h.1, h.2]
  | .mapp j, t, h => by cases t <;> simp [SV.same] at h; rw [h]
theorem sames_eq : ∀ {l m : List SV}, SV.sames l m = true → l = m
  | [], m, h => by cases m <;> simp [SV.sames] at h; rfl
  | s :: l, m, h => by
    cases m with
    | nil => simp [SV.sames] at h
    | cons t m => simp [SV.sames] at h; rw [same_eq h.1, sames_eq h.2]
end

theorem wfs_mem {n j : Nat} : ∀ {l : List SV}, SV.wfs n j l = true → ∀ (k : Nat) (s : SV), l[k]? = some s → s.wf n j = true
  | [], _, k, s, h => by simp at h
  | t :: l, hw, k, s, h => by
    simp only [SV.wfs, Bool.and_eq_true] at hw
    cases k with
    | zero => simp at h; subst h; exact hw.1
    | succ k => simp at h; exact wfs_mem hw.2 k s h

section
variable {P : Program} {E : Env} {ρ0 ρ1 ρ2 : List PV} {β β' : Nat → Option Nat} {w : World} {W W' : Nat → Prop}
/-- a name of the elder days -/
theorem RepS.old {s : SV} {v : Value} {nj : Nat} (hb : ∀ j b, j < nj → β j = some b → β' j = some b) (hk : ∀ b, W b → W' b) (h : RepS (ρ0 ++ ρ1) β w W s v) : s.wf ρ0.length nj = true → RepS (ρ0 ++ ρ2) β' w W' s v := by
  induction h with
  | pure s p v hd hf hr =>
    intro hw
    refine .pure s p v ?_ hf (hr.mono hk)
    rw [wf_den ρ0 ρ2 (Nat.le_refl _) hw, ← wf_den ρ0 ρ1 (Nat.le_refl _) hw]
    exact hd
  | box j off b h => intro hw; simp only [SV.wf, decide_eq_true_eq] at hw; exact .box j off b (hb j b hw h)
  | mapp j b h => intro hw; simp only [SV.wf, decide_eq_true_eq] at hw; exact .mapp j b (hb j b hw h)
  | agg l vs hl hf hr ih => intro hw; simp only [SV.wf] at hw; exact .agg l vs hl hf fun j s hj => ih j s hj (wfs_mem hw j s hj)
  | tup l vs hl hr ih => intro hw; simp only [SV.wf] at hw; exact .tup l vs hl fun j s hj => ih j s hj (wfs_mem hw j s hj)
  | clo fn fs cs fv cv hl hl' hr hr' ih ih' =>
    intro hw
    simp only [SV.wf, Bool.and_eq_true] at hw
    exact .clo fn fs cs fv cv hl hl' (fun j s hj => ih j s hj (wfs_mem hw.1 j s hj)) (fun j s hj => ih' j s hj (wfs_mem hw.2 j s hj))
end

theorem look_mem {α : Type} : ∀ {l : List (Nat × α)} {k : Nat} {x : α}, look l k = some x → (k, x) ∈ l
  | [], k, x, h => by simp [look] at h
  | (k', y) :: l, k, x, h => by
    rw [look_cons] at h
    split at h
    · rename_i e; cases h; subst e; simp
    · simp [look_mem h]
theorem look_append {α : Type} : ∀ {l m : List (Nat × α)} {k : Nat} {x : α}, look (l ++ m) k = some x → look l k = some x ∨ look m k = some x
  | [], m, k, x, h => .inr h
  | (k', y) :: l, m, k, x, h => by
    rw [List.cons_append, look_cons] at h
    rw [look_cons]
    split at h
    · rename_i e; rw [if_pos e]; exact .inl h
    · rename_i e; rw [if_neg e]; exact look_append h
theorem posOf_at {q : Nat × Nat} : ∀ {l : List (Nat × Nat)} {x : Nat}, posOf q l = some x → l[x]? = some q
  | [], x, h => by simp [posOf] at h
  | p :: l, x, h => by
    simp only [posOf] at h
    split at h
    · rename_i e
      cases h
      simp only [Bool.and_eq_true, beq_iff_eq] at e
      simp
      exact Prod.ext e.1 e.2
    · rw [Option.map_eq_some_iff] at h
      obtain ⟨y, hy, rfl⟩ := h
      simp
      exact posOf_at hy
theorem mapM_at {α β : Type} {f : α → Option β} : ∀ {l : List α} {r : List β}, l.mapM f = some r → l.length = r.length ∧ ∀ (k : Nat) (x : α), l[k]? = some x → ∃ y, r[k]? = some y ∧ f x = some y
  | [], r, h => by simp at h; subst h; exact ⟨rfl, fun k x h => by simp at h⟩
  | a :: l, r, h => by
    simp only [List.mapM_cons, Option.bind_eq_bind, Option.pure_def] at h
    cases hx : f a with
    | none => simp [hx] at h
    | some y =>
      cases hl : l.mapM f with
      | none => simp [hx, hl] at h
      | some ys =>
        simp [hx, hl] at h
        subst h
        obtain ⟨h1, h2⟩ := mapM_at hl
        refine ⟨by simp [h1], fun k x hk => ?_⟩
        cases k with
        | zero => simp at hk; subst hk; exact ⟨y, by simp, hx⟩
        | succ k => simp at hk; simpa using h2 k x hk

section
variable {P : Program} {E : Env} {ρ0 ρ1 : List PV} {β : Nat → Option Nat} {a : Act} {w : World}
theorem pv_val {ρ : List PV} {W : Nat → Prop} {s : SV} {v : Value} (h : RepS ρ β w W s v) (h1 : s.one = true) (h2 : s.pure = true) : den ρ s = some (pv ρ s) ∧ (pv ρ s).flat = true ∧ Rep w W (pv ρ s) v := by
  obtain ⟨p, hd⟩ := h.den1 h2
  rw [pv_of hd]
  exact ⟨hd, (h.rep hd).flat' (h.flat h1), h.rep hd⟩

/-- at a loop's head -/
def headTm (na : Nat) (l : LoopAt) : List (Nat × SV) := (l.ann.ts.zipIdx.map fun (t, i) => (t, SV.at (na + i))) ++ l.kept
theorem head_sim {st : St} {l : LoopAt} {nj : Nat} {vs : List SV} (hS : Sim E (ρ0 ++ ρ1) β (look st.tm) (look st.hp) a w) (hh : headOk ρ0.length nj l = true) (hb : backOk l st = true) (hv : varsOf st l.ann = some vs) :
    Sim E (ρ0 ++ pvs (ρ0 ++ ρ1) vs) (fun j => if j < nj then β j else none) (look (headTm ρ0.length l)) (look l.hp) a w := by
  unfold headOk at hh
  unfold backOk at hb
  simp only [Bool.and_eq_true, List.all_eq_true] at hh hb
  obtain ⟨hh1, hh2⟩ := hh
  obtain ⟨hb1, hb2⟩ := hb
  unfold varsOf at hv
  split at hv
  · rename_i va vb ha hbv
    split at hv
    · rename_i hall
      cases hv
      obtain ⟨la, ka⟩ := mapM_at ha
      obtain ⟨lb, kb⟩ := mapM_at hbv
      have hlive : ∀ j, look l.hp j ≠ none → look st.hp j ≠ none ∧ j < nj := by
        intro j hj
        cases hx : look l.hp j with
        | none => exact absurd hx hj
        | some b =>
          have hm := look_mem hx
          have h1 := hh2 _ hm
          have h2 := hb2 _ hm
          simp only [Bool.and_eq_true, decide_eq_true_eq] at h1
          refine ⟨fun e => ?_, h1.1⟩
          simp only [e] at h2
          cases b <;> simp at h2
      have hok : ∀ b, Ok E (look st.hp) β b → Ok E (look l.hp) (fun j => if j < nj then β j else none) b := by
        rintro b ⟨h1, h2⟩
        refine ⟨h1, fun j hj => ?_⟩
        obtain ⟨h3, h4⟩ := hlive j hj
        simp only [h4, if_true]
        exact h2 j h3
      have hβ : ∀ j b, j < nj → β j = some b → (fun j => if j < nj then β j else none) j = some b := by
        intro j b hj e
        simp only [hj, if_true]
        exact e
      -- the turned ones
      have hvar : ∀ (x : Nat) (s : SV) (v : Value), (va ++ vb)[x]? = some s → RepS (ρ0 ++ ρ1) β w (Ok E (look st.hp) β) s v → RepS (ρ0 ++ pvs (ρ0 ++ ρ1) (va ++ vb)) (fun j => if j < nj then β j else none) w (Ok E (look l.hp) (fun j => if j < nj then β j else none)) (.at (ρ0.length + x)) v := by
        intro x s v hx hr
        have hp := (List.all_eq_true.1 hall) s (List.mem_of_getElem? hx)
        simp only [Bool.and_eq_true] at hp
        obtain ⟨h1, h2, h3⟩ := pv_val hr hp.1 hp.2
        refine .pure _ (pv (ρ0 ++ ρ1) s) v ?_ h2 (h3.mono hok)
        simp only [den]
        rw [List.getElem?_append_right (by omega)]
        simp only [pvs, List.getElem?_map]
        rw [show ρ0.length + x - ρ0.length = x by omega, hx]
        rfl
      refine ⟨hS.df, hS.nt, hS.bel, fun t s ht => ?_, fun j b hj => ?_, fun j j' c hj hj' e1 e2 => ?_⟩
      · rcases look_append ht with ht | ht
        · have hm := look_mem ht
          simp only [List.mem_map] at hm
          obtain ⟨⟨t', i⟩, hm, e⟩ := hm
          cases e
          have hi : l.ann.ts[i]? = some t' := by
            have := List.mem_iff_getElem?.1 hm
            obtain ⟨k, hk⟩ := this
            rw [List.getElem?_zipIdx, Option.map_eq_some_iff] at hk
            obtain ⟨y, hy, e⟩ := hk
            cases e
            simpa using hy
          obtain ⟨s, hs1, hs2⟩ := ka i t' hi
          exact hvar i s _ (by rw [List.getElem?_append_left (List.getElem?_eq_some_iff.1 hs1).1]; exact hs1) (hS.tmr t' s hs2)
        · have hm := look_mem ht
          have h1 := hh1 _ hm
          have h2 := hb1 _ hm
          simp only at h1 h2
          split at h2
          · rename_i s' hs'
            have := same_eq h2
            subst this
            exact (hS.tmr t s hs').old hβ hok h1
          · cases h2
      · have hm := look_mem hj
        have h1 := hh2 _ hm
        have h2 := hb2 _ hm
        cases b with
        | mp es =>
          simp only [Bool.and_eq_true, decide_eq_true_eq, List.all_eq_true] at h1 h2
          split at h2
          · rename_i e1 es' he1 hst
            cases he1
            simp only [Bool.and_eq_true, beq_iff_eq, List.all_eq_true] at h2
            obtain ⟨hlen, h3⟩ := h2
            obtain ⟨b, ents, hb, hblk, hsz, hbase, hcell⟩ := hS.hpr j _ hst
            refine ⟨b, ents, hβ j b h1.1 hb, by rw [hblk, hlen], by rw [hsz, hlen], hbase, fun i x y hx hy => ?_⟩
            have hilt := (List.getElem?_eq_some_iff.1 hx).1
            obtain ⟨x', hx'⟩ : ∃ x', es'[i]? = some x' := ⟨es'[i]'(by omega), List.getElem?_eq_getElem _⟩
            have h4 := h3 (x, x') (List.mem_of_getElem? (i := i) (by simp [List.getElem?_zip_eq_some, hx, hx']))
            simp only at h4
            obtain ⟨k1, k2, k3⟩ := hcell i x' y hx' hy
            have e1 := valSame_eq h4.1
            have e2 := same_eq h4.2
            rw [← e1] at k1
            rw [← e2] at k3
            exact ⟨k1, k2, k3.old hβ hok (h1.2 _ (List.mem_of_getElem? hx))⟩
          · cases ‹HB.mp _ = HB.box _ _›
          · cases h2
        | box cs t =>
          simp only [Bool.and_eq_true, decide_eq_true_eq, List.all_eq_true] at h1 h2
          split at h2
          · cases ‹HB.box _ _ = HB.mp _›
          · rename_i cs0 t0 cs' t' he0 hst
            cases he0
            simp only [Bool.and_eq_true, beq_iff_eq, List.all_eq_true, List.mem_range, Bool.or_eq_true] at h2
            obtain ⟨⟨rfl, hlen⟩, h3⟩ := h2
            obtain ⟨b, us, hb, hblk, hsz, hbase, hcell⟩ := hS.hpr j _ hst
            refine ⟨b, us, hβ j b h1.1 hb, hblk, by rw [hsz, hlen], hbase, fun i s hi => ?_⟩
            have hilt := (List.getElem?_eq_some_iff.1 hi).1
            obtain ⟨s', hs'⟩ : ∃ s', cs'[i]? = some s' := ⟨cs'[i]'(by omega), List.getElem?_eq_getElem _⟩
            obtain ⟨hf, hr⟩ := hcell i s' hs'
            refine ⟨hf, ?_⟩
            have hw := h1.2 (s, i) (by
              refine List.mem_of_getElem? (i := i) ?_
              rw [List.getElem?_zipIdx, hi]
              simp)
            simp only at hw
            split at hw
            · rename_i x hx
              have := same_eq hw
              subst this
              have hp := posOf_at hx
              obtain ⟨y, hy1, hy2⟩ := kb x (j, i) hp
              simp only [cellAt, hst] at hy2
              rw [hs'] at hy2
              cases hy2
              rw [show ρ0.length + l.ann.ts.length + x = ρ0.length + (l.ann.ts.length + x) by omega]
              refine hvar _ s' _ ?_ hr
              rw [List.getElem?_append_right (by omega), la, show va.length + x - va.length = x by omega]
              exact hy1
            · rename_i hx
              rcases h3 i hilt with h | h
              · rw [hx] at h; cases h
              · rw [hi, hs'] at h
                have := same_eq h
                subst this
                exact hr.old hβ hok hw
          · cases h2
      · obtain ⟨h1, h2⟩ := hlive j hj
        obtain ⟨h3, h4⟩ := hlive j' hj'
        simp only [h2, h4, if_true] at e1 e2
        exact hS.inj j j' c h1 h3 e1 e2
    · cases hv
  · cases hv
end
end Gv


/- The engine, 13: a function whose condition holds does what it says. Over any program. -/
namespace Gv
open Go Go.RowKit
set_option linter.unusedVariables false
set_option linter.unusedSimpArgs false

/-- what stands behind a piece of text -/
def cont (P : Program) (Q0 : Exit → Act → World → Prop) (Js : List (Act → World → Prop)) : List It → Exit → Act → World → Prop
  | [] => Q0
  | .code c :: K => Exit.then (c.wp P (cont P Q0 Js K)) (cont P Q0 Js K)
  | .blk id :: K => Exit.inBlock id (cont P Q0 Js K)
  | .lp l :: K => Exit.then (fun a w => match Js[Js.length - 1 - l.lev]? with
    | some J => J a w
    | none => False) (cont P Q0 Js K)
  | .un b n :: K => Exit.then (Code.rounds P b (cont P Q0 Js K) n) (cont P Q0 Js K)
section
variable {P : Program} {Q0 : Exit → Act → World → Prop} {Js : List (Act → World → Prop)} {a : Act} {w : World}
theorem cont_push {J : Act → World → Prop} : ∀ {K : List It}, (∀ l, It.lp l ∈ K → l.lev < Js.length) → cont P Q0 (J :: Js) K = cont P Q0 Js K
  | [], _ => rfl
  | .code c :: K, h => by simp only [cont]; rw [cont_push fun l hl => h l (by simp [hl])]
  | .blk id :: K, h => by simp only [cont]; rw [cont_push fun l hl => h l (by simp [hl])]
  | .un b n :: K, h => by simp only [cont]; rw [cont_push fun l hl => h l (by simp [hl])]
  | .lp l :: K, h => by
    have hl := h l (by simp)
    simp only [cont]
    rw [cont_push fun l hl => h l (by simp [hl])]
    have e : (J :: Js).length - 1 - l.lev = (Js.length - 1 - l.lev) + 1 := by simp; omega
    rw [e, List.getElem?_cons_succ]
theorem cont_exit {id : Nat} : ∀ {K K' : List It}, dropTo id K = some K' → cont P Q0 Js K' .normal a w → cont P Q0 Js K (.exit id) a w
  | [], K', h, _ => by simp [dropTo] at h
  | .code c :: K, K', h, hc => by simp only [dropTo] at h; exact cont_exit (K := K) h hc
  | .lp l :: K, K', h, hc => by simp only [dropTo] at h; exact cont_exit (K := K) h hc
  | .un b n :: K, K', h, hc => by simp only [dropTo] at h; exact cont_exit (K := K) h hc
  | .blk i :: K, K', h, hc => by
    simp only [dropTo] at h
    show Exit.inBlock i (cont P Q0 Js K) (.exit id) a w
    simp only [Exit.inBlock]
    split at h
    · rename_i e
      cases h
      rw [if_pos (by simpa using (beq_iff_eq.1 e).symm)]
      exact hc
    · rename_i e
      rw [if_neg (fun e' => e (by simp [e']))]
      exact cont_exit h hc
theorem cont_ret : ∀ {K : List It}, Q0 .ret a w → cont P Q0 Js K .ret a w
  | [], h => h
  | .code c :: K, h => cont_ret (K := K) h
  | .lp l :: K, h => cont_ret (K := K) h
  | .un b n :: K, h => cont_ret (K := K) h
  | .blk i :: K, h => cont_ret (K := K) h
theorem dropTo_mem {id : Nat} : ∀ {K K' : List It}, dropTo id K = some K' → ∀ x ∈ K', x ∈ K
  | [], K', h, x, hx => by simp [dropTo] at h
  | .code c :: K, K', h, x, hx => by simp only [dropTo] at h; simp [dropTo_mem h x hx]
  | .lp l :: K, K', h, x, hx => by simp only [dropTo] at h; simp [dropTo_mem h x hx]
  | .un b n :: K, K', h, x, hx => by simp only [dropTo] at h; simp [dropTo_mem h x hx]
  | .blk i :: K, K', h, x, hx => by
    simp only [dropTo] at h
    split at h
    · cases h; simp [hx]
    · simp [dropTo_mem h x hx]
end

/-- a loop that one is in -/
def LpOK (E : Env) (ρ : List PV) (C : List (List PV → Prop)) (Js : List (Act → World → Prop)) (l : LoopAt) : Prop :=
  ∃ ρ0 ρr Cv Jv, ρ = ρ0 ++ ρr ∧ l.lev < C.length ∧ C[C.length - 1 - l.lev]? = some Cv ∧ Js[Js.length - 1 - l.lev]? = some Jv ∧
    ∀ ρ1 β st vs a w, Sim E (ρ0 ++ ρ1) β (look st.tm) (look st.hp) a w → backOk l st = true → varsOf st l.ann = some vs → Cv (pvs (ρ0 ++ ρ1) vs) → Jv a w
theorem LpOK.app {E : Env} {ρ : List PV} {C : List (List PV → Prop)} {Js : List (Act → World → Prop)} {l : LoopAt} (h : LpOK E ρ C Js l) (rs : List PV) : LpOK E (ρ ++ rs) C Js l := by
  obtain ⟨ρ0, ρr, Cv, Jv, e, h1, h2, h3, h4⟩ := h
  exact ⟨ρ0, ρr ++ rs, Cv, Jv, by rw [e, List.append_assoc], h1, h2, h3, h4⟩
theorem LpOK.push {E : Env} {ρ : List PV} {C : List (List PV → Prop)} {Js : List (Act → World → Prop)} {l : LoopAt} (h : LpOK E ρ C Js l) (hl : C.length = Js.length) (c : List PV → Prop) (J : Act → World → Prop) : LpOK E ρ (c :: C) (J :: Js) l := by
  obtain ⟨ρ0, ρr, Cv, Jv, e, h1, h2, h3, h4⟩ := h
  refine ⟨ρ0, ρr, Cv, Jv, e, by simp; omega, ?_, ?_, h4⟩
  · have e : (c :: C).length - 1 - l.lev = (C.length - 1 - l.lev) + 1 := by simp; omega
    rw [e, List.getElem?_cons_succ]; exact h2
  · have e : (J :: Js).length - 1 - l.lev = (Js.length - 1 - l.lev) + 1 := by simp; omega
    rw [e, List.getElem?_cons_succ]; exact h3
theorem vars_len {st : St} {ann : Ann} {vs : List SV} (h : varsOf st ann = some vs) : vs.length = ann.ts.length + ann.cs.length := by
  unfold varsOf at h
  split at h
  · rename_i va vb ha hb
    split at h
    · cases h
      rw [List.length_append, (mapM_at ha).1, (mapM_at hb).1]
    · cases h
  · cases h

section
variable {P : Program} {E : Env} {fn : Func} {anns : List (Nat × Ann)} {R : PV → Prop} {Q0 : Exit → Act → World → Prop}
/-- what is known of names holds of a frame -/
theorem Sim.know {ρ : List PV} {β : Nat → Option Nat} {tm tm' : Nat → Option SV} {hp hp' : Nat → Option HB} {a : Act} {w : World} (h : Sim E ρ β tm hp a w) (h1 : ∀ t s, tm' t = some s → ∃ s0, tm t = some s0 ∧ Refi ρ s0 s) (h2 : ∀ j, hp' j = hp j) : Sim E ρ β tm' hp' a w := by
  have e : hp' = hp := funext h2
  subst e
  refine ⟨h.df, h.nt, h.bel, fun t s ht => ?_, h.hpr, h.inj⟩
  obtain ⟨s0, h3, h4⟩ := h1 t s ht
  exact h4.rep (h.tmr t s0 h3)
theorem Sim.bool {ρ : List PV} {β : Nat → Option Nat} {st : St} {a : Act} {w : World} (h : Sim E ρ β (look st.tm) (look st.hp) a w) {t : Nat} {s : SV} {b : Bool} (hs : look st.tm t = some s) (hd : pv ρ s = .raw (.bool b)) :
    a.eval (.tmp t) = .bool b ∧ Sim E ρ β (look ((t, .con (.bool b)) :: st.tm)) (look st.hp) a w := by
  have hd' : den ρ s = some (.raw (.bool b)) := by
    unfold pv at hd
    cases hx : den ρ s with
    | none => rw [hx] at hd; simp [undef] at hd
    | some p => rw [hx] at hd; simp at hd; rw [hd]
  refine ⟨(h.tmr t s hs).bool hd', h.know (fun u s' hu => ?_) fun _ => rfl⟩
  rw [look_cons] at hu
  split at hu
  · rename_i e
    cases hu
    subst e
    exact ⟨s, hs, .inr ⟨b, rfl, hd'⟩⟩
  · exact ⟨s', hu, .inl rfl⟩

theorem exec_ok (hm : P.follows .mixedOrders = true) (hN : E.N = fn.ntmps)
    (hQ0 : ∀ ρ β st s a w, retS P fn st = some s → R (pv ρ s) → Sim E ρ β (look st.tm) (look st.hp) a w → Q0 .normal a w ∧ Q0 .ret a w) :
    ∀ (n : Nat) (K : List It) (st : St) (ρ : List PV) (C : List (List PV → Prop)) (Js : List (Act → World → Prop)) (β : Nat → Option Nat) (a : Act) (w : World), (exec P fn anns n K st).ok P R ρ C → Sim E ρ β (look st.tm) (look st.hp) a w →
      (∀ j, β j ≠ none → j < st.nj) → ρ.length = st.na → C.length = st.nl → Js.length = st.nl → (∀ l, It.lp l ∈ K → LpOK E ρ C Js l) → cont P Q0 Js K .normal a w := by
  intro n
  induction n with
  | zero => intro K st ρ C Js β a w h; exact (show False by unfold exec at h; exact h).elim
  | succ n ih =>
    intro K st ρ C Js β a w h hS hβ hna hC hJ hL
    cases K with
    | nil =>
      simp only [exec] at h
      split at h
      · rename_i s hs; exact (hQ0 ρ β st s a w hs h hS).1
      · exact h.elim
    | cons x K =>
      cases x with
      | blk id => exact ih K st ρ C Js β a w (by simpa only [exec] using h) hS hβ hna hC hJ fun l hl => hL l (by simp [hl])
      | lp l =>
        simp only [exec] at h
        obtain ⟨ρ0, ρr, Cv, Jv, e, h1, h2, h3, h4⟩ := hL l (by simp)
        split at h
        · rename_i vs hvs
          split at h
          · rename_i hc
            simp only [Bool.and_eq_true] at hc
            simp only [VC.ok] at h
            rw [← hC, h2] at h
            show Exit.then _ _ .normal a w
            simp only [Exit.then, h3]
            subst e
            exact h4 ρr β st vs a w hS hc.1 hvs h
          · exact h.elim
        · exact h.elim
      | un b m =>
        simp only [exec] at h
        split at h
        · exact h.elim
        · rename_i m
          have := ih (.code b :: .un b m :: K) st ρ C Js β a w h hS hβ hna hC hJ fun l hl => hL l (by simpa using hl)
          exact this
      | code c =>
        have hL' : ∀ l, It.lp l ∈ K → LpOK E ρ C Js l := fun l hl => hL l (by simp [hl])
        show c.wp P (cont P Q0 Js K) a w
        cases c with
        | skip => exact wp_skip (ih K st ρ C Js β a w (by simpa only [exec] using h) hS hβ hna hC hJ hL')
        | seq x y =>
          refine wp_seq ?_
          have := ih (.code x :: .code y :: K) st ρ C Js β a w (by simpa only [exec] using h) hS hβ hna hC hJ fun l hl => hL' l (by simpa using hl)
          exact this
        | block id b =>
          refine wp_block ?_
          have := ih (.code b :: .blk id :: K) st ρ C Js β a w (by simpa only [exec] using h) hS hβ hna hC hJ fun l hl => hL' l (by simpa using hl)
          exact this
        | exit id =>
          simp only [exec] at h
          split at h
          · rename_i k' hk
            refine wp_exit (cont_exit hk (ih k' st ρ C Js β a w h hS hβ hna hC hJ fun l hl => hL' l (dropTo_mem hk _ hl)))
          · exact h.elim
        | ret =>
          simp only [exec] at h
          split at h
          · rename_i s hs; exact wp_ret (cont_ret (hQ0 ρ β st s a w hs h hS).2)
          · exact h.elim
        | cond c x y =>
          simp only [exec] at h
          split at h
          · rename_i t
            split at h
            · rename_i hs
              have hb := (hS.tmr t _ hs).bool rfl
              exact wp_cond_true hb (ih (.code x :: K) st ρ C Js β a w h hS hβ hna hC hJ fun l hl => hL' l (by simpa using hl))
            · rename_i hs
              have hb := (hS.tmr t _ hs).bool rfl
              exact wp_cond_false hb (ih (.code y :: K) st ρ C Js β a w h hS hβ hna hC hJ fun l hl => hL' l (by simpa using hl))
            · rename_i s _ _ hs
              split at h
              · obtain ⟨b, hb, h1, h2⟩ := h
                obtain ⟨hv, hS'⟩ := hS.bool hs hb
                cases b
                · exact wp_cond_false hv (ih (.code y :: K) _ ρ C Js β a w (h2 rfl) hS' hβ hna hC hJ fun l hl => hL' l (by simpa using hl))
                · exact wp_cond_true hv (ih (.code x :: K) _ ρ C Js β a w (h1 rfl) hS' hβ hna hC hJ fun l hl => hL' l (by simpa using hl))
              · exact h.elim
            · exact h.elim
          · exact wp_cond_true rfl (ih (.code x :: K) st ρ C Js β a w h hS hβ hna hC hJ fun l hl => hL' l (by simpa using hl))
          · exact wp_cond_false rfl (ih (.code y :: K) st ρ C Js β a w h hS hβ hna hC hJ fun l hl => hL' l (by simpa using hl))
          · exact h.elim
        | region id ops draw =>
          simp only [exec] at h
          have hS0 : Sofar P ops.toList E.N st.nj (look st.tm) (look st.hp) ρ st [] :=
            ⟨fun t s ht => ⟨s, ht, .inl rfl⟩, fun _ => rfl, fun k o te _ ht => by simp at ht, hna⟩
          obtain ⟨rs, T, st', h1, h2, h3, h4, h5, h6⟩ := reg_trace ops.toList [] st ρ (by simp) (by simp) hS0 (by rw [hN]; exact h)
          have hlen : T.length = ops.size := by simpa using h1
          have hfin : ∀ a w, Stands P E (ρ ++ rs) st.nj ops T (look st.tm) (look st.hp) (fun _ => true) a w → cont P Q0 Js K .normal a w := by
            rintro a w ⟨β', hs1, hs2⟩
            refine ih K st' (ρ ++ rs) C Js β' a w h6 ?_ (fun j hj => ?_) h2.na (by rw [h5, hC]) (by rw [h5, hJ]) fun l hl => (hL' l hl).app rs
            · have htm := h2.tm
              have hhp := h2.hp
              rw [hlen] at htm hhp
              exact hs1.know htm hhp
            · rw [h4]
              rcases hs2 j hj with h | ⟨k, h, hk, _⟩
              · omega
              · simp; omega
          have hstart : ∀ w', Sim E ρ β (look st.tm) (look st.hp) a w' → ∀ listed : Nat → Bool, (∀ m, m < ops.size → listed m = false) → Stands P E (ρ ++ rs) st.nj ops T (look st.tm) (look st.hp) listed a w' := by
            intro w' hS' listed hl
            refine ⟨β, ?_, fun j hj => .inl (hβ j hj)⟩
            have e1 : tmS T listed (look st.tm) ops.size = look st.tm := by
              have : tmS T listed (look st.tm) ops.size = tmS T (fun m => decide (m < 0)) (look st.tm) ops.size := by
                funext t
                exact gS_agree t _ fun m _ _ hm _ _ _ => by rw [hl m hm]; simp
              rw [this]
              exact gS_prefix 0 ops.size (by omega)
            have e2 : hpS T listed (look st.hp) ops.size = look st.hp := by
              have : hpS T listed (look st.hp) ops.size = hpS T (fun m => decide (m < 0)) (look st.hp) ops.size := by
                funext t
                exact gS_agree t _ fun m _ _ hm _ _ _ => by rw [hl m hm]; simp
              rw [this]
              exact gS_prefix 0 ops.size (by omega)
            rw [e1, e2]
            exact hS'.more rs
          cases draw with
          | false =>
            refine wp_region ?_
            have := reg_seq hm hlen h2.told hfin ops.size 0 (by omega) a w (hstart w hS _ fun m _ => by simp)
            have e : (List.range ops.size).map (0 + ·) = List.range ops.size := by simp
            rwa [e] at this
          | true =>
            refine wp_region_any hm ?_
            have hS' : Sim E ρ β (look st.tm) (look st.hp) a w.drew := hS.grow (Below.refl _ w).drew
            have hl : ∀ m, m < ops.size → (Array.replicate ops.size false).getD m false = false := by
              intro m hm; simp [Array.getD, hm]
            refine reg_any hm hlen h2.told (h3 rfl) hfin ops.size (Array.replicate ops.size false) (by simp) ?_ ?_ a w.drew (hstart _ hS' _ hl)
            · unfold togo
              have := List.countP_le_length (p := fun i => !(Array.replicate ops.size false).getD i false) (l := List.range ops.size)
              simpa using this
            · intro k o ho hl'
              have hk := (Array.getElem?_eq_some_iff.1 ho).1
              have h0 := hl k hk
              have hl2 : (Array.replicate ops.size false).getD k false = true := hl'
              rw [h0] at hl2
              cases hl2
        | loop b =>
          simp only [exec] at h
          split at h
          · rename_i m hun
            refine wp_loop_rounds (m + 1) ?_
            have := ih (.code b :: .un b m :: K) st ρ C Js β a w h hS hβ hna hC hJ fun l hl => hL' l (by simpa using hl)
            exact this
          split at h
          · exact h.elim
          · rename_i vs hvs
            split at h
            · rename_i hc
              simp only [Bool.and_eq_true] at hc
              obtain ⟨I, μ, hI, hround⟩ := h
              generalize hann : annOf b anns = ann at hc hvs hround
              generalize hlp : (LoopAt.mk st.nl ((dedup st.tm).filter fun (t, s) => !(writes b).contains t && !ann.ts.contains t && s.wf st.na st.nj) (headHp (dedup st.hp) ann (st.na + ann.ts.length)) ann) = l at hc hround
              have hlev : l.lev = st.nl := by rw [← hlp]
              have hlann : l.ann = ann := by rw [← hlp]
              have hvl := vars_len hvs
              have hhead : ∀ {ρ1 : List PV} {β : Nat → Option Nat} {st' : St} {vs' : List SV} {a : Act} {w : World}, Sim E (ρ ++ ρ1) β (look st'.tm) (look st'.hp) a w → backOk l st' = true → varsOf st' l.ann = some vs' →
                  Sim E (ρ ++ pvs (ρ ++ ρ1) vs') (fun j => if j < st.nj then β j else none) (look (headTm ρ.length l)) (look l.hp) a w := fun hs hb hv => head_sim hs (by rw [hna]; exact hc.1) hb hv
              refine wp_loop_ghost (fun n a w => ∃ us : List PV, us.length = vs.length ∧ I us ∧ μ us = n ∧ ∃ β', Sim E (ρ ++ us) β' (look (headTm ρ.length l)) (look l.hp) a w ∧ ∀ j, β' j ≠ none → j < st.nj) (μ (pvs ρ vs)) ?_ ?_
              · have := hhead (ρ1 := []) (by rw [List.append_nil]; exact hS) hc.2 (by rw [hlann]; exact hvs)
                rw [List.append_nil] at this
                refine ⟨pvs ρ vs, by simp [pvs], hI, rfl, _, this, fun j hj => ?_⟩
                by_cases hlt : j < st.nj
                · exact hlt
                · exact absurd (if_neg hlt) hj
              · rintro m a w ⟨us, hu1, hu2, hu3, β', hu4, hu5⟩
                have hbody := hround us hu1 hu2
                have htm : headTm ρ.length l = (ann.ts.zipIdx.map fun (t, i) => (t, SV.at (st.na + i))) ++ ((dedup st.tm).filter fun (t, s) => !(writes b).contains t && !ann.ts.contains t && s.wf st.na st.nj) := by
                  unfold headTm; rw [hlann, hna, ← hlp]
                have hhp : l.hp = headHp (dedup st.hp) ann (st.na + ann.ts.length) := by rw [← hlp]
                rw [htm, hhp] at hu4
                have hall : ∀ l', It.lp l' ∈ K → l'.lev < Js.length := fun l' hl' => by
                  obtain ⟨_, _, _, _, _, h1, _⟩ := hL' l' hl'
                  omega
                have key := ih (.code b :: .lp l :: K) _ (ρ ++ us) _ ((fun a' w' => ∃ n', n' < m ∧ ∃ us : List PV, us.length = vs.length ∧ I us ∧ μ us = n' ∧ ∃ β', Sim E (ρ ++ us) β' (look (headTm ρ.length l)) (look l.hp) a' w' ∧ ∀ j, β' j ≠ none → j < st.nj) :: Js) β' a w hbody hu4 hu5 (by simp [hna, hu1]) (by simp [hC]) (by simp [hJ]) ?_
                · have key2 : b.wp P (cont P Q0 _ (.lp l :: K)) a w := key
                  refine wp_mono key2 fun e a' w' hq => ?_
                  simp only [cont] at hq
                  rw [cont_push hall] at hq
                  have e0 : ∀ J : Act → World → Prop, (J :: Js).length - 1 - l.lev = 0 := fun J => by simp; omega
                  rw [e0] at hq
                  exact hq
                · intro l' hl'
                  simp only [List.mem_cons, reduceCtorEq, It.lp.injEq, false_or] at hl'
                  rcases hl' with rfl | hl'
                  · refine ⟨ρ, us, (fun us' => I us' ∧ μ us' < μ us), (fun a' w' => ∃ n', n' < m ∧ ∃ us : List PV, us.length = vs.length ∧ I us ∧ μ us = n' ∧ ∃ β', Sim E (ρ ++ us) β' (look (headTm ρ.length l')) (look l'.hp) a' w' ∧ ∀ j, β' j ≠ none → j < st.nj), rfl, by simp; omega, ?_, ?_, ?_⟩
                    · rw [hlev]; simp [hC]
                    · rw [hlev]; simp [hJ]
                    · rintro ρ1 β1 st1 vs1 a1 w1 hs hb hv ⟨h1, h2⟩
                      refine ⟨μ (pvs (ρ ++ ρ1) vs1), by omega, pvs (ρ ++ ρ1) vs1, ?_, h1, rfl, _, hhead hs hb hv, fun j hj => ?_⟩
                      · have := vars_len hv
                        rw [hlann] at this
                        simp [pvs, this, hvl]
                      · by_cases hlt : j < st.nj
                        · exact hlt
                        · exact absurd (if_neg hlt) hj
                  · exact ((hL' l' hl').app us).push (by rw [hC, hJ]) _ _
            · exact h.elim
        | rangeFunc => simp only [exec] at h; exact h.elim
        | scope => simp only [exec] at h; exact h.elim
        | label => simp only [exec] at h; exact h.elim
        | goto => simp only [exec] at h; exact h.elim
        | refuse => simp only [exec] at h; exact h.elim

def resV (tmps : Array Value) : ResultVar → Sem Value
  | .tmp t => Pure.pure (tmps.getD t undef)
  | .cell a t => do loadVar t (← asAddr (tmps.getD a undef))
theorem results_eq (fn : Func) (tmps : Array Value) : results fn tmps = (do
    let vs ← fn.results.mapM (resV tmps)
    Pure.pure (if h : vs.size = 1 then vs[0] else .tuple vs)) := by
  unfold results
  congr 1
theorem res_run {ρ : List PV} {β : Nat → Option Nat} {st : St} {a : Act} {w : World} (hS : Sim E ρ β (look st.tm) (look st.hp) a w) : ∀ (l : List ResultVar) (ss : List SV), l.mapM (resS P st) = some ss →
    ∃ vs : List Value, (l.mapM (resV a.tmps)).run P w = .ok vs w ∧ Args ρ β w (Ok E (look st.hp) β) ss vs
  | [], ss, h => by simp at h; subst h; exact ⟨[], rfl, .nil⟩
  | x :: l, ss, h => by
    simp only [List.mapM_cons, Option.bind_eq_bind, Option.pure_def] at h
    rw [Option.bind_eq_some_iff] at h
    obtain ⟨s, hx, h⟩ := h
    rw [Option.bind_eq_some_iff] at h
    obtain ⟨ss', hl, h⟩ := h
    cases h
    obtain ⟨vs, h1, h2⟩ := res_run hS l ss' hl
    cases x with
    | tmp t =>
      simp only [resS] at hx
      refine ⟨a.tmps.getD t undef :: vs, ?_, .cons (hS.tmr t s hx) h2⟩
      simp only [List.mapM_cons, Sem.run_bind, resV, Sem.run_pure, Result.andThen_ok, h1]
    | cell c t =>
      simp only [resS] at hx
      split at hx
      · rename_i j off hc
        split at hx
        · rename_i cs T hh
          obtain ⟨b, us, k1, k2, k3, k4, k5⟩ := hS.hpr j _ hh
          obtain ⟨b', hb', hv⟩ := box_val (hS.tmr c _ hc)
          rw [k1] at hb'
          cases hb'
          obtain ⟨v, hv1, hv2⟩ := partS_load hx k2 k3 k5
          refine ⟨v :: vs, ?_, .cons hv2 h2⟩
          simp only [List.mapM_cons, Sem.run_bind, resV, hv, asAddr, Sem.run_pure, Result.andThen_ok, hv1, h1]
        · cases hx
      · cases hx
theorem retS_run {ρ : List PV} {β : Nat → Option Nat} {st : St} {s : SV} {a : Act} {w : World} (hr : retS P fn st = some s) (hS : Sim E ρ β (look st.tm) (look st.hp) a w) :
    ∃ v, (results fn a.tmps).run P w = .ok v w ∧ ∃ p, den ρ s = some p ∧ Rep w (Ok E (look st.hp) β) p v := by
  have key := res_run (P := P) hS
  unfold retS at hr
  split at hr
  · rename_i s' hm
    split at hr
    · rename_i hp
      cases hr
      obtain ⟨vs, h1, h2⟩ := key _ _ hm
      obtain ⟨v, rfl, h3⟩ := argL1 (args := []) h2
      obtain ⟨p, hd⟩ := h3.den1 hp
      refine ⟨v, ?_, p, hd, h3.rep hd⟩
      rw [results_eq, Sem.run_bind, Array.mapM_eq_mapM_toList, Sem.run_map]
      rw [h1]
      rfl
    · cases hr
  · rename_i l hne hm
    split at hr
    · rename_i hp
      cases hr
      obtain ⟨vs, h1, h2⟩ := key _ _ hm
      obtain ⟨ps, hd⟩ := h2.dens hp
      obtain ⟨h3, h4⟩ := h2.reps hd
      refine ⟨.tuple vs.toArray, ?_, .tup ps, by simp only [den, hd, Option.map_some], .tup ps _ (by simpa using h3) fun j p hj => ?_⟩
      · rw [results_eq, Sem.run_bind, Array.mapM_eq_mapM_toList, Sem.run_map]
        rw [h1]
        have hl : vs.toArray.size ≠ 1 := by
          intro e
          have e1 : vs.length = 1 := by simpa using e
          have e2 : l.length = 1 := by rw [h2.1, e1]
          match l, e2 with
          | [s], _ => exact hne s rfl
        simp only [Result.andThen_ok]
        rw [dif_neg hl]
        rfl
      · have hlt := (List.getElem?_eq_some_iff.1 hj).1
        refine h4 j p _ hj ?_
        simp [Array.getD, show j < vs.length by omega]
    · cases hr
  · cases hr
theorem fitsAll_at : ∀ {l : List Sh} {ps : List PV}, fitsAll l ps = true → l.length = ps.length ∧ ∀ (k : Nat) (h : Sh) (p : PV), l[k]? = some h → ps[k]? = some p → fits h p = true
  | [], [], _ => ⟨rfl, fun k h p hk => by simp at hk⟩
  | [], _ :: _, h => by simp [fitsAll] at h
  | _ :: _, [], h => by simp [fitsAll] at h
  | h :: l, p :: ps, hf => by
    simp only [fitsAll, Bool.and_eq_true] at hf
    obtain ⟨h1, h2⟩ := fitsAll_at hf.2
    refine ⟨by simp [h1], fun k h' p' hk hp => ?_⟩
    cases k with
    | zero => simp at hk hp; subst hk hp; exact hf.1
    | succ k => simp at hk hp; exact h2 k h' p' hk hp
/-- A FUNCTION WHOSE CONDITION HOLDS COMES TO WHAT IT SAYS. -/
theorem FnR.intro {f : FuncId} {shs : List Sh} {vc : VC} {args : List PV} (hm : P.follows .mixedOrders = true) (hi : fnInfo P f anns = some (shs, vc)) (hf : fitsAll shs args = true) (h : vc.ok P R args []) : FnR P f args R := by
  unfold fnInfo at hi
  split at hi
  · rename_i fn hfn
    split at hi
    · cases hi
    · rename_i hname
      split at hi
      · rename_i c shs' hbody hshs
        split at hi
        · rename_i hle
          cases hi
          refine ⟨⟨fn, hfn, by rw [hbody]; rfl, by simpa using hname⟩, fun w P0 vs hP hlen hrep => ?_⟩
          obtain ⟨k1, k2⟩ := fitsAll_at hf
          refine calls_of_wp hfn hbody ?_
          have hE : ∀ b, P0 b → Ok ⟨w, P0, fn.ntmps⟩ (fun _ => none) (fun _ => none) b := fun b hb => ⟨.inl hb, fun j hj => absurd rfl hj⟩
          have hS : Sim ⟨w, P0, fn.ntmps⟩ args (fun _ => none) (look (st0 shs).tm) (look (st0 shs).hp) { tmps := vs ++ Array.replicate (fn.ntmps - vs.size) undef, defers := [] } w := by
            refine ⟨rfl, by simp; omega, Below.refl _ _, fun t s ht => ?_, fun j h hj => by simp [st0, look] at hj, fun j j' b hj => by simp [st0, look] at hj⟩
            have hm := look_mem ht
            simp only [st0, List.mem_map] at hm
            obtain ⟨⟨sh, t'⟩, hm, e⟩ := hm
            obtain ⟨rfl, rfl⟩ : t' = t ∧ expand (.at t') sh = s := by simpa using e
            have hsh : shs[t']? = some sh := by
              obtain ⟨k, hk⟩ := List.mem_iff_getElem?.1 hm
              rw [List.getElem?_zipIdx, Option.map_eq_some_iff] at hk
              obtain ⟨y, hy, e⟩ := hk
              cases e
              simpa using hy
            have hlt := (List.getElem?_eq_some_iff.1 hsh).1
            obtain ⟨p, hp⟩ : ∃ p, args[t']? = some p := ⟨args[t']'(by omega), List.getElem?_eq_getElem _⟩
            have hv : (vs ++ Array.replicate (fn.ntmps - vs.size) undef).getD t' undef = vs.getD t' undef := by
              simp only [Array.getD_eq_getD_getElem?]
              rw [Array.getElem?_append_left (by omega)]
            simp only
            rw [hv]
            exact expand_rep (by simp only [den]; exact hp) (k2 _ sh p hsh hp) ((hrep _ p hp).mono fun b hb => hE b hb)
          refine exec_ok (E := ⟨w, P0, fn.ntmps⟩) (R := R) (Q0 := bodyPost P fn _) hm rfl ?_ 100000 [.code c] (st0 shs) args [] [] (fun _ => none) _ w h hS (fun j hj => absurd rfl hj) (by simp [st0]; omega) rfl rfl (fun l hl => by simp at hl)
          intro ρ β st s a' w' hr hR hS'
          obtain ⟨v, h1, p, h2, h3⟩ := retS_run hr hS'
          rw [pv_of h2] at hR
          have : a'.defers = [] ∧ ∃ v, (results fn a'.tmps).run P w' = .ok v w' ∧ ∃ v_1 p, Ending.returned v = .returned v_1 ∧ R p ∧ Rep w' (fun b => P0 b ∨ w.heap.size ≤ b) p v_1 ∧ Below w.heap.size w w' :=
            ⟨hS'.df, v, h1, v, p, rfl, hR, h3.mono fun b hb => hb.1, hS'.bel⟩
          exact ⟨this, this⟩
        · cases hi
      · cases hi
  · cases hi
theorem Fn.intro {f : FuncId} {shs : List Sh} {vc : VC} {args : List PV} {r : PV} (hm : P.follows .mixedOrders = true) (hi : fnInfo P f anns = some (shs, vc)) (hf : fitsAll shs args = true) (h : vc.ok P (· = r) args []) : Fn P f args r := FnR.intro hm hi hf h
end
end Gv


/- The engine, 14: closures: a function that is given its captured variables behind its arguments. Over any program. -/
namespace Gv
open Go Go.RowKit
set_option linter.unusedVariables false
set_option linter.unusedSimpArgs false
/-- as fnInfo, with the captured variables' shapes -/
def fnInfoC (P : Program) (f : FuncId) (xs : List Sh) (anns : List (Nat × Ann)) : Option (List Sh × VC) :=
  match P.funcs[f]? with
  | some fn => if fn.name == "runtime.NumGoroutine" then none else match fn.body, fn.params.toList.mapM (shOf P) with
    | some c, some shs => if (shs ++ xs).length ≤ fn.ntmps then some (shs ++ xs, exec P fn anns 100000 [.code c] (st0 (shs ++ xs))) else none
    | _, _ => none
  | none => none
section
variable {P : Program} {R : PV → Prop} {anns : List (Nat × Ann)}
/-- A CLOSURE WHOSE CONDITION HOLDS COMES TO WHAT IT SAYS. -/
theorem FnR.introC {f : FuncId} {xs shs : List Sh} {vc : VC} {args : List PV} (hm : P.follows .mixedOrders = true) (hi : fnInfoC P f xs anns = some (shs, vc)) (hf : fitsAll shs args = true) (h : vc.ok P R args []) : FnR P f args R := by
  unfold fnInfoC at hi
  split at hi
  · rename_i fn hfn
    split at hi
    · cases hi
    · rename_i hname
      split at hi
      · rename_i c shs' hbody hshs
        split at hi
        · rename_i hle
          cases hi
          generalize hxs : shs' ++ xs = shs at *
          refine ⟨⟨fn, hfn, by rw [hbody]; rfl, by simpa using hname⟩, fun w P0 vs hP hlen hrep => ?_⟩
          obtain ⟨k1, k2⟩ := fitsAll_at hf
          refine calls_of_wp hfn hbody ?_
          have hE : ∀ b, P0 b → Ok ⟨w, P0, fn.ntmps⟩ (fun _ => none) (fun _ => none) b := fun b hb => ⟨.inl hb, fun j hj => absurd rfl hj⟩
          have hS : Sim ⟨w, P0, fn.ntmps⟩ args (fun _ => none) (look (st0 shs).tm) (look (st0 shs).hp) { tmps := vs ++ Array.replicate (fn.ntmps - vs.size) undef, defers := [] } w := by
            refine ⟨rfl, by simp; omega, Below.refl _ _, fun t s ht => ?_, fun j h hj => by simp [st0, look] at hj, fun j j' b hj => by simp [st0, look] at hj⟩
            have hm := look_mem ht
            simp only [st0, List.mem_map] at hm
            obtain ⟨⟨sh, t'⟩, hm, e⟩ := hm
            obtain ⟨rfl, rfl⟩ : t' = t ∧ expand (.at t') sh = s := by simpa using e
            have hsh : shs[t']? = some sh := by
              obtain ⟨k, hk⟩ := List.mem_iff_getElem?.1 hm
              rw [List.getElem?_zipIdx, Option.map_eq_some_iff] at hk
              obtain ⟨y, hy, e⟩ := hk
              cases e
              simpa using hy
            have hlt := (List.getElem?_eq_some_iff.1 hsh).1
            obtain ⟨p, hp⟩ : ∃ p, args[t']? = some p := ⟨args[t']'(by omega), List.getElem?_eq_getElem _⟩
            have hv : (vs ++ Array.replicate (fn.ntmps - vs.size) undef).getD t' undef = vs.getD t' undef := by
              simp only [Array.getD_eq_getD_getElem?]
              rw [Array.getElem?_append_left (by omega)]
            simp only
            rw [hv]
            exact expand_rep (by simp only [den]; exact hp) (k2 _ sh p hsh hp) ((hrep _ p hp).mono fun b hb => hE b hb)
          refine exec_ok (E := ⟨w, P0, fn.ntmps⟩) (R := R) (Q0 := bodyPost P fn _) hm rfl ?_ 100000 [.code c] (st0 shs) args [] [] (fun _ => none) _ w h hS (fun j hj => absurd rfl hj) (by simp [st0]; omega) rfl rfl (fun l hl => by simp at hl)
          intro ρ β st s a' w' hr hR hS'
          obtain ⟨v, h1, p, h2, h3⟩ := retS_run hr hS'
          rw [pv_of h2] at hR
          have : a'.defers = [] ∧ ∃ v, (results fn a'.tmps).run P w' = .ok v w' ∧ ∃ v_1 p, Ending.returned v = .returned v_1 ∧ R p ∧ Rep w' (fun b => P0 b ∨ w.heap.size ≤ b) p v_1 ∧ Below w.heap.size w w' :=
            ⟨hS'.df, v, h1, v, p, rfl, hR, h3.mono fun b hb => hb.1, hS'.bel⟩
          exact ⟨this, this⟩
        · cases hi
      · cases hi
  · cases hi
theorem Fn.introC {f : FuncId} {xs shs : List Sh} {vc : VC} {args : List PV} {r : PV} (hm : P.follows .mixedOrders = true) (hi : fnInfoC P f xs anns = some (shs, vc)) (hf : fitsAll shs args = true) (h : vc.ok P (· = r) args []) : Fn P f args r := FnR.introC hm hi hf h
/-- a region of a text, by its number -/
def findReg (id : Nat) : Code → Option Code
  | .region i ops d => if i == id then some (.region i ops d) else none
  | .seq a b => (findReg id a).orElse fun _ => findReg id b
  | .cond _ a b => (findReg id a).orElse fun _ => findReg id b
  | .block _ b => findReg id b
  | .loop b => findReg id b
  | _ => none
/-- a region's condition, from what is known ahead of it -/
def execReg (P : Program) (fn : Func) (id : Nat) (st : St) : VC := match fn.body.bind (findReg id) with
  | some c => exec P fn [] 1000 [.code c] st
  | none => .bad
/-- a region's walk, out of its condition -/
theorem wp_of_reg {fn : Func} {id : Nat} {c : Code} {st : St} {ρ : List PV} {β : Nat → Option Nat} {E : Env} {Q0 : Exit → Act → World → Prop} {a : Act} {w : World} {vc : VC} (hm : P.follows .mixedOrders = true) (hN : E.N = fn.ntmps)
    (hc : fn.body.bind (findReg id) = some c) (hv : execReg P fn id st = vc) (h : vc.ok P R ρ []) (hS : Sim E ρ β (look st.tm) (look st.hp) a w) (hβ : ∀ j, β j ≠ none → j < st.nj) (hna : ρ.length = st.na) (hnl : st.nl = 0)
    (hQ0 : ∀ ρ β st s a w, retS P fn st = some s → R (pv ρ s) → Sim E ρ β (look st.tm) (look st.hp) a w → Q0 .normal a w ∧ Q0 .ret a w) : c.wp P Q0 a w := by
  unfold execReg at hv
  rw [hc] at hv
  subst hv
  exact exec_ok (anns := []) hm hN hQ0 1000 [.code c] st ρ [] [] β a w h hS hβ hna (by rw [hnl]; rfl) (by rw [hnl]; rfl) (fun l hl => by simp at hl)
/-- what a region leaves in slots: its condition -/
def execOuts (P : Program) (fn : Func) (id : Nat) (st : St) (outs : List Nat) : VC := match fn.body.bind (findReg id) with
  | some (.region _ ops d) => regVC P fn.ntmps ops.toList d st.nj (fun st => match outs.mapM (look st.tm) with
    | some l => .ret (.tup l)
    | none => .bad) ops.toList 0 st []
  | _ => .bad
theorem reg_sum {fn : Func} {id i : Nat} {ops : Array Oper} {draw : Bool} {outs : List Nat} {vals : List PV} {st : St} {ρ : List PV} {β : Nat → Option Nat} {E : Env} {Q : Exit → Act → World → Prop} {a : Act} {w : World} {vc : VC} (hm : P.follows .mixedOrders = true) (hN : E.N = fn.ntmps)
    (hc : fn.body.bind (findReg id) = some (.region i ops draw)) (hv : execOuts P fn id st outs = vc) (h : vc.ok P (· = .tup vals) ρ []) (hS : Sim E ρ β (look st.tm) (look st.hp) a w) (hβ : ∀ j, β j ≠ none → j < st.nj) (hna : ρ.length = st.na)
    (hQ : ∀ a' w', a'.defers = [] → a'.tmps.size = fn.ntmps → (∀ (k t : Nat) (p : PV), outs[k]? = some t → vals[k]? = some p → Rep w' (fun b => E.P0 b ∨ E.w0.heap.size ≤ b) p (a'.tmps.getD t undef)) → Below E.w0.heap.size E.w0 w' → Q .normal a' w') : (Code.region i ops draw).wp P Q a w := by
  unfold execOuts at hv
  rw [hc] at hv
  subst hv
  simp only at h
  have hS0 : Sofar P ops.toList E.N st.nj (look st.tm) (look st.hp) ρ st [] :=
    ⟨fun t s ht => ⟨s, ht, .inl rfl⟩, fun _ => rfl, fun k o te _ ht => by simp at ht, hna⟩
  obtain ⟨rs, T, st', h1, h2, h3, h4, h5, h6⟩ := reg_trace ops.toList [] st ρ (by simp) (by simp) hS0 (by rw [hN]; exact h)
  have hlen : T.length = ops.size := by simpa using h1
  have hfin : ∀ a w, Stands P E (ρ ++ rs) st.nj ops T (look st.tm) (look st.hp) (fun _ => true) a w → Q .normal a w := by
    rintro a w ⟨β', hs1, hs2⟩
    have htm := h2.tm
    have hhp := h2.hp
    rw [hlen] at htm hhp
    have hS' := hs1.know htm hhp
    simp only at h6
    split at h6
    · rename_i l hl
      have h7 : pv (ρ ++ rs) (.tup l) = .tup vals := h6
      have h8 : den (ρ ++ rs) (.tup l) = some (.tup vals) := by
        unfold pv at h7
        cases hx : den (ρ ++ rs) (.tup l) with
        | none => rw [hx] at h7; cases h7
        | some p => rw [hx] at h7; simp only [Option.getD_some] at h7; rw [h7]
      simp only [den, Option.map_eq_some_iff] at h8
      obtain ⟨ps, h9, h10⟩ := h8
      cases h10
      obtain ⟨k1, k2⟩ := dens_some h9
      obtain ⟨k3, k4⟩ := mapM_at hl
      refine hQ a w hS'.df (hS'.nt.trans hN) (fun k t v hk hv => ?_) hS'.bel
      obtain ⟨s, hs, hs2⟩ := k4 k t hk
      exact ((hS'.tmr t s hs2).rep (k2 k s v hs hv)).mono fun b hb => hb.1
    · exact h6.elim
  have hstart : ∀ w', Sim E ρ β (look st.tm) (look st.hp) a w' → ∀ listed : Nat → Bool, (∀ m, m < ops.size → listed m = false) → Stands P E (ρ ++ rs) st.nj ops T (look st.tm) (look st.hp) listed a w' := by
    intro w' hS' listed hl
    refine ⟨β, ?_, fun j hj => .inl (hβ j hj)⟩
    have e1 : tmS T listed (look st.tm) ops.size = look st.tm := by
      have : tmS T listed (look st.tm) ops.size = tmS T (fun m => decide (m < 0)) (look st.tm) ops.size := by
        funext t
        exact gS_agree t _ fun m _ _ hm _ _ _ => by rw [hl m hm]; simp
      rw [this]
      exact gS_prefix 0 ops.size (by omega)
    have e2 : hpS T listed (look st.hp) ops.size = look st.hp := by
      have : hpS T listed (look st.hp) ops.size = hpS T (fun m => decide (m < 0)) (look st.hp) ops.size := by
        funext t
        exact gS_agree t _ fun m _ _ hm _ _ _ => by rw [hl m hm]; simp
      rw [this]
      exact gS_prefix 0 ops.size (by omega)
    rw [e1, e2]
    exact hS'.more rs
  cases draw with
  | false =>
    refine wp_region ?_
    have := reg_seq hm hlen h2.told hfin ops.size 0 (by omega) a w (hstart w hS _ fun m _ => by simp)
    have e : (List.range ops.size).map (0 + ·) = List.range ops.size := by simp
    rwa [e] at this
  | true =>
    refine wp_region_any hm ?_
    have hS' : Sim E ρ β (look st.tm) (look st.hp) a w.drew := hS.grow (Below.refl _ w).drew
    have hl : ∀ m, m < ops.size → (Array.replicate ops.size false).getD m false = false := by
      intro m hm; simp [Array.getD, hm]
    refine reg_any hm hlen h2.told (h3 rfl) hfin ops.size (Array.replicate ops.size false) (by simp) ?_ ?_ a w.drew (hstart _ hS' _ hl)
    · unfold togo
      have := List.countP_le_length (p := fun i => !(Array.replicate ops.size false).getD i false) (l := List.range ops.size)
      simpa using this
    · intro k o ho hl'
      have hk := (Array.getElem?_eq_some_iff.1 ho).1
      have h0 := hl k hk
      have hl2 : (Array.replicate ops.size false).getD k false = true := hl'
      rw [h0] at hl2
      cases hl2
end
end Gv


