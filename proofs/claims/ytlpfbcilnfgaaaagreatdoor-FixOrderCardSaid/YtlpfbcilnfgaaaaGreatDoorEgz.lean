import Derived.Test.YtlpfbcilnfgaaaaGreatDoorEA
/- The engine, 7: one operation, in a frame that fits its names. Over any program. -/
namespace Gv
open Go Go.RowKit
set_option linter.unusedVariables false
set_option linter.unusedSimpArgs false
section
variable {P : Program} {E : Env} {ρ : List PV} {β : Nat → Option Nat} {tm : Nat → Option SV} {hp : Nat → Option HB} {a : Act} {w : World} {na j : Nat} {o : Oper} {Q : Exit → Act → World → Prop}

/-- what stands behind an operation -/
def Then (E : Env) (ρ : List PV) (β : Nat → Option Nat) (tm : Nat → Option SV) (hp : Nat → Option HB) (j : Nat) (o : Oper) (e : Eff) (K : Act → World → Prop) : Prop :=
  ∀ β' a' w', Sim E ρ β' (upd tm o.dst e.s) (updh hp e.h) a' w' → (∀ i, β' i ≠ none → β i ≠ none ∨ i = j) → K a' w'

theorem then_value (hs : Sim E ρ β tm hp a w) (hd : ∀ x, o.dst = some x → x < E.N) {K : Act → World → Prop} {s : SV} {nd : Nd} (hK : Then E ρ β tm hp j o ⟨s, none, nd⟩ K) {v : Value} {w' : World} (hb : Below w.heap.size w w')
    (hr : (execOp a.eval o).run P w = .ok (.value v) w') (hv : RepS ρ β w' (Ok E hp β) s v) : o.wp P a w K Q :=
  run_value (s := s) hr (hK β _ _ ((hs.grow hb).put hv _ hd) fun i h => .inl h)
theorem exec_v {f : Value → Next} {S : Sem Value} {v : Value} {w' : World} (h : S.run P w = .ok v w') : ((do pure (.value (← S)) : Sem Next)).run P w = .ok (.value v) w' := by
  rw [Sem.run_bind, h]
  rfl
theorem then_look (hs : Sim E ρ β tm hp a w) (hd : ∀ x, o.dst = some x → x < E.N) {K : Act → World → Prop} {p : Prim} {args : List SV} {r : PV} (hρ : ρ[na]? = some r)
    (hK : Then E ρ β tm hp j o ⟨expand (.at na) p.sh, none, .prim p args⟩ K) {S : Sem Value} (hS : execOp a.eval o = (do pure (.value (← S)))) (hl : Looks P w (Ok E hp β) r p.sh S) : o.wp P a w K Q := by
  obtain ⟨v, hr, hrep, hf⟩ := hl
  refine then_value hs hd hK (Below.refl _ w) (v := v) (by rw [hS]; exact exec_v (f := .value) hr) ?_
  exact expand_rep (by simp only [den]; exact hρ) hf hrep

theorem prim_inv {p : Prim} {args : List SV} {e : Eff} (h : Eff.prim na p args = some e) : SV.pures args = true ∧ e = ⟨expand (.at na) p.sh, none, .prim p args⟩ := by
  unfold Eff.prim at h
  split at h
  · cases h; exact ⟨‹_›, rfl⟩
  · cases h

theorem toArray_map {α β : Type} (a : Array α) (f : α → β) : (a.toList.map f).toArray = a.map f := by
  apply Array.ext'; simp

/-- a part of an aggregate -/
theorem partS_val {t : TypeId} {l : List SV} {off : Nat} {s : SV} {vs : Array Value} {W : Nat → Prop} (h : partS P t l off = some s) (hc : Cells ρ β w W l vs) : ∃ v, (part t vs off).run P w = .ok v w ∧ RepS ρ β w W s v := by
  have hl := hc.1
  unfold partS at h
  split at h
  · rename_i hag
    split at h
    · rename_i n hn
      split at h
      · rename_i hle
        cases h
        refine ⟨.agg (vs.extract off (off + n)), by simp only [part, Sem.run_bind, agg_run hag w, Result.andThen_ok, if_true, size_run hn w, Sem.run_pure], ?_⟩
        have key : ∀ (j : Nat) (s : SV), ((l.drop off).take n)[j]? = some s → flatV ((vs.extract off (off + n)).getD j undef) = true ∧ RepS ρ β w W s ((vs.extract off (off + n)).getD j undef) := by
          intro j s hj
          have hlt := (List.getElem?_eq_some_iff.1 hj).1
          simp only [List.length_take, List.length_drop] at hlt
          rw [List.getElem?_take, if_pos (by omega), List.getElem?_drop] at hj
          have := hc.2 _ s hj
          have e : (vs.extract off (off + n)).getD j undef = vs.getD (off + j) undef := by
            simp [Array.getD, show j < min (off + n) vs.size - off by omega, show off + j < vs.size by omega]
          rwa [e]
        exact .agg _ _ (by simp; omega) (fun j s h => (key j s h).1) (fun j s h => (key j s h).2)
      · cases h
    · cases h
  · rename_i hag
    have hlt := (List.getElem?_eq_some_iff.1 h).1
    have e : vs[off]? = some (vs.getD off undef) := by simp [Array.getD, show off < vs.size by omega]
    exact ⟨vs.getD off undef, by simp only [part, Sem.run_bind, agg_run hag w, Result.andThen_ok, Bool.false_eq_true, if_false, e, Sem.run_pure], (hc.2 off s h).2⟩
  · cases h
theorem agg_val {l : List SV} {v : Value} {W : Nat → Prop} (h : RepS ρ β w W (.agg l) v) : ∃ vs, v = .agg vs ∧ Cells ρ β w W l vs := by
  cases h with
  | pure s p v hd hf hr =>
    simp only [den, Option.map_eq_some_iff] at hd
    obtain ⟨ps, _, rfl⟩ := hd
    simp [PV.flat] at hf
  | agg l vs hl hf hr => exact ⟨vs, rfl, hl.symm, fun i s hi => ⟨hf i s hi, hr i s hi⟩⟩
theorem box_val {j off : Nat} {v : Value} {W : Nat → Prop} (h : RepS ρ β w W (.box j off) v) : ∃ b, β j = some b ∧ v = .pointer (some ⟨b, off, none⟩) := by
  cases h with
  | pure _ _ _ hd => simp [den] at hd
  | box _ _ b' hb' => exact ⟨b', hb', rfl⟩
theorem int_val {k : IntKind} {i : Int} {v : Value} {W : Nat → Prop} (h : RepS ρ β w W (.con (.int k i)) v) : v = .int k i := by
  have := h.rep (p := .raw (.int k i)) rfl
  cases this
  rfl
theorem map_val {j : Nat} {v : Value} {W : Nat → Prop} (h : RepS ρ β w W (.mapp j) v) : ∃ b, β j = some b ∧ v = .map (some b) := by
  cases h with
  | pure _ _ _ hd => simp [den] at hd
  | mapp _ b hb => exact ⟨b, hb, rfl⟩
theorem getObj_map {b n : Nat} {ents : Array MapEntry} (h : w.heap[b]? = some (.map ents n)) : (getObj b).run P w = .ok (.map ents n) w := by
  simp only [getObj, Sem.run, h]
theorem setObj_map {b n : Nat} {ents : Array MapEntry} {o : Obj} (h : w.heap[b]? = some (.map ents n)) : (setObj b o).run P w = .ok () { w with heap := w.heap.setIfInBounds b o } := by
  simp only [setObj, Sem.run, h]
theorem checkKey_int {e : Bool} {t : TypeId} {k0 k : IntKind} {n : Int} (h : P.underlying t = some (.int k0)) : (Instr.checkKey e 10000 t (.int k n)).run P w = .ok () w := by
  rw [Instr.checkKey]
  simp only [Sem.run_bind, run_underlying h w, Result.andThen_ok]
  rfl
theorem mapFind_none {k k0 : IntKind} {n : Int} : ∀ {es : List (Value × SV)} {l : List MapEntry} {i : Nat}, mapFind k n es = some none → l.length = es.length → (∀ (i : Nat) (x : Value × SV) (y : MapEntry), es[i]? = some x → l[i]? = some y → y.key = x.1) →
    Instr.findNow (.int k0) (.int k n) l i = some none
  | [], l, i, h, hl, _ => by
    have : l = [] := List.length_eq_zero_iff.1 hl
    subst this
    rfl
  | (u, s) :: es, l, i, h, hl, hk => by
    cases l with
    | nil => simp at hl
    | cons y l =>
      have h0 := hk 0 (u, s) y rfl rfl
      simp only at h0
      unfold mapFind at h
      split at h
      · simp at *
      · rename_i k' n' s' l' heq
        simp only [List.cons.injEq, Prod.mk.injEq] at heq
        obtain ⟨⟨rfl, rfl⟩, rfl⟩ := heq
        split at h
        · rename_i hkk
          subst hkk
          split at h
          · cases h
          · rename_i hne
            unfold Instr.findNow
            rw [h0]
            have e : Instr.sameNow (.int k0) (.int k n) (.int k n') = some false := by
              show (if k = k then some (n == n') else none) = _
              rw [if_pos rfl]
              simp [hne]
            rw [e]
            exact mapFind_none h (by simpa using hl) fun i x y hx hy => hk (i + 1) x y (by simpa using hx) (by simpa using hy)
        · cases h
      · cases h
theorem mapFind_some {k k0 : IntKind} {n : Int} {s : SV} : ∀ {es : List (Value × SV)} {l : List MapEntry} {i : Nat}, mapFind k n es = some (some s) → l.length = es.length → (∀ (i : Nat) (x : Value × SV) (y : MapEntry), es[i]? = some x → l[i]? = some y → y.key = x.1) →
    ∃ m x y, es[m]? = some x ∧ l[m]? = some y ∧ x.2 = s ∧ Instr.findNow (.int k0) (.int k n) l i = some (some (i + m, y.val))
  | [], l, i, h, hl, _ => by simp [mapFind] at h
  | (u, s') :: es, l, i, h, hl, hk => by
    cases l with
    | nil => simp at hl
    | cons y l =>
      have h0 := hk 0 (u, s') y rfl rfl
      simp only at h0
      unfold mapFind at h
      split at h
      · simp at *
      · rename_i k' n' s'' l' heq
        simp only [List.cons.injEq, Prod.mk.injEq] at heq
        obtain ⟨⟨rfl, rfl⟩, rfl⟩ := heq
        split at h
        · rename_i hkk
          subst hkk
          split at h
          · rename_i hn
            subst hn
            cases h
            refine ⟨0, _, y, rfl, rfl, rfl, ?_⟩
            unfold Instr.findNow
            rw [h0]
            have e : Instr.sameNow (.int k0) (.int k n) (.int k n) = some true := by
              show (if k = k then some (n == n) else none) = _
              rw [if_pos rfl]
              simp
            rw [e]
            rfl
          · rename_i hne
            obtain ⟨m, x, y', h1, h2, h3, h4⟩ := mapFind_some (i := i + 1) h (by simpa using hl) fun i x y hx hy => hk (i + 1) x y (by simpa using hx) (by simpa using hy)
            refine ⟨m + 1, x, y', by simpa using h1, by simpa using h2, h3, ?_⟩
            unfold Instr.findNow
            rw [h0]
            have e : Instr.sameNow (.int k0) (.int k n) (.int k n') = some false := by
              show (if k = k then some (n == n') else none) = _
              rw [if_pos rfl]
              simp [hne]
            rw [e]
            simp only
            rw [h4]
            congr 3
            omega
        · cases h
      · cases h
theorem clo_val {fn : Go.Fn} {fs cs : List SV} {v : Value} {W : Nat → Prop} (h : RepS ρ β w W (.clo fn fs cs) v) (hp : SV.pures fs = true) (hp' : SV.pures cs = true) :
    ∃ ps qs fv cv, dens ρ fs = some ps ∧ dens ρ cs = some qs ∧ v = .func fn fv cv ∧ Rep w W (.clo fn ps qs) v := by
  obtain ⟨p, hd⟩ := h.den1 (by simp [SV.pure, hp, hp'])
  have hr := h.rep hd
  simp only [den] at hd
  split at hd
  · rename_i ps qs h1 h2
    cases hd
    have hr2 := hr
    cases hr with
    | clo _ _ _ fv cv => exact ⟨ps, qs, fv, cv, h1, h2, rfl, hr2⟩
  · cases hd
theorem dens_append : ∀ {l m : List SV} {ps qs : List PV}, dens ρ l = some ps → dens ρ m = some qs → dens ρ (l ++ m) = some (ps ++ qs)
  | [], m, ps, qs, h, h' => by simp only [dens, Option.some.injEq] at h; subst h; exact h'
  | s :: l, m, ps, qs, h, h' => by
    simp only [dens] at h
    split at h
    · rename_i p q hp hq
      cases h
      simp only [List.cons_append, dens, hp, dens_append hq h']
    · cases h
theorem pures_append : ∀ {l m : List SV}, SV.pures (l ++ m) = true → SV.pures l = true ∧ SV.pures m = true
  | [], m, h => ⟨rfl, h⟩
  | s :: l, m, h => by
    simp only [List.cons_append, SV.pures, Bool.and_eq_true] at h ⊢
    obtain ⟨h1, h2⟩ := pures_append h.2
    exact ⟨⟨h.1, h1⟩, h2⟩

/-- a call, from what it says -/
theorem call_fin (hs : Sim E ρ β tm hp a w) (hd : ∀ x, o.dst = some x → x < E.N) {K : Act → World → Prop} {f : FuncId} {ps : List PV} {r : PV} {sh : RSh} {nd : Nd} (hf : Fn P f ps r) (hρ : ρ[na]? = some r) (hfit : fitsR sh r = true)
    (hK : Then E ρ β tm hp j o ⟨expandR (.at na) sh, none, nd⟩ K) {vs : Array Value} (hrun : (execOp a.eval o).run P w = (callFunc f vs).run P w) (hl : ps.length = vs.size)
    (hr : ∀ (j : Nat) (p : PV), ps[j]? = some p → Rep w (Ok E hp β) p (vs.getD j undef)) : o.wp P a w K Q := by
  obtain ⟨⟨fn, hfn, hbody, hname⟩, hcall⟩ := hf
  have hrun' : (execOp a.eval o).run P w = .ok (.enter f vs) w := by
    rw [hrun]
    unfold callFunc
    simp only [Sem.run_bind, run_program, Result.andThen_ok, hfn]
    have hb : fn.body.isNone = false := by cases h : fn.body <;> simp_all
    simp only [hname, hb, Bool.false_eq_true, if_false, Sem.run_pure]
  refine run_enter hrun' ((hcall w (fun b => Ok E hp β b ∧ b < w.heap.size) vs (fun b h => h.2) hl fun j p hj => (hr j p hj).lt).mono fun e w' he => ?_)
  obtain ⟨v, p, rfl, rfl, hrep, hb⟩ := he
  refine ⟨v, rfl, hK β _ _ ((hs.grow hb).put ?_ _ hd) fun i h => .inl h⟩
  refine expandR_rep (by simp only [den]; exact hρ) hfit (hrep.mono fun b hb' => ?_)
  rcases hb' with hb' | hb'
  · exact hb'.1
  · refine ⟨.inr (Nat.le_trans hs.bel.size hb'), fun i hi e => ?_⟩
    cases hh : hp i with
    | none => exact hi hh
    | some x =>
      obtain ⟨b', e', hlt, _⟩ := (hs.hpr i x hh).lt
      rw [e] at e'
      cases e'
      omega

set_option maxHeartbeats 1000000 in
theorem op_run (hm : P.follows .mixedOrders = true) (hs : Sim E ρ β tm hp a w) {args : List SV} (ha : Args ρ β w (Ok E hp β) args (o.op.operands.toList.map a.eval)) {e : Eff}
    (he : symOp P ((hread o.op args).bind hp) na j o args = some e) (hnd : NdOK P ρ na e.nd) (hj : β j = none) (hd : ∀ x, o.dst = some x → x < E.N) {K : Act → World → Prop}
    (hK : Then E ρ β tm hp j o e K) : o.wp P a w K Q := by
  obtain ⟨dst, op, ty, pos, after, guard⟩ := o
  unfold symOp at he
  simp only at he ha
  split at he
  -- move
  · simp only [Op.operands, List.map_cons, List.map_nil] at ha
    cases he
    exact then_value hs hd hK (Below.refl _ w) rfl ha.head
  -- assign
  · simp only [Op.operands, List.map_cons, List.map_nil] at ha
    cases he
    exact then_value hs hd hK (Below.refl _ w) rfl ha.head
  -- pick
  · rename_i x y z b s t
    simp only [Op.operands, List.map_cons, List.map_nil] at ha
    cases he
    have hb : a.eval x = .bool b := ha.head.bool rfl
    refine then_value hs hd hK (Below.refl _ w) (v := if b then a.eval y else a.eval z) ?_ ?_
    · simp only [execOp, hb, asBool, Sem.run_bind, Sem.run_pure, Result.andThen_ok]
    · cases b
      · exact ha.tail.tail.head
      · exact ha.tail.head
  -- alloc
  · rename_i t
    simp only [Option.map_eq_some_iff] at he
    obtain ⟨l, hl, rfl⟩ := he
    obtain ⟨i, z, hi, hz, hall, rfl⟩ := zero_run hl
    have hc : Cells ρ β w (Ok E hp β) (z.cells.toList.map .con) z.cells := by
      have := Cells.con (ρ := ρ) (β := β) (w := w) (W := Ok E hp β) hall
      rwa [Array.toArray_toList] at this
    have hrun : (execOp a.eval ⟨dst, .alloc t, ty, pos, after, guard⟩).run P w = .ok (.value (.pointer (some ⟨w.heap.size, 0, none⟩))) (w.alloc (.cells z.cells t)) := by
      simp only [execOp, Instr.alloc, zeroValue, typeInfo, Sem.run_bind, run_program, Result.andThen_ok, hi, hz, Sem.run_pure, newVar, newRow, run_newObj]
      rfl
    refine run_value (s := .box j 0) hrun (hK _ _ _ ((hs.alloc hj hc.1 hc.2).put ?_ _ hd) fun i h => ?_)
    · exact .box j 0 _ (by simp)
    · by_cases e : i = j
      · exact .inr e
      · simp only [e, if_false] at h; exact .inl h
  -- box
  · rename_i t x s
    simp only [Op.operands, List.map_cons, List.map_nil] at ha
    split at he
    · cases he
    · rename_i hnt
      cases he
      have hc := cells_rep ha.head (by simpa using hnt)
      have hrun : (execOp a.eval ⟨dst, .box t x, ty, pos, after, guard⟩).run P w = .ok (.value (.pointer (some ⟨w.heap.size, 0, none⟩))) (w.alloc (.cells (a.eval x).cells t)) := by
        simp only [execOp, Instr.box, newVar, newRow, Sem.run_bind, run_newObj, Result.andThen_ok, Sem.run_pure]
        rfl
      refine run_value (s := .box j 0) hrun (hK _ _ _ ((hs.alloc hj hc.1 hc.2).put ?_ _ hd) fun i h => ?_)
      · exact .box j 0 _ (by simp)
      · by_cases e : i = j
        · exact .inr e
        · simp only [e, if_false] at h; exact .inl h
  -- build
  · rename_i t parts
    split at he
    · rename_i z pl hz hpl
      split at he
      · rename_i hlen
        cases hf : fillS pl z ((parts.toList.map (·.1)).zip args) with
        | none => simp [hf] at he
        | some l =>
          simp only [hf, Option.bind_some] at he
          cases he
          obtain ⟨i, zz, hi, hzz, hall, rfl⟩ := zero_run hz
          have hc : Cells ρ β w (Ok E hp β) (zz.cells.toList.map .con) zz.cells := by
            have := Cells.con (ρ := ρ) (β := β) (w := w) (W := Ok E hp β) hall
            rwa [Array.toArray_toList] at this
          simp only [Op.operands, List.map_map, Array.toList_map] at ha
          have hlen' : args.length = parts.toList.length := by simpa using hlen
          obtain ⟨us, hu1, hu2⟩ := fill_rep (ps := parts.toList.map fun q => (q.1, a.eval q.2)) hf hc (by simp; omega) (fun k x y hx hy => by
            rw [List.getElem?_map, Option.map_eq_some_iff] at hy
            obtain ⟨q, hq, rfl⟩ := hy
            rw [List.getElem?_zip_eq_some] at hx
            obtain ⟨h1, h2⟩ := hx
            rw [List.getElem?_map, hq] at h1
            refine ⟨(Option.some.inj h1).symm, ha.2 k _ _ h2 ?_⟩
            rw [List.getElem?_map, hq]
            rfl)
          have hbuilt : P.built t (parts.map fun (i, x) => (i, a.eval x)).toList = some us := by
            rw [Array.toList_map]
            unfold placeOf at hpl
            unfold Program.built
            rw [hi]
            split at hpl
            · rename_i fs hu
              rw [Option.map_eq_some_iff] at hpl
              obtain ⟨places, hpl, rfl⟩ := hpl
              simp only [hu, hzz, hpl]
              exact hu1
            · rename_i len el hu
              rw [Option.map_eq_some_iff] at hpl
              obtain ⟨ie, hie, rfl⟩ := hpl
              simp only [hu, hzz, hie]
              exact hu1
            · cases hpl
          refine then_value hs hd hK (Below.refl _ w) (v := .agg us) ?_ ?_
          · simp only [execOp, Sem.run_bind, run_build w t _ us hbuilt, Result.andThen_ok, Sem.run_pure]
          · exact .agg l us hu2.1.symm (fun j s h => (hu2.2 j s h).1) (fun j s h => (hu2.2 j s h).2)
      · cases he
    · cases he
  -- buildSlice
  · rename_i t n parts
    split at he
    · rename_i el hu
      split at he
      · rename_i ie hie
        split at he
        · rename_i z hz
          split at he
          · rename_i hcond
            obtain ⟨hlen, hsm, hall⟩ := hcond
            simp only [Op.operands, List.map_map, Array.toList_map] at ha
            have hlen' : args.length = parts.toList.length := by simpa using hlen
            have hOk : Ok E hp β w.heap.size := by
              refine ⟨.inr hs.bel.size, fun i hi e => ?_⟩
              cases hh : hp i with
              | none => exact hi hh
              | some x =>
                obtain ⟨b, e', hlt, _⟩ := (hs.hpr i x hh).lt
                rw [e] at e'
                cases e'
                omega
            have hsz : (Go.sizeOf el).run P w = .ok ie.size w := by simp [Go.sizeOf, typeInfo, hie]
            split at he
            · rename_i h0
              cases he
              obtain ⟨rfl, h1⟩ := h0
              have hp0 : parts.toList = [] := List.length_eq_zero_iff.1 (by omega)
              have hp1 : parts = #[] := by apply Array.ext'; simpa using hp0
              subst hp1
              refine then_value hs hd hK (w' := w.alloc (.cells #[] el)) ((Below.refl _ w).alloc (Nat.le_refl _) _) (v := .slice (some ⟨w.heap.size, 0, none⟩) 0 0) ?_ ?_
              · simp only [execOp, Instr.buildSlice, Sem.run_bind, run_underlying hu w, Result.andThen_ok, hsz, Nat.zero_mul]
                rw [if_neg (by omega), if_pos trivial]
                simp [Instr.fill, newRow]
                show w.alloc _ = w.alloc _
                congr 2
                apply Array.ext
                · simp
                · intro i h1 h2; simp at h2
              · exact .pure _ (.sl []) _ (by simp only [den]; exact hnd) rfl (.nil _ _ (by omega))
            · split at he
              · cases he
              · rename_i hnz
                cases hf : fillS (fun i => some (i * ie.size, ie.size)) (zerosS z.cells (n * ie.size)) ((parts.toList.map (·.1)).zip args) with
                | none => simp [hf] at he
                | some l =>
                  simp only [hf, Option.bind_some] at he
                  split at he
                  · rename_i hpure
                    cases he
                    have hzs : z.cells.size ≠ 0 := fun e => hnz (.inr e)
                    have hpos : ¬ n * ie.size = 0 := fun e => hnz (.inl e)
                    obtain ⟨us, hu1, hu2⟩ := fill_rep (ps := parts.toList.map fun q => (q.1, a.eval q.2)) hf (zerosS_rep hall hzs) (by simp; omega) (fun k x y hx hy => by
                      rw [List.getElem?_map, Option.map_eq_some_iff] at hy
                      obtain ⟨q, hq, rfl⟩ := hy
                      rw [List.getElem?_zip_eq_some] at hx
                      obtain ⟨h1, h2⟩ := hx
                      rw [List.getElem?_map, hq] at h1
                      refine ⟨(Option.some.inj h1).symm, ha.2 k _ _ h2 ?_⟩
                      rw [List.getElem?_map, hq]
                      rfl)
                    have hll : ∀ {parts : List (Nat × SV)} {cells l : List SV}, fillS (fun i => some (i * ie.size, ie.size)) cells parts = some l → l.length = cells.length := by
                      intro parts
                      induction parts with
                      | nil => intro cells l h; simp only [fillS, Option.some.injEq] at h; rw [h]
                      | cons q parts ih =>
                        intro cells l h
                        obtain ⟨i, s⟩ := q
                        simp only [fillS] at h
                        split at h
                        · rename_i hh
                          rw [ih h]
                          simp only [List.length_append, List.length_take, List.length_drop]
                          omega
                        · cases h
                    have hl : l.length = n * ie.size := by rw [hll hf]; simp [zerosS]
                    have hns : n ≤ 1000000 := Nat.le_trans (Nat.le_mul_of_pos_right _ (Nat.pos_of_ne_zero fun e => hpos (by rw [e, Nat.mul_zero]))) hsm
                    refine then_value hs hd hK (w' := w.alloc (.cells us el)) ((Below.refl _ w).alloc (Nat.le_refl _) _) (v := .slice (some ⟨w.heap.size, 0, none⟩) n n) ?_ ?_
                    · have := run_buildSlice w t el n (parts.map fun (i, x) => (i, a.eval x)) us ie z hu hie hz (by omega) hpos (by rw [Array.toList_map]; exact hu1)
                      simp only [execOp, Sem.run_bind, this, Result.andThen_ok, Sem.run_pure]
                    · exact .pure _ _ _ (by simp only [den]; exact hnd) rfl (mk_rep hu2 hpure hl.symm hns (fun _ h => h) hOk)
                  · cases he
          · cases he
        · cases he
      · cases he
    · cases he
  -- load from a box
  · rename_i t x j' off
    simp only [Op.operands, List.map_cons, List.map_nil] at ha
    simp only [hread, Option.bind_some] at he
    split at he
    · rename_i cs T hh
      cases hp' : partS P t cs off with
      | none => simp [hp'] at he
      | some s =>
        simp only [hp', Option.bind_some] at he
        cases he
        obtain ⟨b, vs, h1, h2, h3, h4, h5⟩ := hs.hpr _ _ hh
        have hx : a.eval x = .pointer (some ⟨b, off, none⟩) := by
          obtain ⟨b', hb', e⟩ := box_val ha.head
          rw [h1] at hb'; cases hb'; exact e
        obtain ⟨v, hv1, hv2⟩ := partS_load hp' h2 h3 h5
        refine then_value hs hd hK (Below.refl _ w) (v := v) ?_ hv2
        simp only [execOp, hx, Instr.loadAt, Instr.sureAddr, Sem.run_bind, Sem.run_pure, Result.andThen_ok, hv1]
    · cases he
  -- load from what nobody writes
  · rename_i t x s hns
    simp only [Op.operands, List.map_cons, List.map_nil] at ha
    split at he
    · rename_i hag
      cases hn : cellsOf P t with
      | none => simp [hn] at he
      | some n =>
        simp only [hn, Option.bind_some] at he
        obtain ⟨hp1, rfl⟩ := prim_inv he
        obtain ⟨r, hρ, hev⟩ := hnd
        obtain ⟨p, hpv, hrep⟩ := args1 (l := []) (vs := []) (ps := []) ha (by simpa [SV.pures] using hp1)
        rw [hpv] at hev
        exact then_look hs hd hρ hK rfl (look_ld_ag hag hn hrep hev)
    · rename_i hag
      obtain ⟨hp1, rfl⟩ := prim_inv he
      obtain ⟨r, hρ, hev⟩ := hnd
      obtain ⟨p, hpv, hrep⟩ := args1 (l := []) (vs := []) (ps := []) ha (by simpa [SV.pures] using hp1)
      rw [hpv] at hev
      exact then_look hs hd hρ hK rfl (look_ld_sc hag hrep hev)
    · cases he
  -- store
  · rename_i t x y j' off s
    simp only [Op.operands, List.map_cons, List.map_nil] at ha
    simp only [hread, Option.bind_some] at he
    split at he
    · rename_i cs T hh
      split at he
      · rename_i hcond
        cases he
        obtain ⟨hc1, hc2, hc3⟩ := hcond
        obtain ⟨b, vs, h1, h2, h3, h4, h5⟩ := hs.hpr _ _ hh
        have hx : a.eval x = .pointer (some ⟨b, off, none⟩) := by
          obtain ⟨b', hb', e⟩ := box_val ha.head
          rw [h1] at hb'; cases hb'; exact e
        obtain ⟨k1, k2⟩ := cells_rep ha.tail.head hc3
        have hput := Cells.put (l := cs) (m := s.cells) (off := off) ⟨h3, h5⟩ ⟨k1, k2⟩ hc2
        have hone : ∀ v ∈ (a.eval y).cells.toList, v.oneCell' = true := by
          intro v hv
          obtain ⟨i, hi, e⟩ := List.mem_iff_getElem.1 hv
          simp only [Array.length_toList] at hi
          have hl : i < s.cells.length := by rw [← k1]; exact hi
          have := (k2 i _ (List.getElem?_eq_getElem hl)).1
          simp [Array.getD, hi] at this
          rw [oneCell_flat, ← e]
          simpa using this
        have hst := run_storeCells_at P b off T (a.eval y).cells.toList 0 vs w h2 (by simp; omega) hone
        simp only [Nat.add_zero] at hst
        have hrun : (execOp a.eval ⟨dst, .store t x y, ty, pos, after, guard⟩).run P w = .ok .skip (w.setRow b (vs.toList.take off ++ (a.eval y).cells.toList ++ vs.toList.drop (off + (a.eval y).cells.toList.length)).toArray) := by
          simp only [execOp, hx, Instr.storeAt, Instr.sureAddr, Sem.run_bind, Sem.run_pure, Result.andThen_ok, storeVar, size_run hc1 w]
          rw [if_neg (by simp; omega), hst]
          rfl
        exact run_skip hrun (hK β _ _ ((hs.store hh h1 h2 hput.1 hput.2).put undef_rep _ hd) fun i h => .inl h)
      · cases he
    · cases he
  -- makeMap
  · rename_i t
    simp only [Op.operands] at ha
    cases he
    have hrun : (execOp a.eval ⟨dst, .makeMap t none, ty, pos, after, guard⟩).run P w = .ok (.value (.map (some w.heap.size))) (w.alloc (.map #[] 0)) := rfl
    refine run_value (s := .mapp j) hrun (hK _ _ _ ((hs.allocO (hb := .mp []) hj fun β' P' h1 h2 h3 => ⟨w.heap.size, #[], h1, by show (w.heap.push _)[w.heap.size]? = _; simp, rfl, hs.bel.size, fun i x y hx _ => by simp at hx⟩).put (.mapp j _ (by simp)) _ hd) fun i h => ?_)
    by_cases e : i = j
    · exact .inr e
    · simp only [e, if_false] at h; exact .inl h
  -- insert
  · rename_i t x y z j' k n s
    simp only [Op.operands, List.map_cons, List.map_nil] at ha
    simp only [hread, Option.bind_some] at he
    split at he
    · rename_i es kt et hh hu
      split at he
      · rename_i k0 hku
        split at he
        · rename_i hfind
          cases he
          obtain ⟨b, ents, h1, h2, h3, h4, h5⟩ := hs.hpr _ _ hh
          obtain ⟨b', hb', hx⟩ := map_val ha.head
          rw [h1] at hb'
          cases hb'
          have hy := int_val ha.tail.head
          have hfk := mapFind_none (i := 0) hfind (by simpa using h3) (fun i x y hx hy => (h5 i x y hx hy).1) (k0 := k0)
          have hrun : (execOp a.eval ⟨dst, .insert t x y z, ty, pos, after, guard⟩).run P w = .ok .skip { w with heap := w.heap.setIfInBounds b (.map (ents.push { key := .int k n, val := a.eval z, born := es.length }) (es.length + 1)) } := by
            simp only [execOp, hx, hy, Instr.mapUpdate, Sem.run_bind, run_underlying hu w, Result.andThen_ok, getObj_map h2, checkKey_int hku, Instr.findKey, run_underlying hku w, hfk, Sem.run_pure, setObj_map h2]
          have hblt := (Array.getElem?_eq_some_iff.1 h2).1
          refine run_skip hrun (hK β _ _ ((hs.turn (w' := { w with heap := w.heap.setIfInBounds b (.map (ents.push { key := .int k n, val := a.eval z, born := es.length }) (es.length + 1)) }) hh h1 (hb := .mp (es ++ [(.int k n, s)])) ⟨rfl, rfl, rfl, by simp, fun c hc => ?_⟩ (fun c hc => ?_) fun P' hk => ?_).put undef_rep _ hd) fun i h => .inl h)
          · simp only [Array.getElem?_setIfInBounds_ne (show b ≠ c by omega)]
          · simp only [Array.getElem?_setIfInBounds_ne (Ne.symm hc)]
          · refine ⟨b, ents.push { key := .int k n, val := a.eval z, born := es.length }, h1, ?_, ?_, h4, fun i x y hx' hy' => ?_⟩
            · simp only [List.length_append, List.length_cons, List.length_nil]
              rw [Array.getElem?_setIfInBounds_self_of_lt hblt]
            · simp [h3]
            · by_cases hi : i < es.length
              · rw [List.getElem?_append_left hi] at hx'
                simp only [Array.toList_push] at hy'
                rw [List.getElem?_append_left (by simpa [h3] using hi)] at hy'
                obtain ⟨k1, k2, k3⟩ := h5 i x y hx' hy'
                exact ⟨k1, k2, k3.keep' (fun _ _ h => h) hk⟩
              · rw [List.getElem?_append_right (by omega)] at hx'
                simp only [Array.toList_push] at hy'
                rw [List.getElem?_append_right (by simp [h3]; omega)] at hy'
                have hlt := (List.getElem?_eq_some_iff.1 hx').1
                simp at hlt
                have : i = es.length := by omega
                subst this
                simp at hx'
                simp [h3] at hy'
                subst hx' hy'
                exact ⟨rfl, rfl, ha.tail.tail.head.keep' (fun _ _ h => h) hk⟩
        · cases he
      · cases he
    · cases he
  -- lookup
  · rename_i t x y j' k n
    simp only [Op.operands, List.map_cons, List.map_nil] at ha
    simp only [hread, Option.bind_some] at he
    split at he
    · rename_i es kt et hh hu
      split at he
      · rename_i k0 hku
        split at he
        · rename_i s hfind
          cases he
          obtain ⟨b, ents, h1, h2, h3, h4, h5⟩ := hs.hpr _ _ hh
          obtain ⟨b', hb', hx⟩ := map_val ha.head
          rw [h1] at hb'
          cases hb'
          have hy := int_val ha.tail.head
          obtain ⟨i, x', y', hx', hy', hxs, hfk⟩ := mapFind_some (i := 0) hfind (by simpa using h3) (fun i x y hx hy => (h5 i x y hx hy).1) (k0 := k0)
          obtain ⟨k1, k2, k3⟩ := h5 i x' y' hx' hy'
          rw [hxs] at k3
          refine then_value hs hd hK (Below.refl _ w) (v := y'.val) ?_ k3
          simp only [execOp, hx, hy, Instr.lookup, Sem.run_bind, run_underlying hu w, Result.andThen_ok, getObj_map h2, checkKey_int hku, Instr.findKey, run_underlying hku w, hfk, Sem.run_pure]
          rfl
        · cases he
      · cases he
    · cases he
  -- fieldAddr
  · rename_i t x f s
    simp only [Op.operands, List.map_cons, List.map_nil] at ha
    split at he
    · rename_i fl hfl
      split at he
      · rename_i hz
        split at he
        · rename_i j' off
          cases he
          obtain ⟨b, hb, hx⟩ := box_val ha.head
          refine then_value hs hd hK (Below.refl _ w) (v := .pointer (some ⟨b, off + fl.offset, none⟩)) ?_ (.box _ _ _ hb)
          simp only [execOp, hx, Sem.run_bind, fieldAt_run hfl hz, Result.andThen_ok, Sem.run_pure, add_mid]
        · rename_i s hns
          obtain ⟨hp1, rfl⟩ := prim_inv he
          obtain ⟨r, hρ, hev⟩ := hnd
          obtain ⟨p, hpv, hrep⟩ := args1 (l := []) (vs := []) (ps := []) ha (by simpa [SV.pures] using hp1)
          rw [hpv] at hev
          exact then_look hs hd hρ hK rfl (look_fld hfl hz hrep hev)
      · cases he
    · cases he
  -- field
  · rename_i t x f l
    simp only [Op.operands, List.map_cons, List.map_nil] at ha
    split at he
    · rename_i fl hfl
      cases hp' : partS P fl.type l fl.offset with
      | none => simp [hp'] at he
      | some s =>
        simp only [hp', Option.bind_some] at he
        cases he
        obtain ⟨vs, hx, hc⟩ := agg_val ha.head
        obtain ⟨v, h1, h2⟩ := partS_val hp' hc
        obtain ⟨fs, hu, hf⟩ := field_run hfl
        refine then_value hs hd hK (Below.refl _ w) (v := v) ?_ h2
        simp only [execOp, hx, Instr.field, Sem.run_bind, run_underlying hu w, Result.andThen_ok, hf, asAgg, Sem.run_pure, h1]
    · cases he
  -- indexAddr
  · rename_i t x y s i
    simp only [Op.operands, List.map_cons, List.map_nil] at ha
    split at he
    · rename_i len el j' off k i hu
      split at he
      · rename_i n hn
        split at he
        · rename_i hle
          cases he
          obtain ⟨b, hb, hx⟩ := box_val ha.head
          have hy : a.eval y = .int k i := int_val ha.tail.head
          refine then_value hs hd hK (Below.refl _ w) (v := .pointer (some ⟨b, off + i.toNat * n, none⟩)) ?_ (.box _ _ _ hb)
          simp only [execOp, hx, hy, Instr.indexAt, asIntOf, Sem.run_bind, Sem.run_pure, Result.andThen_ok, run_underlying hu w, Instr.sureAddr, Sem.run_ite, size_run hn w, Result.andThen_ite]
          rw [if_pos hle, add_mid]
        · cases he
      · cases he
    · rename_i s0 i0 x0 s1 i1 el hu
      cases hn : cellsOf P el with
      | none => simp [hn] at he
      | some n =>
        simp only [hn, Option.bind_some] at he
        obtain ⟨hp1, rfl⟩ := prim_inv he
        obtain ⟨r, hρ, hev⟩ := hnd
        obtain ⟨h1, h2⟩ := argsN ha hp1
        simp only [pvs, List.map_cons, List.map_nil] at hev h2
        exact then_look hs hd hρ hK rfl (look_idx hu hn (h2 0 _ _ rfl rfl) (h2 1 _ _ rfl rfl) hev)
    · cases he
  -- index
  · rename_i t x y s i
    simp only [Op.operands, List.map_cons, List.map_nil] at ha
    split at he
    · rename_i hu
      obtain ⟨hp1, rfl⟩ := prim_inv he
      obtain ⟨r, hρ, hev⟩ := hnd
      obtain ⟨h1, h2⟩ := argsN ha hp1
      simp only [pvs, List.map_cons, List.map_nil] at hev h2
      exact then_look hs hd hρ hK rfl (look_six hu (h2 0 _ _ rfl rfl) (h2 1 _ _ rfl rfl) hev)
    · cases he
  -- extract
  · rename_i x i l
    simp only [Op.operands, List.map_cons, List.map_nil] at ha
    cases hx : l[i]? with
    | none => simp [hx] at he
    | some s =>
      simp only [hx, Option.bind_some] at he
      cases he
      have hlt := (List.getElem?_eq_some_iff.1 hx).1
      have := ha.head
      generalize hv : a.eval x = v at this
      cases this with
      | pure s p v hd hf hr =>
        simp only [den, Option.map_eq_some_iff] at hd
        obtain ⟨ps, _, rfl⟩ := hd
        simp [PV.flat] at hf
      | tup _ vs hl hr =>
        have e : vs[i]? = some (vs.getD i undef) := by simp [Array.getD, show i < vs.size by omega]
        refine then_value hs hd hK (Below.refl _ w) (v := vs.getD i undef) ?_ (hr i s hx)
        simp only [execOp, hv, Instr.extract, e, Sem.run_bind, Sem.run_pure, Result.andThen_ok]
  -- binOp
  · rename_i op t x y yt s u
    simp only [Op.operands, List.map_cons, List.map_nil] at ha
    split at he
    · rename_i r hr
      cases he
      unfold conBin at hr
      split at hr
      · have h1 := int_val ha.head
        have h2 := int_val ha.tail.head
        refine then_value hs hd hK (Below.refl _ w) (v := r) ?_ (.con r (bin2_flat hr))
        have := bin2_run (P := P) (w := w) (t := t) (ox := x) (oy := y) hr (fun h => by cases h)
        simp only [execOp, h1, h2]
        exact exec_v (f := .value) this
      · cases hr
    split at he
    · cases he
    · cases he
    · obtain ⟨hp1, rfl⟩ := prim_inv he
      obtain ⟨r, hρ, hev⟩ := hnd
      obtain ⟨h1, h2⟩ := argsN ha hp1
      simp only [pvs, List.map_cons, List.map_nil] at hev h2
      refine then_look hs hd hρ hK rfl (look_op2 (fun hb => ?_) (h2 0 _ _ rfl rfl) (h2 1 _ _ rfl rfl) hev)
      split at hb
      · assumption
      · cases hb
  -- unOp
  · rename_i op t x s
    simp only [Op.operands, List.map_cons, List.map_nil] at ha
    obtain ⟨hp1, rfl⟩ := prim_inv he
    obtain ⟨r, hρ, hev⟩ := hnd
    obtain ⟨h1, h2⟩ := argsN ha hp1
    simp only [pvs, List.map_cons, List.map_nil] at hev h2
    exact then_look hs hd hρ hK rfl (look_op1 (h2 0 _ _ rfl rfl) hev)
  -- convert
  · rename_i src dst' x s
    simp only [Op.operands, List.map_cons, List.map_nil] at ha
    split at he
    · rename_i k0 k hu1 hu2
      obtain ⟨hp1, rfl⟩ := prim_inv he
      obtain ⟨r, hρ, hev⟩ := hnd
      obtain ⟨h1, h2⟩ := argsN ha hp1
      simp only [pvs, List.map_cons, List.map_nil] at hev h2
      exact then_look hs hd hρ hK rfl (look_cv hu1 hu2 (h2 0 _ _ rfl rfl) hev)
    · cases he
  -- makeFunc
  · rename_i fn first captured
    simp only [Op.operands, Array.toList_append, List.map_append] at ha
    split at he
    · rename_i hlen
      cases he
      have hl1 : (args.take first.size).length = first.size := by rw [List.length_take]; omega
      refine then_value hs hd hK (Below.refl _ w) (v := .func fn (first.map a.eval) (captured.map a.eval)) rfl ?_
      refine .clo _ _ _ _ _ (by simpa using hl1) (by simp; omega) (fun k s hk => ?_) (fun k s hk => ?_)
      · have hlt := (List.getElem?_eq_some_iff.1 hk).1
        rw [hl1] at hlt
        rw [List.getElem?_take, if_pos hlt] at hk
        refine ha.2 k s _ hk ?_
        rw [List.getElem?_append_left (by simpa using hlt)]
        simp [Array.getD, hlt]
      · have hlt := (List.getElem?_eq_some_iff.1 hk).1
        rw [List.length_drop] at hlt
        rw [List.getElem?_drop] at hk
        refine ha.2 _ s _ hk ?_
        rw [List.getElem?_append_right (by simp)]
        have : k < captured.size := by omega
        simp [Array.getD, this]
    · cases he
  -- slice
  · rename_i t x lo hi
    split at he
    · rename_i hu
      split at he
      · rename_i hlen
        obtain ⟨hp1, rfl⟩ := prim_inv he
        obtain ⟨r, hρ, hev⟩ := hnd
        obtain ⟨h1, h2⟩ := argsN ha hp1
        have hops : (Op.slice t x lo hi none).operands.toList.map a.eval = a.eval x :: ((lo.map a.eval).toList ++ (hi.map a.eval).toList) := by
          cases lo <;> cases hi <;> rfl
        rw [hops] at h1 h2
        cases args with
        | nil => simp at hlen; omega
        | cons s l =>
          simp only [pvs, List.map_cons] at hev h2 h1
          refine then_look hs hd hρ hK (S := Instr.sliceAt t (a.eval x) (lo.map a.eval) (hi.map a.eval) none) rfl ?_
          refine look_ssl (l := l.map (pv ρ)) hu (h2 0 _ _ rfl rfl) (by simpa using h1) (fun k q v hk hv => h2 (k + 1) q v (by simpa using hk) (by simpa using hv)) ?_
          rw [Option.isSome_map, Option.isSome_map]
          exact hev
      · cases he
    · cases he
  -- nilCheck
  · rename_i x j' off
    simp only [Op.operands, List.map_cons, List.map_nil] at ha
    cases he
    obtain ⟨b, hb, hx⟩ := box_val ha.head
    refine then_value hs hd hK (Below.refl _ w) (v := .pointer (some ⟨b, off, none⟩)) ?_ (.box _ _ _ hb)
    simp only [execOp, hx, Sem.run_pure]
  -- call
  · rename_i c
    split at he
    · rename_i hcal
      split at he
      · rename_i t x ht
        have hops : (Op.call c).operands.toList.map a.eval = (c.args.map a.eval).toList := by simp [Op.operands, Call.operands, hcal]
        rw [hops] at ha
        have hargs : c.args.map a.eval = #[(c.args.map a.eval).getD 0 undef] := by
          have hl := ha.1
          apply Array.ext'
          cases hc : (c.args.map a.eval).toList with
          | nil => rw [hc] at hl; simp at hl
          | cons v l =>
            rw [hc] at hl
            cases l with
            | nil =>
              have : c.args.map a.eval = #[v] := by apply Array.ext'; exact hc
              rw [this]; rfl
            | cons _ _ => simp at hl
        have hexec : execOp a.eval ⟨dst, .call c, ty, pos, after, guard⟩ = (do let v ← Builtin.len_ c.argTypes ty #[(c.args.map a.eval).getD 0 undef]; pure (.value v)) := by
          simp only [execOp, resolve, hcal, pure_bind, invoke, builtin]
          rw [← hargs]
        rw [hargs] at ha
        split at he
        · rename_i el hu
          obtain ⟨hp1, rfl⟩ := prim_inv he
          obtain ⟨r, hρ, hev⟩ := hnd
          obtain ⟨h1, h2⟩ := argsN ha hp1
          simp only [pvs, List.map_cons, List.map_nil] at hev h2
          exact then_look hs hd hρ hK hexec (look_len hu ht (h2 0 _ _ rfl rfl) hev)
        · rename_i hu
          obtain ⟨hp1, rfl⟩ := prim_inv he
          obtain ⟨r, hρ, hev⟩ := hnd
          obtain ⟨h1, h2⟩ := argsN ha hp1
          simp only [pvs, List.map_cons, List.map_nil] at hev h2
          exact then_look hs hd hρ hK hexec (look_slen hu ht (h2 0 _ _ rfl rfl) hev)
        · cases he
      · cases he
    · rename_i fv hcal
      have hops : (Op.call c).operands.toList.map a.eval = a.eval fv :: (c.args.map a.eval).toList := by simp [Op.operands, Call.operands, hcal]
      rw [hops] at ha
      split at he
      · rename_i sh hsh
        split at he
        · rename_i f fs cs as
          split at he
          · rename_i hcond
            simp only [Bool.and_eq_true, beq_iff_eq] at hcond
            cases he
            obtain ⟨r, hρ, hf, hfit⟩ := hnd
            obtain ⟨hp1, hp2⟩ := pures_append hcond.1
            obtain ⟨hp0, hp1⟩ := pures_append hp1
            obtain ⟨ps, qs, fw, cw, hd1, hd2, hv, hrep⟩ := clo_val ha.head hp0 hp2
            obtain ⟨as', hd3⟩ := ha.tail.dens hp1
            obtain ⟨hl3, hr3⟩ := ha.tail.reps hd3
            rw [dens_pvs (dens_append (dens_append hd1 hd3) hd2)] at hf
            rw [hv] at hrep
            cases hrep with
            | clo _ _ _ _ _ hl1 hl2 hr1 hr2 =>
              refine call_fin hs hd hf hρ hfit hK (vs := fw ++ c.args.map a.eval ++ cw) ?_ (by simp at hl3 ⊢; omega) (fun k p hk => ?_)
              · simp only [execOp, resolve, hcal, hv, Deferred.ofValue, pure_bind, invoke]
              · simp only [Array.length_toList, Array.size_map] at hl3
                rw [Array.getD_eq_getD_getElem?, Array.getElem?_append, Array.getElem?_append]
                rw [List.getElem?_append, List.getElem?_append] at hk
                simp only [List.length_append, Array.size_append, Array.size_map] at hk ⊢
                by_cases c1 : k < ps.length + as'.length
                · rw [if_pos c1] at hk
                  rw [if_pos (by omega)]
                  by_cases c2 : k < ps.length
                  · rw [if_pos c2] at hk
                    rw [if_pos (by omega)]
                    have := hr1 k p hk
                    rwa [Array.getD_eq_getD_getElem?] at this
                  · rw [if_neg c2] at hk
                    rw [if_neg (by omega)]
                    have hlt := (List.getElem?_eq_some_iff.1 hk).1
                    refine hr3 (k - ps.length) p _ hk ?_
                    rw [hl1]
                    simp [show k - fw.size < c.args.size by omega]
                · rw [if_neg c1] at hk
                  rw [if_neg (by omega)]
                  have := hr2 _ p hk
                  rw [Array.getD_eq_getD_getElem?] at this
                  rwa [show fw.size + c.args.size = ps.length + as'.length by omega]
          · cases he
        · rename_i s as hns
          split at he
          · rename_i hcond
            simp only [Bool.and_eq_true, beq_iff_eq] at hcond
            cases he
            obtain ⟨r, hρ, hf, hfit⟩ := hnd
            obtain ⟨p, hd1⟩ := ha.head.den1 hcond.1.1
            have hrep := ha.head.rep hd1
            obtain ⟨as', hd3⟩ := ha.tail.dens hcond.1.2
            obtain ⟨hl3, hr3⟩ := ha.tail.reps hd3
            rw [pv_of hd1, dens_pvs hd3] at hf
            unfold FnV at hf
            split at hf
            · rename_i f ps qs
              generalize hv : a.eval fv = v at hrep
              cases hrep with
              | clo _ _ _ fw cw hl1 hl2 hr1 hr2 =>
                refine call_fin hs hd hf hρ hfit hK (vs := fw ++ c.args.map a.eval ++ cw) ?_ (by simp at hl3 ⊢; omega) (fun k p hk => ?_)
                · simp only [execOp, resolve, hcal, hv, Deferred.ofValue, pure_bind, invoke]
                · simp only [Array.length_toList, Array.size_map] at hl3
                  rw [Array.getD_eq_getD_getElem?, Array.getElem?_append, Array.getElem?_append]
                  rw [List.getElem?_append, List.getElem?_append] at hk
                  simp only [List.length_append, Array.size_append, Array.size_map] at hk ⊢
                  by_cases c1 : k < ps.length + as'.length
                  · rw [if_pos c1] at hk
                    rw [if_pos (by omega)]
                    by_cases c2 : k < ps.length
                    · rw [if_pos c2] at hk
                      rw [if_pos (by omega)]
                      have := hr1 k p hk
                      rwa [Array.getD_eq_getD_getElem?] at this
                    · rw [if_neg c2] at hk
                      rw [if_neg (by omega)]
                      have hlt := (List.getElem?_eq_some_iff.1 hk).1
                      refine hr3 (k - ps.length) p _ hk ?_
                      rw [hl1]
                      simp [show k - fw.size < c.args.size by omega]
                  · rw [if_neg c1] at hk
                    rw [if_neg (by omega)]
                    have := hr2 _ p hk
                    rw [Array.getD_eq_getD_getElem?] at this
                    rwa [show fw.size + c.args.size = ps.length + as'.length by omega]
            · exact hf.elim
          · cases he
        · cases he
      · cases he
    · cases he
  · cases he
end
end Gv


