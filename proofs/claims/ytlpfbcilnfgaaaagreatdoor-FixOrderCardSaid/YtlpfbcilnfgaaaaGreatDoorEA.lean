import Derived.Orders
import Derived.Deep.LoopGhost
import Derived.Below
import Derived.Laws.Sem
import Derived.Laws.CopyRow
import Derived.ChangeKeysEq
import Derived.Laws.Tables
import Derived.Great.BuildSlice
/- The engine, 1: what a value says of memory that nobody writes (PV, Rep); names for such values (SV), and how they stand in a frame (RepS). Over any program. -/
namespace Gv
open Go Go.RowKit
set_option linter.unusedVariables false
set_option linter.unusedSimpArgs false

/-- a value of one cell -/
def flatV : Value → Bool
  | .agg _ | .tuple _ => false
  | _ => true

/-- what a value says, apart from where it lies -/
inductive PV where
  | raw (v : Value)
  | sl (es : List (List PV))
  | ref (cs : List PV)
  | agg (cs : List PV)
  | tup (vs : List PV)
  | clo (fn : Fn) (fs cs : List PV)

def PV.flat : PV → Bool
  | .raw v => flatV v
  | .agg _ | .tup _ => false
  | _ => true

inductive Rep (w : World) (P : Nat → Prop) : PV → Value → Prop
  | raw (v : Value) : Rep w P (.raw v) v
  | nil (A : Option Addr) (c : Nat) (hc : c ≤ 9223372036854775807) : Rep w P (.sl []) (.slice A 0 c)
  | sl (k : Nat) (es : List (List PV)) (ad : Addr) (c : Nat) (vs : Nat → Nat → Value) (hk : ∀ (i : Nat) (e : List PV), es[i]? = some e → e.length = k)
      (h1 : es.length ≤ c) (h2 : c ≤ 9223372036854775807)
      (hf : ∀ (i : Nat) (e : List PV), es[i]? = some e → ∀ (j : Nat) (p : PV), e[j]? = some p → p.flat = true)
      (hc : ∀ (i : Nat) (e : List PV), es[i]? = some e → ∀ (j : Nat) (p : PV), e[j]? = some p → P ad.block ∧ w.cell? (ad.add (i * k + j)) = some (vs i j))
      (hr : ∀ (i : Nat) (e : List PV), es[i]? = some e → ∀ (j : Nat) (p : PV), e[j]? = some p → Rep w P p (vs i j)) : Rep w P (.sl es) (.slice (some ad) es.length c)
  | ref (cs : List PV) (ad : Addr) (vs : Nat → Value) (hf : ∀ (j : Nat) (p : PV), cs[j]? = some p → p.flat = true)
      (hc : ∀ (j : Nat) (p : PV), cs[j]? = some p → P ad.block ∧ w.cell? (ad.add j) = some (vs j))
      (hr : ∀ (j : Nat) (p : PV), cs[j]? = some p → Rep w P p (vs j)) : Rep w P (.ref cs) (.pointer (some ad))
  | agg (cs : List PV) (vs : Array Value) (hl : cs.length = vs.size) (hf : ∀ (j : Nat) (p : PV), cs[j]? = some p → p.flat = true)
      (hr : ∀ (j : Nat) (p : PV), cs[j]? = some p → Rep w P p (vs.getD j undef)) : Rep w P (.agg cs) (.agg vs)
  | tup (ps : List PV) (vs : Array Value) (hl : ps.length = vs.size)
      (hr : ∀ (j : Nat) (p : PV), ps[j]? = some p → Rep w P p (vs.getD j undef)) : Rep w P (.tup ps) (.tuple vs)
  | clo (fn : Fn) (fs cs : List PV) (fv cv : Array Value) (hl : fs.length = fv.size) (hl' : cs.length = cv.size)
      (hr : ∀ (j : Nat) (p : PV), fs[j]? = some p → Rep w P p (fv.getD j undef))
      (hr' : ∀ (j : Nat) (p : PV), cs[j]? = some p → Rep w P p (cv.getD j undef)) : Rep w P (.clo fn fs cs) (.func fn fv cv)

theorem add_block (ad : Addr) (j : Nat) : (ad.add j).block = ad.block := by unfold Addr.add; split <;> rfl
theorem add_add (ad : Addr) (i j : Nat) : (ad.add i).add j = ad.add (i + j) := by
  unfold Addr.add
  by_cases h1 : i = 0 <;> by_cases h2 : j = 0 <;> simp [h1, h2, Nat.add_assoc]
theorem cell_keep {w w' : World} {a : Addr} {v : Value} (hc : w.cell? a = some v) (h : w'.heap[a.block]? = w.heap[a.block]?) : w'.cell? a = some v := by
  rw [World.cell?_of_block (w := w) h]; exact hc

/-- blocks of P are as they were, and P has grown -/
theorem Rep.keep {w w' : World} {P P' : Nat → Prop} {p : PV} {v : Value} (h : Rep w P p v) (hk : ∀ b, P b → b < w.heap.size → P' b ∧ w'.heap[b]? = w.heap[b]?) : Rep w' P' p v := by
  have key : ∀ (ad : Addr) (n : Nat) (u : Value), P ad.block ∧ w.cell? (ad.add n) = some u → P' ad.block ∧ w'.cell? (ad.add n) = some u := by
    rintro ad n u ⟨h1, h2⟩
    have hb := World.block_lt_of_cell? w _ h2
    rw [add_block] at hb
    obtain ⟨hP', hB⟩ := hk _ h1 hb
    exact ⟨hP', cell_keep h2 (by rw [add_block]; exact hB)⟩
  induction h with
  | raw v => exact .raw v
  | nil A c hc => exact .nil A c hc
  | sl k es ad c vs h0 h1 h2 hf hc hr ih => exact .sl k es ad c vs h0 h1 h2 hf (fun i e hi j p hj => key _ _ _ (hc i e hi j p hj)) ih
  | ref cs ad vs hf hc hr ih => exact .ref cs ad vs hf (fun j p hj => key _ _ _ (hc j p hj)) ih
  | agg cs vs hl hf hr ih => exact .agg cs vs hl hf ih
  | tup ps vs hl hr ih => exact .tup ps vs hl ih
  | clo fn fs cs fv cv hl hl' hr hr' ih ih' => exact .clo fn fs cs fv cv hl hl' ih ih'
theorem Rep.mono {w : World} {P P' : Nat → Prop} {p : PV} {v : Value} (h : Rep w P p v) (hk : ∀ b, P b → P' b) : Rep w P' p v := h.keep fun b hb _ => ⟨hk b hb, rfl⟩
/-- only blocks that are there count -/
theorem Rep.lt {w : World} {P : Nat → Prop} {p : PV} {v : Value} (h : Rep w P p v) : Rep w (fun b => P b ∧ b < w.heap.size) p v := h.keep fun b hb hl => ⟨⟨hb, hl⟩, rfl⟩
theorem Rep.flat {w : World} {P : Nat → Prop} {p : PV} {v : Value} (h : Rep w P p v) (hp : p.flat = true) : flatV v = true := by
  cases h <;> first | exact hp | rfl | (simp [PV.flat] at hp)

theorem Rep.flat' {w : World} {P : Nat → Prop} {p : PV} {v : Value} (h : Rep w P p v) (hp : flatV v = true) : p.flat = true := by
  cases h <;> first | exact hp | rfl | (simp [flatV] at hp)

/-- a plain value, as what it says -/
def pvOf : Value → PV
  | .slice none 0 0 => .sl []
  | .func fn ⟨[]⟩ ⟨[]⟩ => .clo fn [] []
  | v => .raw v
theorem Rep.pvOf (w : World) (P : Nat → Prop) (v : Value) : Rep w P (Gv.pvOf v) v := by
  unfold Gv.pvOf
  split
  · exact .nil none 0 (by decide)
  · exact .clo _ [] [] #[] #[] rfl rfl (fun j p h => by simp at h) (fun j p h => by simp at h)
  · exact .raw v
theorem pvOf_flat {v : Value} (h : flatV v = true) : (pvOf v).flat = true := by
  unfold Gv.pvOf
  split <;> first | rfl | exact h

/-- names of values -/
inductive SV where
  | at (n : Nat)
  | con (v : Value)
  | cel (s : SV) (i : Nat)
  | ext (s : SV) (i : Nat)
  | agg (l : List SV)
  | tup (l : List SV)
  | clo (fn : Fn) (fs cs : List SV)
  | box (j off : Nat)
  | mapp (j : Nat)

mutual
def den (ρ : List PV) : SV → Option PV
  | .at n => ρ[n]?
  | .con v => some (pvOf v)
  | .cel s i => match den ρ s with
    | some (.agg cs) => cs[i]?
    | _ => none
  | .ext s i => match den ρ s with
    | some (.tup vs) => vs[i]?
    | _ => none
  | .agg l => (dens ρ l).map .agg
  | .tup l => (dens ρ l).map .tup
  | .clo fn fs cs => match dens ρ fs, dens ρ cs with
    | some a, some b => some (.clo fn a b)
    | _, _ => none
  | .box _ _ => none
  | .mapp _ => none
def dens (ρ : List PV) : List SV → Option (List PV)
  | [] => some []
  | s :: l => match den ρ s, dens ρ l with
    | some p, some ps => some (p :: ps)
    | _, _ => none
end
/-- what a name says (for the reader) -/
def pv (ρ : List PV) (s : SV) : PV := (den ρ s).getD (.raw undef)
def pvs (ρ : List PV) (l : List SV) : List PV := l.map (pv ρ)
theorem pv_of {ρ : List PV} {s : SV} {p : PV} (h : den ρ s = some p) : pv ρ s = p := by unfold pv; rw [h]; rfl
theorem dens_some {ρ : List PV} : ∀ {l : List SV} {ps : List PV}, dens ρ l = some ps → l.length = ps.length ∧ ∀ (j : Nat) (s : SV) (p : PV), l[j]? = some s → ps[j]? = some p → den ρ s = some p
  | [], ps, h => by simp only [dens, Option.some.injEq] at h; subst h; exact ⟨rfl, fun j s p h => by simp at h⟩
  | s :: l, ps, h => by
    simp only [dens] at h
    split at h
    · rename_i p q hp hq
      cases h
      obtain ⟨h1, h2⟩ := dens_some hq
      refine ⟨by simp [h1], fun j s' p' hs hp' => ?_⟩
      cases j with
      | zero => simp at hs hp'; subst hs hp'; exact hp
      | succ j => simp at hs hp'; exact h2 j s' p' hs hp'
    · cases h
theorem dens_at {ρ : List PV} {l : List SV} {ps : List PV} (h : dens ρ l = some ps) : l.length = ps.length ∧ ∀ (j : Nat) (p : PV), ps[j]? = some p → ∃ s, l[j]? = some s ∧ den ρ s = some p := by
  obtain ⟨h1, h2⟩ := dens_some h
  refine ⟨h1, fun j p hj => ?_⟩
  have hlt := (List.getElem?_eq_some_iff.1 hj).1
  obtain ⟨s, hs⟩ : ∃ s, l[j]? = some s := ⟨l[j]'(by omega), List.getElem?_eq_getElem _⟩
  exact ⟨s, hs, h2 j s p hs hj⟩
theorem dens_pvs {ρ : List PV} : ∀ {l : List SV} {ps : List PV}, dens ρ l = some ps → pvs ρ l = ps
  | [], ps, h => by simp only [dens, Option.some.injEq] at h; subst h; rfl
  | s :: l, ps, h => by
    simp only [dens] at h
    split at h
    · rename_i p q hp hq
      cases h
      simp only [pvs, List.map_cons, pv_of hp]
      congr 1
      exact dens_pvs hq
    · cases h
theorem getElem?_app {ρ ρ' : List PV} {n : Nat} {p : PV} (h : ρ[n]? = some p) : (ρ ++ ρ')[n]? = some p := by
  have := (List.getElem?_eq_some_iff.1 h).1
  rw [List.getElem?_append_left this]; exact h
mutual
theorem den_app (ρ ρ' : List PV) : ∀ {s : SV} {p : PV}, den ρ s = some p → den (ρ ++ ρ') s = some p
  | .at n, p, h => by simp only [den] at h ⊢; exact getElem?_app h
  | .con v, p, h => by simp only [den] at h ⊢; exact h
  | .cel s i, p, h => by
    simp only [den] at h ⊢
    split at h
    · rename_i cs hs; rw [den_app ρ ρ' hs]; exact h
    · cases h
  | .ext s i, p, h => by
    simp only [den] at h ⊢
    split at h
    · rename_i cs hs; rw [den_app ρ ρ' hs]; exact h
    · cases h
  | .agg l, p, h => by
    simp only [den, Option.map_eq_some_iff] at h ⊢
    obtain ⟨ps, h1, h2⟩ := h
    exact ⟨ps, dens_app ρ ρ' h1, h2⟩
  | .tup l, p, h => by
    simp only [den, Option.map_eq_some_iff] at h ⊢
    obtain ⟨ps, h1, h2⟩ := h
    exact ⟨ps, dens_app ρ ρ' h1, h2⟩
  | .clo fn fs cs, p, h => by
    simp only [den] at h ⊢
    split at h
    · rename_i a b ha hb; rw [dens_app ρ ρ' ha, dens_app ρ ρ' hb]; exact h
    · cases h
  | .box _ _, p, h => by simp [den] at h
  | .mapp _, p, h => by simp [den] at h
theorem dens_app (ρ ρ' : List PV) : ∀ {l : List SV} {ps : List PV}, dens ρ l = some ps → dens (ρ ++ ρ') l = some ps
  | [], ps, h => by simp only [dens] at h ⊢; exact h
  | s :: l, ps, h => by
    simp only [dens] at h ⊢
    split at h
    · rename_i p q hp hq; rw [den_app ρ ρ' hp, dens_app ρ ρ' hq]; exact h
    · cases h
end

/-- how a name stands in a frame: β tells where a block of the call's own lies -/
inductive RepS (ρ : List PV) (β : Nat → Option Nat) (w : World) (P : Nat → Prop) : SV → Value → Prop
  | pure (s : SV) (p : PV) (v : Value) (hd : den ρ s = some p) (hf : p.flat = true) (hr : Rep w P p v) : RepS ρ β w P s v
  | box (j off b : Nat) (hb : β j = some b) : RepS ρ β w P (.box j off) (.pointer (some ⟨b, off, none⟩))
  | mapp (j b : Nat) (hb : β j = some b) : RepS ρ β w P (.mapp j) (.map (some b))
  | agg (l : List SV) (vs : Array Value) (hl : l.length = vs.size) (hf : ∀ (j : Nat) (s : SV), l[j]? = some s → flatV (vs.getD j undef) = true)
      (hr : ∀ (j : Nat) (s : SV), l[j]? = some s → RepS ρ β w P s (vs.getD j undef)) : RepS ρ β w P (.agg l) (.agg vs)
  | tup (l : List SV) (vs : Array Value) (hl : l.length = vs.size)
      (hr : ∀ (j : Nat) (s : SV), l[j]? = some s → RepS ρ β w P s (vs.getD j undef)) : RepS ρ β w P (.tup l) (.tuple vs)
  | clo (fn : Fn) (fs cs : List SV) (fv cv : Array Value) (hl : fs.length = fv.size) (hl' : cs.length = cv.size)
      (hr : ∀ (j : Nat) (s : SV), fs[j]? = some s → RepS ρ β w P s (fv.getD j undef))
      (hr' : ∀ (j : Nat) (s : SV), cs[j]? = some s → RepS ρ β w P s (cv.getD j undef)) : RepS ρ β w P (.clo fn fs cs) (.func fn fv cv)

theorem RepS.keep {ρ ρ' : List PV} {β β' : Nat → Option Nat} {w w' : World} {P P' : Nat → Prop} {s : SV} {v : Value} (h : RepS ρ β w P s v)
    (hb : ∀ j b, β j = some b → β' j = some b) (hk : ∀ b, P b → b < w.heap.size → P' b ∧ w'.heap[b]? = w.heap[b]?) : RepS (ρ ++ ρ') β' w' P' s v := by
  induction h with
  | pure s p v hd hf hr => exact .pure s p v (den_app _ _ hd) hf (hr.keep hk)
  | box j off b h => exact .box j off b (hb j b h)
  | mapp j b h => exact .mapp j b (hb j b h)
  | agg l vs hl hf hr ih => exact .agg l vs hl hf ih
  | tup l vs hl hr ih => exact .tup l vs hl ih
  | clo fn fs cs fv cv hl hl' hr hr' ih ih' => exact .clo fn fs cs fv cv hl hl' ih ih'
theorem RepS.keep' {ρ : List PV} {β β' : Nat → Option Nat} {w w' : World} {P P' : Nat → Prop} {s : SV} {v : Value} (h : RepS ρ β w P s v)
    (hb : ∀ j b, β j = some b → β' j = some b) (hk : ∀ b, P b → b < w.heap.size → P' b ∧ w'.heap[b]? = w.heap[b]?) : RepS ρ β' w' P' s v := by
  have := h.keep (ρ' := []) hb hk
  rwa [List.append_nil] at this

/-- what a pure name says holds of its value -/
theorem RepS.rep {ρ : List PV} {β : Nat → Option Nat} {w : World} {P : Nat → Prop} {s : SV} {v : Value} (h : RepS ρ β w P s v) : ∀ {p : PV}, den ρ s = some p → Rep w P p v := by
  induction h with
  | pure s p v hd hf hr => intro q hq; rw [hd] at hq; cases hq; exact hr
  | box j off b h => intro q hq; simp [den] at hq
  | mapp j b h => intro q hq; simp [den] at hq
  | agg l vs hl hf hr ih =>
    intro q hq
    simp only [den, Option.map_eq_some_iff] at hq
    obtain ⟨ps, h1, rfl⟩ := hq
    obtain ⟨h2, h3⟩ := dens_at h1
    refine .agg ps vs (by omega) (fun j p hj => ?_) (fun j p hj => ?_)
    · obtain ⟨s, hs, hd⟩ := h3 j p hj
      exact (ih j s hs hd).flat' (hf j s hs)
    · obtain ⟨s, hs, hd⟩ := h3 j p hj
      exact ih j s hs hd
  | tup l vs hl hr ih =>
    intro q hq
    simp only [den, Option.map_eq_some_iff] at hq
    obtain ⟨ps, h1, rfl⟩ := hq
    obtain ⟨h2, h3⟩ := dens_at h1
    refine .tup ps vs (by omega) (fun j p hj => ?_)
    obtain ⟨s, hs, hd⟩ := h3 j p hj
    exact ih j s hs hd
  | clo fn fs cs fv cv hl hl' hr hr' ih ih' =>
    intro q hq
    simp only [den] at hq
    split at hq
    · rename_i a b ha hb
      cases hq
      obtain ⟨h2, h3⟩ := dens_at ha
      obtain ⟨h4, h5⟩ := dens_at hb
      refine .clo fn a b fv cv (by omega) (by omega) (fun j p hj => ?_) (fun j p hj => ?_)
      · obtain ⟨s, hs, hd⟩ := h3 j p hj
        exact ih j s hs hd
      · obtain ⟨s, hs, hd⟩ := h5 j p hj
        exact ih' j s hs hd
    · cases hq
theorem RepS.bool {ρ : List PV} {β : Nat → Option Nat} {w : World} {P : Nat → Prop} {s : SV} {v : Value} {b : Bool} (h : RepS ρ β w P s v) (hd : den ρ s = some (.raw (.bool b))) : v = .bool b := by
  have := h.rep hd
  cases this
  rfl
theorem RepS.con {ρ : List PV} {β : Nat → Option Nat} {w : World} {P : Nat → Prop} (v : Value) (h : flatV v = true) : RepS ρ β w P (.con v) v := .pure _ (pvOf v) v rfl (pvOf_flat h) (Rep.pvOf w P v)

/-- what a name made of cells has: the cells -/
def SV.cells : SV → List SV
  | .agg l => l
  | s => [s]
/-- names that are no aggregates stand for one cell -/
def SV.one : SV → Bool
  | .agg _ | .tup _ => false
  | _ => true
theorem RepS.flat {ρ : List PV} {β : Nat → Option Nat} {w : World} {P : Nat → Prop} {s : SV} {v : Value} (h : RepS ρ β w P s v) (hs : s.one = true) : flatV v = true := by
  cases h with
  | pure s p v hd hf hr => exact hr.flat hf
  | box => rfl
  | mapp => rfl
  | agg => simp [SV.one] at hs
  | tup => simp [SV.one] at hs
  | clo => rfl

/-- the shape of a result -/
inductive Sh where
  | sc
  | ag (k : Nat)
inductive RSh where
  | one (s : Sh)
  | many (l : List Sh)
def expand (s : SV) : Sh → SV
  | .sc => s
  | .ag k => .agg ((List.range k).map (SV.cel s))
def expandR (s : SV) : RSh → SV
  | .one h => expand s h
  | .many l => .tup (l.zipIdx.map fun (h, i) => expand (.ext s i) h)
def fits : Sh → PV → Bool
  | .sc, p => p.flat
  | .ag k, .agg cs => cs.length == k
  | .ag _, _ => false
def fitsR : RSh → PV → Bool
  | .one h, p => fits h p
  | .many l, .tup ps => l.length == ps.length && (l.zip ps).all fun (h, p) => fits h p
  | .many _, _ => false
theorem expand_rep {ρ : List PV} {β : Nat → Option Nat} {w : World} {P : Nat → Prop} {s : SV} {p : PV} {v : Value} {h : Sh} (hd : den ρ s = some p) (hf : fits h p = true) (hr : Rep w P p v) : RepS ρ β w P (expand s h) v := by
  cases h with
  | sc => exact .pure s p v hd hf hr
  | ag k =>
    cases p <;> simp only [fits, Bool.false_eq_true] at hf
    rename_i cs
    cases hr with
    | agg _ vs hl hf' hr =>
      have hk : cs.length = k := by simpa using hf
      have key : ∀ (j : Nat) (s' : SV), ((List.range k).map (SV.cel s))[j]? = some s' → ∃ q, cs[j]? = some q ∧ s' = .cel s j := by
        intro j s' hj
        have hlt := (List.getElem?_eq_some_iff.1 hj).1
        simp only [List.length_map, List.length_range] at hlt
        refine ⟨cs[j]'(by omega), List.getElem?_eq_getElem _, ?_⟩
        simpa [List.getElem?_range hlt] using hj.symm
      refine .agg _ vs (by simp [← hl, hk]) (fun j s' hj => ?_) (fun j s' hj => ?_)
      · obtain ⟨q, hq, rfl⟩ := key j s' hj
        exact (hr j q hq).flat (hf' j q hq)
      · obtain ⟨q, hq, rfl⟩ := key j s' hj
        exact .pure _ q _ (by simp only [den, hd]; exact hq) (hf' j q hq) (hr j q hq)
theorem expandR_rep {ρ : List PV} {β : Nat → Option Nat} {w : World} {P : Nat → Prop} {s : SV} {p : PV} {v : Value} {h : RSh} (hd : den ρ s = some p) (hf : fitsR h p = true) (hr : Rep w P p v) : RepS ρ β w P (expandR s h) v := by
  cases h with
  | one h => exact expand_rep hd hf hr
  | many l =>
    cases p <;> simp only [fitsR, Bool.false_eq_true] at hf
    rename_i ps
    cases hr with
    | tup _ vs hl hr =>
      simp only [Bool.and_eq_true, beq_iff_eq, List.all_eq_true] at hf
      obtain ⟨h1, h2⟩ := hf
      refine .tup _ vs (by simp; omega) (fun j s' hj => ?_)
      simp only [List.getElem?_map, Option.map_eq_some_iff, List.getElem?_zipIdx] at hj
      obtain ⟨⟨h, i⟩, hj1, rfl⟩ := hj
      obtain ⟨h', hj2, hj3⟩ := hj1
      simp only [Nat.zero_add, Prod.mk.injEq] at hj3
      obtain ⟨rfl, rfl⟩ := hj3
      have hlt := (List.getElem?_eq_some_iff.1 hj2).1
      obtain ⟨q, hq⟩ : ∃ q, ps[j]? = some q := ⟨ps[j]'(by omega), List.getElem?_eq_getElem _⟩
      refine expand_rep (by simp only [den, hd]; exact hq) ?_ (hr j q hq)
      exact h2 (h', q) (List.mem_of_getElem? (i := j) (by simp [List.getElem?_zip_eq_some, hj2, hq]))
def valSame : Value → Value → Bool
  | .int k n, .int k' n' => k == k' && n == n'
  | .bool b, .bool b' => b == b'
  | .slice none 0 0, .slice none 0 0 => true
  | .string a, .string b => a.data == b.data
  | .pointer none, .pointer none => true
  | _, _ => false
def fnSame : Go.Fn → Go.Fn → Bool
  | .func f, .func g => f == g
  | _, _ => false
mutual
def SV.same : SV → SV → Bool
  | .at n, t => match t with
    | .at m => n == m
    | _ => false
  | .con v, t => match t with
    | .con u => valSame v u
    | _ => false
  | .cel s i, t => match t with
    | .cel t j => i == j && s.same t
    | _ => false
  | .ext s i, t => match t with
    | .ext t j => i == j && s.same t
    | _ => false
  | .agg l, t => match t with
    | .agg m => SV.sames l m
    | _ => false
  | .tup l, t => match t with
    | .tup m => SV.sames l m
    | _ => false
  | .clo fn fs cs, t => match t with
    | .clo fn' fs' cs' => fnSame fn fn' && SV.sames fs fs' && SV.sames cs cs'
    | _ => false
  | .box j o, t => match t with
    | .box j' o' => j == j' && o == o'
    | _ => false
  | .mapp j, t => match t with
    | .mapp j' => j == j'
    | _ => false
def SV.sames : List SV → List SV → Bool
  | [], m => match m with
    | [] => true
    | _ :: _ => false
  | s :: l, m => match m with
    | t :: m => s.same t && SV.sames l m
    | [] => false
end
end Gv


/- The engine, 2: a function's text as a condition over what its arguments say (VC). Over any program. -/
namespace Gv
open Go Go.RowKit
set_option linter.unusedVariables false

/-- what a call says: the arguments, and the result -/
def FnR (P : Program) (f : FuncId) (args : List PV) (R : PV → Prop) : Prop :=
  (∃ fn, P.funcs[f]? = some fn ∧ fn.body.isSome = true ∧ (fn.name == "runtime.NumGoroutine") = false) ∧
  ∀ (w : World) (P0 : Nat → Prop) (vs : Array Value), (∀ b, P0 b → b < w.heap.size) → args.length = vs.size → (∀ (j : Nat) (p : PV), args[j]? = some p → Rep w P0 p (vs.getD j undef)) →
    Calls P f vs w fun e w' => ∃ v p, e = .returned v ∧ R p ∧ Rep w' (fun b => P0 b ∨ w.heap.size ≤ b) p v ∧ Below w.heap.size w w'
def Fn (P : Program) (f : FuncId) (args : List PV) (r : PV) : Prop := FnR P f args (· = r)
def FnV (P : Program) (fv : PV) (args : List PV) (r : PV) : Prop :=
  match fv with
  | .clo (.func f) fs cs => Fn P f (fs ++ args ++ cs) r
  | _ => False

/-- operations that look at what they are given, and at memory that nobody writes -/
inductive Prim where
  | op2 (op : BinOp) (bl : Bool)
  | op1 (op : UnOp)
  | cv (k : IntKind)
  | len
  | slen
  | idx (k : Nat)
  | ld (n : Option Nat)
  | fld (off : Nat)
  | six
  | ssl (lo hi : Bool)

def bin2 (op : BinOp) (bl : Bool) : Value → Value → Option Value
  | .bool a, .bool b => if bl then (match op with
    | .eql => some (.bool (a == b))
    | .neq => some (.bool (a != b))
    | _ => none) else none
  | .int k a, .int k' b => if k = k' then (match op with
    | .add => some (.int k (k.wrap (a + b)))
    | .sub => some (.int k (k.wrap (a - b)))
    | .mul => some (.int k (k.wrap (a * b)))
    | .quo => if b = 0 then none else some (.int k (k.wrap (a.tdiv b)))
    | .rem => if b = 0 then none else some (.int k (a.tmod b))
    | .eql => some (.bool (a == b))
    | .neq => some (.bool (a != b))
    | .lss => some (.bool (a < b))
    | .leq => some (.bool (a ≤ b))
    | .gtr => some (.bool (a > b))
    | .geq => some (.bool (a ≥ b))
    | _ => none) else none
  | .string a, .string b => match op with
    | .eql => some (.bool (a.toList == b.toList))
    | .neq => some (.bool !(a.toList == b.toList))
    | .add => if a.size + b.size ≤ 9223372036854775807 then some (.string (a ++ b)) else none
    | _ => none
  | _, _ => none
def un1 (op : UnOp) : Value → Option Value
  | .bool a => match op with
    | .not => some (.bool !a)
    | _ => none
  | .int k a => match op with
    | .neg => some (.int k (k.wrap (0 - a)))
    | _ => none
  | _ => none
def idxOf : Option PV → Option Nat
  | some (.raw (.int _ i)) => if 0 ≤ i then some i.toNat else none
  | _ => none
def Prim.ev : Prim → List PV → Option PV
  | .op2 op bl, [.raw x, .raw y] => (bin2 op bl x y).map .raw
  | .op1 op, [.raw x] => (un1 op x).map .raw
  | .cv k, [.raw (.int _ n)] => some (.raw (.int k (k.wrap n)))
  | .len, [.sl es] => some (.raw (.int .i64 es.length))
  | .slen, [.raw (.string s)] => some (.raw (.int .i64 s.size))
  | .idx k, [.sl es, i] => match idxOf (some i) with
    | some n => match es[n]? with
      | some e => if e.length = k then some (.ref e) else none
      | none => none
    | none => none
  | .ld none, [.ref cs] => cs[0]?
  | .ld (some n), [.ref cs] => if n ≤ cs.length then some (.agg (cs.take n)) else none
  | .fld off, [.ref cs] => some (.ref (cs.drop off))
  | .six, [.raw (.string s), i] => match idxOf (some i) with
    | some n => match s[n]? with
      | some b => some (.raw (.int .u8 (b.toNat : Int)))
      | none => none
    | none => none
  | .ssl lo hi, .raw (.string s) :: l =>
    let a := if lo then idxOf (l.head?) else some 0
    let b := if hi then idxOf ((if lo then l.drop 1 else l).head?) else some s.size
    match a, b with
    | some a, some b => if a ≤ b ∧ b ≤ s.size then some (.raw (.string (s.extract a b))) else none
    | _, _ => none
  | _, _ => none
def Prim.sh : Prim → Sh
  | .ld (some n) => .ag n
  | _ => .sc

/-- cells of a row, as elements -/
def chunk (k : Nat) : Nat → List PV → List (List PV)
  | 0, _ => []
  | n + 1, l => l.take k :: chunk k n (l.drop k)

/-- the condition: what the calls and operations must give, way by way -/
inductive VC where
  | call (f : FuncId) (args : List SV) (sh : RSh) (k : VC)
  | callv (fv : SV) (args : List SV) (sh : RSh) (k : VC)
  | prim (p : Prim) (args : List SV) (k : VC)
  | mk (c n : Nat) (args : List SV) (k : VC)
  | ite (c : SV) (a b : VC)
  | loop (vars : List SV) (k : VC)
  | again (d : Nat) (vars : List SV)
  | ret (s : SV)
  | bad
def VC.ok (P : Program) (R : PV → Prop) : VC → List PV → List (List PV → Prop) → Prop
  | .call f args sh k, ρ, C => ∃ r, Fn P f (pvs ρ args) r ∧ fitsR sh r = true ∧ k.ok P R (ρ ++ [r]) C
  | .callv fv args sh k, ρ, C => ∃ r, FnV P (pv ρ fv) (pvs ρ args) r ∧ fitsR sh r = true ∧ k.ok P R (ρ ++ [r]) C
  | .prim p args k, ρ, C => ∃ r, p.ev (pvs ρ args) = some r ∧ k.ok P R (ρ ++ [r]) C
  | .mk c n args k, ρ, C => k.ok P R (ρ ++ [.sl (chunk c n (pvs ρ args))]) C
  | .ite c a b, ρ, C => ∃ t : Bool, pv ρ c = .raw (.bool t) ∧ (t = true → a.ok P R ρ C) ∧ (t = false → b.ok P R ρ C)
  | .loop vars k, ρ, C => ∃ (I : List PV → Prop) (μ : List PV → Nat), I (pvs ρ vars) ∧ ∀ vs : List PV, vs.length = vars.length → I vs → k.ok P R (ρ ++ vs) ((fun us => I us ∧ μ us < μ vs) :: C)
  | .again d vars, ρ, C => match C[d]? with
    | some J => J (pvs ρ vars)
    | none => False
  | .ret s, ρ, C => R (pv ρ s)
  | .bad, ρ, C => False

/-- a block of the call's own -/
inductive HB where
  | box (cs : List SV) (t : TypeId)
  | mp (es : List (Value × SV))

/-- names of a plain value -/
def svOf : Value → Option SV
  | .agg cs => if cs.toList.all flatV then some (.agg (cs.toList.map .con)) else none
  | .tuple _ => none
  | v => some (.con v)
mutual
def SV.pure : SV → Bool
  | .at _ | .con _ => true
  | .cel s _ | .ext s _ => s.pure
  | .agg l | .tup l => SV.pures l
  | .clo _ fs cs => SV.pures fs && SV.pures cs
  | .box _ _ => false
  | .mapp _ => false
def SV.pures : List SV → Bool
  | [] => true
  | s :: l => s.pure && SV.pures l
end
def look {α : Type} : List (Nat × α) → Nat → Option α
  | [], _ => none
  | (k, x) :: l, n => bif k == n then some x else look l n

def aggOf (P : Program) (t : TypeId) : Option Bool := match P.underlying t with
  | some (.struct _) | some (.array _ _) => some true
  | some _ => some false
  | none => none
def cellsOf (P : Program) (t : TypeId) : Option Nat := (P.info? t).map (·.size)
def shOf (P : Program) (t : TypeId) : Option Sh := match aggOf P t with
  | some true => (cellsOf P t).map .ag
  | some false => some .sc
  | none => none
def rshOf (P : Program) (t : TypeId) : Option RSh := match P.underlying t with
  | some (.tuple ts) => (ts.toList.mapM (shOf P)).map .many
  | _ => (shOf P t).map .one

def evalOp (tm : Nat → Option SV) : Operand → Option SV
  | .tmp t => tm t
  | .const v => svOf v
  | .global g => some (.con (.pointer (some ⟨g, 0, none⟩)))
  | .func f => some (.clo (.func f) [] [])
def evalOps (tm : Nat → Option SV) (l : List Operand) : Option (List SV) := l.mapM (evalOp tm)

def SV.isTup : SV → Bool
  | .tup _ => true
  | _ => false
/-- what an operation comes to -/
inductive Nd where
  | none
  | call (f : FuncId) (args : List SV) (sh : RSh)
  | callv (fv : SV) (args : List SV) (sh : RSh)
  | prim (p : Prim) (args : List SV)
  | mk (c n : Nat) (args : List SV)
structure Eff where
  s : SV
  h : Option (Nat × HB)
  nd : Nd
def Eff.pure (s : SV) : Option Eff := some ⟨s, .none, .none⟩
def Eff.prim (na : Nat) (p : Prim) (args : List SV) : Option Eff := if SV.pures args then some ⟨expand (.at na) p.sh, .none, .prim p args⟩ else .none
/-- the block that an operation looks at -/
def hread (o : Op) (args : List SV) : Option Nat :=
  match o, args with
  | .load _ _, .box j _ :: _ => some j
  | .store _ _ _, .box j _ :: _ => some j
  | .insert _ _ _ _, .mapp j :: _ => some j
  | .lookup _ _ _ _, .mapp j :: _ => some j
  | _, _ => none
def fillS (place : Nat → Option (Nat × Nat)) (cells : List SV) : List (Nat × SV) → Option (List SV)
  | [] => some cells
  | (i, s) :: rest =>
    match place i with
    | .none => .none
    | some (off, size) =>
      if s.cells.length = size ∧ off + size ≤ cells.length ∧ s.isTup = false then fillS place (cells.take off ++ s.cells ++ cells.drop (off + size)) rest else .none
def placeOf (P : Program) (t : TypeId) : Option (Nat → Option (Nat × Nat)) := match P.underlying t with
  | some (.struct fs) => (fs.toList.mapM (fun f => (P.info? f.type).map fun i => (f.offset, i.size))).map fun l => fun i => l.toArray[i]?
  | some (.array _ e) => (P.info? e).map fun ie => fun i => some (i * ie.size, ie.size)
  | _ => .none
def zeroS (P : Program) (t : TypeId) : Option (List SV) := match P.info? t with
  | some i => match i.zero with
    | some z => if z.cells.toList.all flatV then some (z.cells.toList.map .con) else .none
    | .none => .none
  | .none => .none
def fieldOf (P : Program) (t : TypeId) (f : Nat) : Option Field := match P.underlying t with
  | some (.struct fs) => fs[f]?
  | _ => .none
/-- a part of an aggregate -/
def partS (P : Program) (t : TypeId) (l : List SV) (off : Nat) : Option SV := match aggOf P t with
  | some true => (match cellsOf P t with
    | some n => if off + n ≤ l.length then some (.agg ((l.drop off).take n)) else .none
    | .none => .none)
  | some false => l[off]?
  | none => none
def zerosS (z : Array Value) (n : Nat) : List SV := (List.range n).map fun i => .con (z.toList.getD (i % z.size) (.bool false))
/-- an operation on constants -/
def conBin (op : BinOp) : SV → SV → Option Value
  | .con (.int k a), .con (.int k' b) => bin2 op false (.int k a) (.int k' b)
  | _, _ => none
/-- the entry of a key that is a whole number -/
def mapFind (k : IntKind) (n : Int) : List (Value × SV) → Option (Option SV)
  | [] => some none
  | (.int k' n', s) :: l => if k = k' then (if n = n' then some (some s) else mapFind k n l) else none
  | _ :: _ => none
def symOp (P : Program) (h : Option HB) (na j : Nat) (o : Oper) (args : List SV) : Option Eff :=
  match o.op, args with
  | .move _, [s] => Eff.pure s
  | .assign _, [s] => Eff.pure s
  | .pick _ _ _, [.con (.bool b), x, y] => Eff.pure (if b then x else y)
  | .alloc t, [] => (zeroS P t).map fun z => ⟨.box j 0, some (j, .box z t), .none⟩
  | .box t _, [s] => if s.isTup = true then .none else some ⟨.box j 0, some (j, .box s.cells t), .none⟩
  | .build t parts, args => match zeroS P t, placeOf P t with
    | some z, some pl => if args.length = parts.size then (fillS pl z ((parts.toList.map (·.1)).zip args)).bind fun l => Eff.pure (.agg l) else .none
    | _, _ => .none
  | .buildSlice t n parts, args => match P.underlying t with
    | some (.slice e) => match P.info? e with
      | some ie => match ie.zero with
        | some z => if args.length = parts.size ∧ n * ie.size ≤ 1000000 ∧ z.cells.toList.all flatV = true then
            (if n = 0 ∧ args.length = 0 then some ⟨.at na, .none, .mk ie.size 0 []⟩
            else if n * ie.size = 0 ∨ z.cells.size = 0 then .none
            else (fillS (fun i => some (i * ie.size, ie.size)) (zerosS z.cells (n * ie.size)) ((parts.toList.map (·.1)).zip args)).bind fun l => if SV.pures l then some ⟨.at na, .none, .mk ie.size n l⟩ else .none) else .none
        | .none => .none
      | .none => .none
    | _ => .none
  | .load t _, [.box _ off] => match h with
    | some (.box cs _) => (partS P t cs off).bind Eff.pure
    | _ => .none
  | .load t _, [s] => match aggOf P t with
    | some true => (cellsOf P t).bind fun n => Eff.prim na (.ld (some n)) [s]
    | some false => Eff.prim na (.ld .none) [s]
    | .none => .none
  | .store t _ _, [.box j off, v] => match h with
    | some (.box cs t') => if cellsOf P t = some v.cells.length ∧ off + v.cells.length ≤ cs.length ∧ v.isTup = false then
        some ⟨.tup [], some (j, .box (cs.take off ++ v.cells ++ cs.drop (off + v.cells.length)) t'), .none⟩ else .none
    | _ => .none
  | .makeMap _ .none, [] => some ⟨.mapp j, some (j, .mp []), .none⟩
  | .insert t _ _ _, [.mapp j, .con (.int k n), v] => match h, P.underlying t with
    | some (.mp es), some (.map kt _) => match P.underlying kt with
      | some (.int _) => match mapFind k n es with
        | some .none => some ⟨.tup [], some (j, .mp (es ++ [(.int k n, v)])), .none⟩
        | _ => .none
      | _ => .none
    | _, _ => .none
  | .lookup t _ _ false, [.mapp _, .con (.int k n)] => match h, P.underlying t with
    | some (.mp es), some (.map kt _) => match P.underlying kt with
      | some (.int _) => match mapFind k n es with
        | some (some s) => Eff.pure s
        | _ => .none
      | _ => .none
    | _, _ => .none
  | .fieldAddr t _ f, [s] => match fieldOf P t f with
    | some fl => if (cellsOf P fl.type).any (· != 0) then (match s with
      | .box j off => Eff.pure (.box j (off + fl.offset))
      | s => Eff.prim na (.fld fl.offset) [s]) else .none
    | .none => .none
  | .field t _ f, [.agg l] => match fieldOf P t f with
    | some fl => (partS P fl.type l fl.offset).bind Eff.pure
    | .none => .none
  | .indexAddr t _ _, [s, i] => match P.underlying t, s, i with
    | some (.array len e), .box j off, .con (.int _ i) => match cellsOf P e with
      | some n => if 0 ≤ i ∧ i < len then Eff.pure (.box j (off + i.toNat * n)) else .none
      | .none => .none
    | some (.slice e), s, i => (cellsOf P e).bind fun n => Eff.prim na (.idx n) [s, i]
    | _, _, _ => .none
  | .index t _ _, [s, i] => match P.underlying t with
    | some .string => Eff.prim na .six [s, i]
    | _ => .none
  | .extract _ i, [.tup l] => l[i]?.bind Eff.pure
  | .binOp op t _ _ _, [x, y] => match conBin op x y with
    | some u => Eff.pure (.con u)
    | .none => match op with
      | .shl | .shr => .none
      | op => Eff.prim na (.op2 op (P.underlying t matches some .bool)) [x, y]
  | .unOp op _ _, [x] => Eff.prim na (.op1 op) [x]
  | .convert src dst _, [x] => match P.underlying src, P.underlying dst with
    | some (.int _), some (.int k) => Eff.prim na (.cv k) [x]
    | _, _ => .none
  | .makeFunc fn first captured, args => if args.length = first.size + captured.size then Eff.pure (.clo fn (args.take first.size) (args.drop first.size)) else .none
  | .slice t _ lo hi .none, args => match P.underlying t with
    | some .string => if args.length = 1 + lo.toList.length + hi.toList.length then Eff.prim na (.ssl lo.isSome hi.isSome) args else .none
    | _ => .none
  | .nilCheck _, [.box j off] => Eff.pure (.box j off)
  | .call c, args => match c.callee with
    | .builtin .len => match c.argTypes[0]?, args with
      | some t, [x] => match P.underlying t with
        | some (.slice _) => Eff.prim na .len [x]
        | some .string => Eff.prim na .slen [x]
        | _ => .none
      | _, _ => .none
    | .value _ => match rshOf P o.type with
      | some sh => match args with
        | .clo (.func f) fs cs :: as => if SV.pures (fs ++ as ++ cs) && as.length == c.args.size then some ⟨expandR (.at na) sh, .none, .call f (fs ++ as ++ cs) sh⟩ else .none
        | s :: as => if SV.pure s && SV.pures as && as.length == c.args.size then some ⟨expandR (.at na) sh, .none, .callv s as sh⟩ else .none
        | [] => .none
      | .none => .none
    | _ => .none
  | _, _ => .none

/-- a frame's names -/
structure St where
  tm : List (Nat × SV)
  hp : List (Nat × HB)
  na : Nat
  nj : Nat
  nl : Nat
mutual
/-- only atoms below n, blocks below j -/
def SV.wf (n j : Nat) : SV → Bool
  | .at k => k < n
  | .con _ => true
  | .cel s _ | .ext s _ => s.wf n j
  | .agg l | .tup l => SV.wfs n j l
  | .clo _ fs cs => SV.wfs n j fs && SV.wfs n j cs
  | .box i _ => i < j
  | .mapp i => i < j
def SV.wfs (n j : Nat) : List SV → Bool
  | [] => true
  | s :: l => s.wf n j && SV.wfs n j l
end
def Nd.wf (n : Nat) : Nd → Bool
  | .none => true
  | .call _ args _ | .prim _ args | .mk _ _ args => SV.wfs n 0 args
  | .callv fv args _ => fv.wf n 0 && SV.wfs n 0 args
def Nd.vc : Nd → VC → VC
  | .none, k => k
  | .call f args sh, k => .call f args sh k
  | .callv fv args sh, k => .callv fv args sh k
  | .prim p args, k => .prim p args k
  | .mk c n args, k => .mk c n args k
def Nd.new : Nd → Nat
  | .none => 0
  | _ => 1
/-- what a region's operation did, for the look at other orders -/
structure TE where
  d : Option Nat
  s : SV
  h : Option (Nat × HB)
  rd : Option Nat
def looksAt (ops : List Oper) (o : Oper) : List Nat :=
  (o.op.operands.toList.filterMap fun | .tmp t => some t | _ => none) ++
  (match o.guard with
   | some (g, _) => ((ops[g]?).bind (·.dst)).toList
   | none => [])
def masks (ops : List Oper) : List Nat :=
  ops.foldl (init := []) fun acc o => acc ++ [o.after.foldl (fun s e => if Region.binds .any e then s ||| 2 ^ e.on ||| acc.getD e.on 0 else s) 0]
def disj (a b : List Nat) : Bool := a.all fun x => !b.contains x
def apartTE (la lb : List Nat) (a b : TE) : Bool :=
  (match a.d with
   | some d => !lb.contains d && (b.d != some d)
   | none => true) &&
  (match b.d with
   | some d => !la.contains d
   | none => true) &&
  (match a.h with
   | some (j, _) => b.rd != some j && (match b.h with
     | some (j', _) => j != j'
     | none => true)
   | none => true) &&
  (match b.h with
   | some (j, _) => a.rd != some j
   | none => true)
/-- operations that meet are ordered -/
def ordered (ops : List Oper) (tr : List TE) : Bool :=
  let ms := masks ops
  (ops.zipIdx.all fun (o, i) => o.after.all fun e => !Region.binds .any e || e.on < i) && (List.range ops.length).all fun k => (List.range k).all fun i =>
    (match ops[i]?, ops[k]?, tr[i]?, tr[k]?, ms[k]? with
     | some oi, some ok, some a, some b, some m => m.testBit i || apartTE (looksAt ops oi) (looksAt ops ok) a b
     | _, _, _, _, _ => false)

/-- is an operation wanted? (where its guard's name says it) -/
inductive Want where
  | yes | no | ask (t : Nat) (s : SV) (want : Bool) | bad
def wantOf (ops : List Oper) (tm : Nat → Option SV) (o : Oper) : Want :=
  match o.guard with
  | none => .yes
  | some (g, want) => match (ops[g]?).bind (·.dst) with
    | some t => match tm t with
      | some (.con (.bool b)) => if b == want then .yes else .no
      | some (.tup []) => .no
      | some s => if s.one && s.pure then .ask t s want else .bad
      | none => .bad
    | none => .bad
/-- a bool that must be told apart ahead of an operation -/
def pickOf (tm : Nat → Option SV) (o : Op) : Option (Nat × SV) :=
  match o with
  | .pick (.tmp t) _ _ => match tm t with
    | some (.con (.bool _)) => none
    | some s => if s.one && s.pure then some (t, s) else none
    | none => none
  | _ => none
def regVC (P : Program) (ntmps : Nat) (ops : List Oper) (draw : Bool) (nj0 : Nat) (K : St → VC) : List Oper → Nat → St → List TE → VC
  | [], i, st, tr => if draw && !ordered ops tr then .bad else K { st with nj := nj0 + i }
  | o :: rest, i, st, tr =>
    let skip (st : St) : VC := match o.dst with
      | some d => if d < ntmps then regVC P ntmps ops draw nj0 K rest (i + 1) { st with tm := (d, .tup []) :: st.tm } (tr ++ [⟨o.dst, .tup [], none, none⟩]) else .bad
      | none => regVC P ntmps ops draw nj0 K rest (i + 1) st (tr ++ [⟨none, .tup [], none, none⟩])
    let run' (st : St) : VC := match evalOps (look st.tm) o.op.operands.toList with
      | none => .bad
      | some args => match symOp P ((hread o.op args).bind (look st.hp)) st.na (nj0 + i) o args with
        | none => .bad
        | some e => if e.nd.wf st.na then
          let hp := match e.h with
            | some p => p :: st.hp
            | none => st.hp
          match o.dst with
          | some d => if d < ntmps then e.nd.vc (regVC P ntmps ops draw nj0 K rest (i + 1) { tm := (d, e.s) :: st.tm, hp := hp, na := st.na + e.nd.new, nj := st.nj, nl := st.nl } (tr ++ [⟨o.dst, e.s, e.h, hread o.op args⟩])) else .bad
          | none => e.nd.vc (regVC P ntmps ops draw nj0 K rest (i + 1) { tm := st.tm, hp := hp, na := st.na + e.nd.new, nj := st.nj, nl := st.nl } (tr ++ [⟨none, e.s, e.h, hread o.op args⟩]))
          else .bad
    let run (st : St) : VC := match pickOf (look st.tm) o.op with
      | none => run' st
      | some (t, s) => .ite s (run' { st with tm := (t, .con (.bool true)) :: st.tm }) (run' { st with tm := (t, .con (.bool false)) :: st.tm })
    match wantOf ops (look st.tm) o with
    | .yes => run st
    | .no => skip st
    | .ask t s want =>
      .ite s ((if true == want then run else skip) { st with tm := (t, .con (.bool true)) :: st.tm })
        ((if false == want then run else skip) { st with tm := (t, .con (.bool false)) :: st.tm })
    | .bad => .bad

/-- what a loop turns: slots, cells -/
structure Ann where
  ts : List Nat
  cs : List (Nat × Nat)
  un : Nat := 0
structure LoopAt where
  lev : Nat
  kept : List (Nat × SV)
  hp : List (Nat × HB)
  ann : Ann
inductive It where
  | code (c : Code)
  | blk (id : Nat)
  | lp (l : LoopAt)
  | un (b : Code) (n : Nat)
def dropTo (id : Nat) : List It → Option (List It)
  | .blk i :: k => if i == id then some k else dropTo id k
  | _ :: k => dropTo id k
  | [] => none
def writes : Code → List Nat
  | .region _ ops _ => ops.toList.filterMap (·.dst)
  | .seq a b => writes a ++ writes b
  | .cond _ a b => writes a ++ writes b
  | .block _ b => writes b
  | .loop b => writes b
  | _ => []
def firstReg : Code → Option Nat
  | .region id _ _ => some id
  | .seq a b => (firstReg a).orElse fun _ => firstReg b
  | .cond _ a b => (firstReg a).orElse fun _ => firstReg b
  | .block _ b => firstReg b
  | .loop b => firstReg b
  | _ => none
def annOf (b : Code) (anns : List (Nat × Ann)) : Ann := ((firstReg b).bind (look anns)).getD ⟨[], [], 0⟩
/-- a block's cells with the turned ones named anew, from name n on -/
def headCells (j : Nat) (cs : List SV) : List (Nat × Nat) → Nat → List SV
  | [], _ => cs
  | (j', off) :: l, n => headCells j (if j' == j then cs.set off (.at n) else cs) l (n + 1)
def headHp (hp : List (Nat × HB)) (ann : Ann) (n : Nat) : List (Nat × HB) :=
  hp.map fun
    | (j, .box cs t) => (j, .box (headCells j cs ann.cs n) t)
    | (j, .mp es) => (j, .mp es)
def posOf (q : Nat × Nat) : List (Nat × Nat) → Option Nat
  | [] => none
  | p :: l => if p.1 == q.1 && p.2 == q.2 then some 0 else (posOf q l).map (· + 1)
/-- a loop's head is in form -/
def headOk (na nj : Nat) (l : LoopAt) : Bool :=
  (l.kept.all fun (t, s) => s.wf na nj) &&
  (l.hp.all fun (j, b) => decide (j < nj) && match b with
    | .box cs t => cs.zipIdx.all fun (s, i) => match posOf (j, i) l.ann.cs with
      | some x => s.same (.at (na + l.ann.ts.length + x))
      | none => s.wf na nj
    | .mp es => es.all fun (_, s) => s.wf na nj)
def cellAt (hp : List (Nat × HB)) (p : Nat × Nat) : Option SV := match look hp p.1 with
  | some (.box cs _) => cs[p.2]?
  | _ => none
def varsOf (st : St) (ann : Ann) : Option (List SV) :=
  match ann.ts.mapM (look st.tm), ann.cs.mapM (cellAt st.hp) with
  | some a, some b => if (a ++ b).all (fun s => s.one && s.pure) then some (a ++ b) else none
  | _, _ => none
/-- the first of each slot alone -/
def dedup {α : Type} : List (Nat × α) → List (Nat × α)
  | [] => []
  | (k, x) :: l => (k, x) :: (dedup l).filter (fun p => p.1 != k)
def backOk (l : LoopAt) (st : St) : Bool :=
  (l.kept.all fun (t, s) => match look st.tm t with
    | some s' => s.same s'
    | none => false) &&
  (l.hp.all fun (j, b) => match b, look st.hp j with
    | .mp es, some (.mp es') => es.length == es'.length && (es.zip es').all fun (x, y) => valSame x.1 y.1 && x.2.same y.2
    | .box cs t, some (.box cs' t') => t == t' && cs.length == cs'.length && (List.range cs.length).all fun i => (posOf (j, i) l.ann.cs).isSome || (match cs[i]?, cs'[i]? with
      | some a, some b => a.same b
      | _, _ => false)
    | _, _ => false)

def resS (P : Program) (st : St) : ResultVar → Option SV
  | .tmp t => look st.tm t
  | .cell a t => match look st.tm a with
    | some (.box j off) => match look st.hp j with
      | some (.box cs _) => partS P t cs off
      | _ => none
    | _ => none
def retS (P : Program) (fn : Func) (st : St) : Option SV :=
  match fn.results.toList.mapM (resS P st) with
  | some [s] => if s.pure then some s else none
  | some l => if SV.pures l then some (.tup l) else none
  | none => none

def exec (P : Program) (fn : Func) (anns : List (Nat × Ann)) : Nat → List It → St → VC
  | 0, _, _ => .bad
  | n + 1, [], st => match retS P fn st with
    | some s => .ret s
    | none => .bad
  | n + 1, .blk _ :: k, st => exec P fn anns n k st
  | n + 1, .lp l :: k, st => match varsOf st l.ann with
    | some vs => if backOk l st && l.lev < st.nl then .again (st.nl - 1 - l.lev) vs else .bad
    | none => .bad
  | n + 1, .un b m :: k, st => match m with
    | 0 => .bad
    | m + 1 => exec P fn anns n (.code b :: .un b m :: k) st
  | n + 1, .code c :: k, st => match c with
    | .skip => exec P fn anns n k st
    | .seq a b => exec P fn anns n (.code a :: .code b :: k) st
    | .block id b => exec P fn anns n (.code b :: .blk id :: k) st
    | .exit id => match dropTo id k with
      | some k' => exec P fn anns n k' st
      | none => .bad
    | .ret => match retS P fn st with
      | some s => .ret s
      | none => .bad
    | .cond c a b => match c with
      | .tmp t => match look st.tm t with
        | some (.con (.bool true)) => exec P fn anns n (.code a :: k) st
        | some (.con (.bool false)) => exec P fn anns n (.code b :: k) st
        | some s => if s.one && s.pure then .ite s (exec P fn anns n (.code a :: k) { st with tm := (t, .con (.bool true)) :: st.tm }) (exec P fn anns n (.code b :: k) { st with tm := (t, .con (.bool false)) :: st.tm }) else .bad
        | none => .bad
      | .const (.bool true) => exec P fn anns n (.code a :: k) st
      | .const (.bool false) => exec P fn anns n (.code b :: k) st
      | _ => .bad
    | .region _ ops draw => regVC P fn.ntmps ops.toList draw st.nj (fun st => exec P fn anns n k st) ops.toList 0 st []
    | .loop b =>
      let ann := annOf b anns
      match ann.un with
      | m + 1 => exec P fn anns n (.code b :: .un b m :: k) st
      | 0 => match varsOf st ann with
      | none => .bad
      | some vs =>
        let ws := writes b
        let kept := (dedup st.tm).filter fun (t, s) => !ws.contains t && !ann.ts.contains t && s.wf st.na st.nj
        let hp := dedup st.hp
        let hp' := headHp hp ann (st.na + ann.ts.length)
        let tm := (ann.ts.zipIdx.map fun (t, i) => (t, SV.at (st.na + i))) ++ kept
        let l : LoopAt := ⟨st.nl, kept, hp', ann⟩
        if headOk st.na st.nj l && backOk l st then
          .loop vs (exec P fn anns n (.code b :: .lp l :: k) { tm := tm, hp := hp', na := st.na + vs.length, nj := st.nj, nl := st.nl + 1 })
        else .bad
    | _ => .bad

def st0 (shs : List Sh) : St := { tm := shs.zipIdx.map fun (sh, i) => (i, expand (.at i) sh), hp := [], na := shs.length, nj := 0, nl := 0 }
/-- a function's parameters' shapes, and its condition -/
def fnInfo (P : Program) (f : FuncId) (anns : List (Nat × Ann)) : Option (List Sh × VC) :=
  match P.funcs[f]? with
  | some fn => if fn.name == "runtime.NumGoroutine" then none else match fn.body, fn.params.toList.mapM (shOf P) with
    | some c, some shs => if shs.length ≤ fn.ntmps then some (shs, exec P fn anns 100000 [.code c] (st0 shs)) else none
    | _, _ => none
  | none => none
def fitsAll : List Sh → List PV → Bool
  | [], [] => true
  | h :: l, p :: ps => fits h p && fitsAll l ps
  | _, _ => false
end Gv


/- The engine, 3: frames and worlds that fit names (Sim), and what each operation does to them. Over any program. -/
namespace Gv
open Go Go.RowKit
set_option linter.unusedVariables false
set_option linter.unusedSimpArgs false

/-- where the call began -/
structure Env where
  w0 : World
  P0 : Nat → Prop
  N : Nat
/-- blocks that nobody writes -/
def Ok (E : Env) (hp : Nat → Option HB) (β : Nat → Option Nat) (b : Nat) : Prop := (E.P0 b ∨ E.w0.heap.size ≤ b) ∧ ∀ j, hp j ≠ none → β j ≠ some b
def HBok (E : Env) (ρ : List PV) (β : Nat → Option Nat) (w : World) (P : Nat → Prop) (j : Nat) : HB → Prop
  | .box cs t => ∃ b vs, β j = some b ∧ w.heap[b]? = some (.cells vs t (0, 0)) ∧ vs.size = cs.length ∧ E.w0.heap.size ≤ b ∧
      ∀ (i : Nat) (s : SV), cs[i]? = some s → flatV (vs.getD i undef) = true ∧ RepS ρ β w P s (vs.getD i undef)
  | .mp es => ∃ b ents, β j = some b ∧ w.heap[b]? = some (.map ents es.length) ∧ ents.size = es.length ∧ E.w0.heap.size ≤ b ∧
      ∀ (i : Nat) (x : Value × SV) (y : MapEntry), es[i]? = some x → ents.toList[i]? = some y → y.key = x.1 ∧ y.born = i ∧ RepS ρ β w P x.2 y.val
structure Sim (E : Env) (ρ : List PV) (β : Nat → Option Nat) (tm : Nat → Option SV) (hp : Nat → Option HB) (a : Act) (w : World) : Prop where
  df : a.defers = []
  nt : a.tmps.size = E.N
  bel : Below E.w0.heap.size E.w0 w
  tmr : ∀ t s, tm t = some s → RepS ρ β w (Ok E hp β) s (a.tmps.getD t undef)
  hpr : ∀ j h, hp j = some h → HBok E ρ β w (Ok E hp β) j h
  inj : ∀ j j' b, hp j ≠ none → hp j' ≠ none → β j = some b → β j' = some b → j = j'

def upd {α : Type} (f : Nat → Option α) (d : Option Nat) (x : α) : Nat → Option α := match d with
  | some d => fun t => if t = d then some x else f t
  | none => f
def updh (f : Nat → Option HB) (e : Option (Nat × HB)) : Nat → Option HB := match e with
  | some (j, h) => fun t => if t = j then some h else f t
  | none => f

theorem getD_put (a : Act) (d t : Nat) (v : Value) (h : d < a.tmps.size) : (a.put (some d) v).tmps.getD t undef = if t = d then v else a.tmps.getD t undef := by
  simp only [Act.put]
  by_cases e : t = d
  · subst e; simp [h]
  · rw [if_neg e]
    simp [Array.getElem?_setIfInBounds, Ne.symm e, e]

section
variable {E : Env} {ρ : List PV} {β : Nat → Option Nat} {tm : Nat → Option SV} {hp : Nat → Option HB} {a : Act} {w : World}

theorem Sim.put (h : Sim E ρ β tm hp a w) {s : SV} {v : Value} (hr : RepS ρ β w (Ok E hp β) s v) (d : Option Nat) (hd : ∀ x, d = some x → x < E.N) : Sim E ρ β (upd tm d s) hp (a.put d v) w := by
  cases d with
  | none => exact h
  | some d =>
    have hlt : d < a.tmps.size := by rw [h.nt]; exact hd d rfl
    refine ⟨h.df, by simp only [Act.put, Array.size_setIfInBounds]; exact h.nt, h.bel, fun t s' ht => ?_, h.hpr, h.inj⟩
    rw [getD_put a d t v hlt]
    simp only [upd] at ht
    split at ht
    · rename_i e; cases ht; rw [if_pos e]; exact hr
    · rename_i e; rw [if_neg e]; exact h.tmr t s' ht

/-- what lay there lies there -/
theorem HBok.keep {ρ' : List PV} {β' : Nat → Option Nat} {w' : World} {P P' : Nat → Prop} {j : Nat} {h : HB} (hb : HBok E ρ β w P j h) (hβ : ∀ j b, β j = some b → β' j = some b)
    (hk : ∀ b, P b → b < w.heap.size → P' b ∧ w'.heap[b]? = w.heap[b]?) (hj : ∀ b, β j = some b → w'.heap[b]? = w.heap[b]?) : HBok E (ρ ++ ρ') β' w' P' j h := by
  cases h with
  | box cs t =>
    obtain ⟨b, vs, h1, h2, h3, h4, h5⟩ := hb
    exact ⟨b, vs, hβ j b h1, by rw [hj b h1, h2], h3, h4, fun i s hs => ⟨(h5 i s hs).1, (h5 i s hs).2.keep hβ hk⟩⟩
  | mp es =>
    obtain ⟨b, ents, h1, h2, h3, h4, h5⟩ := hb
    exact ⟨b, ents, hβ j b h1, by rw [hj b h1, h2], h3, h4, fun i x y hx hy => ⟨(h5 i x y hx hy).1, (h5 i x y hx hy).2.1, (h5 i x y hx hy).2.2.keep hβ hk⟩⟩
theorem HBok.keep' {β' : Nat → Option Nat} {w' : World} {P P' : Nat → Prop} {j : Nat} {h : HB} (hb : HBok E ρ β w P j h) (hβ : ∀ j b, β j = some b → β' j = some b)
    (hk : ∀ b, P b → b < w.heap.size → P' b ∧ w'.heap[b]? = w.heap[b]?) (hj : ∀ b, β j = some b → w'.heap[b]? = w.heap[b]?) : HBok E ρ β' w' P' j h := by
  have := hb.keep (ρ' := []) hβ hk hj
  rwa [List.append_nil] at this
theorem HBok.lt {P : Nat → Prop} {j : Nat} {h : HB} (hb : HBok E ρ β w P j h) : ∃ b, β j = some b ∧ b < w.heap.size ∧ E.w0.heap.size ≤ b := by
  cases h with
  | box cs t =>
    obtain ⟨b, vs, h1, h2, h3, h4, h5⟩ := hb
    exact ⟨b, h1, (Array.getElem?_eq_some_iff.1 h2).1, h4⟩
  | mp es =>
    obtain ⟨b, ents, h1, h2, h3, h4, h5⟩ := hb
    exact ⟨b, h1, (Array.getElem?_eq_some_iff.1 h2).1, h4⟩
/-- the world has grown, what was is as it was -/
theorem Sim.grow (h : Sim E ρ β tm hp a w) {w' : World} (hb : Below w.heap.size w w') : Sim E ρ β tm hp a w' := by
  have hk : ∀ b, Ok E hp β b → b < w.heap.size → Ok E hp β b ∧ w'.heap[b]? = w.heap[b]? := fun b h1 h2 => ⟨h1, hb.block b h2⟩
  refine ⟨h.df, h.nt, h.bel.trans (hb.mono h.bel.size), fun t s ht => (h.tmr t s ht).keep' (fun _ _ h => h) hk, fun j hh hj => ?_, h.inj⟩
  refine (h.hpr j hh hj).keep' (fun _ _ h => h) hk fun b hb' => ?_
  obtain ⟨b', e, hlt, _⟩ := (h.hpr j hh hj).lt
  rw [hb'] at e
  cases e
  exact hb.block b hlt
/-- more is known -/
theorem Sim.more (h : Sim E ρ β tm hp a w) (ρ' : List PV) : Sim E (ρ ++ ρ') β tm hp a w :=
  ⟨h.df, h.nt, h.bel, fun t s ht => (h.tmr t s ht).keep (fun _ _ h => h) fun b h1 _ => ⟨h1, rfl⟩, fun j hh hj => (h.hpr j hh hj).keep (fun _ _ h => h) (fun b h1 _ => ⟨h1, rfl⟩) fun _ _ => rfl, h.inj⟩
/-- a block is made -/
theorem Sim.allocO (h : Sim E ρ β tm hp a w) {j : Nat} (hj : β j = none) {o : Obj} {hb : HB}
    (hr : ∀ (β' : Nat → Option Nat) (P' : Nat → Prop), β' j = some w.heap.size → (∀ i b, β i = some b → β' i = some b) → (∀ b, Ok E hp β b → b < w.heap.size → P' b ∧ (w.alloc o).heap[b]? = w.heap[b]?) → HBok E ρ β' (w.alloc o) P' j hb) :
    Sim E ρ (fun i => if i = j then some w.heap.size else β i) tm (updh hp (some (j, hb))) a (w.alloc o) := by
  have hβ : ∀ i b, β i = some b → (if i = j then some w.heap.size else β i) = some b := by
    intro i b e
    rw [if_neg (fun e' => by subst e'; rw [hj] at e; cases e)]
    exact e
  have hnone : hp j = none := by
    cases hh : hp j with
    | none => rfl
    | some x => obtain ⟨b, e, _⟩ := (h.hpr j x hh).lt; rw [hj] at e; cases e
  have hk : ∀ b, Ok E hp β b → b < w.heap.size → Ok E (updh hp (some (j, hb))) (fun i => if i = j then some w.heap.size else β i) b ∧ (w.alloc o).heap[b]? = w.heap[b]? := by
    intro b h1 h2
    refine ⟨⟨h1.1, fun i hi => ?_⟩, Below.heap_alloc w _ b h2⟩
    by_cases e : i = j
    · simp only [e, if_true]
      intro e'
      injection e' with e'
      omega
    · simp only [e, if_false]
      simp only [updh, e, if_false] at hi
      exact h1.2 i hi
  refine ⟨h.df, h.nt, h.bel.alloc h.bel.size _, fun u s hu => (h.tmr u s hu).keep' hβ hk, fun i x hi => ?_, fun i i' b hi hi' e1 e2 => ?_⟩
  · simp only [updh] at hi
    split at hi
    · rename_i e
      cases hi
      subst e
      exact hr _ _ (by simp) hβ hk
    · rename_i e
      refine (h.hpr i x hi).keep' hβ hk fun b hb => ?_
      obtain ⟨b', e', hlt, _⟩ := (h.hpr i x hi).lt
      rw [hb] at e'
      cases e'
      exact Below.heap_alloc w _ b hlt
  · simp only [updh] at hi hi'
    have key : ∀ i, i ≠ j → hp i ≠ none → ∀ b, β i = some b → b < w.heap.size := by
      intro i _ hi b e
      cases hh : hp i with
      | none => exact absurd hh hi
      | some x =>
        obtain ⟨b', e', hlt, _⟩ := (h.hpr i x hh).lt
        rw [e] at e'
        cases e'
        exact hlt
    by_cases c1 : i = j <;> by_cases c2 : i' = j
    · rw [c1, c2]
    · simp only [c1, c2, if_true, if_false] at e1 e2 hi'
      cases e1
      exact absurd (key i' c2 hi' _ e2) (by omega)
    · simp only [c1, c2, if_true, if_false] at e1 e2 hi
      cases e2
      exact absurd (key i c1 hi _ e1) (by omega)
    · simp only [c1, c2, if_false] at e1 e2 hi hi'
      exact h.inj i i' b hi hi' e1 e2
theorem Sim.alloc (h : Sim E ρ β tm hp a w) {j : Nat} (hj : β j = none) {vs : Array Value} {t : TypeId} {cs : List SV} (hl : vs.size = cs.length)
    (hr : ∀ (i : Nat) (s : SV), cs[i]? = some s → flatV (vs.getD i undef) = true ∧ RepS ρ β w (Ok E hp β) s (vs.getD i undef)) :
    Sim E ρ (fun i => if i = j then some w.heap.size else β i) tm (updh hp (some (j, .box cs t))) a (w.alloc (.cells vs t)) :=
  h.allocO hj fun β' P' h1 h2 h3 => ⟨w.heap.size, vs, h1, by show (w.heap.push _)[w.heap.size]? = _; simp, hl, h.bel.size, fun k s hs => ⟨(hr k s hs).1, (hr k s hs).2.keep' h2 h3⟩⟩
/-- a block of the call's own turns -/
theorem Sim.turn (h : Sim E ρ β tm hp a w) {j b : Nat} {x hb : HB} {w' : World} (hj : hp j = some x) (hβ : β j = some b) (hw : Below b w w') (hoth : ∀ c, c ≠ b → w'.heap[c]? = w.heap[c]?)
    (hr : ∀ P' : Nat → Prop, (∀ c, Ok E hp β c → c < w.heap.size → P' c ∧ w'.heap[c]? = w.heap[c]?) → HBok E ρ β w' P' j hb) :
    Sim E ρ β tm (updh hp (some (j, hb))) a w' := by
  have hE : E.w0.heap.size ≤ b := by
    obtain ⟨b', e, _, h4⟩ := (h.hpr j _ hj).lt
    rw [hβ] at e
    cases e
    exact h4
  have hlive : ∀ i, updh hp (some (j, hb)) i ≠ none → hp i ≠ none := by
    intro i hi
    simp only [updh] at hi
    split at hi
    · rename_i e; subst e; rw [hj]; simp
    · exact hi
  have hk : ∀ c, Ok E hp β c → c < w.heap.size → Ok E (updh hp (some (j, hb))) β c ∧ w'.heap[c]? = w.heap[c]? := by
    intro c h1 h2
    refine ⟨⟨h1.1, fun i hi => h1.2 i (hlive i hi)⟩, hoth c ?_⟩
    rintro rfl
    exact h1.2 j (by rw [hj]; simp) hβ
  refine ⟨h.df, h.nt, h.bel.trans (hw.mono hE), fun u s hu => (h.tmr u s hu).keep' (fun _ _ h => h) hk, fun i y hi => ?_, fun i i' c hi hi' => h.inj i i' c (hlive i hi) (hlive i' hi')⟩
  simp only [updh] at hi
  split at hi
  · rename_i e
    cases hi
    subst e
    exact hr _ hk
  · rename_i e
    refine (h.hpr i y hi).keep' (fun _ _ h => h) hk fun c hc => ?_
    refine hoth c ?_
    rintro rfl
    exact e (h.inj i j c (by rw [hi]; simp) (by rw [hj]; simp) hc hβ)
/-- a block is written -/
theorem Sim.store (h : Sim E ρ β tm hp a w) {j b : Nat} {vs ws : Array Value} {t : TypeId} {cs ds : List SV} (hj : hp j = some (.box cs t)) (hb : β j = some b) (hh : w.heap[b]? = some (.cells vs t (0, 0)))
    (hl : ws.size = ds.length) (hr : ∀ (i : Nat) (s : SV), ds[i]? = some s → flatV (ws.getD i undef) = true ∧ RepS ρ β w (Ok E hp β) s (ws.getD i undef)) :
    Sim E ρ β tm (updh hp (some (j, .box ds t))) a (w.setRow b ws) := by
  have hE : E.w0.heap.size ≤ b := by
    obtain ⟨b', e, _, h4⟩ := (h.hpr j _ hj).lt
    rw [hb] at e
    cases e
    exact h4
  exact h.turn hj hb ⟨rfl, rfl, rfl, by simp [World.setRow], fun k hk => setRow_other w b k ws (by omega)⟩ (fun c hc => setRow_other w b c ws hc)
    fun P' hk => ⟨b, ws, hb, setRow_heap w b vs ws t (0, 0) hh, hl, hE, fun k s hs => ⟨(hr k s hs).1, (hr k s hs).2.keep' (fun _ _ h => h) hk⟩⟩
end
end Gv


/- The engine, 4: each operation does what its names say. Over any program. -/
namespace Gv
open Go Go.RowKit
set_option linter.unusedVariables false
set_option linter.unusedSimpArgs false

def NdOK (P : Program) (ρ : List PV) (na : Nat) : Nd → Prop
  | .none => True
  | .call f args sh => ∃ r, ρ[na]? = some r ∧ Fn P f (pvs ρ args) r ∧ fitsR sh r = true
  | .callv fv args sh => ∃ r, ρ[na]? = some r ∧ FnV P (pv ρ fv) (pvs ρ args) r ∧ fitsR sh r = true
  | .prim p args => ∃ r, ρ[na]? = some r ∧ p.ev (pvs ρ args) = some r
  | .mk c n args => ρ[na]? = some (.sl (chunk c n (pvs ρ args)))

section
variable {P : Program} {E : Env} {ρ : List PV} {β : Nat → Option Nat} {tm : Nat → Option SV} {hp : Nat → Option HB} {a : Act} {w : World} {W : Nat → Prop}

theorem oneCell_flat (v : Value) : v.oneCell' = flatV v := by cases v <;> rfl
/-- a pure name of one cell says something -/
theorem RepS.den1 {s : SV} {v : Value} (h : RepS ρ β w W s v) (hs : s.pure = true) : ∃ p, den ρ s = some p := by
  induction h with
  | pure s p v hd hf hr => exact ⟨p, hd⟩
  | box => simp [SV.pure] at hs
  | mapp => simp [SV.pure] at hs
  | agg l vs hl hf hr ih =>
    simp only [SV.pure] at hs
    have key : ∀ l : List SV, SV.pures l = true → (∀ s ∈ l, s.pure = true → ∃ p, den ρ s = some p) → ∃ ps, dens ρ l = some ps := by
      intro l
      induction l with
      | nil => intro _ _; exact ⟨[], rfl⟩
      | cons s l ih =>
        intro h h2
        simp only [SV.pures, Bool.and_eq_true] at h
        obtain ⟨p, hp⟩ := h2 s (by simp) h.1
        obtain ⟨ps, hps⟩ := ih h.2 fun s hs => h2 s (by simp [hs])
        exact ⟨p :: ps, by simp only [dens, hp, hps]⟩
    obtain ⟨ps, hps⟩ := key l hs fun s hs' => by
      obtain ⟨j, hj, e⟩ := List.mem_iff_getElem.1 hs'
      exact ih j s (by rw [← e]; exact List.getElem?_eq_getElem hj)
    exact ⟨.agg ps, by simp only [den, hps, Option.map_some]⟩
  | tup l vs hl hr ih =>
    simp only [SV.pure] at hs
    have key : ∀ l : List SV, SV.pures l = true → (∀ s ∈ l, s.pure = true → ∃ p, den ρ s = some p) → ∃ ps, dens ρ l = some ps := by
      intro l
      induction l with
      | nil => intro _ _; exact ⟨[], rfl⟩
      | cons s l ih =>
        intro h h2
        simp only [SV.pures, Bool.and_eq_true] at h
        obtain ⟨p, hp⟩ := h2 s (by simp) h.1
        obtain ⟨ps, hps⟩ := ih h.2 fun s hs => h2 s (by simp [hs])
        exact ⟨p :: ps, by simp only [dens, hp, hps]⟩
    obtain ⟨ps, hps⟩ := key l hs fun s hs' => by
      obtain ⟨j, hj, e⟩ := List.mem_iff_getElem.1 hs'
      exact ih j s (by rw [← e]; exact List.getElem?_eq_getElem hj)
    exact ⟨.tup ps, by simp only [den, hps, Option.map_some]⟩
  | clo fn fs cs fv cv hl hl' hr hr' ih ih' =>
    simp only [SV.pure, Bool.and_eq_true] at hs
    have key : ∀ l : List SV, SV.pures l = true → (∀ s ∈ l, s.pure = true → ∃ p, den ρ s = some p) → ∃ ps, dens ρ l = some ps := by
      intro l
      induction l with
      | nil => intro _ _; exact ⟨[], rfl⟩
      | cons s l ih =>
        intro h h2
        simp only [SV.pures, Bool.and_eq_true] at h
        obtain ⟨p, hp⟩ := h2 s (by simp) h.1
        obtain ⟨ps, hps⟩ := ih h.2 fun s hs => h2 s (by simp [hs])
        exact ⟨p :: ps, by simp only [dens, hp, hps]⟩
    obtain ⟨ps, hps⟩ := key fs hs.1 fun s hs' => by
      obtain ⟨j, hj, e⟩ := List.mem_iff_getElem.1 hs'
      exact ih j s (by rw [← e]; exact List.getElem?_eq_getElem hj)
    obtain ⟨qs, hqs⟩ := key cs hs.2 fun s hs' => by
      obtain ⟨j, hj, e⟩ := List.mem_iff_getElem.1 hs'
      exact ih' j s (by rw [← e]; exact List.getElem?_eq_getElem hj)
    exact ⟨.clo fn ps qs, by simp only [den, hps, hqs]⟩

/-- operands and their names -/
def Args (ρ : List PV) (β : Nat → Option Nat) (w : World) (W : Nat → Prop) (args : List SV) (vs : List Value) : Prop :=
  args.length = vs.length ∧ ∀ (k : Nat) (s : SV) (v : Value), args[k]? = some s → vs[k]? = some v → RepS ρ β w W s v
theorem Args.nil : Args ρ β w W [] [] := ⟨rfl, fun k s v h => by simp at h⟩
theorem Args.cons {s : SV} {v : Value} {l : List SV} {vs : List Value} (h : RepS ρ β w W s v) (h2 : Args ρ β w W l vs) : Args ρ β w W (s :: l) (v :: vs) := by
  refine ⟨by simp [h2.1], fun k s' v' h3 h4 => ?_⟩
  cases k with
  | zero => simp at h3 h4; subst h3 h4; exact h
  | succ k => simp at h3 h4; exact h2.2 k s' v' h3 h4
theorem Args.head {s : SV} {v : Value} {l : List SV} {vs : List Value} (h : Args ρ β w W (s :: l) (v :: vs)) : RepS ρ β w W s v := h.2 0 s v rfl rfl
theorem Args.tail {s : SV} {v : Value} {l : List SV} {vs : List Value} (h : Args ρ β w W (s :: l) (v :: vs)) : Args ρ β w W l vs :=
  ⟨by have := h.1; simp at this; exact this, fun k s' v' h3 h4 => h.2 (k + 1) s' v' (by simpa using h3) (by simpa using h4)⟩
theorem Args.dens {l : List SV} : ∀ {vs : List Value}, Args ρ β w W l vs → SV.pures l = true → ∃ ps, Gv.dens ρ l = some ps := by
  induction l with
  | nil => intro vs _ _; exact ⟨[], rfl⟩
  | cons s l ih =>
    intro vs h hp
    simp only [SV.pures, Bool.and_eq_true] at hp
    cases vs with
    | nil => have := h.1; simp at this
    | cons v vs =>
      obtain ⟨p, h1⟩ := h.head.den1 hp.1
      obtain ⟨ps, h2⟩ := ih h.tail hp.2
      exact ⟨p :: ps, by simp only [Gv.dens, h1, h2]⟩
/-- what a pure list of names says holds of the values -/
theorem Args.reps {l : List SV} {vs : List Value} {ps : List PV} (h : Args ρ β w W l vs) (hd : Gv.dens ρ l = some ps) : ps.length = vs.length ∧ ∀ (k : Nat) (p : PV) (v : Value), ps[k]? = some p → vs[k]? = some v → Rep w W p v := by
  obtain ⟨h1, h2⟩ := dens_at hd
  refine ⟨by rw [← h1]; exact h.1, fun k p v hp hv => ?_⟩
  obtain ⟨s, hs, hd⟩ := h2 k p hp
  exact (h.2 k s v hs hv).rep hd
theorem Args.app {l m : List SV} {vs us : List Value} (h : Args ρ β w W l vs) (h2 : Args ρ β w W m us) : Args ρ β w W (l ++ m) (vs ++ us) := by
  refine ⟨by simp [h.1, h2.1], fun k s v h3 h4 => ?_⟩
  rw [List.getElem?_append] at h3 h4
  rw [h.1] at h3
  split at h3
  · rename_i hk; rw [if_pos hk] at h4; exact h.2 k s v h3 h4
  · rename_i hk; rw [if_neg hk] at h4; exact h2.2 _ s v h3 h4

/-- the outcome of an operation: the frame has the value, the names hold -/
theorem run_value {o : Oper} {v : Value} {w' : World} {s : SV} {K : Act → World → Prop} {Q : Exit → Act → World → Prop} (hr : (execOp a.eval o).run P w = .ok (.value v) w') (h : K (a.put o.dst v) w') : o.wp P a w K Q := by
  unfold Oper.wp
  rw [hr]
  exact h
theorem run_skip {o : Oper} {w' : World} {K : Act → World → Prop} {Q : Exit → Act → World → Prop} (hr : (execOp a.eval o).run P w = .ok .skip w') (h : K (a.put o.dst undef) w') : o.wp P a w K Q := by
  unfold Oper.wp
  rw [hr]
  exact h
theorem run_enter {o : Oper} {f : FuncId} {args : Array Value} {w' : World} {K : Act → World → Prop} {Q : Exit → Act → World → Prop} (hr : (execOp a.eval o).run P w = .ok (.enter f args) w')
    (h : Calls P f args w' fun e w'' => ∃ v, e = .returned v ∧ K (a.put o.dst v) w'') : o.wp P a w K Q := by
  unfold Oper.wp
  rw [hr]
  refine h.mono fun e w'' he => ?_
  obtain ⟨v, rfl, hk⟩ := he
  exact hk

theorem undef_rep : RepS ρ β w W (.tup []) undef := .tup [] #[] rfl (fun j s h => by simp at h)

theorem agg_run {t : TypeId} {b : Bool} (h : aggOf P t = some b) (w : World) : (isAgg t).run P w = .ok b w := by
  unfold aggOf at h
  cases hu : P.underlying t with
  | none => simp [hu] at h
  | some d =>
    unfold isAgg
    rw [Sem.run_bind, run_underlying hu w]
    cases d <;> simp_all
theorem size_run {t : TypeId} {n : Nat} (h : cellsOf P t = some n) (w : World) : (Go.sizeOf t).run P w = .ok n w := by
  unfold cellsOf at h
  cases hq : P.info? t with
  | none => simp [hq] at h
  | some i => simp [hq] at h; simp [Go.sizeOf, typeInfo, hq, h]
/-- a variable is read -/
theorem loadVar_sc {t : TypeId} (h : aggOf P t = some false) {ad : Addr} {v : Value} (hc : w.cell? ad = some v) : (loadVar t ad).run P w = .ok v w := by
  simp only [loadVar, Sem.run_bind, agg_run h w, Result.andThen_ok, Bool.false_eq_true, if_false, run_load, hc]
theorem loadVar_ag {t : TypeId} {n : Nat} (h : aggOf P t = some true) (hn : cellsOf P t = some n) {ad : Addr} (cs : List Value) (hl : cs.length = n) (hc : ∀ j v, cs[j]? = some v → w.cell? (ad.add j) = some v) : (loadVar t ad).run P w = .ok (.agg cs.toArray) w := by
  subst hl
  simp only [loadVar, Sem.run_bind, agg_run h w, Result.andThen_ok, if_true, size_run hn w, run_loadCells_list w ad cs hc, Sem.run_pure]
theorem add_mid (b o j : Nat) : (⟨b, o, none⟩ : Addr).add j = ⟨b, o + j, none⟩ := by unfold Addr.add; split <;> simp_all

/-- a part of what lies in cells -/
theorem partS_load {t : TypeId} {cs : List SV} {off : Nat} {s : SV} {b : Nat} {vs : Array Value} {T : TypeId} {fz : Nat × Nat} (h : partS P t cs off = some s) (hb : w.heap[b]? = some (.cells vs T fz)) (hl : vs.size = cs.length)
    (hr : ∀ (i : Nat) (s : SV), cs[i]? = some s → flatV (vs.getD i undef) = true ∧ RepS ρ β w W s (vs.getD i undef)) :
    ∃ v, (loadVar t ⟨b, off, none⟩).run P w = .ok v w ∧ RepS ρ β w W s v := by
  have hcell : ∀ i, i < vs.size → w.cell? ⟨b, i, none⟩ = some (vs.getD i undef) := by
    intro i hi
    simp [World.cell?, hb, hi]
  unfold partS at h
  split at h
  · rename_i hag
    split at h
    · rename_i n hn
      split at h
      · rename_i hle
        cases h
        refine ⟨.agg ((List.range n).map fun i => vs.getD (off + i) undef).toArray, loadVar_ag hag hn _ (by simp) (fun j v hv => ?_), ?_⟩
        · rw [List.getElem?_map, Option.map_eq_some_iff] at hv
          obtain ⟨i, hi, rfl⟩ := hv
          have hlt := (List.getElem?_eq_some_iff.1 hi).1
          simp only [List.length_range] at hlt
          rw [List.getElem?_range hlt] at hi
          cases hi
          rw [add_mid]
          exact hcell _ (by omega)
        · have key : ∀ (j : Nat) (s : SV), ((cs.drop off).take n)[j]? = some s → j < n ∧ cs[off + j]? = some s := by
            intro j s hj
            have hlt := (List.getElem?_eq_some_iff.1 hj).1
            simp only [List.length_take, List.length_drop] at hlt
            rw [List.getElem?_take, if_pos (by omega), List.getElem?_drop] at hj
            exact ⟨by omega, hj⟩
          refine .agg _ _ (by simp; omega) (fun j s hj => ?_) (fun j s hj => ?_)
          · obtain ⟨h1, h2⟩ := key j s hj
            have := hr _ s h2
            simpa [Array.getD, h1] using this.1
          · obtain ⟨h1, h2⟩ := key j s hj
            have := hr _ s h2
            simpa [Array.getD, h1] using this.2
      · cases h
    · cases h
  · rename_i hag
    have hlt := (List.getElem?_eq_some_iff.1 h).1
    exact ⟨_, loadVar_sc hag (hcell off (by omega)), (hr off s h).2⟩
  · cases h
/-- the cells of a value -/
theorem cells_rep {s : SV} {v : Value} (h : RepS ρ β w W s v) (hs : s.isTup = false) : v.cells.size = s.cells.length ∧
    ∀ (i : Nat) (s' : SV), s.cells[i]? = some s' → flatV (v.cells.getD i undef) = true ∧ RepS ρ β w W s' (v.cells.getD i undef) := by
  by_cases ho : s.one = true
  · have hf := h.flat ho
    have e1 : v.cells = #[v] := by cases v <;> first | rfl | (simp [flatV] at hf)
    have e2 : s.cells = [s] := by cases s <;> first | rfl | (simp [SV.one] at ho)
    rw [e1, e2]
    refine ⟨rfl, fun i s' hi => ?_⟩
    cases i with
    | zero => simp at hi; subst hi; exact ⟨hf, h⟩
    | succ i => simp at hi
  · cases s <;> simp [SV.one, SV.isTup] at ho hs
    rename_i l
    cases h with
    | pure s p v hd hf hr =>
      simp only [den, Option.map_eq_some_iff] at hd
      obtain ⟨ps, _, rfl⟩ := hd
      simp [PV.flat] at hf
    | agg l vs hl hf hr =>
      exact ⟨hl.symm, fun i s' hi => ⟨hf i s' hi, hr i s' hi⟩⟩
theorem svOf_rep {v : Value} {s : SV} (h : svOf v = some s) : RepS ρ β w W s v := by
  unfold svOf at h
  split at h
  · rename_i cs
    split at h
    · rename_i hall
      cases h
      have key : ∀ (j : Nat) (s : SV), (cs.toList.map SV.con)[j]? = some s → ∃ u, cs.getD j undef = u ∧ s = .con u ∧ flatV u = true := by
        intro j s hj
        rw [List.getElem?_map, Option.map_eq_some_iff] at hj
        obtain ⟨u, hu, rfl⟩ := hj
        have hlt := (List.getElem?_eq_some_iff.1 hu).1
        refine ⟨u, ?_, rfl, (List.all_eq_true.1 hall) u (List.mem_of_getElem? hu)⟩
        simp only [Array.length_toList] at hlt
        simp [Array.getElem?_toList] at hu
        simp [Array.getD, hlt]
        rw [Array.getElem?_eq_getElem hlt] at hu
        exact Option.some.inj hu
      refine .agg _ _ (by simp) (fun j s hj => ?_) (fun j s hj => ?_)
      · obtain ⟨u, e, _, hf⟩ := key j s hj; rw [e]; exact hf
      · obtain ⟨u, e, rfl, hf⟩ := key j s hj; rw [e]; exact .con u hf
    · cases h
  · cases h
  · rename_i h1 h2
    cases h
    refine .con v ?_
    cases v <;> first | rfl | (exact absurd rfl (h1 _)) | (exact absurd rfl (h2 _))
end
end Gv


/- The engine, 5: the operations that only look. Over any program. -/
namespace Gv
open Go Go.RowKit
set_option linter.unusedVariables false
set_option linter.unusedSimpArgs false
section
variable {P : Program} {E : Env} {ρ : List PV} {β : Nat → Option Nat} {tm : Nat → Option SV} {hp : Nat → Option HB} {a : Act} {w : World} {W : Nat → Prop}

theorem guard_int (op : BinOp) (t : TypeId) (x y : Operand) (k k' : IntKind) (m n : Int) : (eqGuard op t x y (.int k m) (.int k' n)).run P w = .ok () w := by
  unfold eqGuard
  cases op <;> rfl
theorem guard_bool (op : BinOp) (t : TypeId) (x y : Operand) (m n : Bool) : (eqGuard op t x y (.bool m) (.bool n)).run P w = .ok () w := by
  unfold eqGuard
  cases op <;> rfl
theorem guard_str (op : BinOp) (t : TypeId) (x y : Operand) (m n : ByteArray) : (eqGuard op t x y (.string m) (.string n)).run P w = .ok () w := by
  unfold eqGuard
  cases op <;> rfl
theorem equal_bool {t : TypeId} (h : P.underlying t = some .bool) (m n : Bool) : (Op.equal t (.bool m) (.bool n)).run P w = .ok (m == n) w := by
  unfold Op.equal Op.maxDepth
  rw [Op.equalIn]
  simp only [Sem.run_bind, run_underlying h w, Result.andThen_ok, Sem.run_pure]
theorem bin2_run {op : BinOp} {bl : Bool} {t : TypeId} {ox oy : Operand} {x y u : Value} (h : bin2 op bl x y = some u) (hb : bl = true → P.underlying t = some .bool) :
    (do eqGuard op t ox oy x y; binOp op t x y : Sem Value).run P w = .ok u w := by
  unfold bin2 at h
  split at h
  · split at h
    · rename_i hbl
      have hu := hb hbl
      simp only [Sem.run_bind, guard_bool, Result.andThen_ok]
      split at h <;> cases h
      · simp only [binOp, Sem.run_bind, equal_bool hu, Result.andThen_ok, Sem.run_pure]
      · simp only [binOp, Sem.run_bind, equal_bool hu, Result.andThen_ok, Sem.run_pure]; rfl
    · cases h
  · split at h
    · rename_i hk
      subst hk
      simp only [Sem.run_bind, guard_int, Result.andThen_ok]
      cases op <;> simp only [reduceCtorEq] at h
      all_goals first
        | (cases h; rfl)
        | (split at h
           · cases h
           · rename_i hne
             cases h
             simp only [binOp, ne_eq, not_true_eq_false, if_false, Op.intDiv, hne]
             rfl)
        | (cases h; simp only [binOp, ne_eq, not_true_eq_false, if_false]; rfl)
    · cases h
  · simp only [Sem.run_bind, guard_str, Result.andThen_ok]
    split at h
    · cases h; rfl
    · cases h; rfl
    · split at h
      · rename_i hle
        cases h
        simp only [binOp, Op.stringOp]
        rw [if_neg (by unfold IntKind.max IntKind.signed IntKind.bits; simp; omega)]
        rfl
      · cases h
    · cases h
  · cases h
theorem bin2_flat {op : BinOp} {bl : Bool} {x y u : Value} (h : bin2 op bl x y = some u) : flatV u = true := by
  unfold bin2 at h
  split at h
  · split at h
    · split at h <;> cases h <;> rfl
    · cases h
  · split at h
    · split at h <;> first | (cases h; rfl) | (cases h; done) | (split at h <;> first | (cases h; rfl) | (cases h; done))
    · cases h
  · split at h <;> first | (cases h; rfl) | (cases h; done) | (split at h <;> first | (cases h; rfl) | (cases h; done))
  · cases h
theorem un1_run {op : UnOp} {x u : Value} (h : un1 op x = some u) : (Op.unary op x).run P w = .ok u w ∧ flatV u = true := by
  unfold un1 at h
  split at h
  · split at h <;> cases h; exact ⟨rfl, rfl⟩
  · split at h <;> cases h; exact ⟨rfl, rfl⟩
  · cases h

/-- what two, one names say -/
theorem args1 {l : List SV} {vs : List Value} {ps : List PV} {s : SV} {v : Value} (h : Args ρ β w W [s] [v]) (hp : s.pure = true) : ∃ p, pvs ρ [s] = [p] ∧ Rep w W p v := by
  obtain ⟨p, hd⟩ := h.head.den1 hp
  exact ⟨p, by simp [pvs, pv_of hd], h.head.rep hd⟩
theorem argsN {l : List SV} {vs : List Value} (h : Args ρ β w W l vs) (hp : SV.pures l = true) : (pvs ρ l).length = vs.length ∧ ∀ (k : Nat) (p : PV) (v : Value), (pvs ρ l)[k]? = some p → vs[k]? = some v → Rep w W p v := by
  obtain ⟨ps, hd⟩ := h.dens hp
  rw [dens_pvs hd]
  exact h.reps hd
/-- an index that is one -/
theorem idxOf_val {p : PV} {v : Value} {n : Nat} (h : idxOf (some p) = some n) (hr : Rep w W p v) : ∃ k, v = .int k (n : Int) := by
  unfold idxOf at h
  split at h
  · rename_i k i he
    injection he with he
    subst he
    split at h
    · cases h
      cases hr
      exact ⟨k, by congr 1; omega⟩
    · cases h
  · cases h

/-- an operation that only looks: its value, and what that says -/
def Looks (P : Program) (w : World) (W : Nat → Prop) (r : PV) (sh : Sh) (s : Sem Value) : Prop := ∃ v, s.run P w = .ok v w ∧ Rep w W r v ∧ fits sh r = true

theorem look_op2 {op : BinOp} {bl : Bool} {t : TypeId} {ox oy : Operand} {x y : Value} {p q r : PV} (hb : bl = true → P.underlying t = some .bool) (h1 : Rep w W p x) (h2 : Rep w W q y) (he : (Prim.op2 op bl).ev [p, q] = some r) :
    Looks P w W r .sc (do eqGuard op t ox oy x y; binOp op t x y) := by
  cases p <;> cases q <;> simp only [Prim.ev, reduceCtorEq, Option.map_eq_some_iff] at he
  obtain ⟨u, hu, rfl⟩ := he
  cases h1
  cases h2
  exact ⟨u, bin2_run hu hb, .raw u, bin2_flat hu⟩
theorem look_op1 {op : UnOp} {x : Value} {p r : PV} (h1 : Rep w W p x) (he : (Prim.op1 op).ev [p] = some r) : Looks P w W r .sc (Op.unary op x) := by
  cases p <;> simp only [Prim.ev, reduceCtorEq, Option.map_eq_some_iff] at he
  obtain ⟨u, hu, rfl⟩ := he
  cases h1
  exact ⟨u, (un1_run hu).1, .raw u, (un1_run (P := P) (w := w) hu).2⟩
theorem look_cv {src dst : TypeId} {k k0 : IntKind} {x : Value} {p r : PV} (hs : P.underlying src = some (.int k0)) (hd : P.underlying dst = some (.int k)) (h1 : Rep w W p x) (he : (Prim.cv k).ev [p] = some r) : Looks P w W r .sc (convert src dst x) := by
  cases p with
  | raw v =>
    cases v <;> simp only [Prim.ev, reduceCtorEq, Option.some.injEq] at he
    subst he
    cases h1
    refine ⟨_, ?_, .raw _, rfl⟩
    unfold convert
    simp only [Sem.run_bind, run_underlying hs w, run_underlying hd w, Result.andThen_ok]
    rfl
  | _ => simp [Prim.ev] at he
theorem look_len {t : TypeId} {el ty : TypeId} {ats : Array TypeId} {x : Value} {p r : PV} (hs : P.underlying t = some (.slice el)) (h0 : ats[0]? = some t) (h1 : Rep w W p x) (he : Prim.len.ev [p] = some r) : Looks P w W r .sc (Builtin.len_ ats ty #[x]) := by
  cases p <;> simp only [Prim.ev, reduceCtorEq, Option.some.injEq] at he
  subst he
  cases h1 with
  | nil A c hc => exact ⟨.int .i64 0, by unfold Builtin.len_; simp only [h0, List.getElem?_toArray, List.getElem?_cons_zero, Sem.run_bind, run_underlying hs w, Result.andThen_ok]; rfl, .raw _, rfl⟩
  | sl k _ ad c vs hk h1 h2 hf hc hr => exact ⟨_, by unfold Builtin.len_; simp only [h0, List.getElem?_toArray, List.getElem?_cons_zero, Sem.run_bind, run_underlying hs w, Result.andThen_ok]; rfl, .raw _, rfl⟩
theorem look_slen {t : TypeId} {ty : TypeId} {ats : Array TypeId} {x : Value} {p r : PV} (hs : P.underlying t = some .string) (h0 : ats[0]? = some t) (h1 : Rep w W p x) (he : Prim.slen.ev [p] = some r) : Looks P w W r .sc (Builtin.len_ ats ty #[x]) := by
  cases p with
  | raw v =>
    cases v <;> simp only [Prim.ev, reduceCtorEq, Option.some.injEq] at he
    subst he
    cases h1
    exact ⟨_, by unfold Builtin.len_; simp only [h0, List.getElem?_toArray, List.getElem?_cons_zero, Sem.run_bind, run_underlying hs w, Result.andThen_ok]; rfl, .raw _, rfl⟩
  | _ => simp [Prim.ev] at he
theorem look_idx {t el : TypeId} {n : Nat} {x y : Value} {p q r : PV} (hs : P.underlying t = some (.slice el)) (hn : cellsOf P el = some n) (h1 : Rep w W p x) (h2 : Rep w W q y) (he : (Prim.idx n).ev [p, q] = some r) : Looks P w W r .sc (Instr.indexAt t x y) := by
  cases p <;> simp only [Prim.ev, reduceCtorEq] at he
  rename_i es
  cases hi : idxOf (some q) with
  | none => simp [hi] at he
  | some i =>
    obtain ⟨k, rfl⟩ := idxOf_val hi h2
    cases hx : es[i]? with
    | none => simp [hi, hx] at he
    | some e =>
      simp only [hi, hx] at he
      split at he
      · rename_i hlen
        cases he
        have hlt := (List.getElem?_eq_some_iff.1 hx).1
        cases h1 with
        | nil A c hc => simp at hlt
        | sl k' _ ad c vs hk h1 h2 hf hc hr =>
          have hk' : k' = n := by rw [← hk i e hx, hlen]
          subst hk'
          refine ⟨.pointer (some (ad.add (i * k'))), ?_, .ref _ _ (fun j => vs i j) (hf i e hx) (fun j p hj => ?_) (hr i e hx), rfl⟩
          · unfold Instr.indexAt
            simp only [asIntOf, Sem.run_bind, Sem.run_pure, Result.andThen_ok, run_underlying hs w]
            simp only [Sem.run_ite, Sem.run_bind, size_run hn w, Result.andThen_ok, Sem.run_pure, Int.toNat_natCast]
            rw [if_pos ⟨by omega, by omega⟩]
          · obtain ⟨h3, h4⟩ := hc i e hx j p hj
            exact ⟨by rw [add_block]; exact h3, by rw [add_add]; exact h4⟩
      · cases he
theorem look_ld_sc {t : TypeId} {x : Value} {p r : PV} (ht : aggOf P t = some false) (h1 : Rep w W p x) (he : (Prim.ld none).ev [p] = some r) : Looks P w W r .sc (Instr.loadAt t x) := by
  cases p <;> simp only [Prim.ev, reduceCtorEq] at he
  rename_i cs
  cases h1 with
  | ref _ ad vs hf hc hr =>
    obtain ⟨_, h2⟩ := hc 0 r he
    have e0 : ad.add 0 = ad := rfl
    rw [e0] at h2
    exact ⟨vs 0, by simp only [Instr.loadAt, Instr.sureAddr, Sem.run_bind, Sem.run_pure, Result.andThen_ok, loadVar_sc ht h2], hr 0 r he, hf 0 r he⟩
theorem look_ld_ag {t : TypeId} {n : Nat} {x : Value} {p r : PV} (ht : aggOf P t = some true) (hn : cellsOf P t = some n) (h1 : Rep w W p x) (he : (Prim.ld (some n)).ev [p] = some r) : Looks P w W r (.ag n) (Instr.loadAt t x) := by
  cases p <;> simp only [Prim.ev, reduceCtorEq] at he
  rename_i cs
  split at he
  · rename_i hle
    cases he
    cases h1 with
    | ref _ ad vs hf hc hr =>
      have key : ∀ (j : Nat) (p : PV), (cs.take n)[j]? = some p → j < n ∧ cs[j]? = some p := by
        intro j p hj
        have hlt := (List.getElem?_eq_some_iff.1 hj).1
        rw [List.length_take] at hlt
        rw [List.getElem?_take, if_pos (by omega)] at hj
        exact ⟨by omega, hj⟩
      refine ⟨.agg ((List.range n).map vs).toArray, ?_, .agg _ _ (by simp; omega) (fun j p hj => hf j p (key j p hj).2) (fun j p hj => ?_), by simp [fits, List.length_take]; omega⟩
      · simp only [Instr.loadAt, Instr.sureAddr, Sem.run_bind, Sem.run_pure, Result.andThen_ok]
        refine loadVar_ag ht hn _ (by simp) (fun j v hv => ?_)
        rw [List.getElem?_map, Option.map_eq_some_iff] at hv
        obtain ⟨i, hi, rfl⟩ := hv
        have hlt := (List.getElem?_eq_some_iff.1 hi).1
        simp only [List.length_range] at hlt
        rw [List.getElem?_range hlt] at hi
        cases hi
        exact (hc j (cs[j]'(by omega)) (List.getElem?_eq_getElem _)).2
      · obtain ⟨hj1, hj2⟩ := key j p hj
        have := hr j p hj2
        simpa [Array.getD, hj1] using this
  · cases he
theorem field_run {t : TypeId} {f : Nat} {fl : Field} (h : fieldOf P t f = some fl) : ∃ fs, P.underlying t = some (.struct fs) ∧ fs[f]? = some fl := by
  unfold fieldOf at h
  split at h
  · rename_i fs hu; exact ⟨fs, hu, h⟩
  · cases h
theorem fieldAt_run {t : TypeId} {f : Nat} {fl : Field} {ad : Addr} (h : fieldOf P t f = some fl) (hz : (cellsOf P fl.type).any (· != 0) = true) : (Instr.fieldAt t (.pointer (some ad)) f).run P w = .ok (.pointer (some (ad.add fl.offset))) w := by
  obtain ⟨fs, hu, hf⟩ := field_run h
  cases hn : cellsOf P fl.type with
  | none => simp [hn] at hz
  | some n =>
    have hn0 : n ≠ 0 := by simpa [hn] using hz
    unfold Instr.fieldAt
    simp only [Sem.run_bind, run_underlying hu w, Result.andThen_ok, hf, Instr.sureAddr, Sem.run_pure, fieldPlace, size_run hn w, if_neg hn0]
theorem look_fld {t : TypeId} {f : Nat} {fl : Field} {x : Value} {p r : PV} (h : fieldOf P t f = some fl) (hz : (cellsOf P fl.type).any (· != 0) = true) (h1 : Rep w W p x) (he : (Prim.fld fl.offset).ev [p] = some r) : Looks P w W r .sc (Instr.fieldAt t x f) := by
  cases p <;> simp only [Prim.ev, reduceCtorEq, Option.some.injEq] at he
  rename_i cs
  subst he
  cases h1 with
  | ref _ ad vs hf hc hr =>
    refine ⟨_, fieldAt_run h hz, .ref _ _ (fun j => vs (fl.offset + j)) (fun j p hj => ?_) (fun j p hj => ?_) (fun j p hj => ?_), rfl⟩
    all_goals rw [List.getElem?_drop] at hj
    · exact hf _ p hj
    · obtain ⟨h3, h4⟩ := hc _ p hj
      exact ⟨by rw [add_block]; exact h3, by rw [add_add]; exact h4⟩
    · exact hr _ p hj
theorem look_six {t : TypeId} {x y : Value} {p q r : PV} (hs : P.underlying t = some .string) (h1 : Rep w W p x) (h2 : Rep w W q y) (he : Prim.six.ev [p, q] = some r) : Looks P w W r .sc (Instr.index t x y) := by
  cases p with
  | raw v =>
    cases v <;> simp only [Prim.ev, reduceCtorEq] at he
    rename_i s
    cases h1
    cases hi : idxOf (some q) with
    | none => simp [hi] at he
    | some i =>
      obtain ⟨k, rfl⟩ := idxOf_val hi h2
      cases hx : s[i]? with
      | none => simp [hi, hx] at he
      | some b =>
        simp only [hi, hx, Option.some.injEq] at he
        subst he
        refine ⟨_, ?_, .raw _, rfl⟩
        unfold Instr.index
        simp only [asIntOf, Sem.run_bind, Sem.run_pure, Result.andThen_ok, run_underlying hs w]
        rw [if_pos (by omega), Int.toNat_natCast, hx]
        rfl
  | _ => simp [Prim.ev] at he
theorem bound_run {y : Nat} {k : IntKind} {i : Nat} {code : BoundsCode} (h : i ≤ y) : (Instr.sliceBound (.int k (i : Int)) y code).run P w = .ok i w := by
  unfold Instr.sliceBound
  simp only [asIntOf, Sem.run_bind, Sem.run_pure, Result.andThen_ok]
  rw [if_pos ⟨by omega, by omega⟩, Int.toNat_natCast]
  rfl
theorem look_ssl {t : TypeId} {lo hi : Option Value} {x : Value} {p r : PV} {l : List PV} (hs : P.underlying t = some .string) (h1 : Rep w W p x) (hl : l.length = (lo.toList ++ hi.toList).length)
    (h2 : ∀ (k : Nat) (q : PV) (v : Value), l[k]? = some q → (lo.toList ++ hi.toList)[k]? = some v → Rep w W q v) (he : (Prim.ssl lo.isSome hi.isSome).ev (p :: l) = some r) : Looks P w W r .sc (Instr.sliceAt t x lo hi none) := by
  cases p with
  | raw v =>
    cases v <;> simp only [Prim.ev, reduceCtorEq] at he
    rename_i s
    cases h1
    have fin : ∀ {a b : Nat} (hab : a ≤ b ∧ b ≤ s.size) (v : Value), (Instr.sliceBounds false s.size s.size lo hi none).run P w = .ok (a, b, s.size) w → Looks P w W (.raw (.string (s.extract a b))) .sc (Instr.sliceAt t (.string s) lo hi none) := by
      intro a b hab v hrun
      refine ⟨_, ?_, .raw _, rfl⟩
      unfold Instr.sliceAt
      simp only [Sem.run_bind, run_underlying hs w, Result.andThen_ok]
      unfold Instr.slice
      simp only [Sem.run_bind, run_underlying hs w, Result.andThen_ok, Option.isSome_none, Bool.false_eq_true, if_false, hrun, Sem.run_pure]
    cases lo with
    | none =>
      cases hi with
      | none =>
        simp only [Option.isSome_none, Bool.false_eq_true, if_false] at he
        split at he
        · rename_i hle
          cases he
          exact fin hle undef rfl
        · cases he
      | some u =>
        cases l with
        | nil => simp at hl
        | cons q l =>
          simp only [Option.isSome_none, Option.isSome_some, Bool.false_eq_true, if_false, if_true, List.head?_cons] at he
          cases hb : idxOf (some q) with
          | none => rw [hb] at he; cases he
          | some b =>
            rw [hb] at he
            simp only at he
            split at he
            · rename_i hle
              cases he
              obtain ⟨k, rfl⟩ := idxOf_val hb (h2 0 q u rfl rfl)
              refine fin hle undef ?_
              unfold Instr.sliceBounds
              simp only [Sem.run_bind, Sem.run_pure, Result.andThen_ok, Bool.false_eq_true, if_false, bound_run hle.2]
            · cases he
    | some v =>
      cases l with
      | nil => cases hi <;> simp at hl
      | cons q l =>
        simp only [Option.isSome_some, if_true, List.head?_cons, List.drop_succ_cons, List.drop_zero] at he
        cases ha : idxOf (some q) with
        | none => rw [ha] at he; cases he
        | some a =>
          rw [ha] at he
          obtain ⟨k, rfl⟩ := idxOf_val ha (h2 0 q v rfl rfl)
          cases hi with
          | none =>
            simp only [Option.isSome_none, Bool.false_eq_true, if_false] at he
            split at he
            · rename_i hle
              cases he
              refine fin hle undef ?_
              unfold Instr.sliceBounds
              simp only [Sem.run_bind, Sem.run_pure, Result.andThen_ok, Option.isSome_none, Bool.false_eq_true, if_false, bound_run hle.1]
            · cases he
          | some u =>
            cases l with
            | nil => simp at hl
            | cons q' l =>
              simp only [Option.isSome_some, if_true, List.head?_cons] at he
              cases hb : idxOf (some q') with
              | none => rw [hb] at he; cases he
              | some b =>
                rw [hb] at he
                simp only at he
                split at he
                · rename_i hle
                  cases he
                  obtain ⟨k', rfl⟩ := idxOf_val hb (h2 1 q' u rfl rfl)
                  refine fin hle undef ?_
                  unfold Instr.sliceBounds
                  simp only [Sem.run_bind, Sem.run_pure, Result.andThen_ok, Option.isSome_none, Bool.false_eq_true, if_false, bound_run hle.2, bound_run hle.1]
                · cases he
  | _ => simp [Prim.ev] at he
end
end Gv


/- The engine, 6: each operation, in a frame that fits its names. Over any program. -/
namespace Gv
open Go Go.RowKit
set_option linter.unusedVariables false
set_option linter.unusedSimpArgs false
section
variable {P : Program} {E : Env} {ρ : List PV} {β : Nat → Option Nat} {tm : Nat → Option SV} {hp : Nat → Option HB} {a : Act} {w : World} {W : Nat → Prop}

/-- cells with names -/
def Cells (ρ : List PV) (β : Nat → Option Nat) (w : World) (W : Nat → Prop) (l : List SV) (vs : Array Value) : Prop :=
  vs.size = l.length ∧ ∀ (i : Nat) (s : SV), l[i]? = some s → flatV (vs.getD i undef) = true ∧ RepS ρ β w W s (vs.getD i undef)
theorem Cells.of_list {l : List SV} {vs : List Value} (h1 : vs.length = l.length) (h2 : ∀ (i : Nat) (s : SV) (v : Value), l[i]? = some s → vs[i]? = some v → flatV v = true ∧ RepS ρ β w W s v) : Cells ρ β w W l vs.toArray := by
  refine ⟨by simpa using h1, fun i s hs => ?_⟩
  have hlt := (List.getElem?_eq_some_iff.1 hs).1
  have := h2 i s (vs[i]'(by omega)) hs (List.getElem?_eq_getElem _)
  simpa [Array.getD, show i < vs.length by omega] using this
theorem Cells.at {l : List SV} {vs : Array Value} (h : Cells ρ β w W l vs) (i : Nat) (s : SV) (v : Value) (h1 : l[i]? = some s) (h2 : vs.toList[i]? = some v) : flatV v = true ∧ RepS ρ β w W s v := by
  have := h.2 i s h1
  have hlt := (List.getElem?_eq_some_iff.1 h2).1
  simp only [Array.length_toList] at hlt
  have e : vs.getD i undef = v := by
    simp [Array.getElem?_toList] at h2
    rw [Array.getElem?_eq_getElem hlt] at h2
    simp [Array.getD, hlt]
    exact Option.some.inj h2
  rwa [e] at this
theorem Cells.con {l : List Value} (h : l.all flatV = true) : Cells ρ β w W (l.map .con) l.toArray := by
  refine .of_list (by simp) fun i s v hs hv => ?_
  rw [List.getElem?_map, hv] at hs
  cases hs
  have hf := (List.all_eq_true.1 h) v (List.mem_of_getElem? hv)
  exact ⟨hf, .con v hf⟩
/-- cells put over others -/
theorem Cells.put {l m : List SV} {vs us : Array Value} {off : Nat} (h : Cells ρ β w W l vs) (h' : Cells ρ β w W m us) (hle : off + m.length ≤ l.length) :
    Cells ρ β w W (l.take off ++ m ++ l.drop (off + m.length)) (vs.toList.take off ++ us.toList ++ vs.toList.drop (off + us.toList.length)).toArray := by
  have e1 := h.1
  have e2 := h'.1
  have e3 : us.toList.length = m.length := by simpa using e2
  refine .of_list (by simp; omega) fun i s v hs hv => ?_
  rw [e3] at hv
  by_cases c1 : i < off
  · rw [List.append_assoc, List.getElem?_append_left (by simp; omega), List.getElem?_take, if_pos c1] at hs hv
    exact h.at i s v hs hv
  · by_cases c2 : i < off + m.length
    · rw [List.append_assoc, List.getElem?_append_right (by simp; omega), List.getElem?_append_left (by simp; omega)] at hs hv
      simp only [List.length_take, Array.length_toList] at hs hv
      rw [show min off l.length = off by omega] at hs
      rw [show min off vs.size = off by omega] at hv
      exact h'.at _ s v hs hv
    · rw [List.getElem?_append_right (by simp; omega)] at hs hv
      simp only [List.length_append, List.length_take, Array.length_toList, List.getElem?_drop] at hs hv
      rw [show off + m.length + (i - (min off l.length + m.length)) = i by omega] at hs
      rw [show off + m.length + (i - (min off vs.size + us.size)) = i by omega] at hv
      exact h.at i s v hs hv

theorem foldl_put (l : List Value) (off : Nat) : ∀ (k : Nat) (cs : Array Value), off + k + l.length ≤ cs.size →
    ((l.zipIdx k).foldl (fun cs (x : Value × Nat) => cs.setIfInBounds (off + x.2) x.1) cs).toList = cs.toList.take (off + k) ++ l ++ cs.toList.drop (off + k + l.length) := by
  induction l with
  | nil => intro k cs h; simp
  | cons v l ih =>
    intro k cs h
    simp only [List.length_cons] at h
    simp only [List.zipIdx_cons, List.foldl_cons]
    rw [ih (k + 1) _ (by simp; omega)]
    simp only [Array.toList_setIfInBounds, List.length_cons]
    have := list_seg_step cs.toList (off + k) v l (by simp; omega)
    rw [show off + (k + 1) = off + k + 1 by omega, this]
theorem fill_rep {place : Nat → Option (Nat × Nat)} : ∀ {parts : List (Nat × SV)} {cells l : List SV} {vs : Array Value} {ps : List (Nat × Value)}, fillS place cells parts = some l → Cells ρ β w W cells vs → parts.length = ps.length →
    (∀ (k : Nat) (x : Nat × SV) (y : Nat × Value), parts[k]? = some x → ps[k]? = some y → x.1 = y.1 ∧ RepS ρ β w W x.2 y.2) → ∃ us, Instr.fill place vs ps = some us ∧ Cells ρ β w W l us
  | [], cells, l, vs, ps, h, hc, hl, hr => by
    cases ps with
    | nil => simp only [fillS, Option.some.injEq] at h; subst h; exact ⟨vs, rfl, hc⟩
    | cons => simp at hl
  | (i, s) :: parts, cells, l, vs, ps, h, hc, hl, hr => by
    cases ps with
    | nil => simp at hl
    | cons q ps =>
      obtain ⟨i', v⟩ := q
      obtain ⟨e, hsv⟩ := hr 0 (i, s) (i', v) rfl rfl
      simp only at e hsv
      subst e
      unfold fillS at h
      unfold Instr.fill
      cases hp : place i with
      | none => simp [hp] at h
      | some q =>
        obtain ⟨off, size⟩ := q
        simp only [hp] at h ⊢
        split at h
        · rename_i hh
          obtain ⟨h1, h2, h3⟩ := hh
          obtain ⟨k1, k2⟩ := cells_rep hsv h3
          have k3 := hc.1
          rw [if_neg (by simp; omega)]
          have hput := hc.put (m := s.cells) (us := v.cells) (off := off) ⟨k1, k2⟩ (by omega)
          have efold := foldl_put v.cells.toList off 0 vs (by simp; omega)
          simp only [Nat.add_zero] at efold
          have earr : (v.cells.zipIdx.foldl (fun cs (x : Value × Nat) => cs.setIfInBounds (off + x.2) x.1) vs) = (vs.toList.take off ++ v.cells.toList ++ vs.toList.drop (off + v.cells.toList.length)).toArray := by
            apply Array.ext'
            rw [← efold, ← Array.foldl_toList, Array.toList_zipIdx]
          rw [earr]
          subst h1
          exact fill_rep (ps := ps) h hput (by simpa using hl) fun k x y hx hy => hr (k + 1) x y (by simpa using hx) (by simpa using hy)
        · cases h
theorem zero_run {t : TypeId} {l : List SV} (h : zeroS P t = some l) : ∃ i z, P.info? t = some i ∧ i.zero = some z ∧ z.cells.toList.all flatV = true ∧ l = z.cells.toList.map .con := by
  unfold zeroS at h
  split at h
  · rename_i i hi
    split at h
    · rename_i z hz
      split at h
      · rename_i hall
        cases h
        exact ⟨i, z, hi, hz, hall, rfl⟩
      · cases h
    · cases h
  · cases h

theorem zerosS_rep {z : Array Value} {n : Nat} (hz : z.toList.all flatV = true) (h0 : z.size ≠ 0) : Cells ρ β w W (zerosS z n) ((Array.range n).map (z[· % z.size]!)) := by
  refine ⟨by simp [zerosS], fun i s hs => ?_⟩
  unfold zerosS at hs
  rw [List.getElem?_map, Option.map_eq_some_iff] at hs
  obtain ⟨i', hi, rfl⟩ := hs
  have hlt := (List.getElem?_eq_some_iff.1 hi).1
  simp only [List.length_range] at hlt
  rw [List.getElem?_range hlt] at hi
  cases hi
  have hm : i % z.size < z.size := Nat.mod_lt _ (Nat.pos_of_ne_zero h0)
  have e1 : z.toList.getD (i % z.size) (.bool false) = z[i % z.size] := by simp [List.getD, hm]
  have e2 : ((Array.range n).map (z[· % z.size]!)).getD i undef = z[i % z.size] := by simp [Array.getD, hlt, hm]
  rw [e1, e2]
  have hf := (List.all_eq_true.1 hz) _ (show z[i % z.size] ∈ z.toList by simp)
  exact ⟨hf, .con _ hf⟩
theorem chunk_len (k : Nat) : ∀ (n : Nat) (l : List PV), (chunk k n l).length = n
  | 0, _ => rfl
  | n + 1, l => by simp [chunk, chunk_len k n]
theorem chunk_at (k : Nat) : ∀ (n : Nat) (l : List PV) (i : Nat) (e : List PV), (chunk k n l)[i]? = some e → n * k = l.length → e = (l.drop (i * k)).take k
  | 0, _, i, e, h, _ => by simp [chunk] at h
  | n + 1, l, i, e, h, hl => by
    cases i with
    | zero => simp [chunk] at h; simp [h]
    | succ i =>
      simp only [chunk, List.getElem?_cons_succ] at h
      have := chunk_at k n (l.drop k) i e h (by rw [List.length_drop, ← hl, Nat.succ_mul]; omega)
      rw [this, List.drop_drop, Nat.succ_mul, Nat.add_comm]
/-- a row that was made -/
theorem mk_rep {k n : Nat} {l : List SV} {vs : Array Value} {e : TypeId} {W' : Nat → Prop} (h : Cells ρ β w W l vs) (hp : SV.pures l = true) (hl : n * k = l.length) (hn : n ≤ 1000000) (hW : ∀ b, W b → W' b) (hW' : W' w.heap.size) :
    Rep (w.alloc (.cells vs e)) W' (.sl (chunk k n (pvs ρ l))) (.slice (some ⟨w.heap.size, 0, none⟩) n n) := by
  have ha : Args ρ β w W l vs.toList := ⟨by simpa using h.1.symm, fun i s v hs hv => (h.at i s v hs hv).2⟩
  obtain ⟨h1, h2⟩ := argsN ha hp
  have hlen : (pvs ρ l).length = n * k := by simp [pvs, hl]
  have hk2 : ∀ b, W b → b < w.heap.size → W' b ∧ (w.alloc (.cells vs e)).heap[b]? = w.heap[b]? := fun b hb hlt => ⟨hW b hb, Below.heap_alloc w _ b hlt⟩
  have key : ∀ (i : Nat) (e : List PV), (chunk k n (pvs ρ l))[i]? = some e → ∀ (j : Nat) (p : PV), e[j]? = some p → j < k ∧ i < n ∧ (pvs ρ l)[i * k + j]? = some p := by
    intro i e hi j p hj
    have hin := (List.getElem?_eq_some_iff.1 hi).1
    rw [chunk_len] at hin
    have he := chunk_at k n _ i e hi hlen.symm
    subst he
    have hjlt := (List.getElem?_eq_some_iff.1 hj).1
    simp only [List.length_take, List.length_drop] at hjlt
    rw [List.getElem?_take, if_pos (by omega), List.getElem?_drop] at hj
    exact ⟨by omega, hin, hj⟩
  have hval : ∀ (m : Nat) (p : PV), (pvs ρ l)[m]? = some p → m < vs.size ∧ flatV (vs.getD m undef) = true ∧ Rep w W p (vs.getD m undef) := by
    intro m p hm
    have hlt := (List.getElem?_eq_some_iff.1 hm).1
    rw [h1, Array.length_toList] at hlt
    have e : vs.toList[m]? = some (vs.getD m undef) := by simp [Array.getD, hlt]
    refine ⟨hlt, ?_, h2 m p _ hm e⟩
    have hl' : m < l.length := by rw [← h.1]; exact hlt
    exact (h.2 m _ (List.getElem?_eq_getElem hl')).1
  have hc : (chunk k n (pvs ρ l)).length = n := chunk_len k n _
  have := Rep.sl (w := w.alloc (.cells vs e)) (P := W') k (chunk k n (pvs ρ l)) ⟨w.heap.size, 0, none⟩ n (fun i j => vs.getD (i * k + j) undef) (fun i e hi => ?_) (by omega) (by omega) (fun i e hi j p hj => ?_) (fun i e hi j p hj => ?_) (fun i e hi j p hj => ?_)
  · rwa [hc] at this
  · have hin := (List.getElem?_eq_some_iff.1 hi).1
    rw [chunk_len] at hin
    have he := chunk_at k n _ i e hi hlen.symm
    subst he
    simp only [List.length_take, List.length_drop, hlen]
    have : (i + 1) * k ≤ n * k := Nat.mul_le_mul_right k hin
    rw [Nat.succ_mul] at this
    omega
  · obtain ⟨_, _, h5⟩ := key i e hi j p hj
    obtain ⟨_, h6, h7⟩ := hval _ p h5
    exact h7.flat' h6
  · obtain ⟨_, _, h5⟩ := key i e hi j p hj
    obtain ⟨h6, _, _⟩ := hval _ p h5
    refine ⟨hW', ?_⟩
    rw [add_mid, Nat.zero_add, World.cell?_alloc_new]
    simp [Array.getD, h6]
  · obtain ⟨_, _, h5⟩ := key i e hi j p hj
    obtain ⟨_, _, h7⟩ := hval _ p h5
    exact h7.keep hk2

theorem argL1 {args : List SV} {s : SV} {vs : List Value} (h : Args ρ β w W [s] vs) : ∃ v, vs = [v] ∧ RepS ρ β w W s v := by
  have hl := h.1
  match vs, hl with
  | [v], _ => exact ⟨v, rfl, h.head⟩
end
end Gv


