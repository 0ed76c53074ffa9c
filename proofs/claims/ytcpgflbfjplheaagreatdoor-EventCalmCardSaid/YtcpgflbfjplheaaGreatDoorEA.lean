import Derived.Orders
import Derived.Deep.LoopGhost
import Derived.Below
import Derived.Laws.Sem
import Derived.Laws.AppendOwn
import Derived.Laws.CopyRow
import Derived.ChangeKeysEq
import Derived.Laws.Tables
import Derived.Great.BuildSlice
namespace Gv
open Go Go.RowKit
set_option linter.unusedVariables false
set_option linter.unusedSimpArgs false
def flatV:Value → Bool
 | .agg _ | .tuple _=>false
 | _=>true
inductive PV where
 | raw (v:Value)
 | sl (es:List (List PV))
 | ref (cs:List PV)
 | agg (cs:List PV)
 | tup (vs:List PV)
 | clo (fn:Fn) (fs cs:List PV)
def PV.flat:PV → Bool
 | .raw v=>flatV v
 | .agg _ | .tup _=>false
 | _=>true
inductive Rep (w:World) (P:Nat → Prop):PV → Value → Prop
 | raw (v:Value):Rep w P (.raw v) v
 | nil (A:Option Addr) (c:Nat) (hc:c ≤ 9223372036854775807):Rep w P (.sl []) (.slice A 0 c)
 | sl (k:Nat) (es:List (List PV)) (ad:Addr) (c:Nat) (vs:Nat → Nat → Value) (hk:∀ (i:Nat) (e:List PV),es[i]? = some e → e.length = k)
  (h1:es.length ≤ c) (h2:c ≤ 9223372036854775807)
  (hf:∀ (i:Nat) (e:List PV),es[i]? = some e → ∀ (j:Nat) (p:PV),e[j]? = some p → p.flat = true)
  (hc:∀ (i:Nat) (e:List PV),es[i]? = some e → ∀ (j:Nat) (p:PV),e[j]? = some p → P ad.block ∧ w.cell? (ad.add (i * k + j)) = some (vs i j))
  (hr:∀ (i:Nat) (e:List PV),es[i]? = some e → ∀ (j:Nat) (p:PV),e[j]? = some p → Rep w P p (vs i j)):Rep w P (.sl es) (.slice (some ad) es.length c)
 | ref (cs:List PV) (ad:Addr) (vs:Nat → Value) (hf:∀ (j:Nat) (p:PV),cs[j]? = some p → p.flat = true)
  (hc:∀ (j:Nat) (p:PV),cs[j]? = some p → P ad.block ∧ w.cell? (ad.add j) = some (vs j))
  (hr:∀ (j:Nat) (p:PV),cs[j]? = some p → Rep w P p (vs j)):Rep w P (.ref cs) (.pointer (some ad))
 | agg (cs:List PV) (vs:Array Value) (hl:cs.length = vs.size) (hf:∀ (j:Nat) (p:PV),cs[j]? = some p → p.flat = true)
  (hr:∀ (j:Nat) (p:PV),cs[j]? = some p → Rep w P p (vs.getD j undef)):Rep w P (.agg cs) (.agg vs)
 | tup (ps:List PV) (vs:Array Value) (hl:ps.length = vs.size)
  (hr:∀ (j:Nat) (p:PV),ps[j]? = some p → Rep w P p (vs.getD j undef)):Rep w P (.tup ps) (.tuple vs)
 | clo (fn:Fn) (fs cs:List PV) (fv cv:Array Value) (hl:fs.length = fv.size) (hl':cs.length = cv.size)
  (hr:∀ (j:Nat) (p:PV),fs[j]? = some p → Rep w P p (fv.getD j undef))
  (hr':∀ (j:Nat) (p:PV),cs[j]? = some p → Rep w P p (cv.getD j undef)):Rep w P (.clo fn fs cs) (.func fn fv cv)
theorem add_block (ad:Addr) (j:Nat):(ad.add j).block = ad.block:=by unfold Addr.add; split <;> rfl
theorem add_add (ad:Addr) (i j:Nat):(ad.add i).add j = ad.add (i + j):=by
 unfold Addr.add
 by_cases h1:i = 0 <;> by_cases h2:j = 0 <;> simp [h1,h2,Nat.add_assoc]
theorem cell_keep {w w':World} {a:Addr} {v:Value} (hc:w.cell? a = some v) (h:w'.heap[a.block]? = w.heap[a.block]?):w'.cell? a = some v:=by
 rw [World.cell?_of_block (w:=w) h]; exact hc
theorem Rep.keep {w w':World} {P P':Nat → Prop} {p:PV} {v:Value} (h:Rep w P p v) (hk:∀ b,P b → b < w.heap.size → P' b ∧ w'.heap[b]? = w.heap[b]?):Rep w' P' p v:=by
 have key:∀ (ad:Addr) (n:Nat) (u:Value),P ad.block ∧ w.cell? (ad.add n) = some u → P' ad.block ∧ w'.cell? (ad.add n) = some u:=by
  rintro ad n u ⟨h1,h2⟩
  have hb:=World.block_lt_of_cell? w _ h2
  rw [add_block] at hb
  obtain ⟨hP',hB⟩:=hk _ h1 hb
  exact ⟨hP',cell_keep h2 (by rw [add_block]; exact hB)⟩
 induction h with
 | raw v=>exact .raw v
 | nil A c hc=>exact .nil A c hc
 | sl k es ad c vs h0 h1 h2 hf hc hr ih=>exact .sl k es ad c vs h0 h1 h2 hf (fun i e hi j p hj=>key _ _ _ (hc i e hi j p hj)) ih
 | ref cs ad vs hf hc hr ih=>exact .ref cs ad vs hf (fun j p hj=>key _ _ _ (hc j p hj)) ih
 | agg cs vs hl hf hr ih=>exact .agg cs vs hl hf ih
 | tup ps vs hl hr ih=>exact .tup ps vs hl ih
 | clo fn fs cs fv cv hl hl' hr hr' ih ih'=>exact .clo fn fs cs fv cv hl hl' ih ih'
theorem Rep.mono {w:World} {P P':Nat → Prop} {p:PV} {v:Value} (h:Rep w P p v) (hk:∀ b,P b → P' b):Rep w P' p v:=h.keep fun b hb _=>⟨hk b hb,rfl⟩
theorem Rep.lt {w:World} {P:Nat → Prop} {p:PV} {v:Value} (h:Rep w P p v):Rep w (fun b=>P b ∧ b < w.heap.size) p v:=h.keep fun b hb hl=>⟨⟨hb,hl⟩,rfl⟩
theorem Rep.flat {w:World} {P:Nat → Prop} {p:PV} {v:Value} (h:Rep w P p v) (hp:p.flat = true):flatV v = true:=by
 cases h <;> first | exact hp | rfl | (simp [PV.flat] at hp)
theorem Rep.flat' {w:World} {P:Nat → Prop} {p:PV} {v:Value} (h:Rep w P p v) (hp:flatV v = true):p.flat = true:=by
 cases h <;> first | exact hp | rfl | (simp [flatV] at hp)
def pvOf:Value → PV
 | .slice none 0 0=>.sl []
 | .func fn ⟨[]⟩ ⟨[]⟩=>.clo fn [] []
 | v=>.raw v
theorem Rep.pvOf (w:World) (P:Nat → Prop) (v:Value):Rep w P (Gv.pvOf v) v:=by
 unfold Gv.pvOf
 split
 ·exact .nil none 0 (by decide)
 ·exact .clo _ [] [] #[] #[] rfl rfl (fun j p h=>by simp at h) (fun j p h=>by simp at h)
 ·exact .raw v
theorem pvOf_flat {v:Value} (h:flatV v = true):(pvOf v).flat = true:=by
 unfold Gv.pvOf
 split <;> first | rfl | exact h
inductive Loc where
 | blk (b:Nat)
 | hdr (v:Value)
inductive SV where
 | at (n:Nat)
 | con (v:Value)
 | cel (s:SV) (i:Nat)
 | ext (s:SV) (i:Nat)
 | agg (l:List SV)
 | tup (l:List SV)
 | clo (fn:Fn) (fs cs:List SV)
 | box (j off:Nat)
 | mapp (j:Nat)
 | row (j v:Nat)
 | elt (j v k:Nat) (i:SV) (off:Nat)
 | ref (l:List SV)
 | vw (j v k:Nat) (lo len:SV)
mutual
def den (ρ:List PV):SV → Option PV
 | .at n=>ρ[n]?
 | .con v=>some (pvOf v)
 | .cel s i=>match den ρ s with
  | some (.agg cs)=>cs[i]?
  | _=>none
 | .ext s i=>match den ρ s with
  | some (.tup vs)=>vs[i]?
  | _=>none
 | .agg l=>(dens ρ l).map .agg
 | .tup l=>(dens ρ l).map .tup
 | .clo fn fs cs=>match dens ρ fs,dens ρ cs with
  | some a,some b=>some (.clo fn a b)
  | _,_=>none
 | .box _ _=>none
 | .mapp _=>none
 | .row _ _=>none
 | .elt _ _ _ _ _=>none
 | .ref l=>(dens ρ l).map .ref
 | .vw _ _ _ _ _=>none
def dens (ρ:List PV):List SV → Option (List PV)
 | []=>some []
 | s :: l=>match den ρ s,dens ρ l with
  | some p,some ps=>some (p :: ps)
  | _,_=>none
end
def pv (ρ:List PV) (s:SV):PV:=(den ρ s).getD (.raw undef)
def pvs (ρ:List PV) (l:List SV):List PV:=l.map (pv ρ)
theorem pv_of {ρ:List PV} {s:SV} {p:PV} (h:den ρ s = some p):pv ρ s = p:=by unfold pv; rw [h]; rfl
theorem dens_some {ρ:List PV}:∀ {l:List SV} {ps:List PV},dens ρ l = some ps → l.length = ps.length ∧ ∀ (j:Nat) (s:SV) (p:PV),l[j]? = some s → ps[j]? = some p → den ρ s = some p
 | [],ps,h=>by simp only [dens,Option.some.injEq] at h; subst h; exact ⟨rfl,fun j s p h=>by simp at h⟩
 | s :: l,ps,h=>by
  simp only [dens] at h
  split at h
  ·rename_i p q hp hq
   cases h
   obtain ⟨h1,h2⟩:=dens_some hq
   refine ⟨by simp [h1],fun j s' p' hs hp'=>?_⟩
   cases j with
   | zero=>simp at hs hp'; subst hs hp'; exact hp
   | succ j=>simp at hs hp'; exact h2 j s' p' hs hp'
  ·cases h
theorem dens_at {ρ:List PV} {l:List SV} {ps:List PV} (h:dens ρ l = some ps):l.length = ps.length ∧ ∀ (j:Nat) (p:PV),ps[j]? = some p → ∃ s,l[j]? = some s ∧ den ρ s = some p:=by
 obtain ⟨h1,h2⟩:=dens_some h
 refine ⟨h1,fun j p hj=>?_⟩
 have hlt:=(List.getElem?_eq_some_iff.1 hj).1
 obtain ⟨s,hs⟩:∃ s,l[j]? = some s:=⟨l[j]'(by omega),List.getElem?_eq_getElem _⟩
 exact ⟨s,hs,h2 j s p hs hj⟩
theorem dens_pvs {ρ:List PV}:∀ {l:List SV} {ps:List PV},dens ρ l = some ps → pvs ρ l = ps
 | [],ps,h=>by simp only [dens,Option.some.injEq] at h; subst h; rfl
 | s :: l,ps,h=>by
  simp only [dens] at h
  split at h
  ·rename_i p q hp hq
   cases h
   simp only [pvs,List.map_cons,pv_of hp]
   congr 1
   exact dens_pvs hq
  ·cases h
theorem getElem?_app {ρ ρ':List PV} {n:Nat} {p:PV} (h:ρ[n]? = some p):(ρ ++ ρ')[n]? = some p:=by
 have:=(List.getElem?_eq_some_iff.1 h).1
 rw [List.getElem?_append_left this]; exact h
mutual
theorem den_app (ρ ρ':List PV):∀ {s:SV} {p:PV},den ρ s = some p → den (ρ ++ ρ') s = some p
 | .at n,p,h=>by simp only [den] at h ⊢; exact getElem?_app h
 | .con v,p,h=>by simp only [den] at h ⊢; exact h
 | .cel s i,p,h=>by
  simp only [den] at h ⊢
  split at h
  ·rename_i cs hs; rw [den_app ρ ρ' hs]; exact h
  ·cases h
 | .ext s i,p,h=>by
  simp only [den] at h ⊢
  split at h
  ·rename_i cs hs; rw [den_app ρ ρ' hs]; exact h
  ·cases h
 | .agg l,p,h=>by
  simp only [den,Option.map_eq_some_iff] at h ⊢
  obtain ⟨ps,h1,h2⟩:=h
  exact ⟨ps,dens_app ρ ρ' h1,h2⟩
 | .tup l,p,h=>by
  simp only [den,Option.map_eq_some_iff] at h ⊢
  obtain ⟨ps,h1,h2⟩:=h
  exact ⟨ps,dens_app ρ ρ' h1,h2⟩
 | .clo fn fs cs,p,h=>by
  simp only [den] at h ⊢
  split at h
  ·rename_i a b ha hb; rw [dens_app ρ ρ' ha,dens_app ρ ρ' hb]; exact h
  ·cases h
 | .box _ _,p,h=>by simp [den] at h
 | .mapp _,p,h=>by simp [den] at h
 | .row _ _,p,h=>by simp [den] at h
 | .elt _ _ _ _ _,p,h=>by simp [den] at h
 | .ref l,p,h=>by
  simp only [den,Option.map_eq_some_iff] at h ⊢
  obtain ⟨ps,h1,h2⟩:=h
  exact ⟨ps,dens_app ρ ρ' h1,h2⟩
 | .vw _ _ _ _ _,p,h=>by simp [den] at h
theorem dens_app (ρ ρ':List PV):∀ {l:List SV} {ps:List PV},dens ρ l = some ps → dens (ρ ++ ρ') l = some ps
 | [],ps,h=>by simp only [dens] at h ⊢; exact h
 | s :: l,ps,h=>by
  simp only [dens] at h ⊢
  split at h
  ·rename_i p q hp hq; rw [den_app ρ ρ' hp,dens_app ρ ρ' hq]; exact h
  ·cases h
end
def SV.isNil:SV → Bool
 | .con (.slice none 0 0)=>true
 | _=>false
theorem isNil_con {v:Value} (h:(SV.con v).isNil = true):v = .slice none 0 0:=by
 unfold SV.isNil at h
 split at h
 ·rename_i e; cases e; rfl
 ·cases h
inductive RepS (ρ:List PV) (β:Nat → Option Loc) (w:World) (P:Nat → Prop):SV → Value → Prop
 | pure (s:SV) (p:PV) (v:Value) (hd:den ρ s = some p) (hf:p.flat = true) (hr:Rep w P p v) (hn:s.isNil = true → v = .slice none 0 0):RepS ρ β w P s v
 | box (j off b:Nat) (hb:β j = some (.blk b)):RepS ρ β w P (.box j off) (.pointer (some ⟨b,off,none⟩))
 | mapp (j b:Nat) (hb:β j = some (.blk b)):RepS ρ β w P (.mapp j) (.map (some b))
 | row (j v:Nat) (A:Option Addr) (n c:Nat) (hb:β v = some (.hdr (.slice A n c))):RepS ρ β w P (.row j v) (.slice A n c)
 | elt (j v k:Nat) (i:SV) (off n:Nat) (kk:IntKind) (ad:Addr) (l c:Nat) (hb:β v = some (.hdr (.slice (some ad) l c))) (hi:den ρ i = some (.raw (.int kk (n:Int)))):RepS ρ β w P (.elt j v k i off) (.pointer (some (ad.add (n * k + off))))
 | vw (j v k:Nat) (lo len:SV) (A A':Option Addr) (n c c' a b:Nat) (hb:β v = some (.hdr (.slice A n c))) (h1:den ρ lo = some (.raw (.int .i64 (a:Int)))) (h2:den ρ len = some (.raw (.int .i64 (b:Int)))) (hle:a + b ≤ n) (hA:0 < b → A' = A.map (·.add (a * k))):RepS ρ β w P (.vw j v k lo len) (.slice A' b c')
 | agg (l:List SV) (vs:Array Value) (hl:l.length = vs.size) (hf:∀ (j:Nat) (s:SV),l[j]? = some s → flatV (vs.getD j undef) = true)
  (hr:∀ (j:Nat) (s:SV),l[j]? = some s → RepS ρ β w P s (vs.getD j undef)):RepS ρ β w P (.agg l) (.agg vs)
 | tup (l:List SV) (vs:Array Value) (hl:l.length = vs.size)
  (hr:∀ (j:Nat) (s:SV),l[j]? = some s → RepS ρ β w P s (vs.getD j undef)):RepS ρ β w P (.tup l) (.tuple vs)
 | clo (fn:Fn) (fs cs:List SV) (fv cv:Array Value) (hl:fs.length = fv.size) (hl':cs.length = cv.size)
  (hr:∀ (j:Nat) (s:SV),fs[j]? = some s → RepS ρ β w P s (fv.getD j undef))
  (hr':∀ (j:Nat) (s:SV),cs[j]? = some s → RepS ρ β w P s (cv.getD j undef)):RepS ρ β w P (.clo fn fs cs) (.func fn fv cv)
theorem RepS.keep {ρ ρ':List PV} {β β':Nat → Option Loc} {w w':World} {P P':Nat → Prop} {s:SV} {v:Value} (h:RepS ρ β w P s v)
 (hb:∀ j b,β j = some b → β' j = some b) (hk:∀ b,P b → b < w.heap.size → P' b ∧ w'.heap[b]? = w.heap[b]?):RepS (ρ ++ ρ') β' w' P' s v:=by
 induction h with
 | pure s p v hd hf hr hn=>exact .pure s p v (den_app _ _ hd) hf (hr.keep hk) hn
 | box j off b h=>exact .box j off b (hb j _ h)
 | mapp j b h=>exact .mapp j b (hb j _ h)
 | row j v A n c h=>exact .row j v A n c (hb v _ h)
 | elt j v k i off n kk ad l c h hi=>exact .elt j v k i off n kk ad l c (hb v _ h) (den_app _ _ hi)
 | vw j v k lo len A A' n c c' a b h h1 h2 hle hA=>exact .vw j v k lo len A A' n c c' a b (hb v _ h) (den_app _ _ h1) (den_app _ _ h2) hle hA
 | agg l vs hl hf hr ih=>exact .agg l vs hl hf ih
 | tup l vs hl hr ih=>exact .tup l vs hl ih
 | clo fn fs cs fv cv hl hl' hr hr' ih ih'=>exact .clo fn fs cs fv cv hl hl' ih ih'
theorem RepS.keep' {ρ:List PV} {β β':Nat → Option Loc} {w w':World} {P P':Nat → Prop} {s:SV} {v:Value} (h:RepS ρ β w P s v)
 (hb:∀ j b,β j = some b → β' j = some b) (hk:∀ b,P b → b < w.heap.size → P' b ∧ w'.heap[b]? = w.heap[b]?):RepS ρ β' w' P' s v:=by
 have:=h.keep (ρ':=[]) hb hk
 rwa [List.append_nil] at this
theorem RepS.rep {ρ:List PV} {β:Nat → Option Loc} {w:World} {P:Nat → Prop} {s:SV} {v:Value} (h:RepS ρ β w P s v):∀ {p:PV},den ρ s = some p → Rep w P p v:=by
 induction h with
 | pure s p v hd hf hr hn=>intro q hq; rw [hd] at hq; cases hq; exact hr
 | box j off b h=>intro q hq; simp [den] at hq
 | mapp j b h=>intro q hq; simp [den] at hq
 | row j v A n c h=>intro q hq; simp [den] at hq
 | elt j v k i off n kk ad l c h hi=>intro q hq; simp [den] at hq
 | vw j v k lo len A A' n c c' a b h h1 h2 hle hA=>intro q hq; simp [den] at hq
 | agg l vs hl hf hr ih =>
  intro q hq
  simp only [den,Option.map_eq_some_iff] at hq
  obtain ⟨ps,h1,rfl⟩:=hq
  obtain ⟨h2,h3⟩:=dens_at h1
  refine .agg ps vs (by omega) (fun j p hj=>?_) (fun j p hj=>?_)
  ·obtain ⟨s,hs,hd⟩:=h3 j p hj
   exact (ih j s hs hd).flat' (hf j s hs)
  ·obtain ⟨s,hs,hd⟩:=h3 j p hj
   exact ih j s hs hd
 | tup l vs hl hr ih =>
  intro q hq
  simp only [den,Option.map_eq_some_iff] at hq
  obtain ⟨ps,h1,rfl⟩:=hq
  obtain ⟨h2,h3⟩:=dens_at h1
  refine .tup ps vs (by omega) (fun j p hj=>?_)
  obtain ⟨s,hs,hd⟩:=h3 j p hj
  exact ih j s hs hd
 | clo fn fs cs fv cv hl hl' hr hr' ih ih' =>
  intro q hq
  simp only [den] at hq
  split at hq
  ·rename_i a b ha hb
   cases hq
   obtain ⟨h2,h3⟩:=dens_at ha
   obtain ⟨h4,h5⟩:=dens_at hb
   refine .clo fn a b fv cv (by omega) (by omega) (fun j p hj=>?_) (fun j p hj=>?_)
   ·obtain ⟨s,hs,hd⟩:=h3 j p hj
    exact ih j s hs hd
   ·obtain ⟨s,hs,hd⟩:=h5 j p hj
    exact ih' j s hs hd
  ·cases hq
theorem RepS.bool {ρ:List PV} {β:Nat → Option Loc} {w:World} {P:Nat → Prop} {s:SV} {v:Value} {b:Bool} (h:RepS ρ β w P s v) (hd:den ρ s = some (.raw (.bool b))):v = .bool b:=by
 have:=h.rep hd
 cases this
 rfl
theorem RepS.con {ρ:List PV} {β:Nat → Option Loc} {w:World} {P:Nat → Prop} (v:Value) (h:flatV v = true):RepS ρ β w P (.con v) v:=.pure _ (pvOf v) v rfl (pvOf_flat h) (Rep.pvOf w P v) isNil_con
def SV.cells:SV → List SV
 | .agg l=>l
 | s=>[s]
def SV.one:SV → Bool
 | .agg _ | .tup _=>false
 | _=>true
theorem RepS.flat {ρ:List PV} {β:Nat → Option Loc} {w:World} {P:Nat → Prop} {s:SV} {v:Value} (h:RepS ρ β w P s v) (hs:s.one = true):flatV v = true:=by
 cases h with
 | pure s p v hd hf hr hn=>exact hr.flat hf
 | box=>rfl
 | mapp=>rfl
 | row=>rfl
 | elt=>rfl
 | vw=>rfl
 | agg=>simp [SV.one] at hs
 | tup=>simp [SV.one] at hs
 | clo=>rfl
inductive Sh where
 | sc
 | ag (k:Nat)
 | rw
inductive RSh where
 | one (s:Sh)
 | many (l:List Sh)
def expand (s:SV):Sh → SV
 | .sc=>s
 | .rw=>s
 | .ag k=>.agg ((List.range k).map (SV.cel s))
def expandR (s:SV):RSh → SV
 | .one h=>expand s h
 | .many l=>.tup (l.zipIdx.map fun (h,i)=>expand (.ext s i) h)
def fits:Sh → PV → Bool
 | .sc,p=>p.flat
 | .rw,.raw v=>flatV v
 | .rw,_=>false
 | .ag k,.agg cs=>cs.length == k
 | .ag _,_=>false
def fitsR:RSh → PV → Bool
 | .one h,p=>fits h p
 | .many l,.tup ps=>l.length == ps.length && (l.zip ps).all fun (h,p)=>fits h p
 | .many _,_=>false
theorem expand_rep {ρ:List PV} {β:Nat → Option Loc} {w:World} {P:Nat → Prop} {s:SV} {p:PV} {v:Value} {h:Sh} (hs0:s.isNil = false) (hd:den ρ s = some p) (hf:fits h p = true) (hr:Rep w P p v):RepS ρ β w P (expand s h) v:=by
 cases h with
 | sc=>exact .pure s p v hd hf hr (fun e=>by rw [hs0] at e; cases e)
 | rw =>
  have hf':p.flat = true:=by cases p <;> simp only [fits,Bool.false_eq_true] at hf; exact hf
  exact .pure s p v hd hf' hr (fun e=>by rw [hs0] at e; cases e)
 | ag k =>
  cases p <;> simp only [fits,Bool.false_eq_true] at hf
  rename_i cs
  cases hr with
  | agg _ vs hl hf' hr =>
   have hk:cs.length = k:=by simpa using hf
   have key:∀ (j:Nat) (s':SV),((List.range k).map (SV.cel s))[j]? = some s' → ∃ q,cs[j]? = some q ∧ s' = .cel s j:=by
    intro j s' hj
    have hlt:=(List.getElem?_eq_some_iff.1 hj).1
    simp only [List.length_map,List.length_range] at hlt
    refine ⟨cs[j]'(by omega),List.getElem?_eq_getElem _,?_⟩
    simpa [List.getElem?_range hlt] using hj.symm
   refine .agg _ vs (by simp [← hl,hk]) (fun j s' hj=>?_) (fun j s' hj=>?_)
   ·obtain ⟨q,hq,rfl⟩:=key j s' hj
    exact (hr j q hq).flat (hf' j q hq)
   ·obtain ⟨q,hq,rfl⟩:=key j s' hj
    exact .pure _ q _ (by simp only [den,hd]; exact hq) (hf' j q hq) (hr j q hq) (fun e=>by cases e)
theorem expandR_rep {ρ:List PV} {β:Nat → Option Loc} {w:World} {P:Nat → Prop} {s:SV} {p:PV} {v:Value} {h:RSh} (hs0:s.isNil = false) (hd:den ρ s = some p) (hf:fitsR h p = true) (hr:Rep w P p v):RepS ρ β w P (expandR s h) v:=by
 cases h with
 | one h=>exact expand_rep hs0 hd hf hr
 | many l =>
  cases p <;> simp only [fitsR,Bool.false_eq_true] at hf
  rename_i ps
  cases hr with
  | tup _ vs hl hr =>
   simp only [Bool.and_eq_true,beq_iff_eq,List.all_eq_true] at hf
   obtain ⟨h1,h2⟩:=hf
   refine .tup _ vs (by simp; omega) (fun j s' hj=>?_)
   simp only [List.getElem?_map,Option.map_eq_some_iff,List.getElem?_zipIdx] at hj
   obtain ⟨⟨h,i⟩,hj1,rfl⟩:=hj
   obtain ⟨h',hj2,hj3⟩:=hj1
   simp only [Nat.zero_add,Prod.mk.injEq] at hj3
   obtain ⟨rfl,rfl⟩:=hj3
   have hlt:=(List.getElem?_eq_some_iff.1 hj2).1
   obtain ⟨q,hq⟩:∃ q,ps[j]? = some q:=⟨ps[j]'(by omega),List.getElem?_eq_getElem _⟩
   refine expand_rep rfl (by simp only [den,hd]; exact hq) ?_ (hr j q hq)
   exact h2 (h',q) (List.mem_of_getElem? (i:=j) (by simp [List.getElem?_zip_eq_some,hj2,hq]))
def valSame:Value → Value → Bool
 | .int k n,.int k' n'=>k == k' && n == n'
 | .bool b,.bool b'=>b == b'
 | .slice none 0 0,.slice none 0 0=>true
 | .string a,.string b=>a.data == b.data
 | .pointer none,.pointer none=>true
 | _,_=>false
def fnSame:Go.Fn → Go.Fn → Bool
 | .func f,.func g=>f == g
 | _,_=>false
mutual
def SV.same:SV → SV → Bool
 | .at n,t=>match t with
  | .at m=>n == m
  | _=>false
 | .con v,t=>match t with
  | .con u=>valSame v u
  | _=>false
 | .cel s i,t=>match t with
  | .cel t j=>i == j && s.same t
  | _=>false
 | .ext s i,t=>match t with
  | .ext t j=>i == j && s.same t
  | _=>false
 | .agg l,t=>match t with
  | .agg m=>SV.sames l m
  | _=>false
 | .tup l,t=>match t with
  | .tup m=>SV.sames l m
  | _=>false
 | .clo fn fs cs,t=>match t with
  | .clo fn' fs' cs'=>fnSame fn fn' && SV.sames fs fs' && SV.sames cs cs'
  | _=>false
 | .box j o,t=>match t with
  | .box j' o'=>j == j' && o == o'
  | _=>false
 | .mapp j,t=>match t with
  | .mapp j'=>j == j'
  | _=>false
 | .row j v,t=>match t with
  | .row j' v'=>j == j' && v == v'
  | _=>false
 | .elt j v k i o,t=>match t with
  | .elt j' v' k' i' o'=>j == j' && v == v' && k == k' && o == o' && i.same i'
  | _=>false
 | .ref l,t=>match t with
  | .ref m=>SV.sames l m
  | _=>false
 | .vw j v k a b,t=>match t with
  | .vw j' v' k' a' b'=>j == j' && v == v' && k == k' && a.same a' && b.same b'
  | _=>false
def SV.sames:List SV → List SV → Bool
 | [],m=>match m with
  | []=>true
  | _ :: _=>false
 | s :: l,m=>match m with
  | t :: m=>s.same t && SV.sames l m
  | []=>false
end
end Gv
namespace Gv
open Go Go.RowKit
set_option linter.unusedVariables false
def FnR (P:Program) (f:FuncId) (args:List PV) (R:PV → Prop):Prop :=
 (∃ fn,P.funcs[f]? = some fn ∧ fn.body.isSome = true ∧ (fn.name == "runtime.NumGoroutine") = false) ∧
 ∀ (w:World) (P0:Nat → Prop) (vs:Array Value),(∀ b,P0 b → b < w.heap.size) → args.length = vs.size → (∀ (j:Nat) (p:PV),args[j]? = some p → Rep w P0 p (vs.getD j undef)) →
  Calls P f vs w fun e w'=>∃ v p,e = .returned v ∧ R p ∧ Rep w' (fun b=>P0 b ∨ w.heap.size ≤ b) p v ∧ Below w.heap.size w w'
def Fn (P:Program) (f:FuncId) (args:List PV) (r:PV):Prop:=FnR P f args (· = r)
def FnV (P:Program) (fv:PV) (args:List PV) (r:PV):Prop :=
 match fv with
 | .clo (.func f) fs cs=>Fn P f (fs ++ args ++ cs) r
 | _=>False
abbrev SV.c3 (k:Nat):SV:=.agg [.cel (.at k) 0,.cel (.at k) 1,.cel (.at k) 2]
abbrev SV.c4 (k:Nat):SV:=.agg [.cel (.at k) 0,.cel (.at k) 1,.cel (.at k) 2,.cel (.at k) 3]
abbrev SV.c6 (k:Nat):SV:=.agg [.cel (.at k) 0,.cel (.at k) 1,.cel (.at k) 2,.cel (.at k) 3,.cel (.at k) 4,.cel (.at k) 5]
abbrev SV.c12 (k:Nat):SV:=.agg [.cel (.at k) 0,.cel (.at k) 1,.cel (.at k) 2,.cel (.at k) 3,.cel (.at k) 4,.cel (.at k) 5,.cel (.at k) 6,.cel (.at k) 7,.cel (.at k) 8,.cel (.at k) 9,.cel (.at k) 10,.cel (.at k) 11]
def RowAt (w:World) (M:Nat → Prop) (P:Nat → Prop) (e:TypeId) (k:Nat) (val:Value) (es:List (List PV)):Prop :=
 0 < k ∧ ∃ xs:List Value,w.ownsRow 0 e k val es.length xs ∧ (∀ b,val.ownBlock = some b → M b) ∧
  ∀ (i:Nat) (el:List PV),es[i]? = some el → el.length = k ∧ ∀ (j:Nat) (p:PV),el[j]? = some p → p.flat = true ∧ flatV (xs.getD (i * k + j) undef) = true ∧ Rep w P p (xs.getD (i * k + j) undef)
def FnIs (P:Program) (f:FuncId):Prop:=∃ fn,P.funcs[f]? = some fn ∧ fn.body.isSome = true ∧ (fn.name == "runtime.NumGoroutine") = false
def FnN (P:Program) (f:FuncId) (args:List PV) (e:TypeId) (k:Nat) (R:PV → Prop):Prop :=
 FnIs P f ∧
 ∀ (w:World) (P0:Nat → Prop) (vs:Array Value),(∀ b,P0 b → b < w.heap.size) → args.length = vs.size → (∀ (j:Nat) (p:PV),args[j]? = some p → Rep w P0 p (vs.getD j undef)) →
  Calls P f vs w fun x w'=>∃ v es,x = .returned v ∧ R (.sl es) ∧ Below w.heap.size w w' ∧ RowAt w' (fun b=>w.heap.size ≤ b) (fun b=>(P0 b ∨ w.heap.size ≤ b) ∧ v.ownBlock ≠ some b) e k v es
def FnT (P:Program) (f:FuncId) (e:TypeId) (k:Nat) (es:List (List PV)) (args:List PV) (R:PV → Prop):Prop :=
 FnIs P f ∧
 ∀ (w:World) (P0:Nat → Prop) (val:Value) (vs:Array Value),(∀ b,P0 b → b < w.heap.size ∧ val.ownBlock ≠ some b) → RowAt w (fun _=>True) P0 e k val es → args.length = vs.size → (∀ (j:Nat) (p:PV),args[j]? = some p → Rep w P0 p (vs.getD j undef)) →
  Calls P f (#[val] ++ vs) w fun x w'=>∃ v es' r,x = .returned v ∧ R (.tup [.sl es',r]) ∧ w.grownBy w' val.ownBlock ∧ RowAt w' (fun _=>True) (fun b=>(P0 b ∨ w.heap.size ≤ b) ∧ val.ownBlock ≠ some b) e k val es' ∧ Rep w' (fun b=>(P0 b ∨ w.heap.size ≤ b) ∧ val.ownBlock ≠ some b) r v
def FnB (P:Program) (f:FuncId) (e:TypeId) (k:Nat) (es:List (List PV)) (args:List PV) (R:PV → Prop):Prop :=
 FnIs P f ∧
 ∀ (w:World) (P0:Nat → Prop) (val:Value) (vs:Array Value),(∀ b,P0 b → b < w.heap.size ∧ val.ownBlock ≠ some b) → RowAt w (fun _=>True) P0 e k val es → args.length = vs.size → (∀ (j:Nat) (p:PV),args[j]? = some p → Rep w P0 p (vs.getD j undef)) →
  Calls P f (#[val] ++ vs) w fun x w'=>∃ v es',x = .returned v ∧ R (.sl es') ∧ w.grownBy w' val.ownBlock ∧ (∀ b,v.ownBlock = some b → w.heap.size ≤ b ∨ val.ownBlock = some b) ∧
   RowAt w' (fun _=>True) (fun b=>(P0 b ∨ w.heap.size ≤ b ∨ val.ownBlock = some b) ∧ v.ownBlock ≠ some b) e k v es'
inductive CK where
 | fresh | turn | back
abbrev Tab:=List (Nat × CK)
inductive Prim where
 | op2 (op:BinOp) (bl:Bool)
 | op1 (op:UnOp)
 | cv (k:IntKind)
 | len
 | slen
 | idx (k:Nat)
 | ld (n:Option Nat)
 | fld (off:Nat)
 | six
 | ssl (lo hi:Bool)
 | app (k bytes:Nat)
 | ldx (k off:Nat) (n:Option Nat)
 | stx (k off:Nat)
 | rsl (n:Nat) (lo hi mx:Bool)
 | vsl (n:Nat) (hi:Bool)
 | vix
 | clr (k:Nat) (z:List Value)
 | aix (ln k:Nat) (ag:Bool)
def bin2 (op:BinOp) (bl:Bool):Value → Value → Option Value
 | .bool a,.bool b=>if bl then (match op with
  | .eql=>some (.bool (a == b))
  | .neq=>some (.bool (a != b))
  | _=>none) else none
 | .int k a,.int k' b=>if k = k' then (match op with
  | .add=>some (.int k (k.wrap (a + b)))
  | .sub=>some (.int k (k.wrap (a - b)))
  | .mul=>some (.int k (k.wrap (a * b)))
  | .quo=>if b = 0 then none else some (.int k (k.wrap (a.tdiv b)))
  | .rem=>if b = 0 then none else some (.int k (a.tmod b))
  | .eql=>some (.bool (a == b))
  | .neq=>some (.bool (a != b))
  | .lss=>some (.bool (a < b))
  | .leq=>some (.bool (a ≤ b))
  | .gtr=>some (.bool (a > b))
  | .geq=>some (.bool (a ≥ b))
  | _=>none) else none
 | .string a,.string b=>match op with
  | .eql=>some (.bool (a.toList == b.toList))
  | .neq=>some (.bool !(a.toList == b.toList))
  | .add=>if a.size + b.size ≤ 9223372036854775807 then some (.string (a ++ b)) else none
  | _=>none
 | _,_=>none
def un1 (op:UnOp):Value → Option Value
 | .bool a=>match op with
  | .not=>some (.bool !a)
  | _=>none
 | .int k a=>match op with
  | .neg=>some (.int k (k.wrap (0 - a)))
  | _=>none
 | _=>none
def idxOf:Option PV → Option Nat
 | some (.raw (.int _ i))=>if 0 ≤ i then some i.toNat else none
 | _=>none
def Prim.ev:Prim → List PV → Option PV
 | .op2 op bl,[.raw x,.raw y]=>(bin2 op bl x y).map .raw
 | .op1 op,[.raw x]=>(un1 op x).map .raw
 | .cv k,[.raw (.int _ n)]=>some (.raw (.int k (k.wrap n)))
 | .len,[.sl es]=>some (.raw (.int .i64 es.length))
 | .slen,[.raw (.string s)]=>some (.raw (.int .i64 s.size))
 | .idx k,[.sl es,i]=>match idxOf (some i) with
  | some n=>match es[n]? with
   | some e=>if e.length = k then some (.ref e) else none
   | none=>none
  | none=>none
 | .ld none,[.ref cs]=>cs[0]?
 | .ld (some n),[.ref cs]=>if n ≤ cs.length then some (.agg (cs.take n)) else none
 | .fld off,[.ref cs]=>some (.ref (cs.drop off))
 | .six,[.raw (.string s),i]=>match idxOf (some i) with
  | some n=>match s[n]? with
   | some b=>some (.raw (.int .u8 (b.toNat:Int)))
   | none=>none
  | none=>none
 | .ssl lo hi,.raw (.string s) :: l =>
  let a:=if lo then idxOf (l.head?) else some 0
  let b:=if hi then idxOf ((if lo then l.drop 1 else l).head?) else some s.size
  match a,b with
  | some a,some b=>if a ≤ b ∧ b ≤ s.size then some (.raw (.string (s.extract a b))) else none
  | _,_=>none
 | .app k bytes,[.sl es,.sl xs]=>if (es.length + xs.length) * bytes ≤ 140737488355328 ∧ es.length + xs.length ≤ 140737488355328 ∧ xs.all (fun x=>x.length == k) = true then some (.sl (es ++ xs)) else none
 | .ldx k off n,[.sl es,i]=>match idxOf (some i) with
  | some m=>match es[m]? with
   | some e=>if e.length = k then (match n with
    | none=>e[off]?
    | some n=>if off + n ≤ k then some (.agg ((e.drop off).take n)) else none) else none
   | none=>none
  | none=>none
 | .stx k off,.sl es :: i :: cs=>match idxOf (some i) with
  | some m=>match es[m]? with
   | some e=>if e.length = k ∧ off + cs.length ≤ k ∧ cs.all PV.flat = true then some (.sl (es.set m (e.take off ++ cs ++ e.drop (off + cs.length)))) else none
   | none=>none
  | none=>none
 | .rsl n lo hi mx,.sl es :: l=>if (mx && !hi) = true then none else
  let a:=if lo then idxOf (l.head?) else some 0
  let l1:=if lo then l.drop 1 else l
  let b:=if hi then idxOf (l1.head?) else some es.length
  let l2:=if hi then l1.drop 1 else l1
  let c:=if mx then idxOf (l2.head?) else some es.length
  match a,b,c with
  | some a,some b,some c=>if a ≤ b ∧ b ≤ c ∧ c ≤ es.length ∧ es.all (fun x=>x.length == n) = true then some (.sl ((es.take b).drop a)) else none
  | _,_,_=>none
 | .vsl n hi,.sl es :: i :: l =>
  let b:=if hi then idxOf (l.head?) else some es.length
  match idxOf (some i),b with
  | some a,some b=>if a ≤ b ∧ b ≤ es.length ∧ es.all (fun x=>x.length == n) = true then some (.tup [.raw (.int .i64 (a:Int)),.raw (.int .i64 ((b - a:Nat):Int))]) else none
  | _,_=>none
 | .vix,[a,b,i]=>match idxOf (some a),idxOf (some b),idxOf (some i) with
  | some a,some b,some i=>if i < b then some (.raw (.int .i64 ((a + i:Nat):Int))) else none
  | _,_,_=>none
 | .aix ln k ag,[.agg cs,i]=>match idxOf (some i) with
  | some m=>if m < ln then (if ag then (if m * k + k ≤ cs.length then some (.agg ((cs.drop (m * k)).take k)) else none) else cs[m * k]?) else none
  | none=>none
 | .clr k z,[.sl es,a,b]=>match idxOf (some a),idxOf (some b) with
  | some a,some b=>if a + b ≤ es.length ∧ z.length = k ∧ z.all flatV = true ∧ es.all (fun x=>x.length == k) = true then some (.sl (es.take a ++ List.replicate b (z.map pvOf) ++ es.drop (a + b))) else none
  | _,_=>none
 | _,_=>none
def Prim.sh:Prim → Sh
 | .ld (some n)=>.ag n
 | .ldx _ _ (some n)=>.ag n
 | .aix _ k true=>.ag k
 | _=>.sc
def chunk (k:Nat):Nat → List PV → List (List PV)
 | 0,_=>[]
 | n + 1,l=>l.take k :: chunk k n (l.drop k)
inductive VC where
 | call (f:FuncId) (args:List SV) (sh:RSh) (k:VC)
 | callv (fv:SV) (args:List SV) (sh:RSh) (k:VC)
 | prim (p:Prim) (args:List SV) (k:VC)
 | mk (c n:Nat) (args:List SV) (k:VC)
 | calln (f:FuncId) (e n:Nat) (args:List SV) (k:VC)
 | callt (f:FuncId) (e n:Nat) (c:SV) (args:List SV) (sh:RSh) (k:VC)
 | callb (f:FuncId) (e n:Nat) (c:SV) (args:List SV) (k:VC)
 | ite (c:SV) (a b:VC)
 | loop (vars:List SV) (k:VC)
 | again (d:Nat) (vars:List SV)
 | ret (s:SV)
 | bad
def VC.ok (P:Program) (R:PV → Prop):VC → List PV → List (List PV → Prop) → Prop
 | .call f args sh k,ρ,C=>∃ r,Fn P f (pvs ρ args) r ∧ fitsR sh r = true ∧ k.ok P R (ρ ++ [r]) C
 | .callv fv args sh k,ρ,C=>∃ r,FnV P (pv ρ fv) (pvs ρ args) r ∧ fitsR sh r = true ∧ k.ok P R (ρ ++ [r]) C
 | .prim p args k,ρ,C=>∃ r,p.ev (pvs ρ args) = some r ∧ k.ok P R (ρ ++ [r]) C
 | .mk c n args k,ρ,C=>k.ok P R (ρ ++ [.sl (chunk c n (pvs ρ args))]) C
 | .calln f e n args k,ρ,C=>∃ es,FnN P f (pvs ρ args) e n (· = .sl es) ∧ k.ok P R (ρ ++ [.sl es]) C
 | .callt f e n c args sh k,ρ,C=>∃ es es' r,pv ρ c = .sl es ∧ FnT P f e n es (pvs ρ args) (· = .tup [.sl es',r]) ∧ fitsR sh r = true ∧ k.ok P R (ρ ++ [.tup [.sl es',r]]) C
 | .callb f e n c args k,ρ,C=>∃ es es',pv ρ c = .sl es ∧ FnB P f e n es (pvs ρ args) (· = .sl es') ∧ k.ok P R (ρ ++ [.sl es']) C
 | .ite c a b,ρ,C=>∃ t:Bool,pv ρ c = .raw (.bool t) ∧ (t = true → a.ok P R ρ C) ∧ (t = false → b.ok P R ρ C)
 | .loop vars k,ρ,C=>∃ (I:List PV → Prop) (μ:List PV → Nat),I (pvs ρ vars) ∧ ∀ vs:List PV,vs.length = vars.length → I vs → k.ok P R (ρ ++ vs) ((fun us=>I us ∧ μ us < μ vs) :: C)
 | .again d vars,ρ,C=>match C[d]? with
  | some J=>J (pvs ρ vars)
  | none=>False
 | .ret s,ρ,C=>R (pv ρ s)
 | .bad,ρ,C=>False
inductive HB where
 | box (cs:List SV) (t:TypeId)
 | mp (es:List (Value × SV))
 | row (v:Nat) (e:TypeId) (k:Nat) (s:SV)
 | fro (v:Nat) (s:SV)
 | fbx (cs:List SV) (t:TypeId)
def svOf:Value → Option SV
 | .agg cs=>if cs.toList.all flatV then some (.agg (cs.toList.map .con)) else none
 | .tuple _=>none
 | v=>some (.con v)
mutual
def SV.pure:SV → Bool
 | .at _ | .con _=>true
 | .cel s _ | .ext s _=>s.pure
 | .agg l | .tup l=>SV.pures l
 | .clo _ fs cs=>SV.pures fs && SV.pures cs
 | .box _ _=>false
 | .mapp _=>false
 | .row _ _=>false
 | .elt _ _ _ _ _=>false
 | .ref l=>SV.pures l
 | .vw _ _ _ _ _=>false
def SV.pures:List SV → Bool
 | []=>true
 | s :: l=>s.pure && SV.pures l
end
def look {α:Type}:List (Nat × α) → Nat → Option α
 | [],_=>none
 | (k,x) :: l,n=>bif k == n then some x else look l n
def aggOf (P:Program) (t:TypeId):Option Bool:=match P.underlying t with
 | some (.struct _) | some (.array _ _)=>some true
 | some _=>some false
 | none=>none
def cellsOf (P:Program) (t:TypeId):Option Nat:=(P.info? t).map (·.size)
def shOf (P:Program) (t:TypeId):Option Sh:=match aggOf P t with
 | some true=>(cellsOf P t).map .ag
 | some false=>some .sc
 | none=>none
def rshOf (P:Program) (t:TypeId):Option RSh:=match P.underlying t with
 | some (.tuple ts)=>(ts.toList.mapM (shOf P)).map .many
 | _=>(shOf P t).map .one
def evalOp (tm:Nat → Option SV):Operand → Option SV
 | .tmp t=>tm t
 | .const v=>svOf v
 | .global g=>some (.con (.pointer (some ⟨g,0,none⟩)))
 | .func f=>some (.clo (.func f) [] [])
def evalOps (tm:Nat → Option SV) (l:List Operand):Option (List SV):=l.mapM (evalOp tm)
def SV.isTup:SV → Bool
 | .tup _=>true
 | _=>false
inductive Nd where
 | none
 | call (f:FuncId) (args:List SV) (sh:RSh)
 | callv (fv:SV) (args:List SV) (sh:RSh)
 | prim (p:Prim) (args:List SV)
 | mk (c n:Nat) (args:List SV)
 | calln (f:FuncId) (e n:Nat) (args:List SV)
 | callt (f:FuncId) (e n:Nat) (c:SV) (args:List SV) (sh:RSh)
 | callb (f:FuncId) (e n:Nat) (c:SV) (args:List SV)
structure Eff where
 s:SV
 h:List (Nat × HB)
 nd:Nd
def Eff.pure (s:SV):Option Eff:=some ⟨s,[],.none⟩
def Eff.prim (na:Nat) (p:Prim) (args:List SV):Option Eff:=if SV.pures args then some ⟨expand (.at na) p.sh,[],.prim p args⟩ else .none
def hread (o:Op) (args:List SV):List Nat :=
 match o,args with
 | .load _ _,.box j _ :: _=>[j]
 | .store _ _ _,.box j _ :: _=>[j]
 | .insert _ _ _ _,.mapp j :: _=>[j]
 | .lookup _ _ _ _,.mapp j :: _=>[j]
 | _,_=>[]
def fillS (place:Nat → Option (Nat × Nat)) (cells:List SV):List (Nat × SV) → Option (List SV)
 | []=>some cells
 | (i,s) :: rest =>
  match place i with
  | .none=>.none
  | some (off,size) =>
   if s.cells.length = size ∧ off + size ≤ cells.length ∧ s.isTup = false then fillS place (cells.take off ++ s.cells ++ cells.drop (off + size)) rest else .none
def placeOf (P:Program) (t:TypeId):Option (Nat → Option (Nat × Nat)):=match P.underlying t with
 | some (.struct fs)=>(fs.toList.mapM (fun f=>(P.info? f.type).map fun i=>(f.offset,i.size))).map fun l=>fun i=>l.toArray[i]?
 | some (.array _ e)=>(P.info? e).map fun ie=>fun i=>some (i * ie.size,ie.size)
 | _=>.none
def zeroS (P:Program) (t:TypeId):Option (List SV):=match P.info? t with
 | some i=>match i.zero with
  | some z=>if z.cells.toList.all flatV then some (z.cells.toList.map .con) else .none
  | .none=>.none
 | .none=>.none
def fieldOf (P:Program) (t:TypeId) (f:Nat):Option Field:=match P.underlying t with
 | some (.struct fs)=>fs[f]?
 | _=>.none
def partS (P:Program) (t:TypeId) (l:List SV) (off:Nat):Option SV:=match aggOf P t with
 | some true=>(match cellsOf P t with
  | some n=>if off + n ≤ l.length then some (.agg ((l.drop off).take n)) else .none
  | .none=>.none)
 | some false=>l[off]?
 | none=>none
def zerosS (z:Array Value) (n:Nat):List SV:=(List.range n).map fun i=>.con (z.toList.getD (i % z.size) (.bool false))
def conBin (op:BinOp):SV → SV → Option Value
 | .con (.int k a),.con (.int k' b)=>bin2 op false (.int k a) (.int k' b)
 | _,_=>none
def mapFind (k:IntKind) (n:Int):List (Value × SV) → Option (Option SV)
 | []=>some none
 | (.int k' n',s) :: l=>if k = k' then (if n = n' then some (some s) else mapFind k n l) else none
 | _ :: _=>none
def symOp (P:Program) (h:List (Option HB)) (na j:Nat) (o:Oper) (args:List SV):Option Eff :=
 match o.op,args with
 | .move _,[s]=>Eff.pure s
 | .assign _,[s]=>Eff.pure s
 | .pick _ _ _,[.con (.bool b),x,y]=>Eff.pure (if b then x else y)
 | .alloc t,[]=>(zeroS P t).map fun z=>⟨.box j 0,[(j,.box z t)],.none⟩
 | .box t _,[s]=>if s.isTup = true then .none else some ⟨.box j 0,[(j,.box s.cells t)],.none⟩
 | .build t parts,args=>match zeroS P t,placeOf P t with
  | some z,some pl=>if args.length = parts.size then (fillS pl z ((parts.toList.map (·.1)).zip args)).bind fun l=>Eff.pure (.agg l) else .none
  | _,_=>.none
 | .buildSlice t n parts,args=>match P.underlying t with
  | some (.slice e)=>match P.info? e with
   | some ie=>match ie.zero with
    | some z=>if args.length = parts.size ∧ n * ie.size ≤ 1000000 ∧ z.cells.toList.all flatV = true then
     (if n = 0 ∧ args.length = 0 then (if ie.size = 0 then .none else some ⟨.row j j,[(j,.row j e ie.size (.at na))],.mk ie.size 0 []⟩)
     else if n * ie.size = 0 ∨ z.cells.size = 0 then .none
     else (fillS (fun i=>some (i * ie.size,ie.size)) (zerosS z.cells (n * ie.size)) ((parts.toList.map (·.1)).zip args)).bind fun l=>if SV.pures l then some ⟨.row j j,[(j,.row j e ie.size (.at na))],.mk ie.size n l⟩ else .none) else .none
    | .none=>.none
   | .none=>.none
  | _=>.none
 | .load t _,[.box _ off]=>match h with
  | [some (.box cs _)]=>(partS P t cs off).bind Eff.pure
  | [some (.fbx cs _)]=>(partS P t cs off).bind Eff.pure
  | _=>.none
 | .load t _,[s]=>match aggOf P t with
  | some true=>(cellsOf P t).bind fun n=>Eff.prim na (.ld (some n)) [s]
  | some false=>Eff.prim na (.ld .none) [s]
  | .none=>.none
 | .store t _ _,[.box j off,v]=>match h with
  | [some (.box cs t')]=>if cellsOf P t = some v.cells.length ∧ off + v.cells.length ≤ cs.length ∧ v.isTup = false then
   some ⟨.tup [],[(j,.box (cs.take off ++ v.cells ++ cs.drop (off + v.cells.length)) t')],.none⟩ else .none
  | _=>.none
 | .makeMap _ .none,[]=>some ⟨.mapp j,[(j,.mp [])],.none⟩
 | .insert t _ _ _,[.mapp j,.con (.int k n),v]=>match h,P.underlying t with
  | [some (.mp es)],some (.map kt _)=>match P.underlying kt with
   | some (.int _)=>match mapFind k n es with
    | some .none=>some ⟨.tup [],[(j,.mp (es ++ [(.int k n,v)]))],.none⟩
    | _=>.none
   | _=>.none
  | _,_=>.none
 | .lookup t _ _ false,[.mapp _,.con (.int k n)]=>match h,P.underlying t with
  | [some (.mp es)],some (.map kt _)=>match P.underlying kt with
   | some (.int _)=>match mapFind k n es with
    | some (some s)=>Eff.pure s
    | _=>.none
   | _=>.none
  | _,_=>.none
 | .fieldAddr t _ f,[s]=>match fieldOf P t f with
  | some fl=>if (cellsOf P fl.type).any (· != 0) then (match s with
   | .box j off=>Eff.pure (.box j (off + fl.offset))
   | s=>Eff.prim na (.fld fl.offset) [s]) else .none
  | .none=>.none
 | .field t _ f,[.agg l]=>match fieldOf P t f with
  | some fl=>(partS P fl.type l fl.offset).bind Eff.pure
  | .none=>.none
 | .indexAddr t _ _,[s,i]=>match P.underlying t,s,i with
  | some (.array len e),.box j off,.con (.int _ i)=>match cellsOf P e with
   | some n=>if 0 ≤ i ∧ i < len then Eff.pure (.box j (off + i.toNat * n)) else .none
   | .none=>.none
  | some (.slice e),s,i=>(cellsOf P e).bind fun n=>Eff.prim na (.idx n) [s,i]
  | _,_,_=>.none
 | .index t _ _,[s,i]=>match P.underlying t,s,i with
  | some (.array len e),.agg l,.con (.int _ i)=>match cellsOf P e with
   | some n=>if 0 ≤ i ∧ i < len then (partS P e l (i.toNat * n)).bind Eff.pure else .none
   | .none=>.none
  | some (.array len e),.agg l,i=>match cellsOf P e,aggOf P e with
   | some n,some g=>Eff.prim na (.aix len n g) [.agg l,i]
   | _,_=>.none
  | some .string,s,i=>Eff.prim na .six [s,i]
  | _,_,_=>.none
 | .extract _ i,[.tup l]=>l[i]?.bind Eff.pure
 | .binOp op t _ _ _,[x,y]=>match conBin op x y with
  | some u=>Eff.pure (.con u)
  | .none=>match op with
   | .shl | .shr=>.none
   | op=>Eff.prim na (.op2 op (P.underlying t matches some .bool)) [x,y]
 | .unOp op _ _,[x]=>Eff.prim na (.op1 op) [x]
 | .convert src dst _,[x]=>match P.underlying src,P.underlying dst with
  | some (.int _),some (.int k)=>Eff.prim na (.cv k) [x]
  | _,_=>.none
 | .makeFunc fn first captured,args=>if args.length = first.size + captured.size then Eff.pure (.clo fn (args.take first.size) (args.drop first.size)) else .none
 | .slice t _ lo hi .none,args=>match P.underlying t with
  | some .string=>if args.length = 1 + lo.toList.length + hi.toList.length then Eff.prim na (.ssl lo.isSome hi.isSome) args else .none
  | some (.slice el)=>if args.length = 1 + lo.toList.length + hi.toList.length then (cellsOf P el).bind fun n=>Eff.prim na (.rsl n lo.isSome hi.isSome false) args else .none
  | _=>.none
 | .slice t _ lo (some hi) (some mx),args=>match P.underlying t with
  | some (.slice el)=>if args.length = 3 + lo.toList.length then (cellsOf P el).bind fun n=>Eff.prim na (.rsl n lo.isSome true true) args else .none
  | _=>.none
 | .nilCheck _,[.box j off]=>Eff.pure (.box j off)
 | .call c,args=>match c.callee with
  | .builtin .len=>match c.argTypes[0]?,args with
   | some t,[x]=>match P.underlying t with
    | some (.slice _)=>Eff.prim na .len [x]
    | some .string=>Eff.prim na .slen [x]
    | _=>.none
   | _,_=>.none
  | .value _=>match rshOf P o.type with
   | some sh=>match args with
    | .clo (.func f) fs cs :: as=>if SV.pures (fs ++ as ++ cs) && as.length == c.args.size then some ⟨expandR (.at na) sh,[],.call f (fs ++ as ++ cs) sh⟩ else .none
    | s :: as=>if SV.pure s && SV.pures as && as.length == c.args.size then some ⟨expandR (.at na) sh,[],.callv s as sh⟩ else .none
    | []=>.none
   | .none=>.none
  | _=>.none
 | _,_=>.none
def rawT (P:Program) (t:TypeId):Bool:=match P.underlying t with
 | some (.int _) | some .bool | some .string=>true
 | _=>false
def rawSh (P:Program) (t:TypeId):Option RSh:=match P.underlying t with
 | some (.tuple ts)=>if ts.toList.all (rawT P) then some (.many (ts.toList.map fun _=>.rw)) else none
 | _=>if rawT P t then some (.one .rw) else none
inductive Rule where
 | none | melt | borrow (sh:RSh) | fresh | turn | back
def callRule (P:Program) (G:Tab) (c:Call) (t:TypeId):Rule :=
 let std:Rule:=match rawSh P t with
  | some sh=>.borrow sh
  | .none=>.melt
 match c.callee with
 | .value (.func f)=>match look G f with
  | some .fresh=>.fresh
  | some .turn=>.turn
  | some .back=>.back
  | .none=>std
 | .value _=>std
 | _=>.none
def ruleOf (P:Program) (G:Tab) (o:Oper):Rule:=match o.op with
 | .call c=>callRule P G c o.type
 | .buildSlice _ _ _=>.melt
 | .slice _ _ _ _ (some _)=>.melt
 | _=>.none
mutual
def SV.rows:SV → List Nat
 | .row j _=>[j]
 | .box j _=>[j]
 | .vw j _ _ _ _=>[j]
 | .agg l | .tup l=>SV.rowss l
 | .clo _ fs cs=>SV.rowss fs ++ SV.rowss cs
 | _=>[]
def SV.rowss:List SV → List Nat
 | []=>[]
 | s :: l=>s.rows ++ SV.rowss l
end
def rowOf (v:Nat):Option HB → Option SV
 | some (.row v' _ _ c)=>if v = v' then some c else none
 | some (.fro v' c)=>if v = v' then some c else none
 | _=>none
def boxOf:Option HB → Option (List SV)
 | some (.box cs _)=>if SV.pures cs then some cs else none
 | some (.fbx cs _)=>if SV.pures cs then some cs else none
 | _=>none
mutual
def SV.melt (h:Nat → Option HB):SV → SV
 | .row j v=>(rowOf v (h j)).getD (.row j v)
 | .box j off=>match boxOf (h j) with
  | some cs=>.ref (cs.drop off)
  | none=>.box j off
 | .agg l=>.agg (SV.melts h l)
 | .tup l=>.tup (SV.melts h l)
 | .clo fn fs cs=>.clo fn (SV.melts h fs) (SV.melts h cs)
 | s=>s
def SV.melts (h:Nat → Option HB):List SV → List SV
 | []=>[]
 | s :: l=>s.melt h :: SV.melts h l
end
def hOf (rs:List Nat) (hs:List (Option HB)):Nat → Option HB:=fun j=>(look (rs.zip hs) j).join
def HB.frozen:HB → HB
 | .row v _ _ c=>.fro v c
 | b=>b
def HB.frozenB:HB → HB
 | .row v _ _ c=>.fro v c
 | .box cs t=>.fbx cs t
 | b=>b
def HB.live:HB → Bool
 | .row _ _ _ _=>true
 | .box cs _=>SV.pures cs
 | _=>false
def frz:List (Nat × Option HB) → List (Nat × HB)
 | []=>[]
 | (j,some b) :: l=>if b.live then (j,b.frozenB) :: frz l else frz l
 | (_,none) :: l=>frz l
def isAppend:Op → Bool
 | .call c=>(match c.callee with
  | .builtin .append=>true
  | _=>false)
 | _=>false
def rowish (o:Op) (args:List SV):Bool:=isAppend o || match o,args with
 | .indexAddr _ _ _,.row _ _ :: _=>true
 | .indexAddr _ _ _,.elt _ _ _ _ _ :: _=>true
 | .indexAddr _ _ _,.vw _ _ _ _ _ :: _=>true
 | .fieldAddr _ _ _,.elt _ _ _ _ _ :: _=>true
 | .load _ _,.elt _ _ _ _ _ :: _=>true
 | .store _ _ _,.elt _ _ _ _ _ :: _=>true
 | .slice _ _ _ _ .none,.row _ _ :: _=>true
 | .call _,[.row _ _]=>true
 | .call _,[.vw _ _ _ _ _]=>true
 | _,_=>false
def hreadR (o:Op) (args:List SV):List Nat:=if isAppend o then SV.rowss args else match o,args with
 | .indexAddr _ _ _,.row j _ :: _=>[j]
 | .indexAddr _ _ _,.vw j _ _ _ _ :: _=>[j]
 | .load _ _,.elt j _ _ _ _ :: _=>[j]
 | .store _ _ _,.elt j _ _ _ _ :: _=>[j]
 | .slice _ _ _ _ .none,.row j _ :: _=>[j]
 | .call _,[.row j _]=>[j]
 | .call _,[.vw j _ _ _ _]=>[j]
 | _,_=>[]
def hread' (P:Program) (G:Tab) (o:Oper) (args:List SV):List Nat:=match ruleOf P G o with
 | .none=>if rowish o.op args then hreadR o.op args else hread o.op args
 | _=>SV.rowss args
def appS (e:TypeId) (k j:Nat):SV → List (Option HB) → Option (Nat × SV × List (Option HB))
 | .row j0 v,some (.row v' e' k' c) :: h=>if v = v' ∧ e = e' ∧ k = k' then some (j0,c,h) else none
 | .con (.slice none 0 0),h=>some (j,.con (.slice none 0 0),h)
 | _,_=>none
def appX (e:TypeId) (k j0:Nat):SV → List (Option HB) → Option SV
 | .row j v,[some (.row v' e' k' c)]=>if v = v' ∧ e = e' ∧ k = k' ∧ j ≠ j0 then some c else none
 | .row _ v,[some (.fro v' c)]=>if v = v' then some c else none
 | .row _ _,_=>none
 | s,[]=>if s.one then some s else none
 | _,_=>none
def symRow (P:Program) (h:List (Option HB)) (na j:Nat) (o:Oper) (args:List SV):Option Eff :=
 match o.op,args with
 | .indexAddr t _ _,[.row jr v,i]=>match P.underlying t,rowOf v (h.headD none) with
  | some (.slice e),some c=>(cellsOf P e).bind fun n=>if SV.pures [c,i] then some ⟨.elt jr v n i 0,[],.prim (.idx n) [c,i]⟩ else .none
  | _,_=>.none
 | .indexAddr t _ _,[.elt jr v k i off,.con (.int _ x)]=>match P.underlying t with
  | some (.array len e)=>match cellsOf P e with
   | some n=>if 0 ≤ x ∧ x < len then Eff.pure (.elt jr v k i (off + x.toNat * n)) else .none
   | .none=>.none
  | _=>.none
 | .fieldAddr t _ f,[.elt jr v k i off]=>match fieldOf P t f with
  | some fl=>if (cellsOf P fl.type).any (· != 0) then Eff.pure (.elt jr v k i (off + fl.offset)) else .none
  | .none=>.none
 | .load t _,[.elt _ v k i off]=>match rowOf v (h.headD none) with
  | some c=>match aggOf P t with
   | some true=>(cellsOf P t).bind fun n=>Eff.prim na (.ldx k off (some n)) [c,i]
   | some false=>Eff.prim na (.ldx k off .none) [c,i]
   | .none=>.none
  | .none=>.none
 | .indexAddr t _ _,[.vw jr v k lo len,i]=>match P.underlying t,h with
  | some (.slice el),[some (.row v' _ k' _)]=>if v = v' ∧ k = k' ∧ cellsOf P el = some k ∧ SV.pures [lo,len,i] = true then some ⟨.elt jr v k (.at na) 0,[],.prim .vix [lo,len,i]⟩ else .none
  | _,_=>.none
 | .slice t _ lo hi .none,.row jr v :: l=>match P.underlying t,h with
  | some (.slice el),[some (.fro v' c)]=>if v = v' ∧ l.length = lo.toList.length + hi.toList.length then (cellsOf P el).bind fun n=>Eff.prim na (.rsl n lo.isSome hi.isSome false) (c :: l) else .none
  | some (.slice el),[some (.row v' e k c)]=>if v = v' ∧ cellsOf P el = some k ∧ l.length = lo.toList.length + hi.toList.length ∧ SV.pures (c :: l) = true then (match lo,hi with
   | none,some _=>some ⟨.row jr j,[(jr,.row j e k (.at na))],.prim (.rsl k false true false) (c :: l)⟩
   | some _,hi=>some ⟨.vw jr v k (.ext (.at na) 0) (.ext (.at na) 1),[],.prim (.vsl k hi.isSome) (c :: l)⟩
   | none,none=>.none) else .none
  | _,_=>.none
 | .store t _ _,[.elt jr v k i off,x]=>match h with
  | [some (.row v' e k' c)]=>if v = v' ∧ k = k' ∧ cellsOf P t = some x.cells.length ∧ x.isTup = false ∧ SV.pures (c :: i :: x.cells) = true then
   some ⟨.tup [],[(jr,.row v e k (.at na))],.prim (.stx k off) (c :: i :: x.cells)⟩ else .none
  | _=>.none
 | .call c,[.row _ v]=>match c.callee,c.argTypes[0]?,rowOf v (h.headD none) with
  | .builtin .len,some t,some c=>match P.underlying t with
   | some (.slice _)=>Eff.prim na .len [c]
   | _=>.none
  | _,_,_=>.none
 | .call c,[.vw jr v k lo len]=>match c.callee,c.argTypes[0]? with
  | .builtin .len,some t=>match P.underlying t with
   | some (.slice _)=>Eff.pure len
   | _=>.none
  | .builtin .clear,some t=>match P.underlying t,h with
   | some (.slice el),[some (.row v' e k' c)]=>match zeroS P el,P.info? el with
    | some _,some ie=>match ie.zero with
     | some z=>if v = v' ∧ k = k' ∧ z.cells.size = k ∧ SV.pures [c,lo,len] = true then some ⟨.tup [],[(jr,.row v e k (.at na))],.prim (.clr k z.cells.toList) [c,lo,len]⟩ else .none
     | .none=>.none
    | _,_=>.none
   | _,_=>.none
  | _,_=>.none
 | .call c,[s,x]=>match c.callee,c.argTypes.toList with
  | .builtin .append,[t,t']=>if t = t' then (match P.underlying t with
   | some (.slice e)=>match P.info? e with
    | some ie=>match ie.zero with
     | some z=>if z.cells.size = ie.size ∧ 0 < ie.size then (match appS e ie.size j s h with
      | some (j0,c,h')=>match appX e ie.size j0 x h' with
       | some cx=>if SV.pures [c,cx] then some ⟨.row j0 j,[(j0,.row j e ie.size (.at na))],.prim (.app ie.size ie.bytes) [c,cx]⟩ else .none
       | .none=>.none
      | .none=>.none) else .none
     | .none=>.none
    | .none=>.none
   | _=>.none) else .none
  | _,_=>.none
 | _,_=>.none
def symFresh (P:Program) (na j:Nat) (o:Oper) (args:List SV):Option Eff:=match o.op,args with
 | .call c,.clo (.func f) fs cs :: as=>match P.underlying o.type with
  | some (.slice e)=>(cellsOf P e).bind fun k=>if SV.pures (fs ++ as ++ cs) && as.length == c.args.size then some ⟨.row j j,[(j,.row j e k (.at na))],.calln f e k (fs ++ as ++ cs)⟩ else none
  | _=>none
 | _,_=>none
def symOwn (P:Program) (back:Bool) (h:List (Option HB)) (na j:Nat) (o:Oper) (args:List SV):Option Eff:=match o.op,args,h with
 | .call c,.clo (.func f) [] [] :: .row jr v :: as,some (.row v' e k x) :: h' =>
  let as':=SV.melts (hOf (SV.rowss as) h') as
  if v = v' ∧ (SV.rowss as).contains jr = false ∧ SV.pures (x :: as') = true ∧ as.length + 1 = c.args.size then
   (if back then some ⟨.row jr j,(jr,.row j e k (.at na)) :: frz ((SV.rowss as).zip h'),.callb f e k x as'⟩
   else match rshOf P o.type with
    | some sh=>some ⟨expandR (.ext (.at na) 1) sh,(jr,.row v e k (.ext (.at na) 0)) :: frz ((SV.rowss as).zip h'),.callt f e k x as' sh⟩
    | none=>none) else none
 | _,_,_=>none
def symLook (na:Nat) (sh:RSh) (o:Oper) (args:List SV):Option Eff:=match o.op,args with
 | .call c,.clo (.func f) fs cs :: as=>if SV.pures (fs ++ as ++ cs) && as.length == c.args.size then some ⟨expandR (.at na) sh,[],.call f (fs ++ as ++ cs) sh⟩ else none
 | .call c,s :: as=>if SV.pure s && SV.pures as && as.length == c.args.size then some ⟨expandR (.at na) sh,[],.callv s as sh⟩ else none
 | _,_=>none
def symOp' (P:Program) (G:Tab) (h:List (Option HB)) (na j:Nat) (o:Oper) (args:List SV):Option Eff :=
 match ruleOf P G o with
 | .none=>if rowish o.op args then symRow P h na j o args else symOp P h na j o args
 | .melt=>(symOp P [] na j o (SV.melts (hOf (SV.rowss args) h) args)).map fun e=>⟨e.s,e.h ++ frz ((SV.rowss args).zip h),e.nd⟩
 | .fresh=>(symFresh P na j o (SV.melts (hOf (SV.rowss args) h) args)).map fun e=>⟨e.s,e.h ++ frz ((SV.rowss args).zip h),e.nd⟩
 | .borrow sh=>symLook na sh o (SV.melts (hOf (SV.rowss args) h) args)
 | .turn=>symOwn P false h na j o args
 | .back=>symOwn P true h na j o args
structure St where
 tm:List (Nat × SV)
 hp:List (Nat × HB)
 na:Nat
 nj:Nat
 nl:Nat
mutual
def SV.wf (n j:Nat):SV → Bool
 | .at k=>k < n
 | .con _=>true
 | .cel s _ | .ext s _=>s.wf n j
 | .agg l | .tup l=>SV.wfs n j l
 | .clo _ fs cs=>SV.wfs n j fs && SV.wfs n j cs
 | .box i _=>i < j
 | .mapp i=>i < j
 | .row i v=>i < j && v < j
 | .elt i v _ x _=>i < j && v < j && x.wf n j
 | .ref l=>SV.wfs n j l
 | .vw i v _ a b=>i < j && v < j && a.wf n j && b.wf n j
def SV.wfs (n j:Nat):List SV → Bool
 | []=>true
 | s :: l=>s.wf n j && SV.wfs n j l
end
def Nd.wf (n:Nat):Nd → Bool
 | .none=>true
 | .call _ args _ | .prim _ args | .mk _ _ args | .calln _ _ _ args=>SV.wfs n 0 args
 | .callt _ _ _ c args _ | .callb _ _ _ c args=>c.wf n 0 && SV.wfs n 0 args
 | .callv fv args _=>fv.wf n 0 && SV.wfs n 0 args
def Nd.vc:Nd → VC → VC
 | .none,k=>k
 | .call f args sh,k=>.call f args sh k
 | .callv fv args sh,k=>.callv fv args sh k
 | .prim p args,k=>.prim p args k
 | .mk c n args,k=>.mk c n args k
 | .calln f e n args,k=>.calln f e n args k
 | .callt f e n c args sh,k=>.callt f e n c args sh k
 | .callb f e n c args,k=>.callb f e n c args k
def Nd.new:Nd → Nat
 | .none=>0
 | _=>1
structure TE where
 d:Option Nat
 s:SV
 h:List (Nat × HB)
 rd:List Nat
def looksAt (ops : List Oper) (o : Oper) : List Nat :=
  (o.op.operands.toList.filterMap fun | .tmp t => some t | _ => none) ++
  (match o.guard with
   | some (g, _) => ((ops[g]?).bind (·.dst)).toList
   | none => [])
def masks (ops:List Oper):List Nat :=
 ops.foldl (init:=[]) fun acc o=>acc ++ [o.after.foldl (fun s e=>if Region.binds .any e then s ||| 2 ^ e.on ||| acc.getD e.on 0 else s) 0]
def apartTE (la lb : List Nat) (a b : TE) : Bool :=
  (match a.d with
   | some d => !lb.contains d && (b.d != some d)
   | none => true) &&
  (match b.d with
   | some d => !la.contains d
   | none => true) &&
  (a.h.all fun x => !b.rd.contains x.1 && b.h.all fun y => x.1 != y.1) &&
  (b.h.all fun y => !a.rd.contains y.1)
def ordered (ops : List Oper) (tr : List TE) : Bool :=
  let ms := masks ops
  (ops.zipIdx.all fun (o, i) => o.after.all fun e => !Region.binds .any e || e.on < i) && (List.range ops.length).all fun k => (List.range k).all fun i =>
    (match ops[i]?, ops[k]?, tr[i]?, tr[k]?, ms[k]? with
     | some oi, some ok, some a, some b, some m => m.testBit i || apartTE (looksAt ops oi) (looksAt ops ok) a b
     | _, _, _, _, _ => false)
inductive Want where
 | yes | no | ask (t:Nat) (s:SV) (want:Bool) | bad
def wantOf (ops:List Oper) (tm:Nat → Option SV) (o:Oper):Want :=
 match o.guard with
 | none=>.yes
 | some (g,want)=>match (ops[g]?).bind (·.dst) with
  | some t=>match tm t with
   | some (.con (.bool b))=>if b == want then .yes else .no
   | some (.tup [])=>.no
   | some s=>if s.one && s.pure then .ask t s want else .bad
   | none=>.bad
  | none=>.bad
def pickOf (tm:Nat → Option SV) (o:Op):Option (Nat × SV) :=
 match o with
 | .pick (.tmp t) _ _=>match tm t with
  | some (.con (.bool _))=>none
  | some s=>if s.one && s.pure then some (t,s) else none
  | none=>none
 | _=>none
def regVC (P:Program) (G:Tab) (ntmps:Nat) (ops:List Oper) (draw:Bool) (nj0:Nat) (K:St → VC):List Oper → Nat → St → List TE → VC
 | [],i,st,tr=>if draw && !ordered ops tr then .bad else K { st with nj:=nj0 + i }
 | o :: rest,i,st,tr =>
  let skip (st:St):VC:=match o.dst with
   | some d=>if d < ntmps then regVC P G ntmps ops draw nj0 K rest (i + 1) { st with tm:=(d,.tup []) :: st.tm } (tr ++ [⟨o.dst,.tup [],[],[]⟩]) else .bad
   | none=>regVC P G ntmps ops draw nj0 K rest (i + 1) st (tr ++ [⟨none,.tup [],[],[]⟩])
  let run' (st:St):VC:=match evalOps (look st.tm) o.op.operands.toList with
   | none=>.bad
   | some args=>match symOp' P G ((hread' P G o args).map (look st.hp)) st.na (nj0 + i) o args with
    | none=>.bad
    | some e=>if e.nd.wf st.na then
     let hp:=e.h ++ st.hp
     match o.dst with
     | some d=>if d < ntmps then e.nd.vc (regVC P G ntmps ops draw nj0 K rest (i + 1) { tm:=(d,e.s) :: st.tm,hp:=hp,na:=st.na + e.nd.new,nj:=st.nj,nl:=st.nl } (tr ++ [⟨o.dst,e.s,e.h,hread' P G o args⟩])) else .bad
     | none=>e.nd.vc (regVC P G ntmps ops draw nj0 K rest (i + 1) { tm:=st.tm,hp:=hp,na:=st.na + e.nd.new,nj:=st.nj,nl:=st.nl } (tr ++ [⟨none,e.s,e.h,hread' P G o args⟩]))
     else .bad
  let run (st:St):VC:=match pickOf (look st.tm) o.op with
   | none=>run' st
   | some (t,s)=>.ite s (run' { st with tm:=(t,.con (.bool true)) :: st.tm }) (run' { st with tm:=(t,.con (.bool false)) :: st.tm })
  match wantOf ops (look st.tm) o with
  | .yes=>run st
  | .no=>skip st
  | .ask t s want =>
   .ite s ((if true == want then run else skip) { st with tm:=(t,.con (.bool true)) :: st.tm })
    ((if false == want then run else skip) { st with tm:=(t,.con (.bool false)) :: st.tm })
  | .bad=>.bad
inductive Pl where
 | t (n:Nat)
 | c (j off:Nat)
def Pl.same:Pl → Pl → Bool
 | .t n,.t m=>n == m
 | .c j o,.c j' o'=>j == j' && o == o'
 | _,_=>false
structure Ann where
 ts:List Nat
 cs:List (Nat × Nat)
 un:Nat:=0
 rs:List (Pl × TypeId):=[]
 fz:List Nat:=[]
 ws:List Nat:=[]
structure RowT where
 pl:Pl
 j:Nat
 e:TypeId
 k:Nat
structure LoopAt where
 lev:Nat
 kept:List (Nat × SV)
 hp:List (Nat × HB)
 ann:Ann
 rows:List RowT
 nj1:Nat
 shs:List Sh
inductive It where
 | code (c:Code)
 | blk (id:Nat)
 | lp (l:LoopAt)
 | un (b:Code) (n:Nat)
 | scp
def dropTo (id:Nat):List It → Option (List It)
 | .blk i :: k=>if i == id then some k else dropTo id k
 | _ :: k=>dropTo id k
 | []=>none
def writes:Code → List Nat
 | .region _ ops _=>ops.toList.filterMap (·.dst)
 | .seq a b=>writes a ++ writes b
 | .cond _ a b=>writes a ++ writes b
 | .block _ b=>writes b
 | .loop b=>writes b
 | .scope b=>writes b
 | _=>[]
def firstReg:Code → Option Nat
 | .region id _ _=>some id
 | .seq a b=>(firstReg a).orElse fun _=>firstReg b
 | .cond _ a b=>(firstReg a).orElse fun _=>firstReg b
 | .block _ b=>firstReg b
 | .loop b=>firstReg b
 | .scope b=>firstReg b
 | _=>none
def annOf (b:Code) (anns:List (Nat × Ann)):Ann:=((firstReg b).bind (look anns)).getD ⟨[],[],0,[],[],[]⟩
def headCells (j:Nat) (cs:List SV):List (Nat × Nat) → Nat → List SV
 | [],_=>cs
 | (j',off) :: l,n=>headCells j (if j' == j then cs.set off (.at n) else cs) l (n + 1)
def rowCells (j:Nat) (cs:List SV):List RowT → Nat → List SV
 | [],_=>cs
 | r :: l,v=>rowCells j (match r.pl with
  | .c j' off=>if j' == j then cs.set off (.row r.j v) else cs
  | .t _=>cs) l (v + 1)
def rowIx (j:Nat):List RowT → Option Nat
 | []=>none
 | r :: l=>if r.j == j then some 0 else (rowIx j l).map (· + 1)
def ixOf (j:Nat):List Nat → Option Nat
 | []=>none
 | i :: l=>if i == j then some 0 else (ixOf j l).map (· + 1)
def plIx (p:Pl):List RowT → Option Nat
 | []=>none
 | r :: l=>if r.pl.same p then some 0 else (plIx p l).map (· + 1)
def headHp (hp:List (Nat × HB)) (ann:Ann) (rows:List RowT) (n nj1:Nat):List (Nat × HB) :=
 hp.map fun
  | (j,.box cs t)=>(j,.box (rowCells j (headCells j cs ann.cs n) rows nj1) t)
  | (j,.mp es)=>(j,.mp es)
  | (j,.row v e k s)=>(match rowIx j rows with
   | some x=>(j,.row (nj1 + x) e k (.at (n + ann.cs.length + x)))
   | none=>(match ixOf j ann.ws with
    | some x=>(j,.row v e k (.at (n + ann.cs.length + rows.length + x)))
    | none=>(j,.row v e k s)))
  | (j,.fro v s)=>(j,.fro v s)
  | (j,.fbx cs t)=>(j,.fbx cs t)
def posOf (q:Nat × Nat):List (Nat × Nat) → Option Nat
 | []=>none
 | p :: l=>if p.1 == q.1 && p.2 == q.2 then some 0 else (posOf q l).map (· + 1)
def headOk (na:Nat) (l:LoopAt):Bool :=
 (l.kept.all fun (t,s)=>s.wf na l.nj1) &&
 (l.hp.all fun (j,b)=>decide (j < l.nj1) && match b with
  | .box cs t=>cs.zipIdx.all fun (s,i)=>match posOf (j,i) l.ann.cs with
   | some x=>s.same (.at (na + l.ann.ts.length + x))
   | none=>match plIx (.c j i) l.rows with
    | some x=>(match l.rows[x]? with
     | some r=>s.same (.row r.j (l.nj1 + x))
     | none=>false)
    | none=>s.wf na l.nj1
  | .mp es=>es.all fun (_,s)=>s.wf na l.nj1
  | .row v e k s=>(match rowIx j l.rows with
   | some x=>(match l.rows[x]? with
    | some r=>v == l.nj1 + x && e == r.e && k == r.k && s.same (.at (na + l.ann.ts.length + l.ann.cs.length + x))
    | none=>false)
   | none=>(match ixOf j l.ann.ws with
    | some x=>decide (v < l.nj1) && s.same (.at (na + l.ann.ts.length + l.ann.cs.length + l.rows.length + x))
    | none=>false))
  | .fro v s=>decide (v < l.nj1) && s.wf na l.nj1 && !s.isNil
  | .fbx cs _=>cs.all fun s=>s.wf na l.nj1)
def cellAt (hp:List (Nat × HB)) (p:Nat × Nat):Option SV:=match look hp p.1 with
 | some (.box cs _)=>cs[p.2]?
 | _=>none
def getPl (st:St):Pl → Option SV
 | .t n=>look st.tm n
 | .c j off=>cellAt st.hp (j,off)
def setPl (st:St) (e:TypeId) (k:Nat):Pl → Option St
 | .t n=>some { tm:=(n,.row st.nj st.nj) :: st.tm,hp:=(st.nj,.row st.nj e k (.at st.na)) :: st.hp,na:=st.na + 1,nj:=st.nj + 1,nl:=st.nl }
 | .c j off=>match look st.hp j with
  | some (.box cs t)=>some { tm:=st.tm,hp:=(j,.box (cs.set off (.row st.nj st.nj)) t) :: (st.nj,.row st.nj e k (.at st.na)) :: st.hp,na:=st.na + 1,nj:=st.nj + 1,nl:=st.nl }
  | _=>none
def adopt (P:Program) (K:St → VC):List (Pl × TypeId) → St → VC
 | [],st=>K st
 | (pl,e) :: l,st=>match getPl st pl with
  | some (.row _ _)=>adopt P K l st
  | some s=>if s.isNil then (match cellsOf P e with
   | some k=>if k = 0 then .bad else match setPl st e k pl with
    | some st'=>.mk k 0 [] (adopt P K l st')
    | none=>.bad
   | none=>.bad) else .bad
  | none=>.bad
def rowNow (st:St) (r:RowT):Option (Nat × SV):=match getPl st r.pl with
 | some (.row j v)=>(match look st.hp j with
  | some (.row v' e k c)=>if v = v' ∧ e = r.e ∧ k = r.k then some (v,c) else none
  | _=>none)
 | _=>none
def rowJ (st:St) (r:RowT):Option Nat:=match getPl st r.pl with
 | some (.row j _)=>some j
 | _=>none
def rowsOk (nj1:Nat) (st:St) (rows:List RowT):Bool:=(List.range rows.length).all fun x=>match rows[x]? with
 | some r=>(match rowJ st r with
  | some j=>(j == r.j || decide (nj1 ≤ j)) && ((List.range x).all fun y=>match rows[y]? with
   | some r'=>(match rowJ st r' with
    | some j'=>j' != j
    | none=>false)
   | none=>false)
  | none=>false)
 | none=>false
def wsNow (st:St) (j:Nat):Option SV:=match look st.hp j with
 | some (.row _ _ _ c)=>some c
 | _=>none
def rowTs (st:St):List (Pl × TypeId) → Option (List RowT)
 | []=>some []
 | (pl,e) :: l=>match getPl st pl with
  | some (.row j _)=>(match look st.hp j with
   | some (.row _ _ k _)=>(rowTs st l).map (⟨pl,j,e,k⟩ :: ·)
   | _=>none)
  | _=>none
def SV.shape:SV → Sh
 | .agg l=>.ag l.length
 | _=>.sc
def Sh.same:Sh → Sh → Bool
 | .sc,.sc=>true
 | .rw,.rw=>true
 | .ag n,.ag m=>n == m
 | _,_=>false
def shsSame:List Sh → List Sh → Bool
 | [],[]=>true
 | a :: l,b :: m=>a.same b && shsSame l m
 | _,_=>false
def froOf (h:Nat → Option HB) (j:Nat):Option HB:=match h j with
 | some (.fro v c)=>some (.fro v c)
 | some (.fbx cs t)=>some (.fbx cs t)
 | _=>none
def varsOf (st:St) (ann:Ann) (rows:List RowT):Option (List SV) :=
 match ann.ts.mapM (look st.tm),ann.cs.mapM (cellAt st.hp),rows.mapM (rowNow st),ann.ws.mapM (wsNow st) with
 | some a,some b,some c,some d=>if (SV.melts (froOf (look st.hp)) a).all (fun s=>!s.isTup && s.pure) && (b ++ c.map (·.2) ++ d).all (fun s=>s.one && s.pure) then some (SV.melts (froOf (look st.hp)) a ++ (b ++ c.map (·.2) ++ d)) else none
 | _,_,_,_=>none
def dedup {α:Type}:List (Nat × α) → List (Nat × α)
 | []=>[]
 | (k,x) :: l=>(k,x) :: (dedup l).filter (fun p=>p.1 != k)
def frzList (rs:List Nat):List (Nat × HB) → List (Nat × HB)
 | []=>[]
 | (j,b) :: l=>(if rs.contains j then (j,b.frozen) else (j,b)) :: frzList rs l
def backOk (l:LoopAt) (st:St):Bool :=
 rowsOk l.nj1 st l.rows && (l.kept.all fun (t,s)=>match look st.tm t with
  | some s'=>s.same s'
  | none=>false) &&
 (l.hp.all fun (j,b)=>match b,look st.hp j with
  | .row v e k _,x=>if l.ann.ws.contains j then (match x with
   | some (.row v' e' k' _)=>v == v' && e == e' && k == k'
   | _=>false) else true
  | .fro v s,some (.fro v' s')=>v == v' && s.same s'
  | .fbx cs t,some (.fbx cs' t')=>t == t' && SV.sames cs cs'
  | .mp es,some (.mp es')=>es.length == es'.length && (es.zip es').all fun (x,y)=>valSame x.1 y.1 && x.2.same y.2
  | .box cs t,some (.box cs' t')=>t == t' && cs.length == cs'.length && (List.range cs.length).all fun i=>(posOf (j,i) l.ann.cs).isSome || (plIx (.c j i) l.rows).isSome || (match cs[i]?,cs'[i]? with
   | some a,some b=>a.same b
   | _,_=>false)
  | _,_=>false)
def rowTm (rows:List RowT) (v:Nat):List (Nat × SV):=match rows with
 | []=>[]
 | r :: l=>match r.pl with
  | .t n=>(n,.row r.j v) :: rowTm l (v + 1)
  | .c _ _=>rowTm l (v + 1)
def headTm (na:Nat) (l:LoopAt):List (Nat × SV):=((l.ann.ts.zip l.shs).zipIdx.map fun (q,i)=>(q.1,expand (SV.at (na + i)) q.2)) ++ rowTm l.rows l.nj1 ++ l.kept
def frzBut (rows:List RowT) (ws:List Nat) (st:St):St:={ tm:=st.tm,hp:=frzList ((st.hp.map (·.1)).filter fun j=>(rowIx j rows).isNone && !ws.contains j) st.hp,na:=st.na,nj:=st.nj,nl:=st.nl }
def frzBack (rows:List RowT) (ws:List Nat) (st:St):St:={ tm:=st.tm,hp:=frzList ((st.hp.map (·.1)).filter fun j=>!(rows.any fun r=>rowJ st r == some j) && !ws.contains j) st.hp,na:=st.na,nj:=st.nj,nl:=st.nl }
def frzBox (st:St) (t:Nat):St:=match look st.tm t with
 | some (.box j _)=>(match look st.hp j with
  | some (.box cs ty)=>{ tm:=st.tm,hp:=(j,.fbx (SV.melts (froOf (look st.hp)) cs) ty) :: st.hp,na:=st.na,nj:=st.nj,nl:=st.nl }
  | _=>st)
 | _=>st
def resS (P:Program) (st:St):ResultVar → Option SV
 | .tmp t=>look st.tm t
 | .cell a t=>match look st.tm a with
  | some (.box j off)=>match look st.hp j with
   | some (.box cs _)=>partS P t cs off
   | some (.fbx cs _)=>partS P t cs off
   | _=>none
  | _=>none
def retS (P:Program) (fn:Func) (st:St):Option SV :=
 match fn.results.toList.mapM (resS P st) with
 | some [s]=>let s:=s.melt (look st.hp)
  if s.pure then some s else none
 | some l=>let l:=SV.melts (look st.hp) l
  if SV.pures l then some (.tup l) else none
 | none=>none
inductive RK where
 | pure
 | fresh (e:TypeId) (k:Nat)
 | turn (e:TypeId) (k:Nat)
 | back (e:TypeId) (k:Nat)
def rowRes (e:TypeId) (k:Nat) (hp:List (Nat × HB)):SV → Option SV
 | .row j v=>match look hp j with
  | some (.row v' e' k' c)=>if v = v' ∧ e = e' ∧ k = k' then some c else none
  | _=>none
 | s=>if s.isNil then some s else none
def retK (P:Program) (fn:Func) (rk:RK) (st:St):Option SV:=match rk with
 | .pure=>retS P fn st
 | .fresh e k=>match fn.results.toList.mapM (resS P st) with
  | some [s]=>rowRes e k st.hp s
  | _=>none
 | .back e k=>match fn.results.toList.mapM (resS P st) with
  | some [s]=>rowRes e k st.hp s
  | _=>none
 | .turn e k=>match rowRes e k st.hp (.row 0 0),fn.results.toList.mapM (resS P st) with
  | some c,some [s]=>if s.pure then some (.tup [c,s]) else none
  | some c,some l=>if SV.pures l then some (.tup [c,.tup l]) else none
  | _,_=>none
def argRows (st:St) (ops:List Oper) (l:List Operand):List Nat:=l.flatMap fun
 | .tmp t=>if ops.any (fun o=>o.dst == some t) then [] else ((look st.tm t).map SV.rows).getD []
 | _=>[]
def preRows (P:Program) (G:Tab) (ops:List Oper) (st:St):List Nat :=
 ops.flatMap fun o=>match ruleOf P G o with
  | .melt | .fresh=>argRows st ops o.op.operands.toList
  | .turn | .back=>argRows st ops (o.op.operands.toList.drop 2)
  | _=>[]
def preFrz (P:Program) (G:Tab) (ops:List Oper) (st:St):St:={ tm:=st.tm,hp:=frzList (preRows P G ops st) st.hp,na:=st.na,nj:=st.nj,nl:=st.nl }
def exec (P:Program) (G:Tab) (rk:RK) (fn:Func) (anns:List (Nat × Ann)):Nat → List It → St → VC
 | 0,_,_=>.bad
 | n + 1,[],st=>match retK P fn rk st with
  | some s=>.ret s
  | none=>.bad
 | n + 1,.blk _ :: k,st=>exec P G rk fn anns n k st
 | n + 1,.scp :: k,st=>exec P G rk fn anns n k st
 | n + 1,.lp l :: k,st0 =>
  let st:=frzBack l.rows l.ann.ws st0
  match varsOf st l.ann l.rows with
  | some vs=>if backOk l st && shsSame ((vs.take l.ann.ts.length).map SV.shape) l.shs && l.lev < st.nl then .again (st.nl - 1 - l.lev) vs else .bad
  | none=>.bad
 | n + 1,.un b m :: k,st=>match m with
  | 0=>.bad
  | m + 1=>exec P G rk fn anns n (.code b :: .un b m :: k) st
 | n + 1,.code c :: k,st=>match c with
  | .skip=>exec P G rk fn anns n k st
  | .label _=>exec P G rk fn anns n k st
  | .scope b=>exec P G rk fn anns n (.code b :: .scp :: k) st
  | .seq a b=>exec P G rk fn anns n (.code a :: .code b :: k) st
  | .block id b=>exec P G rk fn anns n (.code b :: .blk id :: k) st
  | .exit id=>match dropTo id k with
   | some k'=>exec P G rk fn anns n k' st
   | none=>.bad
  | .ret=>match retK P fn rk st with
   | some s=>.ret s
   | none=>.bad
  | .cond c a b=>match c with
   | .tmp t=>match look st.tm t with
    | some (.con (.bool true))=>exec P G rk fn anns n (.code a :: k) st
    | some (.con (.bool false))=>exec P G rk fn anns n (.code b :: k) st
    | some s=>if s.one && s.pure then .ite s (exec P G rk fn anns n (.code a :: k) { st with tm:=(t,.con (.bool true)) :: st.tm }) (exec P G rk fn anns n (.code b :: k) { st with tm:=(t,.con (.bool false)) :: st.tm }) else .bad
    | none=>.bad
   | .const (.bool true)=>exec P G rk fn anns n (.code a :: k) st
   | .const (.bool false)=>exec P G rk fn anns n (.code b :: k) st
   | _=>.bad
  | .region _ ops draw=>regVC P G fn.ntmps ops.toList draw st.nj (fun st=>exec P G rk fn anns n k st) ops.toList 0 (preFrz P G ops.toList st) []
  | .loop b =>
   let ann:=annOf b anns
   match ann.un with
   | m + 1=>exec P G rk fn anns n (.code b :: .un b m :: k) st
   | 0=>adopt P (fun st=>match rowTs st ann.rs with
    | none=>.bad
    | some rows =>
     let st:=ann.fz.foldl frzBox (frzBut rows ann.ws st)
     match varsOf st ann rows with
     | none=>.bad
     | some vs =>
      let ws:=writes b
      let kept:=(dedup st.tm).filter fun (t,s)=>!ws.contains t && !ann.ts.contains t && s.wf st.na st.nj
      let l:LoopAt:=⟨st.nl,kept,headHp (dedup st.hp) ann rows (st.na + ann.ts.length) st.nj,ann,rows,st.nj,(vs.take ann.ts.length).map SV.shape⟩
      if headOk st.na l && backOk l st then
       .loop vs (exec P G rk fn anns n (.code b :: .lp l :: k) { tm:=headTm st.na l,hp:=l.hp,na:=st.na + vs.length,nj:=st.nj + rows.length,nl:=st.nl + 1 })
      else .bad) ann.rs st
  | _=>.bad
def st0 (shs:List Sh):St:={ tm:=shs.zipIdx.map fun (sh,i)=>(i,expand (.at i) sh),hp:=[],na:=shs.length,nj:=0,nl:=0 }
def st1 (e:TypeId) (k:Nat) (shs:List Sh):St:={ tm:=(0,.row 0 0) :: shs.zipIdx.map fun (sh,i)=>(i,expand (.at i) sh),hp:=[(0,.row 0 e k (.at 0))],na:=shs.length,nj:=1,nl:=0 }
def stK (rk:RK) (shs:List Sh):St:=match rk with
 | .turn e k=>st1 e k shs
 | .back e k=>st1 e k shs
 | _=>st0 shs
def fnInfoG (P:Program) (G:Tab) (rk:RK) (f:FuncId) (xs:List Sh) (anns:List (Nat × Ann)):Option (List Sh × VC) :=
 match P.funcs[f]? with
 | some fn=>if fn.name == "runtime.NumGoroutine" then none else match fn.body,fn.params.toList.mapM (shOf P) with
  | some c,some shs=>if (shs ++ xs).length ≤ fn.ntmps then some (shs ++ xs,exec P G rk fn anns 100000 [.code c] (stK rk (shs ++ xs))) else none
  | _,_=>none
 | none=>none
def fnInfo (P:Program) (f:FuncId) (anns:List (Nat × Ann)):Option (List Sh × VC):=fnInfoG P [] .pure f [] anns
def fnInfoC (P:Program) (f:FuncId) (xs:List Sh) (anns:List (Nat × Ann)):Option (List Sh × VC):=fnInfoG P [] .pure f xs anns
def fitsAll:List Sh → List PV → Bool
 | [],[]=>true
 | h :: l,p :: ps=>fits h p && fitsAll l ps
 | _,_=>false
end Gv
namespace Gv
open Go Go.RowKit
set_option linter.unusedVariables false
set_option linter.unusedSimpArgs false
structure Env where
 w0:World
 P0:Nat → Prop
 N:Nat
 own0:Nat → Prop
 hd0:Option Value
def Env.mine (E:Env) (b:Nat):Prop:=E.w0.heap.size ≤ b ∨ E.own0 b
structure Kept (E:Env) (w:World):Prop where
 os:w.os = E.w0.os
 tape:w.tape = E.w0.tape
 output:w.output = E.w0.output
 size:E.w0.heap.size ≤ w.heap.size
 block:∀ k,k < E.w0.heap.size → ¬ E.own0 k → w.heap[k]? = E.w0.heap[k]?
theorem Kept.refl (E:Env):Kept E E.w0:=⟨rfl,rfl,rfl,Nat.le_refl _,fun _ _ _=>rfl⟩
theorem Kept.go {E:Env} {w w':World} (h:Kept E w) (h1:w'.os = w.os) (h2:w'.tape = w.tape) (h3:w'.output = w.output) (h4:w.heap.size ≤ w'.heap.size) (h5:∀ k,k < E.w0.heap.size → ¬ E.own0 k → w'.heap[k]? = w.heap[k]?):Kept E w' :=
 ⟨h1.trans h.os,h2.trans h.tape,h3.trans h.output,Nat.le_trans h.size h4,fun k hk ho=>(h5 k hk ho).trans (h.block k hk ho)⟩
theorem Kept.below {E:Env} {w w':World} (h:Kept E w) (hb:Below w.heap.size w w'):Kept E w' :=
 h.go hb.os hb.tape hb.output hb.size fun k hk _=>hb.block k (Nat.lt_of_lt_of_le hk h.size)
theorem Kept.turn {E:Env} {w w':World} {b:Nat} (h:Kept E w) (hb:E.mine b) (hw:Below b w w') (ho:∀ c,c ≠ b → w'.heap[c]? = w.heap[c]?):Kept E w' :=
 h.go hw.os hw.tape hw.output hw.size fun k hk hn=>ho k fun e=>by
  subst e
  rcases hb with hb | hb
  ·omega
  ·exact hn hb
theorem Kept.grown {E:Env} {w w':World} {r:Option Nat} (h:Kept E w) (hg:w.grownBy w' r) (hr:∀ b,r = some b → E.mine b):Kept E w' :=
 h.go hg.os hg.tape hg.output hg.size fun k hk hn=>hg.block k (Nat.lt_of_lt_of_le hk h.size) fun e=>by
  rcases hr k e.symm with hb | hb
  ·omega
  ·exact hn hb
theorem Kept.alloc {E:Env} {w:World} (h:Kept E w) (o:Obj):Kept E (w.alloc o) :=
 h.go rfl rfl rfl (by simp) fun k hk _=>Below.heap_alloc w o k (Nat.lt_of_lt_of_le hk h.size)
def OwnsH (β:Nat → Option Loc) (j:Nat):HB → Nat → Prop
 | .box _ _,b=>β j = some (.blk b)
 | .mp _,b=>β j = some (.blk b)
 | .row v _ _ _,b=>∃ val,β v = some (.hdr val) ∧ val.ownBlock = some b
 | .fro _ _,_=>False
 | .fbx _ _,_=>False
def Owns (β:Nat → Option Loc) (hp:Nat → Option HB) (j b:Nat):Prop:=∃ h,hp j = some h ∧ OwnsH β j h b
def Ok (E:Env) (hp:Nat → Option HB) (β:Nat → Option Loc) (b:Nat):Prop:=(E.P0 b ∨ E.mine b) ∧ ∀ j,¬ Owns β hp j b
def HBok (E:Env) (ρ:List PV) (β:Nat → Option Loc) (w:World) (P:Nat → Prop) (j:Nat):HB → Prop
 | .box cs t=>∃ b vs,β j = some (.blk b) ∧ w.heap[b]? = some (.cells vs t (0,0)) ∧ vs.size = cs.length ∧ E.mine b ∧
  ∀ (i:Nat) (s:SV),cs[i]? = some s → flatV (vs.getD i undef) = true ∧ RepS ρ β w P s (vs.getD i undef)
 | .mp es=>∃ b ents,β j = some (.blk b) ∧ w.heap[b]? = some (.map ents es.length) ∧ ents.size = es.length ∧ E.mine b ∧
  ∀ (i:Nat) (x:Value × SV) (y:MapEntry),es[i]? = some x → ents.toList[i]? = some y → y.key = x.1 ∧ y.born = i ∧ RepS ρ β w P x.2 y.val
 | .row v e k s=>∃ val es,β v = some (.hdr val) ∧ den ρ s = some (.sl es) ∧ s.isNil = false ∧ RowAt w E.mine P e k val es
 | .fro v s=>∃ val p,β v = some (.hdr val) ∧ den ρ s = some p ∧ s.isNil = false ∧ p.flat = true ∧ Rep w P p val
 | .fbx cs t=>∃ b vs,β j = some (.blk b) ∧ w.heap[b]? = some (.cells vs t (0,0)) ∧ vs.size = cs.length ∧ P b ∧
  ∀ (i:Nat) (s:SV),cs[i]? = some s → flatV (vs.getD i undef) = true ∧ RepS ρ β w P s (vs.getD i undef)
structure Sim (E:Env) (ρ:List PV) (β:Nat → Option Loc) (tm:Nat → Option SV) (hp:Nat → Option HB) (a:Act) (w:World):Prop where
 df:a.defers = []
 nt:a.tmps.size = E.N
 bel:Kept E w
 tmr:∀ t s,tm t = some s → RepS ρ β w (Ok E hp β) s (a.tmps.getD t undef)
 hpr:∀ j h,hp j = some h → HBok E ρ β w (Ok E hp β) j h
 inj:∀ j j' b,Owns β hp j b → Owns β hp j' b → j = j'
 h0:∀ v,E.hd0 = some v → β 0 = some (.hdr v)
def upd {α:Type} (f:Nat → Option α) (d:Option Nat) (x:α):Nat → Option α:=match d with
 | some d=>fun t=>if t = d then some x else f t
 | none=>f
def updh (f:Nat → Option HB) (e:List (Nat × HB)):Nat → Option HB:=fun t=>match look e t with
 | some h=>some h
 | none=>f t
theorem updh_one (f:Nat → Option HB) (j:Nat) (h:HB):updh f [(j,h)] = fun t=>if t = j then some h else f t:=by
 funext t
 unfold updh
 simp only [look]
 by_cases e:t = j
 ·subst e; simp
 ·have:(j == t) = false:=by simpa using fun e'=>e e'.symm
  rw [this,if_neg e]
  rfl
theorem getD_put (a:Act) (d t:Nat) (v:Value) (h:d < a.tmps.size):(a.put (some d) v).tmps.getD t undef = if t = d then v else a.tmps.getD t undef:=by
 simp only [Act.put]
 by_cases e:t = d
 ·subst e; simp [h]
 ·rw [if_neg e]
  simp [Array.getElem?_setIfInBounds,Ne.symm e,e]
section
variable {E:Env} {ρ:List PV} {β:Nat → Option Loc} {tm:Nat → Option SV} {hp:Nat → Option HB} {a:Act} {w:World}
theorem Sim.put (h:Sim E ρ β tm hp a w) {s:SV} {v:Value} (hr:RepS ρ β w (Ok E hp β) s v) (d:Option Nat) (hd:∀ x,d = some x → x < E.N):Sim E ρ β (upd tm d s) hp (a.put d v) w:=by
 cases d with
 | none=>exact h
 | some d =>
  have hlt:d < a.tmps.size:=by rw [h.nt]; exact hd d rfl
  refine ⟨h.df,by simp only [Act.put,Array.size_setIfInBounds]; exact h.nt,h.bel,fun t s' ht=>?_,h.hpr,h.inj,h.h0⟩
  rw [getD_put a d t v hlt]
  simp only [upd] at ht
  split at ht
  ·rename_i e; cases ht; rw [if_pos e]; exact hr
  ·rename_i e; rw [if_neg e]; exact h.tmr t s' ht
theorem RowAt.keep {w':World} {M M':Nat → Prop} {k:Nat} {e:TypeId} {P P':Nat → Prop} {val:Value} {es:List (List PV)} (h:RowAt w M P e k val es) (hM:∀ b,M b → M' b) (hk:∀ b,P b → b < w.heap.size → P' b ∧ w'.heap[b]? = w.heap[b]?) (hj:∀ b,val.ownBlock = some b → w'.heap[b]? = w.heap[b]?):RowAt w' M' P' e k val es:=by
 obtain ⟨h1,xs,h2,hm,h3⟩:=h
 refine ⟨h1,xs,⟨h2.1,?_⟩,fun b hb=>hM b (hm b hb),fun i el hi=>⟨(h3 i el hi).1,fun j p hp=>⟨((h3 i el hi).2 j p hp).1,((h3 i el hi).2 j p hp).2.1,((h3 i el hi).2 j p hp).2.2.keep hk⟩⟩⟩
 rcases h2.2 with h | ⟨g,cap,cur,rfl,k1,k2,k3⟩
 ·exact .inl h
 ·exact .inr ⟨g,cap,cur,rfl,k1,by rw [hj g rfl,k2],k3⟩
theorem RowAt.slice {M:Nat → Prop} {k:Nat} {e:TypeId} {P:Nat → Prop} {val:Value} {es:List (List PV)} (h:RowAt w M P e k val es):∃ A c,val = .slice A es.length c:=by
 obtain ⟨h1,xs,h2,hm,h3⟩:=h
 rcases h2.2 with ⟨rfl,h⟩ | ⟨g,cap,cur,rfl,_⟩
 ·exact ⟨none,0,by rw [h]⟩
 ·exact ⟨_,_,rfl⟩
theorem RowAt.owns {M:Nat → Prop} {k:Nat} {e:TypeId} {P:Nat → Prop} {val:Value} {es:List (List PV)} (h:RowAt w M P e k val es) {b:Nat} (hb:val.ownBlock = some b):b < w.heap.size ∧ M b:=by
 obtain ⟨h1,xs,h2,hm,h3⟩:=h
 exact ⟨(h2.lt b hb).2,hm b hb⟩
theorem HBok.keep {ρ':List PV} {β':Nat → Option Loc} {w':World} {P P':Nat → Prop} {j:Nat} {h:HB} (hb:HBok E ρ β w P j h) (hβ:∀ j b,β j = some b → β' j = some b)
 (hk:∀ b,P b → b < w.heap.size → P' b ∧ w'.heap[b]? = w.heap[b]?) (hj:∀ b,OwnsH β j h b → w'.heap[b]? = w.heap[b]?):HBok E (ρ ++ ρ') β' w' P' j h:=by
 cases h with
 | box cs t =>
  obtain ⟨b,vs,h1,h2,h3,h4,h5⟩:=hb
  exact ⟨b,vs,hβ j _ h1,by rw [hj b h1,h2],h3,h4,fun i s hs=>⟨(h5 i s hs).1,(h5 i s hs).2.keep hβ hk⟩⟩
 | mp es =>
  obtain ⟨b,ents,h1,h2,h3,h4,h5⟩:=hb
  exact ⟨b,ents,hβ j _ h1,by rw [hj b h1,h2],h3,h4,fun i x y hx hy=>⟨(h5 i x y hx hy).1,(h5 i x y hx hy).2.1,(h5 i x y hx hy).2.2.keep hβ hk⟩⟩
 | row v e k s =>
  obtain ⟨val,es,h1,h2,h0,h3⟩:=hb
  exact ⟨val,es,hβ v _ h1,den_app _ _ h2,h0,h3.keep (fun _ h=>h) hk fun b hv=>hj _ ⟨val,h1,hv⟩⟩
 | fro v s =>
  obtain ⟨val,p,h1,h2,h0,h3,h4⟩:=hb
  exact ⟨val,p,hβ v _ h1,den_app _ _ h2,h0,h3,h4.keep hk⟩
 | fbx cs t =>
  obtain ⟨b,vs,h1,h2,h3,h4,h5⟩:=hb
  obtain ⟨k1,k2⟩:=hk b h4 (Array.getElem?_eq_some_iff.1 h2).1
  exact ⟨b,vs,hβ j _ h1,by rw [k2,h2],h3,k1,fun i s hs=>⟨(h5 i s hs).1,(h5 i s hs).2.keep hβ hk⟩⟩
theorem HBok.keep' {β':Nat → Option Loc} {w':World} {P P':Nat → Prop} {j:Nat} {h:HB} (hb:HBok E ρ β w P j h) (hβ:∀ j b,β j = some b → β' j = some b)
 (hk:∀ b,P b → b < w.heap.size → P' b ∧ w'.heap[b]? = w.heap[b]?) (hj:∀ b,OwnsH β j h b → w'.heap[b]? = w.heap[b]?):HBok E ρ β' w' P' j h:=by
 have:=hb.keep (ρ':=[]) hβ hk hj
 rwa [List.append_nil] at this
theorem HBok.owns {P:Nat → Prop} {j b:Nat} {h:HB} (hb:HBok E ρ β w P j h) (ho:OwnsH β j h b):b < w.heap.size ∧ E.mine b:=by
 cases h with
 | box cs t =>
  obtain ⟨b',vs,h1,h2,h3,h4,h5⟩:=hb
  rw [show β j = _ from ho] at h1
  cases h1
  exact ⟨(Array.getElem?_eq_some_iff.1 h2).1,h4⟩
 | mp es =>
  obtain ⟨b',ents,h1,h2,h3,h4,h5⟩:=hb
  rw [show β j = _ from ho] at h1
  cases h1
  exact ⟨(Array.getElem?_eq_some_iff.1 h2).1,h4⟩
 | row v e k s =>
  obtain ⟨val,es,h1,h2,h0,h3⟩:=hb
  obtain ⟨val',k1,k2⟩:=ho
  rw [k1] at h1
  cases h1
  exact h3.owns k2
 | fro v s=>exact ho.elim
 | fbx cs t=>exact ho.elim
theorem HBok.back {β':Nat → Option Loc} {P:Nat → Prop} {j b:Nat} {h:HB} (hb:HBok E ρ β w P j h) (hβ:∀ j b,β j = some b → β' j = some b) (ho:OwnsH β' j h b):OwnsH β j h b:=by
 cases h with
 | box cs t =>
  obtain ⟨b',vs,h1,_⟩:=hb
  have:=hβ _ _ h1
  rw [show β' j = _ from ho] at this
  cases this
  exact h1
 | mp es =>
  obtain ⟨b',vs,h1,_⟩:=hb
  have:=hβ _ _ h1
  rw [show β' j = _ from ho] at this
  cases this
  exact h1
 | row v e k s =>
  obtain ⟨val,es,h1,_⟩:=hb
  obtain ⟨val',k1,k2⟩:=ho
  have:=hβ _ _ h1
  rw [k1] at this
  cases this
  exact ⟨_,h1,k2⟩
 | fro v s=>exact ho.elim
 | fbx cs t=>exact ho.elim
theorem OwnsH.ext {β':Nat → Option Loc} {j b:Nat} {h:HB} (ho:OwnsH β j h b) (hβ:∀ j b,β j = some b → β' j = some b):OwnsH β' j h b:=by
 cases h with
 | box cs t=>exact hβ _ _ ho
 | mp es=>exact hβ _ _ ho
 | row v e k s =>
  obtain ⟨val,k1,k2⟩:=ho
  exact ⟨val,hβ _ _ k1,k2⟩
 | fro v s=>exact ho.elim
 | fbx cs t=>exact ho.elim
theorem Sim.owns (h:Sim E ρ β tm hp a w) {j b:Nat} (ho:Owns β hp j b):b < w.heap.size ∧ E.mine b:=by
 obtain ⟨x,h1,h2⟩:=ho
 exact (h.hpr j x h1).owns h2
theorem Sim.fresh (h:Sim E ρ β tm hp a w) {b:Nat} (hb:w.heap.size ≤ b):Ok E hp β b:=⟨.inr (.inl (Nat.le_trans h.bel.size hb)),fun j ho=>by have:=(h.owns ho).1; omega⟩
theorem Sim.change (h:Sim E ρ β tm hp a w) {w':World} {β':Nat → Option Loc} {hp':Nat → Option HB} (S:Nat → Prop) (hβ:∀ i x,β i = some x → β' i = some x) (hbel:Kept E w')
 (hoth:∀ c,c < w.heap.size → (∀ j,S j → ¬ Owns β hp j c) → w'.heap[c]? = w.heap[c]?) (hsame:∀ j,¬ S j → hp' j = hp j)
 (hown:∀ j b,S j → Owns β' hp' j b → w.heap.size ≤ b ∨ ∃ j',S j' ∧ Owns β hp j' b) (hinj:∀ j j' b,S j → S j' → Owns β' hp' j b → Owns β' hp' j' b → j = j')
 (hnew:∀ j x,S j → hp' j = some x → (∀ b,Ok E hp β b → b < w.heap.size → Ok E hp' β' b ∧ w'.heap[b]? = w.heap[b]?) → HBok E ρ β' w' (Ok E hp' β') j x):Sim E ρ β' tm hp' a w':=by
 have hback:∀ j b,¬ S j → Owns β' hp' j b → Owns β hp j b:=by
  rintro j b hS ⟨x,h1,h2⟩
  rw [hsame j hS] at h1
  exact ⟨x,h1,(h.hpr j x h1).back hβ h2⟩
 have hk:∀ b,Ok E hp β b → b < w.heap.size → Ok E hp' β' b ∧ w'.heap[b]? = w.heap[b]?:=by
  intro b h1 h2
  refine ⟨⟨h1.1,fun j ho=>?_⟩,hoth b h2 fun j _=>h1.2 j⟩
  by_cases hS:S j
  ·rcases hown j b hS ho with h3 | ⟨j',_,h3⟩
   ·omega
   ·exact h1.2 j' h3
  ·exact h1.2 j (hback j b hS ho)
 refine ⟨h.df,h.nt,hbel,fun t s ht=>(h.tmr t s ht).keep' hβ hk,fun j x hj=>?_,fun j j' b h1 h2=>?_,fun v hv=>hβ _ _ (h.h0 v hv)⟩
 ·by_cases hS:S j
  ·exact hnew j x hS hj hk
  ·rw [hsame j hS] at hj
   refine (h.hpr j x hj).keep' hβ hk fun b hb=>?_
   have ho:Owns β hp j b:=⟨x,hj,hb⟩
   exact hoth b (h.owns ho).1 fun j' hS' ho'=>hS (by rw [h.inj j j' b ho ho']; exact hS')
 ·by_cases hS:S j <;> by_cases hS':S j'
  ·exact hinj j j' b hS hS' h1 h2
  ·have h3:=hback j' b hS' h2
   rcases hown j b hS h1 with h4 | ⟨i,hi,h4⟩
   ·have:=(h.owns h3).1; omega
   ·exact absurd (by rw [← h.inj i j' b h4 h3]; exact hi) hS'
  ·have h3:=hback j b hS h1
   rcases hown j' b hS' h2 with h4 | ⟨i,hi,h4⟩
   ·have:=(h.owns h3).1; omega
   ·exact absurd (by rw [← h.inj i j b h4 h3]; exact hi) hS
  ·exact h.inj j j' b (hback j b hS h1) (hback j' b hS' h2)
theorem Sim.grow (h:Sim E ρ β tm hp a w) {w':World} (hb:Below w.heap.size w w'):Sim E ρ β tm hp a w' :=
 h.change (fun _=>False) (fun _ _ h=>h) (h.bel.below hb) (fun c hc _=>hb.block c hc) (fun _ _=>rfl) (fun _ _ h=>h.elim) (fun _ _ _ h=>h.elim) (fun _ _ h=>h.elim)
theorem Sim.more (h:Sim E ρ β tm hp a w) (ρ':List PV):Sim E (ρ ++ ρ') β tm hp a w :=
 ⟨h.df,h.nt,h.bel,fun t s ht=>(h.tmr t s ht).keep (fun _ _ h=>h) fun b h1 _=>⟨h1,rfl⟩,fun j hh hj=>(h.hpr j hh hj).keep (fun _ _ h=>h) (fun b h1 _=>⟨h1,rfl⟩) fun _ _=>rfl,h.inj,h.h0⟩
theorem owns_upd {β':Nat → Option Loc} {j i b:Nat} {x:HB}:Owns β' (updh hp [(j,x)]) i b → i = j → OwnsH β' j x b:=by
 rintro ⟨y,h1,h2⟩ rfl
 rw [updh_one] at h1
 simp only [if_true,Option.some.injEq] at h1
 subst h1
 exact h2
theorem upd_self {j:Nat} {x y:HB} (h:updh hp [(j,x)] j = some y):y = x:=by
 rw [updh_one] at h
 simpa using h.symm
theorem upd_other {j i:Nat} {x:HB} (h:¬ i = j):updh hp [(j,x)] i = hp i:=by
 rw [updh_one]
 simp only [h,if_false]
theorem Sim.allocO (h:Sim E ρ β tm hp a w) {j:Nat} (hj:β j = none) {o:Obj} {hb:HB} (hbx:∀ β b,OwnsH β j hb b → β j = some (.blk b))
 (hr:∀ (β':Nat → Option Loc) (P':Nat → Prop),β' j = some (.blk w.heap.size) → (∀ i b,β i = some b → β' i = some b) → (∀ b,Ok E hp β b → b < w.heap.size → P' b ∧ (w.alloc o).heap[b]? = w.heap[b]?) → HBok E ρ β' (w.alloc o) P' j hb) :
 Sim E ρ (fun i=>if i = j then some (.blk w.heap.size) else β i) tm (updh hp [(j,hb)]) a (w.alloc o):=by
 have hβ:∀ i b,β i = some b → (if i = j then some (Loc.blk w.heap.size) else β i) = some b:=by
  intro i b e
  rw [if_neg (fun e'=>by subst e'; rw [hj] at e; cases e)]
  exact e
 refine h.change (fun i=>i = j) hβ (h.bel.alloc _) (fun c hc _=>Below.heap_alloc w _ c hc) (fun i hi=>upd_other hi) (fun i b hi ho=>.inl ?_) (fun i i' b hi hi' _ _=>by rw [hi,hi']) (fun i x hi hx hk=>?_)
 ·have:=hbx _ b (owns_upd ho hi)
  simp only [if_true,Option.some.injEq,Loc.blk.injEq] at this
  omega
 ·subst hi
  rw [upd_self hx]
  exact hr _ _ (by simp) hβ hk
theorem Sim.alloc (h:Sim E ρ β tm hp a w) {j:Nat} (hj:β j = none) {vs:Array Value} {t:TypeId} {cs:List SV} (hl:vs.size = cs.length)
 (hr:∀ (i:Nat) (s:SV),cs[i]? = some s → flatV (vs.getD i undef) = true ∧ RepS ρ β w (Ok E hp β) s (vs.getD i undef)) :
 Sim E ρ (fun i=>if i = j then some (.blk w.heap.size) else β i) tm (updh hp [(j,.box cs t)]) a (w.alloc (.cells vs t)) :=
 h.allocO hj (fun _ _ h=>h) fun β' P' h1 h2 h3=>⟨w.heap.size,vs,h1,by show (w.heap.push _)[w.heap.size]? = _; simp,hl,.inl h.bel.size,fun k s hs=>⟨(hr k s hs).1,(hr k s hs).2.keep' h2 h3⟩⟩
theorem Sim.turn (h:Sim E ρ β tm hp a w) {j b:Nat} {x hb:HB} {w':World} (hj:hp j = some x) (hβ:OwnsH β j x b) (hsame:∀ c,OwnsH β j hb c → c = b) (hw:Below b w w') (hoth:∀ c,c ≠ b → w'.heap[c]? = w.heap[c]?)
 (hr:∀ P':Nat → Prop,(∀ c,Ok E hp β c → c < w.heap.size → P' c ∧ w'.heap[c]? = w.heap[c]?) → HBok E ρ β w' P' j hb) :
 Sim E ρ β tm (updh hp [(j,hb)]) a w':=by
 have ho:Owns β hp j b:=⟨x,hj,hβ⟩
 have hE:=(h.owns ho).2
 refine h.change (fun i=>i = j) (fun _ _ h=>h) (h.bel.turn hE hw hoth) (fun c hc hn=>hoth c fun e=>hn j rfl (by rw [e]; exact ho)) (fun i hi=>upd_other hi) (fun i c hi hc=>.inr ⟨j,rfl,?_⟩) (fun i i' b hi hi' _ _=>by rw [hi,hi']) (fun i y hi hx hk=>?_)
 ·rw [hsame c (owns_upd hc hi)]; exact ho
 ·subst hi
  rw [upd_self hx]
  exact hr _ hk
theorem Sim.store (h:Sim E ρ β tm hp a w) {j b:Nat} {vs ws:Array Value} {t:TypeId} {cs ds:List SV} (hj:hp j = some (.box cs t)) (hb:β j = some (.blk b)) (hh:w.heap[b]? = some (.cells vs t (0,0)))
 (hl:ws.size = ds.length) (hr:∀ (i:Nat) (s:SV),ds[i]? = some s → flatV (ws.getD i undef) = true ∧ RepS ρ β w (Ok E hp β) s (ws.getD i undef)) :
 Sim E ρ β tm (updh hp [(j,.box ds t)]) a (w.setRow b ws):=by
 have hE:=(h.owns ⟨_,hj,hb⟩).2
 exact h.turn hj hb (fun c hc=>by rw [show β j = _ from hc] at hb; cases hb; rfl) ⟨rfl,rfl,rfl,by simp [World.setRow],fun k hk=>setRow_other w b k ws (by omega)⟩ (fun c hc=>setRow_other w b c ws hc)
  fun P' hk=>⟨b,ws,hb,setRow_heap w b vs ws t (0,0) hh,hl,hE,fun k s hs=>⟨(hr k s hs).1,(hr k s hs).2.keep' (fun _ _ h=>h) hk⟩⟩
end
end Gv
namespace Gv
open Go Go.RowKit
set_option linter.unusedVariables false
set_option linter.unusedSimpArgs false
def NdOK (P:Program) (ρ:List PV) (na:Nat):Nd → Prop
 | .none=>True
 | .call f args sh=>∃ r,ρ[na]? = some r ∧ Fn P f (pvs ρ args) r ∧ fitsR sh r = true
 | .callv fv args sh=>∃ r,ρ[na]? = some r ∧ FnV P (pv ρ fv) (pvs ρ args) r ∧ fitsR sh r = true
 | .prim p args=>∃ r,ρ[na]? = some r ∧ p.ev (pvs ρ args) = some r
 | .mk c n args=>ρ[na]? = some (.sl (chunk c n (pvs ρ args)))
 | .calln f e n args=>∃ es,ρ[na]? = some (.sl es) ∧ FnN P f (pvs ρ args) e n (· = .sl es)
 | .callt f e n c args sh=>∃ es es' r,ρ[na]? = some (.tup [.sl es',r]) ∧ pv ρ c = .sl es ∧ FnT P f e n es (pvs ρ args) (· = .tup [.sl es',r]) ∧ fitsR sh r = true
 | .callb f e n c args=>∃ es es',ρ[na]? = some (.sl es') ∧ pv ρ c = .sl es ∧ FnB P f e n es (pvs ρ args) (· = .sl es')
section
variable {P:Program} {E:Env} {ρ:List PV} {β:Nat → Option Loc} {tm:Nat → Option SV} {hp:Nat → Option HB} {a:Act} {w:World} {W:Nat → Prop}
theorem oneCell_flat (v:Value):v.oneCell' = flatV v:=by cases v <;> rfl
theorem RepS.den1 {s:SV} {v:Value} (h:RepS ρ β w W s v) (hs:s.pure = true):∃ p,den ρ s = some p:=by
 induction h with
 | pure s p v hd hf hr hn=>exact ⟨p,hd⟩
 | box=>simp [SV.pure] at hs
 | mapp=>simp [SV.pure] at hs
 | row=>simp [SV.pure] at hs
 | elt=>simp [SV.pure] at hs
 | vw=>simp [SV.pure] at hs
 | agg l vs hl hf hr ih =>
  simp only [SV.pure] at hs
  have key:∀ l:List SV,SV.pures l = true → (∀ s ∈ l,s.pure = true → ∃ p,den ρ s = some p) → ∃ ps,dens ρ l = some ps:=by
   intro l
   induction l with
   | nil=>intro _ _; exact ⟨[],rfl⟩
   | cons s l ih =>
    intro h h2
    simp only [SV.pures,Bool.and_eq_true] at h
    obtain ⟨p,hp⟩:=h2 s (by simp) h.1
    obtain ⟨ps,hps⟩:=ih h.2 fun s hs=>h2 s (by simp [hs])
    exact ⟨p :: ps,by simp only [dens,hp,hps]⟩
  obtain ⟨ps,hps⟩:=key l hs fun s hs'=>by
   obtain ⟨j,hj,e⟩:=List.mem_iff_getElem.1 hs'
   exact ih j s (by rw [← e]; exact List.getElem?_eq_getElem hj)
  exact ⟨.agg ps,by simp only [den,hps,Option.map_some]⟩
 | tup l vs hl hr ih =>
  simp only [SV.pure] at hs
  have key:∀ l:List SV,SV.pures l = true → (∀ s ∈ l,s.pure = true → ∃ p,den ρ s = some p) → ∃ ps,dens ρ l = some ps:=by
   intro l
   induction l with
   | nil=>intro _ _; exact ⟨[],rfl⟩
   | cons s l ih =>
    intro h h2
    simp only [SV.pures,Bool.and_eq_true] at h
    obtain ⟨p,hp⟩:=h2 s (by simp) h.1
    obtain ⟨ps,hps⟩:=ih h.2 fun s hs=>h2 s (by simp [hs])
    exact ⟨p :: ps,by simp only [dens,hp,hps]⟩
  obtain ⟨ps,hps⟩:=key l hs fun s hs'=>by
   obtain ⟨j,hj,e⟩:=List.mem_iff_getElem.1 hs'
   exact ih j s (by rw [← e]; exact List.getElem?_eq_getElem hj)
  exact ⟨.tup ps,by simp only [den,hps,Option.map_some]⟩
 | clo fn fs cs fv cv hl hl' hr hr' ih ih' =>
  simp only [SV.pure,Bool.and_eq_true] at hs
  have key:∀ l:List SV,SV.pures l = true → (∀ s ∈ l,s.pure = true → ∃ p,den ρ s = some p) → ∃ ps,dens ρ l = some ps:=by
   intro l
   induction l with
   | nil=>intro _ _; exact ⟨[],rfl⟩
   | cons s l ih =>
    intro h h2
    simp only [SV.pures,Bool.and_eq_true] at h
    obtain ⟨p,hp⟩:=h2 s (by simp) h.1
    obtain ⟨ps,hps⟩:=ih h.2 fun s hs=>h2 s (by simp [hs])
    exact ⟨p :: ps,by simp only [dens,hp,hps]⟩
  obtain ⟨ps,hps⟩:=key fs hs.1 fun s hs'=>by
   obtain ⟨j,hj,e⟩:=List.mem_iff_getElem.1 hs'
   exact ih j s (by rw [← e]; exact List.getElem?_eq_getElem hj)
  obtain ⟨qs,hqs⟩:=key cs hs.2 fun s hs'=>by
   obtain ⟨j,hj,e⟩:=List.mem_iff_getElem.1 hs'
   exact ih' j s (by rw [← e]; exact List.getElem?_eq_getElem hj)
  exact ⟨.clo fn ps qs,by simp only [den,hps,hqs]⟩
def Args (ρ:List PV) (β:Nat → Option Loc) (w:World) (W:Nat → Prop) (args:List SV) (vs:List Value):Prop :=
 args.length = vs.length ∧ ∀ (k:Nat) (s:SV) (v:Value),args[k]? = some s → vs[k]? = some v → RepS ρ β w W s v
theorem Args.nil:Args ρ β w W [] []:=⟨rfl,fun k s v h=>by simp at h⟩
theorem Args.cons {s:SV} {v:Value} {l:List SV} {vs:List Value} (h:RepS ρ β w W s v) (h2:Args ρ β w W l vs):Args ρ β w W (s :: l) (v :: vs):=by
 refine ⟨by simp [h2.1],fun k s' v' h3 h4=>?_⟩
 cases k with
 | zero=>simp at h3 h4; subst h3 h4; exact h
 | succ k=>simp at h3 h4; exact h2.2 k s' v' h3 h4
theorem Args.head {s:SV} {v:Value} {l:List SV} {vs:List Value} (h:Args ρ β w W (s :: l) (v :: vs)):RepS ρ β w W s v:=h.2 0 s v rfl rfl
theorem Args.tail {s:SV} {v:Value} {l:List SV} {vs:List Value} (h:Args ρ β w W (s :: l) (v :: vs)):Args ρ β w W l vs :=
 ⟨by have:=h.1; simp at this; exact this,fun k s' v' h3 h4=>h.2 (k + 1) s' v' (by simpa using h3) (by simpa using h4)⟩
theorem Args.dens {l:List SV}:∀ {vs:List Value},Args ρ β w W l vs → SV.pures l = true → ∃ ps,Gv.dens ρ l = some ps:=by
 induction l with
 | nil=>intro vs _ _; exact ⟨[],rfl⟩
 | cons s l ih =>
  intro vs h hp
  simp only [SV.pures,Bool.and_eq_true] at hp
  cases vs with
  | nil=>have:=h.1; simp at this
  | cons v vs =>
   obtain ⟨p,h1⟩:=h.head.den1 hp.1
   obtain ⟨ps,h2⟩:=ih h.tail hp.2
   exact ⟨p :: ps,by simp only [Gv.dens,h1,h2]⟩
theorem Args.reps {l:List SV} {vs:List Value} {ps:List PV} (h:Args ρ β w W l vs) (hd:Gv.dens ρ l = some ps):ps.length = vs.length ∧ ∀ (k:Nat) (p:PV) (v:Value),ps[k]? = some p → vs[k]? = some v → Rep w W p v:=by
 obtain ⟨h1,h2⟩:=dens_at hd
 refine ⟨by rw [← h1]; exact h.1,fun k p v hp hv=>?_⟩
 obtain ⟨s,hs,hd⟩:=h2 k p hp
 exact (h.2 k s v hs hv).rep hd
theorem Args.app {l m:List SV} {vs us:List Value} (h:Args ρ β w W l vs) (h2:Args ρ β w W m us):Args ρ β w W (l ++ m) (vs ++ us):=by
 refine ⟨by simp [h.1,h2.1],fun k s v h3 h4=>?_⟩
 rw [List.getElem?_append] at h3 h4
 rw [h.1] at h3
 split at h3
 ·rename_i hk; rw [if_pos hk] at h4; exact h.2 k s v h3 h4
 ·rename_i hk; rw [if_neg hk] at h4; exact h2.2 _ s v h3 h4
theorem run_value {o:Oper} {v:Value} {w':World} {s:SV} {K:Act → World → Prop} {Q:Exit → Act → World → Prop} (hr:(execOp a.eval o).run P w = .ok (.value v) w') (h:K (a.put o.dst v) w'):o.wp P a w K Q:=by
 unfold Oper.wp
 rw [hr]
 exact h
theorem run_skip {o:Oper} {w':World} {K:Act → World → Prop} {Q:Exit → Act → World → Prop} (hr:(execOp a.eval o).run P w = .ok .skip w') (h:K (a.put o.dst undef) w'):o.wp P a w K Q:=by
 unfold Oper.wp
 rw [hr]
 exact h
theorem run_enter {o:Oper} {f:FuncId} {args:Array Value} {w':World} {K:Act → World → Prop} {Q:Exit → Act → World → Prop} (hr:(execOp a.eval o).run P w = .ok (.enter f args) w')
 (h:Calls P f args w' fun e w''=>∃ v,e = .returned v ∧ K (a.put o.dst v) w''):o.wp P a w K Q:=by
 unfold Oper.wp
 rw [hr]
 refine h.mono fun e w'' he=>?_
 obtain ⟨v,rfl,hk⟩:=he
 exact hk
theorem undef_rep:RepS ρ β w W (.tup []) undef:=.tup [] #[] rfl (fun j s h=>by simp at h)
theorem agg_run {t:TypeId} {b:Bool} (h:aggOf P t = some b) (w:World):(isAgg t).run P w = .ok b w:=by
 unfold aggOf at h
 cases hu:P.underlying t with
 | none=>simp [hu] at h
 | some d =>
  unfold isAgg
  rw [Sem.run_bind,run_underlying hu w]
  cases d <;> simp_all
theorem size_run {t:TypeId} {n:Nat} (h:cellsOf P t = some n) (w:World):(Go.sizeOf t).run P w = .ok n w:=by
 unfold cellsOf at h
 cases hq:P.info? t with
 | none=>simp [hq] at h
 | some i=>simp [hq] at h; simp [Go.sizeOf,typeInfo,hq,h]
theorem loadVar_sc {t:TypeId} (h:aggOf P t = some false) {ad:Addr} {v:Value} (hc:w.cell? ad = some v):(loadVar t ad).run P w = .ok v w:=by
 simp only [loadVar,Sem.run_bind,agg_run h w,Result.andThen_ok,Bool.false_eq_true,if_false,run_load,hc]
theorem loadVar_ag {t:TypeId} {n:Nat} (h:aggOf P t = some true) (hn:cellsOf P t = some n) {ad:Addr} (cs:List Value) (hl:cs.length = n) (hc:∀ j v,cs[j]? = some v → w.cell? (ad.add j) = some v):(loadVar t ad).run P w = .ok (.agg cs.toArray) w:=by
 subst hl
 simp only [loadVar,Sem.run_bind,agg_run h w,Result.andThen_ok,if_true,size_run hn w,run_loadCells_list w ad cs hc,Sem.run_pure]
theorem add_mid (b o j:Nat):(⟨b,o,none⟩:Addr).add j = ⟨b,o + j,none⟩:=by unfold Addr.add; split <;> simp_all
theorem partS_load {t:TypeId} {cs:List SV} {off:Nat} {s:SV} {b:Nat} {vs:Array Value} {T:TypeId} {fz:Nat × Nat} (h:partS P t cs off = some s) (hb:w.heap[b]? = some (.cells vs T fz)) (hl:vs.size = cs.length)
 (hr:∀ (i:Nat) (s:SV),cs[i]? = some s → flatV (vs.getD i undef) = true ∧ RepS ρ β w W s (vs.getD i undef)) :
 ∃ v,(loadVar t ⟨b,off,none⟩).run P w = .ok v w ∧ RepS ρ β w W s v:=by
 have hcell:∀ i,i < vs.size → w.cell? ⟨b,i,none⟩ = some (vs.getD i undef):=by
  intro i hi
  simp [World.cell?,hb,hi]
 unfold partS at h
 split at h
 ·rename_i hag
  split at h
  ·rename_i n hn
   split at h
   ·rename_i hle
    cases h
    refine ⟨.agg ((List.range n).map fun i=>vs.getD (off + i) undef).toArray,loadVar_ag hag hn _ (by simp) (fun j v hv=>?_),?_⟩
    ·rw [List.getElem?_map,Option.map_eq_some_iff] at hv
     obtain ⟨i,hi,rfl⟩:=hv
     have hlt:=(List.getElem?_eq_some_iff.1 hi).1
     simp only [List.length_range] at hlt
     rw [List.getElem?_range hlt] at hi
     cases hi
     rw [add_mid]
     exact hcell _ (by omega)
    ·have key:∀ (j:Nat) (s:SV),((cs.drop off).take n)[j]? = some s → j < n ∧ cs[off + j]? = some s:=by
      intro j s hj
      have hlt:=(List.getElem?_eq_some_iff.1 hj).1
      simp only [List.length_take,List.length_drop] at hlt
      rw [List.getElem?_take,if_pos (by omega),List.getElem?_drop] at hj
      exact ⟨by omega,hj⟩
     refine .agg _ _ (by simp; omega) (fun j s hj=>?_) (fun j s hj=>?_)
     ·obtain ⟨h1,h2⟩:=key j s hj
      have:=hr _ s h2
      simpa [Array.getD,h1] using this.1
     ·obtain ⟨h1,h2⟩:=key j s hj
      have:=hr _ s h2
      simpa [Array.getD,h1] using this.2
   ·cases h
  ·cases h
 ·rename_i hag
  have hlt:=(List.getElem?_eq_some_iff.1 h).1
  exact ⟨_,loadVar_sc hag (hcell off (by omega)),(hr off s h).2⟩
 ·cases h
theorem cells_rep {s:SV} {v:Value} (h:RepS ρ β w W s v) (hs:s.isTup = false):v.cells.size = s.cells.length ∧
 ∀ (i:Nat) (s':SV),s.cells[i]? = some s' → flatV (v.cells.getD i undef) = true ∧ RepS ρ β w W s' (v.cells.getD i undef):=by
 by_cases ho:s.one = true
 ·have hf:=h.flat ho
  have e1:v.cells = #[v]:=by cases v <;> first | rfl | (simp [flatV] at hf)
  have e2:s.cells = [s]:=by cases s <;> first | rfl | (simp [SV.one] at ho)
  rw [e1,e2]
  refine ⟨rfl,fun i s' hi=>?_⟩
  cases i with
  | zero=>simp at hi; subst hi; exact ⟨hf,h⟩
  | succ i=>simp at hi
 ·cases s <;> simp [SV.one,SV.isTup] at ho hs
  rename_i l
  cases h with
  | pure s p v hd hf hr hn =>
   simp only [den,Option.map_eq_some_iff] at hd
   obtain ⟨ps,_,rfl⟩:=hd
   simp [PV.flat] at hf
  | agg l vs hl hf hr =>
   exact ⟨hl.symm,fun i s' hi=>⟨hf i s' hi,hr i s' hi⟩⟩
theorem svOf_rep {v:Value} {s:SV} (h:svOf v = some s):RepS ρ β w W s v:=by
 unfold svOf at h
 split at h
 ·rename_i cs
  split at h
  ·rename_i hall
   cases h
   have key:∀ (j:Nat) (s:SV),(cs.toList.map SV.con)[j]? = some s → ∃ u,cs.getD j undef = u ∧ s = .con u ∧ flatV u = true:=by
    intro j s hj
    rw [List.getElem?_map,Option.map_eq_some_iff] at hj
    obtain ⟨u,hu,rfl⟩:=hj
    have hlt:=(List.getElem?_eq_some_iff.1 hu).1
    refine ⟨u,?_,rfl,(List.all_eq_true.1 hall) u (List.mem_of_getElem? hu)⟩
    simp only [Array.length_toList] at hlt
    simp [Array.getElem?_toList] at hu
    simp [Array.getD,hlt]
    rw [Array.getElem?_eq_getElem hlt] at hu
    exact Option.some.inj hu
   refine .agg _ _ (by simp) (fun j s hj=>?_) (fun j s hj=>?_)
   ·obtain ⟨u,e,_,hf⟩:=key j s hj; rw [e]; exact hf
   ·obtain ⟨u,e,rfl,hf⟩:=key j s hj; rw [e]; exact .con u hf
  ·cases h
 ·cases h
 ·rename_i h1 h2
  cases h
  refine .con v ?_
  cases v <;> first | rfl | (exact absurd rfl (h1 _)) | (exact absurd rfl (h2 _))
end
end Gv
namespace Gv
open Go Go.RowKit
set_option linter.unusedVariables false
set_option linter.unusedSimpArgs false
section
variable {P:Program} {E:Env} {ρ:List PV} {β:Nat → Option Loc} {tm:Nat → Option SV} {hp:Nat → Option HB} {a:Act} {w:World} {W:Nat → Prop}
theorem guard_int (op:BinOp) (t:TypeId) (x y:Operand) (k k':IntKind) (m n:Int):(eqGuard op t x y (.int k m) (.int k' n)).run P w = .ok () w:=by
 unfold eqGuard
 cases op <;> rfl
theorem guard_bool (op:BinOp) (t:TypeId) (x y:Operand) (m n:Bool):(eqGuard op t x y (.bool m) (.bool n)).run P w = .ok () w:=by
 unfold eqGuard
 cases op <;> rfl
theorem guard_str (op:BinOp) (t:TypeId) (x y:Operand) (m n:ByteArray):(eqGuard op t x y (.string m) (.string n)).run P w = .ok () w:=by
 unfold eqGuard
 cases op <;> rfl
theorem equal_bool {t:TypeId} (h:P.underlying t = some .bool) (m n:Bool):(Op.equal t (.bool m) (.bool n)).run P w = .ok (m == n) w:=by
 unfold Op.equal Op.maxDepth
 rw [Op.equalIn]
 simp only [Sem.run_bind,run_underlying h w,Result.andThen_ok,Sem.run_pure]
theorem bin2_run {op : BinOp} {bl : Bool} {t : TypeId} {ox oy : Operand} {x y u : Value} (h : bin2 op bl x y = some u) (hb : bl = true → P.underlying t = some .bool) :
    (do eqGuard op t ox oy x y; binOp op t x y : Sem Value).run P w = .ok u w := by
  unfold bin2 at h
  split at h
  · split at h
    · rename_i hbl
      have hu := hb hbl
      simp only [Sem.run_bind, guard_bool, Result.andThen_ok]
      split at h <;> cases h
      · simp only [binOp, Sem.run_bind, equal_bool hu, Result.andThen_ok, Sem.run_pure]
      · simp only [binOp, Sem.run_bind, equal_bool hu, Result.andThen_ok, Sem.run_pure]; rfl
    · cases h
  · split at h
    · rename_i hk
      subst hk
      simp only [Sem.run_bind, guard_int, Result.andThen_ok]
      cases op <;> simp only [reduceCtorEq] at h
      all_goals first
        | (cases h; rfl)
        | (split at h
           · cases h
           · rename_i hne
             cases h
             simp only [binOp, ne_eq, not_true_eq_false, if_false, Op.intDiv, hne]
             rfl)
        | (cases h; simp only [binOp, ne_eq, not_true_eq_false, if_false]; rfl)
    · cases h
  · simp only [Sem.run_bind, guard_str, Result.andThen_ok]
    split at h
    · cases h; rfl
    · cases h; rfl
    · split at h
      · rename_i hle
        cases h
        simp only [binOp, Op.stringOp]
        rw [if_neg (by unfold IntKind.max IntKind.signed IntKind.bits; simp; omega)]
        rfl
      · cases h
    · cases h
  · cases h
theorem bin2_flat {op:BinOp} {bl:Bool} {x y u:Value} (h:bin2 op bl x y = some u):flatV u = true:=by
 unfold bin2 at h
 split at h
 ·split at h
  ·split at h <;> cases h <;> rfl
  ·cases h
 ·split at h
  ·split at h <;> first | (cases h; rfl) | (cases h; done) | (split at h <;> first | (cases h; rfl) | (cases h; done))
  ·cases h
 ·split at h <;> first | (cases h; rfl) | (cases h; done) | (split at h <;> first | (cases h; rfl) | (cases h; done))
 ·cases h
theorem un1_run {op:UnOp} {x u:Value} (h:un1 op x = some u):(Op.unary op x).run P w = .ok u w ∧ flatV u = true:=by
 unfold un1 at h
 split at h
 ·split at h <;> cases h; exact ⟨rfl,rfl⟩
 ·split at h <;> cases h; exact ⟨rfl,rfl⟩
 ·cases h
theorem args1 {l:List SV} {vs:List Value} {ps:List PV} {s:SV} {v:Value} (h:Args ρ β w W [s] [v]) (hp:s.pure = true):∃ p,pvs ρ [s] = [p] ∧ Rep w W p v:=by
 obtain ⟨p,hd⟩:=h.head.den1 hp
 exact ⟨p,by simp [pvs,pv_of hd],h.head.rep hd⟩
theorem argsN {l:List SV} {vs:List Value} (h:Args ρ β w W l vs) (hp:SV.pures l = true):(pvs ρ l).length = vs.length ∧ ∀ (k:Nat) (p:PV) (v:Value),(pvs ρ l)[k]? = some p → vs[k]? = some v → Rep w W p v:=by
 obtain ⟨ps,hd⟩:=h.dens hp
 rw [dens_pvs hd]
 exact h.reps hd
theorem idxOf_val {p:PV} {v:Value} {n:Nat} (h:idxOf (some p) = some n) (hr:Rep w W p v):∃ k,v = .int k (n:Int):=by
 unfold idxOf at h
 split at h
 ·rename_i k i he
  injection he with he
  subst he
  split at h
  ·cases h
   cases hr
   exact ⟨k,by congr 1; omega⟩
  ·cases h
 ·cases h
def Looks (P:Program) (w:World) (W:Nat → Prop) (r:PV) (sh:Sh) (s:Sem Value):Prop:=∃ v,s.run P w = .ok v w ∧ Rep w W r v ∧ fits sh r = true
theorem look_op2 {op:BinOp} {bl:Bool} {t:TypeId} {ox oy:Operand} {x y:Value} {p q r:PV} (hb:bl = true → P.underlying t = some .bool) (h1:Rep w W p x) (h2:Rep w W q y) (he:(Prim.op2 op bl).ev [p,q] = some r) :
 Looks P w W r .sc (do eqGuard op t ox oy x y; binOp op t x y):=by
 cases p <;> cases q <;> simp only [Prim.ev,reduceCtorEq,Option.map_eq_some_iff] at he
 obtain ⟨u,hu,rfl⟩:=he
 cases h1
 cases h2
 exact ⟨u,bin2_run hu hb,.raw u,bin2_flat hu⟩
theorem look_op1 {op:UnOp} {x:Value} {p r:PV} (h1:Rep w W p x) (he:(Prim.op1 op).ev [p] = some r):Looks P w W r .sc (Op.unary op x):=by
 cases p <;> simp only [Prim.ev,reduceCtorEq,Option.map_eq_some_iff] at he
 obtain ⟨u,hu,rfl⟩:=he
 cases h1
 exact ⟨u,(un1_run hu).1,.raw u,(un1_run (P:=P) (w:=w) hu).2⟩
theorem look_cv {src dst:TypeId} {k k0:IntKind} {x:Value} {p r:PV} (hs:P.underlying src = some (.int k0)) (hd:P.underlying dst = some (.int k)) (h1:Rep w W p x) (he:(Prim.cv k).ev [p] = some r):Looks P w W r .sc (convert src dst x):=by
 cases p with
 | raw v =>
  cases v <;> simp only [Prim.ev,reduceCtorEq,Option.some.injEq] at he
  subst he
  cases h1
  refine ⟨_,?_,.raw _,rfl⟩
  unfold convert
  simp only [Sem.run_bind,run_underlying hs w,run_underlying hd w,Result.andThen_ok]
  rfl
 | _=>simp [Prim.ev] at he
theorem look_len {t:TypeId} {el ty:TypeId} {ats:Array TypeId} {x:Value} {p r:PV} (hs:P.underlying t = some (.slice el)) (h0:ats[0]? = some t) (h1:Rep w W p x) (he:Prim.len.ev [p] = some r):Looks P w W r .sc (Builtin.len_ ats ty #[x]):=by
 cases p <;> simp only [Prim.ev,reduceCtorEq,Option.some.injEq] at he
 subst he
 cases h1 with
 | nil A c hc=>exact ⟨.int .i64 0,by unfold Builtin.len_; simp only [h0,List.getElem?_toArray,List.getElem?_cons_zero,Sem.run_bind,run_underlying hs w,Result.andThen_ok]; rfl,.raw _,rfl⟩
 | sl k _ ad c vs hk h1 h2 hf hc hr=>exact ⟨_,by unfold Builtin.len_; simp only [h0,List.getElem?_toArray,List.getElem?_cons_zero,Sem.run_bind,run_underlying hs w,Result.andThen_ok]; rfl,.raw _,rfl⟩
theorem look_slen {t:TypeId} {ty:TypeId} {ats:Array TypeId} {x:Value} {p r:PV} (hs:P.underlying t = some .string) (h0:ats[0]? = some t) (h1:Rep w W p x) (he:Prim.slen.ev [p] = some r):Looks P w W r .sc (Builtin.len_ ats ty #[x]):=by
 cases p with
 | raw v =>
  cases v <;> simp only [Prim.ev,reduceCtorEq,Option.some.injEq] at he
  subst he
  cases h1
  exact ⟨_,by unfold Builtin.len_; simp only [h0,List.getElem?_toArray,List.getElem?_cons_zero,Sem.run_bind,run_underlying hs w,Result.andThen_ok]; rfl,.raw _,rfl⟩
 | _=>simp [Prim.ev] at he
theorem look_idx {t el:TypeId} {n:Nat} {x y:Value} {p q r:PV} (hs:P.underlying t = some (.slice el)) (hn:cellsOf P el = some n) (h1:Rep w W p x) (h2:Rep w W q y) (he:(Prim.idx n).ev [p,q] = some r):Looks P w W r .sc (Instr.indexAt t x y):=by
 cases p <;> simp only [Prim.ev,reduceCtorEq] at he
 rename_i es
 cases hi:idxOf (some q) with
 | none=>simp [hi] at he
 | some i =>
  obtain ⟨k,rfl⟩:=idxOf_val hi h2
  cases hx:es[i]? with
  | none=>simp [hi,hx] at he
  | some e =>
   simp only [hi,hx] at he
   split at he
   ·rename_i hlen
    cases he
    have hlt:=(List.getElem?_eq_some_iff.1 hx).1
    cases h1 with
    | nil A c hc=>simp at hlt
    | sl k' _ ad c vs hk h1 h2 hf hc hr =>
     have hk':k' = n:=by rw [← hk i e hx,hlen]
     subst hk'
     refine ⟨.pointer (some (ad.add (i * k'))),?_,.ref _ _ (fun j=>vs i j) (hf i e hx) (fun j p hj=>?_) (hr i e hx),rfl⟩
     ·unfold Instr.indexAt
      simp only [asIntOf,Sem.run_bind,Sem.run_pure,Result.andThen_ok,run_underlying hs w]
      simp only [Sem.run_ite,Sem.run_bind,size_run hn w,Result.andThen_ok,Sem.run_pure,Int.toNat_natCast]
      rw [if_pos ⟨by omega,by omega⟩]
     ·obtain ⟨h3,h4⟩:=hc i e hx j p hj
      exact ⟨by rw [add_block]; exact h3,by rw [add_add]; exact h4⟩
   ·cases he
theorem look_ld_sc {t:TypeId} {x:Value} {p r:PV} (ht:aggOf P t = some false) (h1:Rep w W p x) (he:(Prim.ld none).ev [p] = some r):Looks P w W r .sc (Instr.loadAt t x):=by
 cases p <;> simp only [Prim.ev,reduceCtorEq] at he
 rename_i cs
 cases h1 with
 | ref _ ad vs hf hc hr =>
  obtain ⟨_,h2⟩:=hc 0 r he
  have e0:ad.add 0 = ad:=rfl
  rw [e0] at h2
  exact ⟨vs 0,by simp only [Instr.loadAt,Instr.sureAddr,Sem.run_bind,Sem.run_pure,Result.andThen_ok,loadVar_sc ht h2],hr 0 r he,hf 0 r he⟩
theorem look_ld_ag {t:TypeId} {n:Nat} {x:Value} {p r:PV} (ht:aggOf P t = some true) (hn:cellsOf P t = some n) (h1:Rep w W p x) (he:(Prim.ld (some n)).ev [p] = some r):Looks P w W r (.ag n) (Instr.loadAt t x):=by
 cases p <;> simp only [Prim.ev,reduceCtorEq] at he
 rename_i cs
 split at he
 ·rename_i hle
  cases he
  cases h1 with
  | ref _ ad vs hf hc hr =>
   have key:∀ (j:Nat) (p:PV),(cs.take n)[j]? = some p → j < n ∧ cs[j]? = some p:=by
    intro j p hj
    have hlt:=(List.getElem?_eq_some_iff.1 hj).1
    rw [List.length_take] at hlt
    rw [List.getElem?_take,if_pos (by omega)] at hj
    exact ⟨by omega,hj⟩
   refine ⟨.agg ((List.range n).map vs).toArray,?_,.agg _ _ (by simp; omega) (fun j p hj=>hf j p (key j p hj).2) (fun j p hj=>?_),by simp [fits,List.length_take]; omega⟩
   ·simp only [Instr.loadAt,Instr.sureAddr,Sem.run_bind,Sem.run_pure,Result.andThen_ok]
    refine loadVar_ag ht hn _ (by simp) (fun j v hv=>?_)
    rw [List.getElem?_map,Option.map_eq_some_iff] at hv
    obtain ⟨i,hi,rfl⟩:=hv
    have hlt:=(List.getElem?_eq_some_iff.1 hi).1
    simp only [List.length_range] at hlt
    rw [List.getElem?_range hlt] at hi
    cases hi
    exact (hc j (cs[j]'(by omega)) (List.getElem?_eq_getElem _)).2
   ·obtain ⟨hj1,hj2⟩:=key j p hj
    have:=hr j p hj2
    simpa [Array.getD,hj1] using this
 ·cases he
theorem field_run {t:TypeId} {f:Nat} {fl:Field} (h:fieldOf P t f = some fl):∃ fs,P.underlying t = some (.struct fs) ∧ fs[f]? = some fl:=by
 unfold fieldOf at h
 split at h
 ·rename_i fs hu; exact ⟨fs,hu,h⟩
 ·cases h
theorem fieldAt_run {t:TypeId} {f:Nat} {fl:Field} {ad:Addr} (h:fieldOf P t f = some fl) (hz:(cellsOf P fl.type).any (· != 0) = true):(Instr.fieldAt t (.pointer (some ad)) f).run P w = .ok (.pointer (some (ad.add fl.offset))) w:=by
 obtain ⟨fs,hu,hf⟩:=field_run h
 cases hn:cellsOf P fl.type with
 | none=>simp [hn] at hz
 | some n =>
  have hn0:n ≠ 0:=by simpa [hn] using hz
  unfold Instr.fieldAt
  simp only [Sem.run_bind,run_underlying hu w,Result.andThen_ok,hf,Instr.sureAddr,Sem.run_pure,fieldPlace,size_run hn w,if_neg hn0]
theorem look_fld {t:TypeId} {f:Nat} {fl:Field} {x:Value} {p r:PV} (h:fieldOf P t f = some fl) (hz:(cellsOf P fl.type).any (· != 0) = true) (h1:Rep w W p x) (he:(Prim.fld fl.offset).ev [p] = some r):Looks P w W r .sc (Instr.fieldAt t x f):=by
 cases p <;> simp only [Prim.ev,reduceCtorEq,Option.some.injEq] at he
 rename_i cs
 subst he
 cases h1 with
 | ref _ ad vs hf hc hr =>
  refine ⟨_,fieldAt_run h hz,.ref _ _ (fun j=>vs (fl.offset + j)) (fun j p hj=>?_) (fun j p hj=>?_) (fun j p hj=>?_),rfl⟩
  all_goals rw [List.getElem?_drop] at hj
  ·exact hf _ p hj
  ·obtain ⟨h3,h4⟩:=hc _ p hj
   exact ⟨by rw [add_block]; exact h3,by rw [add_add]; exact h4⟩
  ·exact hr _ p hj
theorem look_aix {t el:TypeId} {len n:Nat} {g:Bool} {x y:Value} {p q r:PV} (hs:P.underlying t = some (.array len el)) (hn:cellsOf P el = some n) (hg:aggOf P el = some g) (h1:Rep w W p x) (h2:Rep w W q y) (he:(Prim.aix len n g).ev [p,q] = some r):Looks P w W r (Prim.aix len n g).sh (Instr.index t x y):=by
 cases p <;> simp only [Prim.ev,reduceCtorEq] at he
 rename_i cs
 cases hi:idxOf (some q) with
 | none=>simp [hi] at he
 | some m =>
  obtain ⟨k,rfl⟩:=idxOf_val hi h2
  simp only [hi] at he
  split at he
  ·rename_i hm
   cases h1 with
   | agg _ vs hl hf hr =>
    have hrun:(Instr.index t (.agg vs) (.int k (m:Int))).run P w = (part el vs (m * n)).run P w:=by
     unfold Instr.index
     simp only [asIntOf,Sem.run_bind,Sem.run_pure,Result.andThen_ok,run_underlying hs w]
     simp only [Sem.run_ite,Sem.run_bind,size_run hn w,Result.andThen_ok,Sem.run_pure,Int.toNat_natCast]
     rw [if_pos ⟨by omega,by omega⟩]
    cases g with
    | true =>
     simp only [if_true] at he
     split at he
     ·rename_i hle
      cases he
      have key:∀ (j:Nat) (p:PV),((cs.drop (m * n)).take n)[j]? = some p → p.flat = true ∧ Rep w W p ((vs.extract (m * n) (m * n + n)).getD j undef):=by
       intro j p hj
       have hlt:=(List.getElem?_eq_some_iff.1 hj).1
       simp only [List.length_take,List.length_drop] at hlt
       rw [List.getElem?_take,if_pos (by omega),List.getElem?_drop] at hj
       have e:(vs.extract (m * n) (m * n + n)).getD j undef = vs.getD (m * n + j) undef:=by
        simp [Array.getD,show j < min (m * n + n) vs.size - m * n by omega,show m * n + j < vs.size by omega]
       rw [e]
       exact ⟨hf _ p hj,hr _ p hj⟩
      refine ⟨.agg (vs.extract (m * n) (m * n + n)),?_,.agg _ _ (by simp; omega) (fun j p h=>(key j p h).1) (fun j p h=>(key j p h).2),?_⟩
      ·rw [hrun]
       simp only [part,Sem.run_bind,agg_run hg w,Result.andThen_ok,if_true,size_run hn w,Sem.run_pure]
      ·simp only [Prim.sh,fits,List.length_take,List.length_drop]
       simp
       omega
     ·cases he
    | false =>
     simp only [Bool.false_eq_true,if_false] at he
     have hlt:=(List.getElem?_eq_some_iff.1 he).1
     have e:vs[m * n]? = some (vs.getD (m * n) undef):=by simp [Array.getD,show m * n < vs.size by omega]
     refine ⟨vs.getD (m * n) undef,?_,hr _ _ he,hf _ _ he⟩
     rw [hrun]
     simp only [part,Sem.run_bind,agg_run hg w,Result.andThen_ok,Bool.false_eq_true,if_false,e,Sem.run_pure]
  ·cases he
theorem look_six {t:TypeId} {x y:Value} {p q r:PV} (hs:P.underlying t = some .string) (h1:Rep w W p x) (h2:Rep w W q y) (he:Prim.six.ev [p,q] = some r):Looks P w W r .sc (Instr.index t x y):=by
 cases p with
 | raw v =>
  cases v <;> simp only [Prim.ev,reduceCtorEq] at he
  rename_i s
  cases h1
  cases hi:idxOf (some q) with
  | none=>simp [hi] at he
  | some i =>
   obtain ⟨k,rfl⟩:=idxOf_val hi h2
   cases hx:s[i]? with
   | none=>simp [hi,hx] at he
   | some b =>
    simp only [hi,hx,Option.some.injEq] at he
    subst he
    refine ⟨_,?_,.raw _,rfl⟩
    unfold Instr.index
    simp only [asIntOf,Sem.run_bind,Sem.run_pure,Result.andThen_ok,run_underlying hs w]
    rw [if_pos (by omega),Int.toNat_natCast,hx]
    rfl
 | _=>simp [Prim.ev] at he
theorem bound_run {y:Nat} {k:IntKind} {i:Nat} {code:BoundsCode} (h:i ≤ y):(Instr.sliceBound (.int k (i:Int)) y code).run P w = .ok i w:=by
 unfold Instr.sliceBound
 simp only [asIntOf,Sem.run_bind,Sem.run_pure,Result.andThen_ok]
 rw [if_pos ⟨by omega,by omega⟩,Int.toNat_natCast]
 rfl
theorem look_ssl {t:TypeId} {lo hi:Option Value} {x:Value} {p r:PV} {l:List PV} (hs:P.underlying t = some .string) (h1:Rep w W p x) (hl:l.length = (lo.toList ++ hi.toList).length)
 (h2:∀ (k:Nat) (q:PV) (v:Value),l[k]? = some q → (lo.toList ++ hi.toList)[k]? = some v → Rep w W q v) (he:(Prim.ssl lo.isSome hi.isSome).ev (p :: l) = some r):Looks P w W r .sc (Instr.sliceAt t x lo hi none):=by
 cases p with
 | raw v =>
  cases v <;> simp only [Prim.ev,reduceCtorEq] at he
  rename_i s
  cases h1
  have fin:∀ {a b:Nat} (hab:a ≤ b ∧ b ≤ s.size) (v:Value),(Instr.sliceBounds false s.size s.size lo hi none).run P w = .ok (a,b,s.size) w → Looks P w W (.raw (.string (s.extract a b))) .sc (Instr.sliceAt t (.string s) lo hi none):=by
   intro a b hab v hrun
   refine ⟨_,?_,.raw _,rfl⟩
   unfold Instr.sliceAt
   simp only [Sem.run_bind,run_underlying hs w,Result.andThen_ok]
   unfold Instr.slice
   simp only [Sem.run_bind,run_underlying hs w,Result.andThen_ok,Option.isSome_none,Bool.false_eq_true,if_false,hrun,Sem.run_pure]
  cases lo with
  | none =>
   cases hi with
   | none =>
    simp only [Option.isSome_none,Bool.false_eq_true,if_false] at he
    split at he
    ·rename_i hle
     cases he
     exact fin hle undef rfl
    ·cases he
   | some u =>
    cases l with
    | nil=>simp at hl
    | cons q l =>
     simp only [Option.isSome_none,Option.isSome_some,Bool.false_eq_true,if_false,if_true,List.head?_cons] at he
     cases hb:idxOf (some q) with
     | none=>rw [hb] at he; cases he
     | some b =>
      rw [hb] at he
      simp only at he
      split at he
      ·rename_i hle
       cases he
       obtain ⟨k,rfl⟩:=idxOf_val hb (h2 0 q u rfl rfl)
       refine fin hle undef ?_
       unfold Instr.sliceBounds
       simp only [Sem.run_bind,Sem.run_pure,Result.andThen_ok,Bool.false_eq_true,if_false,bound_run hle.2]
      ·cases he
  | some v =>
   cases l with
   | nil=>cases hi <;> simp at hl
   | cons q l =>
    simp only [Option.isSome_some,if_true,List.head?_cons,List.drop_succ_cons,List.drop_zero] at he
    cases ha:idxOf (some q) with
    | none=>rw [ha] at he; cases he
    | some a =>
     rw [ha] at he
     obtain ⟨k,rfl⟩:=idxOf_val ha (h2 0 q v rfl rfl)
     cases hi with
     | none =>
      simp only [Option.isSome_none,Bool.false_eq_true,if_false] at he
      split at he
      ·rename_i hle
       cases he
       refine fin hle undef ?_
       unfold Instr.sliceBounds
       simp only [Sem.run_bind,Sem.run_pure,Result.andThen_ok,Option.isSome_none,Bool.false_eq_true,if_false,bound_run hle.1]
      ·cases he
     | some u =>
      cases l with
      | nil=>simp at hl
      | cons q' l =>
       simp only [Option.isSome_some,if_true,List.head?_cons] at he
       cases hb:idxOf (some q') with
       | none=>rw [hb] at he; cases he
       | some b =>
        rw [hb] at he
        simp only at he
        split at he
        ·rename_i hle
         cases he
         obtain ⟨k',rfl⟩:=idxOf_val hb (h2 1 q' u rfl rfl)
         refine fin hle undef ?_
         unfold Instr.sliceBounds
         simp only [Sem.run_bind,Sem.run_pure,Result.andThen_ok,Option.isSome_none,Bool.false_eq_true,if_false,bound_run hle.2,bound_run hle.1]
        ·cases he
 | _=>simp [Prim.ev] at he
theorem rsl_fin {t el:TypeId} {n:Nat} {lo hi mx:Option Value} {x:Value} {es:List (List PV)} (hs:P.underlying t = some (.slice el)) (hn:cellsOf P el = some n) (h1:Rep w W (.sl es) x) {a b:Nat} (hab:a ≤ b) (hbl:b ≤ es.length) (hall:es.all (fun x=>x.length == n) = true)
 (hrun:∀ len cap,len = es.length → es.length ≤ cap → cap ≤ 9223372036854775807 → ∃ m,b ≤ m ∧ m ≤ cap ∧ (Instr.sliceBounds true len cap lo hi mx).run P w = .ok (a,b,m) w):Looks P w W (.sl ((es.take b).drop a)) .sc (Instr.sliceAt t x lo hi mx):=by
 have key:∀ (A:Option Addr) (len cap m:Nat),(Instr.sliceBounds true len cap lo hi mx).run P w = .ok (a,b,m) w → (Instr.sliceAt t (.slice A len cap) lo hi mx).run P w = .ok (.slice (if m = a then A else A.map (·.add (a * n))) (b - a) (m - a)) w:=by
  intro A len cap m hr
  unfold Instr.sliceAt
  simp only [Sem.run_bind,run_underlying hs w,Result.andThen_ok]
  unfold Instr.slice
  simp only [Sem.run_bind,run_underlying hs w,Result.andThen_ok,hr,size_run hn w,Sem.run_pure]
 cases h1 with
 | nil A c hc =>
  obtain ⟨m,h2,h3,hr⟩:=hrun 0 c rfl (by simp) hc
  simp only [List.length_nil] at hbl
  have hb0:b = 0:=by omega
  have ha0:a = 0:=by omega
  subst hb0 ha0
  exact ⟨_,key A 0 c m hr,.nil _ _ (by omega),rfl⟩
 | sl k _ ad c vs hk h1 h2 hf hc hr' =>
  obtain ⟨m,h3,h4,hr⟩:=hrun es.length c rfl h1 h2
  refine ⟨_,key _ _ c m hr,?_,rfl⟩
  by_cases he:a = b
  ·subst he
   rw [List.drop_of_length_le (by rw [List.length_take]; omega),Nat.sub_self]
   exact .nil _ _ (by omega)
  ·have hlen:((es.take b).drop a).length = b - a:=by rw [List.length_drop,List.length_take]; omega
   have hm:¬ m = a:=by omega
   rw [if_neg hm]
   have hget:∀ (i:Nat) (e:List PV),((es.take b).drop a)[i]? = some e → es[a + i]? = some e:=by
    intro i e hi
    rw [List.getElem?_drop] at hi
    have:=(List.getElem?_eq_some_iff.1 hi).1
    rw [List.length_take] at this
    rw [List.getElem?_take,if_pos (by omega)] at hi
    exact hi
   have hkn:k = n:=by
    have hlt:a < es.length:=by omega
    have h5:=hk a _ (List.getElem?_eq_getElem hlt)
    have h6:=(List.all_eq_true.1 hall) _ (List.getElem_mem hlt)
    simp only [beq_iff_eq] at h6
    omega
   subst hkn
   have:=Rep.sl (w:=w) (P:=W) k ((es.take b).drop a) (ad.add (a * k)) (m - a) (fun i j=>vs (a + i) j) (fun i e hi=>hk _ e (hget i e hi)) (by omega) (by omega) (fun i e hi j p hj=>hf _ e (hget i e hi) j p hj)
    (fun i e hi j p hj=>by
     obtain ⟨h5,h6⟩:=hc _ e (hget i e hi) j p hj
     refine ⟨by rw [add_block]; exact h5,?_⟩
     rw [add_add,show a * k + (i * k + j) = (a + i) * k + j by rw [Nat.add_mul]; omega]
     exact h6) (fun i e hi j p hj=>hr' _ e (hget i e hi) j p hj)
   rw [hlen] at this
   exact this
theorem look_rsl {t el:TypeId} {n:Nat} {lo hi mx:Option Value} {x:Value} {p r:PV} {l:List PV} (hs:P.underlying t = some (.slice el)) (hn:cellsOf P el = some n) (h1:Rep w W p x) (hl:l.length = (lo.toList ++ hi.toList ++ mx.toList).length)
 (h2:∀ (k:Nat) (q:PV) (v:Value),l[k]? = some q → (lo.toList ++ hi.toList ++ mx.toList)[k]? = some v → Rep w W q v) (he:(Prim.rsl n lo.isSome hi.isSome mx.isSome).ev (p :: l) = some r):Looks P w W r .sc (Instr.sliceAt t x lo hi mx):=by
 cases p <;> simp only [Prim.ev,reduceCtorEq] at he
 rename_i es
 split at he
 ·cases he
 rename_i hmh
 split at he
 ·rename_i a b c ha hb hc
  split at he
  ·rename_i hle
   obtain ⟨hab,hbc,hcl,hall⟩:=hle
   cases he
   refine rsl_fin hs hn h1 hab (by omega) hall fun len cap e1 e2 e3=>?_
   subst e1
   cases lo with
   | none =>
    simp only [Option.isSome_none,Bool.false_eq_true,if_false,Option.some.injEq] at ha hb hc
    subst ha
    cases hi with
    | none =>
     cases mx with
     | none =>
      simp only [Option.isSome_none,Bool.false_eq_true,if_false,Option.some.injEq] at hb hc
      subst hb
      exact ⟨cap,e2,Nat.le_refl _,rfl⟩
     | some u=>simp at hmh
    | some u =>
     cases l with
     | nil=>simp at hl
     | cons q l =>
      simp only [Option.isSome_some,if_true,List.head?_cons,List.drop_succ_cons,List.drop_zero] at hb hc
      obtain ⟨k,rfl⟩:=idxOf_val hb (h2 0 q u rfl rfl)
      cases mx with
      | none =>
       refine ⟨cap,by omega,Nat.le_refl _,?_⟩
       unfold Instr.sliceBounds
       simp only [Sem.run_bind,Sem.run_pure,Result.andThen_ok,if_true,bound_run (show b ≤ cap by omega)]
      | some v =>
       cases l with
       | nil=>simp at hl
       | cons q' l =>
        simp only [Option.isSome_some,if_true,List.head?_cons] at hc
        obtain ⟨k',rfl⟩:=idxOf_val hc (h2 1 q' v rfl rfl)
        refine ⟨c,hbc,by omega,?_⟩
        unfold Instr.sliceBounds
        simp only [Sem.run_bind,Sem.run_pure,Result.andThen_ok,if_true,bound_run (show c ≤ cap by omega),bound_run hbc]
   | some z =>
    cases l with
    | nil=>simp at hl
    | cons q0 l =>
     simp only [Option.isSome_some,if_true,List.head?_cons,List.drop_succ_cons,List.drop_zero] at ha hb hc
     obtain ⟨k0,rfl⟩:=idxOf_val ha (h2 0 q0 z rfl rfl)
     cases hi with
     | none =>
      cases mx with
      | none =>
       simp only [Option.isSome_none,Bool.false_eq_true,if_false,Option.some.injEq] at hb hc
       subst hb
       refine ⟨cap,e2,Nat.le_refl _,?_⟩
       unfold Instr.sliceBounds
       simp only [Sem.run_bind,Sem.run_pure,Result.andThen_ok,Option.isSome_none,Bool.false_eq_true,if_false,bound_run hab]
      | some u=>simp at hmh
     | some u =>
      cases l with
      | nil=>simp at hl
      | cons q l =>
       simp only [Option.isSome_some,if_true,List.head?_cons,List.drop_succ_cons,List.drop_zero] at hb hc
       obtain ⟨k,rfl⟩:=idxOf_val hb (h2 1 q u rfl rfl)
       cases mx with
       | none =>
        refine ⟨cap,by omega,Nat.le_refl _,?_⟩
        unfold Instr.sliceBounds
        simp only [Sem.run_bind,Sem.run_pure,Result.andThen_ok,if_true,Option.isSome_none,Bool.false_eq_true,if_false,bound_run (show b ≤ cap by omega),bound_run hab]
       | some v =>
        cases l with
        | nil=>simp at hl
        | cons q' l =>
         simp only [Option.isSome_some,if_true,List.head?_cons] at hc
         obtain ⟨k',rfl⟩:=idxOf_val hc (h2 2 q' v rfl rfl)
         refine ⟨c,hbc,by omega,?_⟩
         unfold Instr.sliceBounds
         simp only [Sem.run_bind,Sem.run_pure,Result.andThen_ok,if_true,Option.isSome_some,bound_run (show c ≤ cap by omega),bound_run hbc,bound_run hab]
  ·cases he
 ·cases he
end
end Gv
namespace Gv
open Go Go.RowKit
set_option linter.unusedVariables false
set_option linter.unusedSimpArgs false
section
variable {P:Program} {E:Env} {ρ:List PV} {β:Nat → Option Loc} {tm:Nat → Option SV} {hp:Nat → Option HB} {a:Act} {w:World} {W:Nat → Prop}
def Cells (ρ:List PV) (β:Nat → Option Loc) (w:World) (W:Nat → Prop) (l:List SV) (vs:Array Value):Prop :=
 vs.size = l.length ∧ ∀ (i:Nat) (s:SV),l[i]? = some s → flatV (vs.getD i undef) = true ∧ RepS ρ β w W s (vs.getD i undef)
theorem Cells.of_list {l:List SV} {vs:List Value} (h1:vs.length = l.length) (h2:∀ (i:Nat) (s:SV) (v:Value),l[i]? = some s → vs[i]? = some v → flatV v = true ∧ RepS ρ β w W s v):Cells ρ β w W l vs.toArray:=by
 refine ⟨by simpa using h1,fun i s hs=>?_⟩
 have hlt:=(List.getElem?_eq_some_iff.1 hs).1
 have:=h2 i s (vs[i]'(by omega)) hs (List.getElem?_eq_getElem _)
 simpa [Array.getD,show i < vs.length by omega] using this
theorem Cells.at {l:List SV} {vs:Array Value} (h:Cells ρ β w W l vs) (i:Nat) (s:SV) (v:Value) (h1:l[i]? = some s) (h2:vs.toList[i]? = some v):flatV v = true ∧ RepS ρ β w W s v:=by
 have:=h.2 i s h1
 have hlt:=(List.getElem?_eq_some_iff.1 h2).1
 simp only [Array.length_toList] at hlt
 have e:vs.getD i undef = v:=by
  simp [Array.getElem?_toList] at h2
  rw [Array.getElem?_eq_getElem hlt] at h2
  simp [Array.getD,hlt]
  exact Option.some.inj h2
 rwa [e] at this
theorem Cells.con {l:List Value} (h:l.all flatV = true):Cells ρ β w W (l.map .con) l.toArray:=by
 refine .of_list (by simp) fun i s v hs hv=>?_
 rw [List.getElem?_map,hv] at hs
 cases hs
 have hf:=(List.all_eq_true.1 h) v (List.mem_of_getElem? hv)
 exact ⟨hf,.con v hf⟩
theorem Cells.put {l m:List SV} {vs us:Array Value} {off:Nat} (h:Cells ρ β w W l vs) (h':Cells ρ β w W m us) (hle:off + m.length ≤ l.length) :
 Cells ρ β w W (l.take off ++ m ++ l.drop (off + m.length)) (vs.toList.take off ++ us.toList ++ vs.toList.drop (off + us.toList.length)).toArray:=by
 have e1:=h.1
 have e2:=h'.1
 have e3:us.toList.length = m.length:=by simpa using e2
 refine .of_list (by simp; omega) fun i s v hs hv=>?_
 rw [e3] at hv
 by_cases c1:i < off
 ·rw [List.append_assoc,List.getElem?_append_left (by simp; omega),List.getElem?_take,if_pos c1] at hs hv
  exact h.at i s v hs hv
 ·by_cases c2:i < off + m.length
  ·rw [List.append_assoc,List.getElem?_append_right (by simp; omega),List.getElem?_append_left (by simp; omega)] at hs hv
   simp only [List.length_take,Array.length_toList] at hs hv
   rw [show min off l.length = off by omega] at hs
   rw [show min off vs.size = off by omega] at hv
   exact h'.at _ s v hs hv
  ·rw [List.getElem?_append_right (by simp; omega)] at hs hv
   simp only [List.length_append,List.length_take,Array.length_toList,List.getElem?_drop] at hs hv
   rw [show off + m.length + (i - (min off l.length + m.length)) = i by omega] at hs
   rw [show off + m.length + (i - (min off vs.size + us.size)) = i by omega] at hv
   exact h.at i s v hs hv
theorem foldl_put (l:List Value) (off:Nat):∀ (k:Nat) (cs:Array Value),off + k + l.length ≤ cs.size →
 ((l.zipIdx k).foldl (fun cs (x:Value × Nat)=>cs.setIfInBounds (off + x.2) x.1) cs).toList = cs.toList.take (off + k) ++ l ++ cs.toList.drop (off + k + l.length):=by
 induction l with
 | nil=>intro k cs h; simp
 | cons v l ih =>
  intro k cs h
  simp only [List.length_cons] at h
  simp only [List.zipIdx_cons,List.foldl_cons]
  rw [ih (k + 1) _ (by simp; omega)]
  simp only [Array.toList_setIfInBounds,List.length_cons]
  have:=list_seg_step cs.toList (off + k) v l (by simp; omega)
  rw [show off + (k + 1) = off + k + 1 by omega,this]
theorem fill_rep {place:Nat → Option (Nat × Nat)}:∀ {parts:List (Nat × SV)} {cells l:List SV} {vs:Array Value} {ps:List (Nat × Value)},fillS place cells parts = some l → Cells ρ β w W cells vs → parts.length = ps.length →
 (∀ (k:Nat) (x:Nat × SV) (y:Nat × Value),parts[k]? = some x → ps[k]? = some y → x.1 = y.1 ∧ RepS ρ β w W x.2 y.2) → ∃ us,Instr.fill place vs ps = some us ∧ Cells ρ β w W l us
 | [],cells,l,vs,ps,h,hc,hl,hr=>by
  cases ps with
  | nil=>simp only [fillS,Option.some.injEq] at h; subst h; exact ⟨vs,rfl,hc⟩
  | cons=>simp at hl
 | (i,s) :: parts,cells,l,vs,ps,h,hc,hl,hr=>by
  cases ps with
  | nil=>simp at hl
  | cons q ps =>
   obtain ⟨i',v⟩:=q
   obtain ⟨e,hsv⟩:=hr 0 (i,s) (i',v) rfl rfl
   simp only at e hsv
   subst e
   unfold fillS at h
   unfold Instr.fill
   cases hp:place i with
   | none=>simp [hp] at h
   | some q =>
    obtain ⟨off,size⟩:=q
    simp only [hp] at h ⊢
    split at h
    ·rename_i hh
     obtain ⟨h1,h2,h3⟩:=hh
     obtain ⟨k1,k2⟩:=cells_rep hsv h3
     have k3:=hc.1
     rw [if_neg (by simp; omega)]
     have hput:=hc.put (m:=s.cells) (us:=v.cells) (off:=off) ⟨k1,k2⟩ (by omega)
     have efold:=foldl_put v.cells.toList off 0 vs (by simp; omega)
     simp only [Nat.add_zero] at efold
     have earr:(v.cells.zipIdx.foldl (fun cs (x:Value × Nat)=>cs.setIfInBounds (off + x.2) x.1) vs) = (vs.toList.take off ++ v.cells.toList ++ vs.toList.drop (off + v.cells.toList.length)).toArray:=by
      apply Array.ext'
      rw [← efold,← Array.foldl_toList,Array.toList_zipIdx]
     rw [earr]
     subst h1
     exact fill_rep (ps:=ps) h hput (by simpa using hl) fun k x y hx hy=>hr (k + 1) x y (by simpa using hx) (by simpa using hy)
    ·cases h
theorem zero_run {t:TypeId} {l:List SV} (h:zeroS P t = some l):∃ i z,P.info? t = some i ∧ i.zero = some z ∧ z.cells.toList.all flatV = true ∧ l = z.cells.toList.map .con:=by
 unfold zeroS at h
 split at h
 ·rename_i i hi
  split at h
  ·rename_i z hz
   split at h
   ·rename_i hall
    cases h
    exact ⟨i,z,hi,hz,hall,rfl⟩
   ·cases h
  ·cases h
 ·cases h
theorem zerosS_rep {z:Array Value} {n:Nat} (hz:z.toList.all flatV = true) (h0:z.size ≠ 0):Cells ρ β w W (zerosS z n) ((Array.range n).map (z[· % z.size]!)):=by
 refine ⟨by simp [zerosS],fun i s hs=>?_⟩
 unfold zerosS at hs
 rw [List.getElem?_map,Option.map_eq_some_iff] at hs
 obtain ⟨i',hi,rfl⟩:=hs
 have hlt:=(List.getElem?_eq_some_iff.1 hi).1
 simp only [List.length_range] at hlt
 rw [List.getElem?_range hlt] at hi
 cases hi
 have hm:i % z.size < z.size:=Nat.mod_lt _ (Nat.pos_of_ne_zero h0)
 have e1:z.toList.getD (i % z.size) (.bool false) = z[i % z.size]:=by simp [List.getD,hm]
 have e2:((Array.range n).map (z[· % z.size]!)).getD i undef = z[i % z.size]:=by simp [Array.getD,hlt,hm]
 rw [e1,e2]
 have hf:=(List.all_eq_true.1 hz) _ (show z[i % z.size] ∈ z.toList by simp)
 exact ⟨hf,.con _ hf⟩
theorem chunk_len (k:Nat):∀ (n:Nat) (l:List PV),(chunk k n l).length = n
 | 0,_=>rfl
 | n + 1,l=>by simp [chunk,chunk_len k n]
theorem chunk_at (k:Nat):∀ (n:Nat) (l:List PV) (i:Nat) (e:List PV),(chunk k n l)[i]? = some e → n * k = l.length → e = (l.drop (i * k)).take k
 | 0,_,i,e,h,_=>by simp [chunk] at h
 | n + 1,l,i,e,h,hl=>by
  cases i with
  | zero=>simp [chunk] at h; simp [h]
  | succ i =>
   simp only [chunk,List.getElem?_cons_succ] at h
   have:=chunk_at k n (l.drop k) i e h (by rw [List.length_drop,← hl,Nat.succ_mul]; omega)
   rw [this,List.drop_drop,Nat.succ_mul,Nat.add_comm]
theorem chunk_cells {k n:Nat} {l:List SV} {vs:Array Value} (h:Cells ρ β w W l vs) (hp:SV.pures l = true) (hl:n * k = l.length) (i:Nat) (e:List PV) (hi:(chunk k n (pvs ρ l))[i]? = some e) :
 e.length = k ∧ ∀ (j:Nat) (p:PV),e[j]? = some p → p.flat = true ∧ flatV (vs.getD (i * k + j) undef) = true ∧ Rep w W p (vs.getD (i * k + j) undef):=by
 have ha:Args ρ β w W l vs.toList:=⟨by simpa using h.1.symm,fun i s v hs hv=>(h.at i s v hs hv).2⟩
 obtain ⟨h1,h2⟩:=argsN ha hp
 have hlen:(pvs ρ l).length = n * k:=by simp [pvs,hl]
 have hin:=(List.getElem?_eq_some_iff.1 hi).1
 rw [chunk_len] at hin
 have he:=chunk_at k n _ i e hi hlen.symm
 have hmul:(i + 1) * k ≤ n * k:=Nat.mul_le_mul_right k hin
 rw [Nat.succ_mul] at hmul
 refine ⟨by rw [he]; simp only [List.length_take,List.length_drop,hlen]; omega,fun j p hj=>?_⟩
 rw [he] at hj
 have hjlt:=(List.getElem?_eq_some_iff.1 hj).1
 simp only [List.length_take,List.length_drop] at hjlt
 rw [List.getElem?_take,if_pos (by omega),List.getElem?_drop] at hj
 have hlt:=(List.getElem?_eq_some_iff.1 hj).1
 rw [h1,Array.length_toList] at hlt
 have e:vs.toList[i * k + j]? = some (vs.getD (i * k + j) undef):=by simp [Array.getD,hlt]
 have h7:=h2 _ p _ hj e
 have hl':i * k + j < l.length:=by rw [← h.1]; exact hlt
 have h6:=(h.2 _ _ (List.getElem?_eq_getElem hl')).1
 exact ⟨h7.flat' h6,h6,h7⟩
theorem getD_toList (vs:Array Value) (m:Nat):vs.toList.getD m undef = vs.getD m undef:=by
 simp [List.getD,Array.getD_eq_getD_getElem?]
theorem Sim.mkrow (h:Sim E ρ β tm hp a w) {j na:Nat} (hj:β j = none) {e:TypeId} {k n:Nat} {l:List SV} {us:Array Value} (hc:Cells ρ β w (Ok E hp β) l us) (hpu:SV.pures l = true) (hl:n * k = l.length) (hk:0 < k) (hn:n ≤ 1000000)
 (hna:ρ[na]? = some (.sl (chunk k n (pvs ρ l)))) :
 Sim E ρ (fun i=>if i = j then some (.hdr (.slice (some ⟨w.heap.size,0,none⟩) n n)) else β i) tm (updh hp [(j,.row j e k (.at na))]) a (w.alloc (.cells us e)):=by
 have hβ:∀ i b,β i = some b → (if i = j then some (Loc.hdr (.slice (some ⟨w.heap.size,0,none⟩) n n)) else β i) = some b:=by
  intro i b e
  rw [if_neg (fun e'=>by subst e'; rw [hj] at e; cases e)]
  exact e
 refine h.change (fun i=>i = j) hβ (h.bel.alloc _) (fun c hc _=>Below.heap_alloc w _ c hc) (fun i hi=>upd_other hi) (fun i b hi ho=>.inl ?_) (fun i i' b hi hi' _ _=>by rw [hi,hi']) (fun i x hi hx hk'=>?_)
 ·obtain ⟨val,h1,h2⟩:=owns_upd ho hi
  simp only [if_true,Option.some.injEq,Loc.hdr.injEq] at h1
  subst h1
  simp only [Value.ownBlock,Option.some.injEq] at h2
  omega
 ·subst hi
  rw [upd_self hx]
  have hsz:us.size = n * k:=by rw [hc.1,hl]
  refine ⟨_,_,if_pos rfl,(by simp only [den]; exact hna),rfl,hk,us.toList,⟨by rw [chunk_len]; simpa using hsz,.inr ⟨w.heap.size,n,us,by rw [chunk_len],Nat.zero_le _,heap_alloc_new w _,by rw [chunk_len]; exact Nat.le_refl _,by simp only [maxLen]; omega,hsz,?_⟩⟩,fun b hb=>.inl (by simp only [Value.ownBlock,Option.some.injEq] at hb; have:=h.bel.size; omega),fun i el hi=>?_⟩
  ·rw [chunk_len,← hsz,← Array.length_toList]; exact List.take_length
  ·obtain ⟨h1,h2⟩:=chunk_cells hc hpu hl i el hi
   refine ⟨h1,fun j p hj=>?_⟩
   rw [getD_toList]
   exact ⟨(h2 j p hj).1,(h2 j p hj).2.1,(h2 j p hj).2.2.keep hk'⟩
theorem argL1 {args:List SV} {s:SV} {vs:List Value} (h:Args ρ β w W [s] vs):∃ v,vs = [v] ∧ RepS ρ β w W s v:=by
 have hl:=h.1
 match vs,hl with
 | [v],_=>exact ⟨v,rfl,h.head⟩
end
end Gv
namespace Gv
open Go Go.RowKit
set_option linter.unusedVariables false
set_option linter.unusedSimpArgs false
section
variable {P:Program} {E:Env} {ρ:List PV} {β:Nat → Option Loc} {tm:Nat → Option SV} {hp:Nat → Option HB} {a:Act} {w:World} {na j:Nat} {o:Oper} {Q:Exit → Act → World → Prop}
def Then (E:Env) (ρ:List PV) (β:Nat → Option Loc) (tm:Nat → Option SV) (hp:Nat → Option HB) (j:Nat) (o:Oper) (e:Eff) (K:Act → World → Prop):Prop :=
 ∀ β' a' w',Sim E ρ β' (upd tm o.dst e.s) (updh hp e.h) a' w' → (∀ i,β' i ≠ none → β i ≠ none ∨ i = j) → K a' w'
theorem then_value (hs:Sim E ρ β tm hp a w) (hd:∀ x,o.dst = some x → x < E.N) {K:Act → World → Prop} {s:SV} {nd:Nd} (hK:Then E ρ β tm hp j o ⟨s,[],nd⟩ K) {v:Value} {w':World} (hb:Below w.heap.size w w')
 (hr:(execOp a.eval o).run P w = .ok (.value v) w') (hv:RepS ρ β w' (Ok E hp β) s v):o.wp P a w K Q :=
 run_value (s:=s) hr (hK β _ _ ((hs.grow hb).put hv _ hd) fun i h=>.inl h)
theorem exec_v {f:Value → Next} {S:Sem Value} {v:Value} {w':World} (h:S.run P w = .ok v w'):((do pure (.value (← S)):Sem Next)).run P w = .ok (.value v) w':=by
 rw [Sem.run_bind,h]
 rfl
theorem then_look (hs:Sim E ρ β tm hp a w) (hd:∀ x,o.dst = some x → x < E.N) {K:Act → World → Prop} {p:Prim} {args:List SV} {r:PV} (hρ:ρ[na]? = some r)
 (hK:Then E ρ β tm hp j o ⟨expand (.at na) p.sh,[],.prim p args⟩ K) {S:Sem Value} (hS:execOp a.eval o = (do pure (.value (← S)))) (hl:Looks P w (Ok E hp β) r p.sh S):o.wp P a w K Q:=by
 obtain ⟨v,hr,hrep,hf⟩:=hl
 refine then_value hs hd hK (Below.refl _ w) (v:=v) (by rw [hS]; exact exec_v (f:=.value) hr) ?_
 exact expand_rep rfl (by simp only [den]; exact hρ) hf hrep
theorem prim_inv {p:Prim} {args:List SV} {e:Eff} (h:Eff.prim na p args = some e):SV.pures args = true ∧ e = ⟨expand (.at na) p.sh,[],.prim p args⟩:=by
 unfold Eff.prim at h
 split at h
 ·cases h; exact ⟨‹_›,rfl⟩
 ·cases h
theorem partS_val {t:TypeId} {l:List SV} {off:Nat} {s:SV} {vs:Array Value} {W:Nat → Prop} (h:partS P t l off = some s) (hc:Cells ρ β w W l vs):∃ v,(part t vs off).run P w = .ok v w ∧ RepS ρ β w W s v:=by
 have hl:=hc.1
 unfold partS at h
 split at h
 ·rename_i hag
  split at h
  ·rename_i n hn
   split at h
   ·rename_i hle
    cases h
    refine ⟨.agg (vs.extract off (off + n)),by simp only [part,Sem.run_bind,agg_run hag w,Result.andThen_ok,if_true,size_run hn w,Sem.run_pure],?_⟩
    have key:∀ (j:Nat) (s:SV),((l.drop off).take n)[j]? = some s → flatV ((vs.extract off (off + n)).getD j undef) = true ∧ RepS ρ β w W s ((vs.extract off (off + n)).getD j undef):=by
     intro j s hj
     have hlt:=(List.getElem?_eq_some_iff.1 hj).1
     simp only [List.length_take,List.length_drop] at hlt
     rw [List.getElem?_take,if_pos (by omega),List.getElem?_drop] at hj
     have:=hc.2 _ s hj
     have e:(vs.extract off (off + n)).getD j undef = vs.getD (off + j) undef:=by
      simp [Array.getD,show j < min (off + n) vs.size - off by omega,show off + j < vs.size by omega]
     rwa [e]
    exact .agg _ _ (by simp; omega) (fun j s h=>(key j s h).1) (fun j s h=>(key j s h).2)
   ·cases h
  ·cases h
 ·rename_i hag
  have hlt:=(List.getElem?_eq_some_iff.1 h).1
  have e:vs[off]? = some (vs.getD off undef):=by simp [Array.getD,show off < vs.size by omega]
  exact ⟨vs.getD off undef,by simp only [part,Sem.run_bind,agg_run hag w,Result.andThen_ok,Bool.false_eq_true,if_false,e,Sem.run_pure],(hc.2 off s h).2⟩
 ·cases h
theorem agg_val {l:List SV} {v:Value} {W:Nat → Prop} (h:RepS ρ β w W (.agg l) v):∃ vs,v = .agg vs ∧ Cells ρ β w W l vs:=by
 cases h with
 | pure s p v hd hf hr hn =>
  simp only [den,Option.map_eq_some_iff] at hd
  obtain ⟨ps,_,rfl⟩:=hd
  simp [PV.flat] at hf
 | agg l vs hl hf hr=>exact ⟨vs,rfl,hl.symm,fun i s hi=>⟨hf i s hi,hr i s hi⟩⟩
theorem box_val {j off:Nat} {v:Value} {W:Nat → Prop} (h:RepS ρ β w W (.box j off) v):∃ b,β j = some (.blk b) ∧ v = .pointer (some ⟨b,off,none⟩):=by
 cases h with
 | pure _ _ _ hd=>simp [den] at hd
 | box _ _ b' hb'=>exact ⟨b',hb',rfl⟩
theorem int_val {k:IntKind} {i:Int} {v:Value} {W:Nat → Prop} (h:RepS ρ β w W (.con (.int k i)) v):v = .int k i:=by
 have:=h.rep (p:=.raw (.int k i)) rfl
 cases this
 rfl
theorem map_val {j:Nat} {v:Value} {W:Nat → Prop} (h:RepS ρ β w W (.mapp j) v):∃ b,β j = some (.blk b) ∧ v = .map (some b):=by
 cases h with
 | pure _ _ _ hd=>simp [den] at hd
 | mapp _ b hb=>exact ⟨b,hb,rfl⟩
theorem getObj_map {b n:Nat} {ents:Array MapEntry} (h:w.heap[b]? = some (.map ents n)):(getObj b).run P w = .ok (.map ents n) w:=by
 simp only [getObj,Sem.run,h]
theorem setObj_map {b n:Nat} {ents:Array MapEntry} {o:Obj} (h:w.heap[b]? = some (.map ents n)):(setObj b o).run P w = .ok () { w with heap:=w.heap.setIfInBounds b o }:=by
 simp only [setObj,Sem.run,h]
theorem checkKey_int {e:Bool} {t:TypeId} {k0 k:IntKind} {n:Int} (h:P.underlying t = some (.int k0)):(Instr.checkKey e 10000 t (.int k n)).run P w = .ok () w:=by
 rw [Instr.checkKey]
 simp only [Sem.run_bind,run_underlying h w,Result.andThen_ok]
 rfl
theorem mapFind_none {k k0:IntKind} {n:Int}:∀ {es:List (Value × SV)} {l:List MapEntry} {i:Nat},mapFind k n es = some none → l.length = es.length → (∀ (i:Nat) (x:Value × SV) (y:MapEntry),es[i]? = some x → l[i]? = some y → y.key = x.1) →
 Instr.findNow (.int k0) (.int k n) l i = some none
 | [],l,i,h,hl,_=>by
  have:l = []:=List.length_eq_zero_iff.1 hl
  subst this
  rfl
 | (u,s) :: es,l,i,h,hl,hk=>by
  cases l with
  | nil=>simp at hl
  | cons y l =>
   have h0:=hk 0 (u,s) y rfl rfl
   simp only at h0
   unfold mapFind at h
   split at h
   ·simp at *
   ·rename_i k' n' s' l' heq
    simp only [List.cons.injEq,Prod.mk.injEq] at heq
    obtain ⟨⟨rfl,rfl⟩,rfl⟩:=heq
    split at h
    ·rename_i hkk
     subst hkk
     split at h
     ·cases h
     ·rename_i hne
      unfold Instr.findNow
      rw [h0]
      have e:Instr.sameNow (.int k0) (.int k n) (.int k n') = some false:=by
       show (if k = k then some (n == n') else none) = _
       rw [if_pos rfl]
       simp [hne]
      rw [e]
      exact mapFind_none h (by simpa using hl) fun i x y hx hy=>hk (i + 1) x y (by simpa using hx) (by simpa using hy)
    ·cases h
   ·cases h
theorem mapFind_some {k k0:IntKind} {n:Int} {s:SV}:∀ {es:List (Value × SV)} {l:List MapEntry} {i:Nat},mapFind k n es = some (some s) → l.length = es.length → (∀ (i:Nat) (x:Value × SV) (y:MapEntry),es[i]? = some x → l[i]? = some y → y.key = x.1) →
 ∃ m x y,es[m]? = some x ∧ l[m]? = some y ∧ x.2 = s ∧ Instr.findNow (.int k0) (.int k n) l i = some (some (i + m,y.val))
 | [],l,i,h,hl,_=>by simp [mapFind] at h
 | (u,s') :: es,l,i,h,hl,hk=>by
  cases l with
  | nil=>simp at hl
  | cons y l =>
   have h0:=hk 0 (u,s') y rfl rfl
   simp only at h0
   unfold mapFind at h
   split at h
   ·simp at *
   ·rename_i k' n' s'' l' heq
    simp only [List.cons.injEq,Prod.mk.injEq] at heq
    obtain ⟨⟨rfl,rfl⟩,rfl⟩:=heq
    split at h
    ·rename_i hkk
     subst hkk
     split at h
     ·rename_i hn
      subst hn
      cases h
      refine ⟨0,_,y,rfl,rfl,rfl,?_⟩
      unfold Instr.findNow
      rw [h0]
      have e:Instr.sameNow (.int k0) (.int k n) (.int k n) = some true:=by
       show (if k = k then some (n == n) else none) = _
       rw [if_pos rfl]
       simp
      rw [e]
      rfl
     ·rename_i hne
      obtain ⟨m,x,y',h1,h2,h3,h4⟩:=mapFind_some (i:=i + 1) h (by simpa using hl) fun i x y hx hy=>hk (i + 1) x y (by simpa using hx) (by simpa using hy)
      refine ⟨m + 1,x,y',by simpa using h1,by simpa using h2,h3,?_⟩
      unfold Instr.findNow
      rw [h0]
      have e:Instr.sameNow (.int k0) (.int k n) (.int k n') = some false:=by
       show (if k = k then some (n == n') else none) = _
       rw [if_pos rfl]
       simp [hne]
      rw [e]
      simp only
      rw [h4]
      congr 3
      omega
    ·cases h
   ·cases h
theorem clo_val {fn:Go.Fn} {fs cs:List SV} {v:Value} {W:Nat → Prop} (h:RepS ρ β w W (.clo fn fs cs) v) (hp:SV.pures fs = true) (hp':SV.pures cs = true) :
 ∃ ps qs fv cv,dens ρ fs = some ps ∧ dens ρ cs = some qs ∧ v = .func fn fv cv ∧ Rep w W (.clo fn ps qs) v:=by
 obtain ⟨p,hd⟩:=h.den1 (by simp [SV.pure,hp,hp'])
 have hr:=h.rep hd
 simp only [den] at hd
 split at hd
 ·rename_i ps qs h1 h2
  cases hd
  have hr2:=hr
  cases hr with
  | clo _ _ _ fv cv=>exact ⟨ps,qs,fv,cv,h1,h2,rfl,hr2⟩
 ·cases hd
theorem dens_append:∀ {l m:List SV} {ps qs:List PV},dens ρ l = some ps → dens ρ m = some qs → dens ρ (l ++ m) = some (ps ++ qs)
 | [],m,ps,qs,h,h'=>by simp only [dens,Option.some.injEq] at h; subst h; exact h'
 | s :: l,m,ps,qs,h,h'=>by
  simp only [dens] at h
  split at h
  ·rename_i p q hp hq
   cases h
   simp only [List.cons_append,dens,hp,dens_append hq h']
  ·cases h
theorem pures_append:∀ {l m:List SV},SV.pures (l ++ m) = true → SV.pures l = true ∧ SV.pures m = true
 | [],m,h=>⟨rfl,h⟩
 | s :: l,m,h=>by
  simp only [List.cons_append,SV.pures,Bool.and_eq_true] at h ⊢
  obtain ⟨h1,h2⟩:=pures_append h.2
  exact ⟨⟨h.1,h1⟩,h2⟩
theorem call_fin (hs:Sim E ρ β tm hp a w) (hd:∀ x,o.dst = some x → x < E.N) {K:Act → World → Prop} {f:FuncId} {ps:List PV} {r:PV} {sh:RSh} {nd:Nd} (hf:Fn P f ps r) (hρ:ρ[na]? = some r) (hfit:fitsR sh r = true)
 (hK:Then E ρ β tm hp j o ⟨expandR (.at na) sh,[],nd⟩ K) {vs:Array Value} (hrun:(execOp a.eval o).run P w = (callFunc f vs).run P w) (hl:ps.length = vs.size)
 (hr:∀ (j:Nat) (p:PV),ps[j]? = some p → Rep w (Ok E hp β) p (vs.getD j undef)):o.wp P a w K Q:=by
 obtain ⟨⟨fn,hfn,hbody,hname⟩,hcall⟩:=hf
 have hrun':(execOp a.eval o).run P w = .ok (.enter f vs) w:=by
  rw [hrun]
  unfold callFunc
  simp only [Sem.run_bind,run_program,Result.andThen_ok,hfn]
  have hb:fn.body.isNone = false:=by cases h:fn.body <;> simp_all
  simp only [hname,hb,Bool.false_eq_true,if_false,Sem.run_pure]
 refine run_enter hrun' ((hcall w (fun b=>Ok E hp β b ∧ b < w.heap.size) vs (fun b h=>h.2) hl fun j p hj=>(hr j p hj).lt).mono fun e w' he=>?_)
 obtain ⟨v,p,rfl,rfl,hrep,hb⟩:=he
 refine ⟨v,rfl,hK β _ _ ((hs.grow hb).put ?_ _ hd) fun i h=>.inl h⟩
 refine expandR_rep rfl (by simp only [den]; exact hρ) hfit (hrep.mono fun b hb'=>?_)
 rcases hb' with hb' | hb'
 ·exact hb'.1
 ·exact hs.fresh hb'
theorem hp_one {hp:Nat → Option HB} {j:Nat} {x:HB} (h:List.map hp [j] = [some x]):hp j = some x:=by simpa using h
set_option maxHeartbeats 1000000 in
theorem op_run (hm:P.follows .mixedOrders = true) (hs:Sim E ρ β tm hp a w) {args:List SV} (ha:Args ρ β w (Ok E hp β) args (o.op.operands.toList.map a.eval)) {e:Eff}
 (he:symOp P ((hread o.op args).map hp) na j o args = some e) (hnd:NdOK P ρ na e.nd) (hj:β j = none) (hd:∀ x,o.dst = some x → x < E.N) {K:Act → World → Prop}
 (hK:Then E ρ β tm hp j o e K):o.wp P a w K Q:=by
 obtain ⟨dst,op,ty,pos,after,guard⟩:=o
 unfold symOp at he
 simp only at he ha
 split at he
 -- move
 ·simp only [Op.operands,List.map_cons,List.map_nil] at ha
  cases he
  exact then_value hs hd hK (Below.refl _ w) rfl ha.head
 -- assign
 ·simp only [Op.operands,List.map_cons,List.map_nil] at ha
  cases he
  exact then_value hs hd hK (Below.refl _ w) rfl ha.head
 -- pick
 ·rename_i x y z b s t
  simp only [Op.operands,List.map_cons,List.map_nil] at ha
  cases he
  have hb:a.eval x = .bool b:=ha.head.bool rfl
  refine then_value hs hd hK (Below.refl _ w) (v:=if b then a.eval y else a.eval z) ?_ ?_
  ·simp only [execOp,hb,asBool,Sem.run_bind,Sem.run_pure,Result.andThen_ok]
  ·cases b
   ·exact ha.tail.tail.head
   ·exact ha.tail.head
 -- alloc
 ·rename_i t
  simp only [Option.map_eq_some_iff] at he
  obtain ⟨l,hl,rfl⟩:=he
  obtain ⟨i,z,hi,hz,hall,rfl⟩:=zero_run hl
  have hc:Cells ρ β w (Ok E hp β) (z.cells.toList.map .con) z.cells:=by
   have:=Cells.con (ρ:=ρ) (β:=β) (w:=w) (W:=Ok E hp β) hall
   rwa [Array.toArray_toList] at this
  have hrun:(execOp a.eval ⟨dst,.alloc t,ty,pos,after,guard⟩).run P w = .ok (.value (.pointer (some ⟨w.heap.size,0,none⟩))) (w.alloc (.cells z.cells t)):=by
   simp only [execOp,Instr.alloc,zeroValue,typeInfo,Sem.run_bind,run_program,Result.andThen_ok,hi,hz,Sem.run_pure,newVar,newRow,run_newObj]
   rfl
  refine run_value (s:=.box j 0) hrun (hK _ _ _ ((hs.alloc hj hc.1 hc.2).put ?_ _ hd) fun i h=>?_)
  ·exact .box j 0 _ (by simp)
  ·by_cases e:i = j
   ·exact .inr e
   ·simp only [e,if_false] at h; exact .inl h
 -- box
 ·rename_i t x s
  simp only [Op.operands,List.map_cons,List.map_nil] at ha
  split at he
  ·cases he
  ·rename_i hnt
   cases he
   have hc:=cells_rep ha.head (by simpa using hnt)
   have hrun:(execOp a.eval ⟨dst,.box t x,ty,pos,after,guard⟩).run P w = .ok (.value (.pointer (some ⟨w.heap.size,0,none⟩))) (w.alloc (.cells (a.eval x).cells t)):=by
    simp only [execOp,Instr.box,newVar,newRow,Sem.run_bind,run_newObj,Result.andThen_ok,Sem.run_pure]
    rfl
   refine run_value (s:=.box j 0) hrun (hK _ _ _ ((hs.alloc hj hc.1 hc.2).put ?_ _ hd) fun i h=>?_)
   ·exact .box j 0 _ (by simp)
   ·by_cases e:i = j
    ·exact .inr e
    ·simp only [e,if_false] at h; exact .inl h
 -- build
 ·rename_i t parts
  split at he
  ·rename_i z pl hz hpl
   split at he
   ·rename_i hlen
    cases hf:fillS pl z ((parts.toList.map (·.1)).zip args) with
    | none=>simp [hf] at he
    | some l =>
     simp only [hf,Option.bind_some] at he
     cases he
     obtain ⟨i,zz,hi,hzz,hall,rfl⟩:=zero_run hz
     have hc:Cells ρ β w (Ok E hp β) (zz.cells.toList.map .con) zz.cells:=by
      have:=Cells.con (ρ:=ρ) (β:=β) (w:=w) (W:=Ok E hp β) hall
      rwa [Array.toArray_toList] at this
     simp only [Op.operands,List.map_map,Array.toList_map] at ha
     have hlen':args.length = parts.toList.length:=by simpa using hlen
     obtain ⟨us,hu1,hu2⟩:=fill_rep (ps:=parts.toList.map fun q=>(q.1,a.eval q.2)) hf hc (by simp; omega) (fun k x y hx hy=>by
      rw [List.getElem?_map,Option.map_eq_some_iff] at hy
      obtain ⟨q,hq,rfl⟩:=hy
      rw [List.getElem?_zip_eq_some] at hx
      obtain ⟨h1,h2⟩:=hx
      rw [List.getElem?_map,hq] at h1
      refine ⟨(Option.some.inj h1).symm,ha.2 k _ _ h2 ?_⟩
      rw [List.getElem?_map,hq]
      rfl)
     have hbuilt:P.built t (parts.map fun (i,x)=>(i,a.eval x)).toList = some us:=by
      rw [Array.toList_map]
      unfold placeOf at hpl
      unfold Program.built
      rw [hi]
      split at hpl
      ·rename_i fs hu
       rw [Option.map_eq_some_iff] at hpl
       obtain ⟨places,hpl,rfl⟩:=hpl
       simp only [hu,hzz,hpl]
       exact hu1
      ·rename_i len el hu
       rw [Option.map_eq_some_iff] at hpl
       obtain ⟨ie,hie,rfl⟩:=hpl
       simp only [hu,hzz,hie]
       exact hu1
      ·cases hpl
     refine then_value hs hd hK (Below.refl _ w) (v:=.agg us) ?_ ?_
     ·simp only [execOp,Sem.run_bind,run_build w t _ us hbuilt,Result.andThen_ok,Sem.run_pure]
     ·exact .agg l us hu2.1.symm (fun j s h=>(hu2.2 j s h).1) (fun j s h=>(hu2.2 j s h).2)
   ·cases he
  ·cases he
 -- buildSlice
 ·rename_i t n parts
  split at he
  ·rename_i el hu
   split at he
   ·rename_i ie hie
    split at he
    ·rename_i z hz
     split at he
     ·rename_i hcond
      obtain ⟨hlen,hsm,hall⟩:=hcond
      simp only [Op.operands,List.map_map,Array.toList_map] at ha
      have hlen':args.length = parts.toList.length:=by simpa using hlen
      have hOk:Ok E hp β w.heap.size:=by
       exact hs.fresh (Nat.le_refl _)
      have hsz:(Go.sizeOf el).run P w = .ok ie.size w:=by simp [Go.sizeOf,typeInfo,hie]
      split at he
      ·rename_i h0
       obtain ⟨rfl,h1⟩:=h0
       have hp0:parts.toList = []:=List.length_eq_zero_iff.1 (by omega)
       have hp1:parts = #[]:=by apply Array.ext'; simpa using hp0
       subst hp1
       split at he
       ·cases he
       ·rename_i hk0
        cases he
        refine run_value (s:=.row j j) (w':=w.alloc (.cells #[] el)) (v:=.slice (some ⟨w.heap.size,0,none⟩) 0 0) ?_ (hK _ _ _ ((hs.mkrow hj (l:=[]) (n:=0) (us:=#[]) ⟨rfl,fun i s h=>by simp at h⟩ rfl (by simp) (Nat.pos_of_ne_zero hk0) (by omega) hnd).put (.row j j _ _ _ (by simp)) _ hd) fun i h=>?_)
        ·simp only [execOp,Instr.buildSlice,Sem.run_bind,run_underlying hu w,Result.andThen_ok,hsz,Nat.zero_mul]
         rw [if_neg (by omega),if_pos trivial]
         simp [Instr.fill,newRow]
         show w.alloc _ = w.alloc _
         congr 2
         apply Array.ext
         ·simp
         ·intro i h1 h2; simp at h2
        ·by_cases e:i = j
         ·exact .inr e
         ·simp only [e,if_false] at h; exact .inl h
      ·split at he
       ·cases he
       ·rename_i hnz
        cases hf:fillS (fun i=>some (i * ie.size,ie.size)) (zerosS z.cells (n * ie.size)) ((parts.toList.map (·.1)).zip args) with
        | none=>simp [hf] at he
        | some l =>
         simp only [hf,Option.bind_some] at he
         split at he
         ·rename_i hpure
          cases he
          have hzs:z.cells.size ≠ 0:=fun e=>hnz (.inr e)
          have hpos:¬ n * ie.size = 0:=fun e=>hnz (.inl e)
          obtain ⟨us,hu1,hu2⟩:=fill_rep (ps:=parts.toList.map fun q=>(q.1,a.eval q.2)) hf (zerosS_rep hall hzs) (by simp; omega) (fun k x y hx hy=>by
           rw [List.getElem?_map,Option.map_eq_some_iff] at hy
           obtain ⟨q,hq,rfl⟩:=hy
           rw [List.getElem?_zip_eq_some] at hx
           obtain ⟨h1,h2⟩:=hx
           rw [List.getElem?_map,hq] at h1
           refine ⟨(Option.some.inj h1).symm,ha.2 k _ _ h2 ?_⟩
           rw [List.getElem?_map,hq]
           rfl)
          have hll:∀ {parts:List (Nat × SV)} {cells l:List SV},fillS (fun i=>some (i * ie.size,ie.size)) cells parts = some l → l.length = cells.length:=by
           intro parts
           induction parts with
           | nil=>intro cells l h; simp only [fillS,Option.some.injEq] at h; rw [h]
           | cons q parts ih =>
            intro cells l h
            obtain ⟨i,s⟩:=q
            simp only [fillS] at h
            split at h
            ·rename_i hh
             rw [ih h]
             simp only [List.length_append,List.length_take,List.length_drop]
             omega
            ·cases h
          have hl:l.length = n * ie.size:=by rw [hll hf]; simp [zerosS]
          have hns:n ≤ 1000000:=Nat.le_trans (Nat.le_mul_of_pos_right _ (Nat.pos_of_ne_zero fun e=>hpos (by rw [e,Nat.mul_zero]))) hsm
          refine run_value (s:=.row j j) (w':=w.alloc (.cells us el)) (v:=.slice (some ⟨w.heap.size,0,none⟩) n n) ?_ (hK _ _ _ ((hs.mkrow hj hu2 hpure hl.symm (Nat.pos_of_ne_zero fun e=>hpos (by rw [e,Nat.mul_zero])) hns hnd).put (.row j j _ _ _ (by simp)) _ hd) fun i h=>?_)
          ·have:=run_buildSlice w t el n (parts.map fun (i,x)=>(i,a.eval x)) us ie z hu hie hz (by omega) hpos (by rw [Array.toList_map]; exact hu1)
           simp only [execOp,Sem.run_bind,this,Result.andThen_ok,Sem.run_pure]
          ·by_cases e:i = j
           ·exact .inr e
           ·simp only [e,if_false] at h; exact .inl h
         ·cases he
     ·cases he
    ·cases he
   ·cases he
  ·cases he
 -- load from a box
 ·rename_i t x j' off
  simp only [Op.operands,List.map_cons,List.map_nil] at ha
  simp only [hread,Option.bind_some] at he
  split at he
  ·rename_i cs T hh
   cases hp':partS P t cs off with
   | none=>simp [hp'] at he
   | some s =>
    simp only [hp',Option.bind_some] at he
    cases he
    have hh:=hp_one hh
    obtain ⟨b,vs,h1,h2,h3,h4,h5⟩:=hs.hpr _ _ hh
    have hx:a.eval x = .pointer (some ⟨b,off,none⟩):=by
     obtain ⟨b',hb',e⟩:=box_val ha.head
     rw [h1] at hb'; cases hb'; exact e
    obtain ⟨v,hv1,hv2⟩:=partS_load hp' h2 h3 h5
    refine then_value hs hd hK (Below.refl _ w) (v:=v) ?_ hv2
    simp only [execOp,hx,Instr.loadAt,Instr.sureAddr,Sem.run_bind,Sem.run_pure,Result.andThen_ok,hv1]
  ·rename_i cs T hh
   cases hp':partS P t cs off with
   | none=>simp [hp'] at he
   | some s =>
    simp only [hp',Option.bind_some] at he
    cases he
    have hh:=hp_one hh
    obtain ⟨b,vs,h1,h2,h3,h4,h5⟩:=hs.hpr _ _ hh
    have hx:a.eval x = .pointer (some ⟨b,off,none⟩):=by
     obtain ⟨b',hb',e⟩:=box_val ha.head
     rw [h1] at hb'; cases hb'; exact e
    obtain ⟨v,hv1,hv2⟩:=partS_load hp' h2 h3 h5
    refine then_value hs hd hK (Below.refl _ w) (v:=v) ?_ hv2
    simp only [execOp,hx,Instr.loadAt,Instr.sureAddr,Sem.run_bind,Sem.run_pure,Result.andThen_ok,hv1]
  ·cases he
 -- load from what nobody writes
 ·rename_i t x s hns
  simp only [Op.operands,List.map_cons,List.map_nil] at ha
  split at he
  ·rename_i hag
   cases hn:cellsOf P t with
   | none=>simp [hn] at he
   | some n =>
    simp only [hn,Option.bind_some] at he
    obtain ⟨hp1,rfl⟩:=prim_inv he
    obtain ⟨r,hρ,hev⟩:=hnd
    obtain ⟨p,hpv,hrep⟩:=args1 (l:=[]) (vs:=[]) (ps:=[]) ha (by simpa [SV.pures] using hp1)
    rw [hpv] at hev
    exact then_look hs hd hρ hK rfl (look_ld_ag hag hn hrep hev)
  ·rename_i hag
   obtain ⟨hp1,rfl⟩:=prim_inv he
   obtain ⟨r,hρ,hev⟩:=hnd
   obtain ⟨p,hpv,hrep⟩:=args1 (l:=[]) (vs:=[]) (ps:=[]) ha (by simpa [SV.pures] using hp1)
   rw [hpv] at hev
   exact then_look hs hd hρ hK rfl (look_ld_sc hag hrep hev)
  ·cases he
 -- store
 ·rename_i t x y j' off s
  simp only [Op.operands,List.map_cons,List.map_nil] at ha
  simp only [hread,Option.bind_some] at he
  split at he
  ·rename_i cs T hh
   split at he
   ·rename_i hcond
    cases he
    obtain ⟨hc1,hc2,hc3⟩:=hcond
    have hh:=hp_one hh
    obtain ⟨b,vs,h1,h2,h3,h4,h5⟩:=hs.hpr _ _ hh
    have hx:a.eval x = .pointer (some ⟨b,off,none⟩):=by
     obtain ⟨b',hb',e⟩:=box_val ha.head
     rw [h1] at hb'; cases hb'; exact e
    obtain ⟨k1,k2⟩:=cells_rep ha.tail.head hc3
    have hput:=Cells.put (l:=cs) (m:=s.cells) (off:=off) ⟨h3,h5⟩ ⟨k1,k2⟩ hc2
    have hone:∀ v ∈ (a.eval y).cells.toList,v.oneCell' = true:=by
     intro v hv
     obtain ⟨i,hi,e⟩:=List.mem_iff_getElem.1 hv
     simp only [Array.length_toList] at hi
     have hl:i < s.cells.length:=by rw [← k1]; exact hi
     have:=(k2 i _ (List.getElem?_eq_getElem hl)).1
     simp [Array.getD,hi] at this
     rw [oneCell_flat,← e]
     simpa using this
    have hst:=run_storeCells_at P b off T (a.eval y).cells.toList 0 vs w h2 (by simp; omega) hone
    simp only [Nat.add_zero] at hst
    have hrun:(execOp a.eval ⟨dst,.store t x y,ty,pos,after,guard⟩).run P w = .ok .skip (w.setRow b (vs.toList.take off ++ (a.eval y).cells.toList ++ vs.toList.drop (off + (a.eval y).cells.toList.length)).toArray):=by
     simp only [execOp,hx,Instr.storeAt,Instr.sureAddr,Sem.run_bind,Sem.run_pure,Result.andThen_ok,storeVar,size_run hc1 w]
     rw [if_neg (by simp; omega),hst]
     rfl
    exact run_skip hrun (hK β _ _ ((hs.store hh h1 h2 hput.1 hput.2).put undef_rep _ hd) fun i h=>.inl h)
   ·cases he
  ·cases he
 -- makeMap
 ·rename_i t
  simp only [Op.operands] at ha
  cases he
  have hrun:(execOp a.eval ⟨dst,.makeMap t none,ty,pos,after,guard⟩).run P w = .ok (.value (.map (some w.heap.size))) (w.alloc (.map #[] 0)):=rfl
  refine run_value (s:=.mapp j) hrun (hK _ _ _ ((hs.allocO (hb:=.mp []) hj (fun _ _ h=>h) fun β' P' h1 h2 h3=>⟨w.heap.size,#[],h1,by show (w.heap.push _)[w.heap.size]? = _; simp,rfl,.inl hs.bel.size,fun i x y hx _=>by simp at hx⟩).put (.mapp j _ (by simp)) _ hd) fun i h=>?_)
  by_cases e:i = j
  ·exact .inr e
  ·simp only [e,if_false] at h; exact .inl h
 -- insert
 ·rename_i t x y z j' k n s
  simp only [Op.operands,List.map_cons,List.map_nil] at ha
  simp only [hread,Option.bind_some] at he
  split at he
  ·rename_i es kt et hh hu
   split at he
   ·rename_i k0 hku
    split at he
    ·rename_i hfind
     cases he
     have hh:=hp_one hh
     obtain ⟨b,ents,h1,h2,h3,h4,h5⟩:=hs.hpr _ _ hh
     obtain ⟨b',hb',hx⟩:=map_val ha.head
     rw [h1] at hb'
     cases hb'
     have hy:=int_val ha.tail.head
     have hfk:=mapFind_none (i:=0) hfind (by simpa using h3) (fun i x y hx hy=>(h5 i x y hx hy).1) (k0:=k0)
     have hrun:(execOp a.eval ⟨dst,.insert t x y z,ty,pos,after,guard⟩).run P w = .ok .skip { w with heap:=w.heap.setIfInBounds b (.map (ents.push { key:=.int k n,val:=a.eval z,born:=es.length }) (es.length + 1)) }:=by
      simp only [execOp,hx,hy,Instr.mapUpdate,Sem.run_bind,run_underlying hu w,Result.andThen_ok,getObj_map h2,checkKey_int hku,Instr.findKey,run_underlying hku w,hfk,Sem.run_pure,setObj_map h2]
     have hblt:=(Array.getElem?_eq_some_iff.1 h2).1
     refine run_skip hrun (hK β _ _ ((hs.turn (w':={ w with heap:=w.heap.setIfInBounds b (.map (ents.push { key:=.int k n,val:=a.eval z,born:=es.length }) (es.length + 1)) }) hh h1 (hb:=.mp (es ++ [(.int k n,s)])) (fun c hc=>by rw [show β j' = _ from hc] at h1; cases h1; rfl) ⟨rfl,rfl,rfl,by simp,fun c hc=>?_⟩ (fun c hc=>?_) fun P' hk=>?_).put undef_rep _ hd) fun i h=>.inl h)
     ·simp only [Array.getElem?_setIfInBounds_ne (show b ≠ c by omega)]
     ·simp only [Array.getElem?_setIfInBounds_ne (Ne.symm hc)]
     ·refine ⟨b,ents.push { key:=.int k n,val:=a.eval z,born:=es.length },h1,?_,?_,h4,fun i x y hx' hy'=>?_⟩
      ·simp only [List.length_append,List.length_cons,List.length_nil]
       rw [Array.getElem?_setIfInBounds_self_of_lt hblt]
      ·simp [h3]
      ·by_cases hi:i < es.length
       ·rw [List.getElem?_append_left hi] at hx'
        simp only [Array.toList_push] at hy'
        rw [List.getElem?_append_left (by simpa [h3] using hi)] at hy'
        obtain ⟨k1,k2,k3⟩:=h5 i x y hx' hy'
        exact ⟨k1,k2,k3.keep' (fun _ _ h=>h) hk⟩
       ·rw [List.getElem?_append_right (by omega)] at hx'
        simp only [Array.toList_push] at hy'
        rw [List.getElem?_append_right (by simp [h3]; omega)] at hy'
        have hlt:=(List.getElem?_eq_some_iff.1 hx').1
        simp at hlt
        have:i = es.length:=by omega
        subst this
        simp at hx'
        simp [h3] at hy'
        subst hx' hy'
        exact ⟨rfl,rfl,ha.tail.tail.head.keep' (fun _ _ h=>h) hk⟩
    ·cases he
   ·cases he
  ·cases he
 -- lookup
 ·rename_i t x y j' k n
  simp only [Op.operands,List.map_cons,List.map_nil] at ha
  simp only [hread,Option.bind_some] at he
  split at he
  ·rename_i es kt et hh hu
   split at he
   ·rename_i k0 hku
    split at he
    ·rename_i s hfind
     cases he
     have hh:=hp_one hh
     obtain ⟨b,ents,h1,h2,h3,h4,h5⟩:=hs.hpr _ _ hh
     obtain ⟨b',hb',hx⟩:=map_val ha.head
     rw [h1] at hb'
     cases hb'
     have hy:=int_val ha.tail.head
     obtain ⟨i,x',y',hx',hy',hxs,hfk⟩:=mapFind_some (i:=0) hfind (by simpa using h3) (fun i x y hx hy=>(h5 i x y hx hy).1) (k0:=k0)
     obtain ⟨k1,k2,k3⟩:=h5 i x' y' hx' hy'
     rw [hxs] at k3
     refine then_value hs hd hK (Below.refl _ w) (v:=y'.val) ?_ k3
     simp only [execOp,hx,hy,Instr.lookup,Sem.run_bind,run_underlying hu w,Result.andThen_ok,getObj_map h2,checkKey_int hku,Instr.findKey,run_underlying hku w,hfk,Sem.run_pure]
     rfl
    ·cases he
   ·cases he
  ·cases he
 -- fieldAddr
 ·rename_i t x f s
  simp only [Op.operands,List.map_cons,List.map_nil] at ha
  split at he
  ·rename_i fl hfl
   split at he
   ·rename_i hz
    split at he
    ·rename_i j' off
     cases he
     obtain ⟨b,hb,hx⟩:=box_val ha.head
     refine then_value hs hd hK (Below.refl _ w) (v:=.pointer (some ⟨b,off + fl.offset,none⟩)) ?_ (.box _ _ _ hb)
     simp only [execOp,hx,Sem.run_bind,fieldAt_run hfl hz,Result.andThen_ok,Sem.run_pure,add_mid]
    ·rename_i s hns
     obtain ⟨hp1,rfl⟩:=prim_inv he
     obtain ⟨r,hρ,hev⟩:=hnd
     obtain ⟨p,hpv,hrep⟩:=args1 (l:=[]) (vs:=[]) (ps:=[]) ha (by simpa [SV.pures] using hp1)
     rw [hpv] at hev
     exact then_look hs hd hρ hK rfl (look_fld hfl hz hrep hev)
   ·cases he
  ·cases he
 -- field
 ·rename_i t x f l
  simp only [Op.operands,List.map_cons,List.map_nil] at ha
  split at he
  ·rename_i fl hfl
   cases hp':partS P fl.type l fl.offset with
   | none=>simp [hp'] at he
   | some s =>
    simp only [hp',Option.bind_some] at he
    cases he
    obtain ⟨vs,hx,hc⟩:=agg_val ha.head
    obtain ⟨v,h1,h2⟩:=partS_val hp' hc
    obtain ⟨fs,hu,hf⟩:=field_run hfl
    refine then_value hs hd hK (Below.refl _ w) (v:=v) ?_ h2
    simp only [execOp,hx,Instr.field,Sem.run_bind,run_underlying hu w,Result.andThen_ok,hf,asAgg,Sem.run_pure,h1]
  ·cases he
 -- indexAddr
 ·rename_i t x y s i
  simp only [Op.operands,List.map_cons,List.map_nil] at ha
  split at he
  ·rename_i len el j' off k i hu
   split at he
   ·rename_i n hn
    split at he
    ·rename_i hle
     cases he
     obtain ⟨b,hb,hx⟩:=box_val ha.head
     have hy:a.eval y = .int k i:=int_val ha.tail.head
     refine then_value hs hd hK (Below.refl _ w) (v:=.pointer (some ⟨b,off + i.toNat * n,none⟩)) ?_ (.box _ _ _ hb)
     simp only [execOp,hx,hy,Instr.indexAt,asIntOf,Sem.run_bind,Sem.run_pure,Result.andThen_ok,run_underlying hu w,Instr.sureAddr,Sem.run_ite,size_run hn w,Result.andThen_ite]
     rw [if_pos hle,add_mid]
    ·cases he
   ·cases he
  ·rename_i s0 i0 x0 s1 i1 el hu
   cases hn:cellsOf P el with
   | none=>simp [hn] at he
   | some n =>
    simp only [hn,Option.bind_some] at he
    obtain ⟨hp1,rfl⟩:=prim_inv he
    obtain ⟨r,hρ,hev⟩:=hnd
    obtain ⟨h1,h2⟩:=argsN ha hp1
    simp only [pvs,List.map_cons,List.map_nil] at hev h2
    exact then_look hs hd hρ hK rfl (look_idx hu hn (h2 0 _ _ rfl rfl) (h2 1 _ _ rfl rfl) hev)
  ·cases he
 -- index
 ·rename_i t x y s i
  simp only [Op.operands,List.map_cons,List.map_nil] at ha
  split at he
  ·rename_i len el l k i hu
   split at he
   ·rename_i n hn
    split at he
    ·rename_i hle
     cases hp':partS P el l (i.toNat * n) with
     | none=>simp [hp'] at he
     | some s =>
      simp only [hp',Option.bind_some] at he
      cases he
      obtain ⟨vs,hx,hc⟩:=agg_val ha.head
      have hy:a.eval y = .int k i:=int_val ha.tail.head
      obtain ⟨v,h1,h2⟩:=partS_val hp' hc
      refine then_value hs hd hK (Below.refl _ w) (v:=v) ?_ h2
      simp only [execOp,hx,hy,Instr.index,asIntOf,Sem.run_bind,Sem.run_pure,Result.andThen_ok,run_underlying hu w,Sem.run_ite,size_run hn w,Result.andThen_ite,h1]
      rw [if_pos hle]
    ·cases he
   ·cases he
  ·rename_i s0 i0 x0 len el l i1 hu hno
   split at he
   ·rename_i n g hn hg
    obtain ⟨hp1,rfl⟩:=prim_inv he
    obtain ⟨r,hρ,hev⟩:=hnd
    obtain ⟨h1,h2⟩:=argsN ha hp1
    simp only [pvs,List.map_cons,List.map_nil] at hev h2
    exact then_look hs hd hρ hK rfl (look_aix hu hn hg (h2 0 _ _ rfl rfl) (h2 1 _ _ rfl rfl) hev)
   ·cases he
  ·rename_i hu
   obtain ⟨hp1,rfl⟩:=prim_inv he
   obtain ⟨r,hρ,hev⟩:=hnd
   obtain ⟨h1,h2⟩:=argsN ha hp1
   simp only [pvs,List.map_cons,List.map_nil] at hev h2
   exact then_look hs hd hρ hK rfl (look_six hu (h2 0 _ _ rfl rfl) (h2 1 _ _ rfl rfl) hev)
  ·cases he
 -- extract
 ·rename_i x i l
  simp only [Op.operands,List.map_cons,List.map_nil] at ha
  cases hx:l[i]? with
  | none=>simp [hx] at he
  | some s =>
   simp only [hx,Option.bind_some] at he
   cases he
   have hlt:=(List.getElem?_eq_some_iff.1 hx).1
   have:=ha.head
   generalize hv:a.eval x = v at this
   cases this with
   | pure s p v hd hf hr hn =>
    simp only [den,Option.map_eq_some_iff] at hd
    obtain ⟨ps,_,rfl⟩:=hd
    simp [PV.flat] at hf
   | tup _ vs hl hr =>
    have e:vs[i]? = some (vs.getD i undef):=by simp [Array.getD,show i < vs.size by omega]
    refine then_value hs hd hK (Below.refl _ w) (v:=vs.getD i undef) ?_ (hr i s hx)
    simp only [execOp,hv,Instr.extract,e,Sem.run_bind,Sem.run_pure,Result.andThen_ok]
 -- binOp
 ·rename_i op t x y yt s u
  simp only [Op.operands,List.map_cons,List.map_nil] at ha
  split at he
  ·rename_i r hr
   cases he
   unfold conBin at hr
   split at hr
   ·have h1:=int_val ha.head
    have h2:=int_val ha.tail.head
    refine then_value hs hd hK (Below.refl _ w) (v:=r) ?_ (.con r (bin2_flat hr))
    have:=bin2_run (P:=P) (w:=w) (t:=t) (ox:=x) (oy:=y) hr (fun h=>by cases h)
    simp only [execOp,h1,h2]
    exact exec_v (f:=.value) this
   ·cases hr
  split at he
  ·cases he
  ·cases he
  ·obtain ⟨hp1,rfl⟩:=prim_inv he
   obtain ⟨r,hρ,hev⟩:=hnd
   obtain ⟨h1,h2⟩:=argsN ha hp1
   simp only [pvs,List.map_cons,List.map_nil] at hev h2
   refine then_look hs hd hρ hK rfl (look_op2 (fun hb=>?_) (h2 0 _ _ rfl rfl) (h2 1 _ _ rfl rfl) hev)
   split at hb
   ·assumption
   ·cases hb
 -- unOp
 ·rename_i op t x s
  simp only [Op.operands,List.map_cons,List.map_nil] at ha
  obtain ⟨hp1,rfl⟩:=prim_inv he
  obtain ⟨r,hρ,hev⟩:=hnd
  obtain ⟨h1,h2⟩:=argsN ha hp1
  simp only [pvs,List.map_cons,List.map_nil] at hev h2
  exact then_look hs hd hρ hK rfl (look_op1 (h2 0 _ _ rfl rfl) hev)
 -- convert
 ·rename_i src dst' x s
  simp only [Op.operands,List.map_cons,List.map_nil] at ha
  split at he
  ·rename_i k0 k hu1 hu2
   obtain ⟨hp1,rfl⟩:=prim_inv he
   obtain ⟨r,hρ,hev⟩:=hnd
   obtain ⟨h1,h2⟩:=argsN ha hp1
   simp only [pvs,List.map_cons,List.map_nil] at hev h2
   exact then_look hs hd hρ hK rfl (look_cv hu1 hu2 (h2 0 _ _ rfl rfl) hev)
  ·cases he
 -- makeFunc
 ·rename_i fn first captured
  simp only [Op.operands,Array.toList_append,List.map_append] at ha
  split at he
  ·rename_i hlen
   cases he
   have hl1:(args.take first.size).length = first.size:=by rw [List.length_take]; omega
   refine then_value hs hd hK (Below.refl _ w) (v:=.func fn (first.map a.eval) (captured.map a.eval)) rfl ?_
   refine .clo _ _ _ _ _ (by simpa using hl1) (by simp; omega) (fun k s hk=>?_) (fun k s hk=>?_)
   ·have hlt:=(List.getElem?_eq_some_iff.1 hk).1
    rw [hl1] at hlt
    rw [List.getElem?_take,if_pos hlt] at hk
    refine ha.2 k s _ hk ?_
    rw [List.getElem?_append_left (by simpa using hlt)]
    simp [Array.getD,hlt]
   ·have hlt:=(List.getElem?_eq_some_iff.1 hk).1
    rw [List.length_drop] at hlt
    rw [List.getElem?_drop] at hk
    refine ha.2 _ s _ hk ?_
    rw [List.getElem?_append_right (by simp)]
    have:k < captured.size:=by omega
    simp [Array.getD,this]
  ·cases he
 -- slice
 ·rename_i t x lo hi
  split at he
  ·rename_i hu
   split at he
   ·rename_i hlen
    obtain ⟨hp1,rfl⟩:=prim_inv he
    obtain ⟨r,hρ,hev⟩:=hnd
    obtain ⟨h1,h2⟩:=argsN ha hp1
    have hops:(Op.slice t x lo hi none).operands.toList.map a.eval = a.eval x :: ((lo.map a.eval).toList ++ (hi.map a.eval).toList):=by
     cases lo <;> cases hi <;> rfl
    rw [hops] at h1 h2
    cases args with
    | nil=>simp at hlen; omega
    | cons s l =>
     simp only [pvs,List.map_cons] at hev h2 h1
     refine then_look hs hd hρ hK (S:=Instr.sliceAt t (a.eval x) (lo.map a.eval) (hi.map a.eval) none) rfl ?_
     refine look_ssl (l:=l.map (pv ρ)) hu (h2 0 _ _ rfl rfl) (by simpa using h1) (fun k q v hk hv=>h2 (k + 1) q v (by simpa using hk) (by simpa using hv)) ?_
     rw [Option.isSome_map,Option.isSome_map]
     exact hev
   ·cases he
  ·rename_i el hu
   split at he
   ·rename_i hlen
    cases hn:cellsOf P el with
    | none=>simp [hn] at he
    | some n =>
    simp only [hn,Option.bind_some] at he
    obtain ⟨hp1,rfl⟩:=prim_inv he
    obtain ⟨r,hρ,hev⟩:=hnd
    obtain ⟨h1,h2⟩:=argsN ha hp1
    have hops:(Op.slice t x lo hi none).operands.toList.map a.eval = a.eval x :: ((lo.map a.eval).toList ++ (hi.map a.eval).toList):=by
     cases lo <;> cases hi <;> rfl
    rw [hops] at h1 h2
    cases args with
    | nil=>simp at hlen; omega
    | cons s l =>
     simp only [pvs,List.map_cons] at hev h2 h1
     refine then_look hs hd hρ hK (S:=Instr.sliceAt t (a.eval x) (lo.map a.eval) (hi.map a.eval) none) rfl ?_
     refine look_rsl (l:=l.map (pv ρ)) hu hn (h2 0 _ _ rfl rfl) (by simpa using h1) (fun k q v hk hv=>h2 (k + 1) q v (by simpa using hk) (by simpa using hv)) ?_
     rw [Option.isSome_map,Option.isSome_map]
     exact hev
   ·cases he
  ·cases he
 -- slice,full
 ·rename_i t x lo hi mx
  split at he
  ·rename_i el hu
   split at he
   ·rename_i hlen
    cases hn:cellsOf P el with
    | none=>simp [hn] at he
    | some n =>
    simp only [hn,Option.bind_some] at he
    obtain ⟨hp1,rfl⟩:=prim_inv he
    obtain ⟨r,hρ,hev⟩:=hnd
    obtain ⟨h1,h2⟩:=argsN ha hp1
    have hops:(Op.slice t x lo (some hi) (some mx)).operands.toList.map a.eval = a.eval x :: ((lo.map a.eval).toList ++ (some (a.eval hi)).toList ++ (some (a.eval mx)).toList):=by
     cases lo <;> rfl
    rw [hops] at h1 h2
    cases args with
    | nil=>simp at hlen; omega
    | cons s l =>
     simp only [pvs,List.map_cons] at hev h2 h1
     refine then_look hs hd hρ hK (S:=Instr.sliceAt t (a.eval x) (lo.map a.eval) (some (a.eval hi)) (some (a.eval mx))) rfl ?_
     refine look_rsl (l:=l.map (pv ρ)) hu hn (h2 0 _ _ rfl rfl) (by simpa using h1) (fun k q v hk hv=>h2 (k + 1) q v (by simpa using hk) (by simpa using hv)) ?_
     rw [Option.isSome_map]
     exact hev
   ·cases he
  ·cases he
 -- nilCheck
 ·rename_i x j' off
  simp only [Op.operands,List.map_cons,List.map_nil] at ha
  cases he
  obtain ⟨b,hb,hx⟩:=box_val ha.head
  refine then_value hs hd hK (Below.refl _ w) (v:=.pointer (some ⟨b,off,none⟩)) ?_ (.box _ _ _ hb)
  simp only [execOp,hx,Sem.run_pure]
 -- call
 ·rename_i c
  split at he
  ·rename_i hcal
   split at he
   ·rename_i t x ht
    have hops:(Op.call c).operands.toList.map a.eval = (c.args.map a.eval).toList:=by simp [Op.operands,Call.operands,hcal]
    rw [hops] at ha
    have hargs:c.args.map a.eval = #[(c.args.map a.eval).getD 0 undef]:=by
     have hl:=ha.1
     apply Array.ext'
     cases hc:(c.args.map a.eval).toList with
     | nil=>rw [hc] at hl; simp at hl
     | cons v l =>
      rw [hc] at hl
      cases l with
      | nil =>
       have:c.args.map a.eval = #[v]:=by apply Array.ext'; exact hc
       rw [this]; rfl
      | cons _ _=>simp at hl
    have hexec:execOp a.eval ⟨dst,.call c,ty,pos,after,guard⟩ = (do let v ← Builtin.len_ c.argTypes ty #[(c.args.map a.eval).getD 0 undef]; pure (.value v)):=by
     simp only [execOp,resolve,hcal,pure_bind,invoke,builtin]
     rw [← hargs]
    rw [hargs] at ha
    split at he
    ·rename_i el hu
     obtain ⟨hp1,rfl⟩:=prim_inv he
     obtain ⟨r,hρ,hev⟩:=hnd
     obtain ⟨h1,h2⟩:=argsN ha hp1
     simp only [pvs,List.map_cons,List.map_nil] at hev h2
     exact then_look hs hd hρ hK hexec (look_len hu ht (h2 0 _ _ rfl rfl) hev)
    ·rename_i hu
     obtain ⟨hp1,rfl⟩:=prim_inv he
     obtain ⟨r,hρ,hev⟩:=hnd
     obtain ⟨h1,h2⟩:=argsN ha hp1
     simp only [pvs,List.map_cons,List.map_nil] at hev h2
     exact then_look hs hd hρ hK hexec (look_slen hu ht (h2 0 _ _ rfl rfl) hev)
    ·cases he
   ·cases he
  ·rename_i fv hcal
   have hops:(Op.call c).operands.toList.map a.eval = a.eval fv :: (c.args.map a.eval).toList:=by simp [Op.operands,Call.operands,hcal]
   rw [hops] at ha
   split at he
   ·rename_i sh hsh
    split at he
    ·rename_i f fs cs as
     split at he
     ·rename_i hcond
      simp only [Bool.and_eq_true,beq_iff_eq] at hcond
      cases he
      obtain ⟨r,hρ,hf,hfit⟩:=hnd
      obtain ⟨hp1,hp2⟩:=pures_append hcond.1
      obtain ⟨hp0,hp1⟩:=pures_append hp1
      obtain ⟨ps,qs,fw,cw,hd1,hd2,hv,hrep⟩:=clo_val ha.head hp0 hp2
      obtain ⟨as',hd3⟩:=ha.tail.dens hp1
      obtain ⟨hl3,hr3⟩:=ha.tail.reps hd3
      rw [dens_pvs (dens_append (dens_append hd1 hd3) hd2)] at hf
      rw [hv] at hrep
      cases hrep with
      | clo _ _ _ _ _ hl1 hl2 hr1 hr2 =>
       refine call_fin hs hd hf hρ hfit hK (vs:=fw ++ c.args.map a.eval ++ cw) ?_ (by simp at hl3 ⊢; omega) (fun k p hk=>?_)
       ·simp only [execOp,resolve,hcal,hv,Deferred.ofValue,pure_bind,invoke]
       ·simp only [Array.length_toList,Array.size_map] at hl3
        rw [Array.getD_eq_getD_getElem?,Array.getElem?_append,Array.getElem?_append]
        rw [List.getElem?_append,List.getElem?_append] at hk
        simp only [List.length_append,Array.size_append,Array.size_map] at hk ⊢
        by_cases c1:k < ps.length + as'.length
        ·rw [if_pos c1] at hk
         rw [if_pos (by omega)]
         by_cases c2:k < ps.length
         ·rw [if_pos c2] at hk
          rw [if_pos (by omega)]
          have:=hr1 k p hk
          rwa [Array.getD_eq_getD_getElem?] at this
         ·rw [if_neg c2] at hk
          rw [if_neg (by omega)]
          have hlt:=(List.getElem?_eq_some_iff.1 hk).1
          refine hr3 (k - ps.length) p _ hk ?_
          rw [hl1]
          simp [show k - fw.size < c.args.size by omega]
        ·rw [if_neg c1] at hk
         rw [if_neg (by omega)]
         have:=hr2 _ p hk
         rw [Array.getD_eq_getD_getElem?] at this
         rwa [show fw.size + c.args.size = ps.length + as'.length by omega]
     ·cases he
    ·rename_i s as hns
     split at he
     ·rename_i hcond
      simp only [Bool.and_eq_true,beq_iff_eq] at hcond
      cases he
      obtain ⟨r,hρ,hf,hfit⟩:=hnd
      obtain ⟨p,hd1⟩:=ha.head.den1 hcond.1.1
      have hrep:=ha.head.rep hd1
      obtain ⟨as',hd3⟩:=ha.tail.dens hcond.1.2
      obtain ⟨hl3,hr3⟩:=ha.tail.reps hd3
      rw [pv_of hd1,dens_pvs hd3] at hf
      unfold FnV at hf
      split at hf
      ·rename_i f ps qs
       generalize hv:a.eval fv = v at hrep
       cases hrep with
       | clo _ _ _ fw cw hl1 hl2 hr1 hr2 =>
        refine call_fin hs hd hf hρ hfit hK (vs:=fw ++ c.args.map a.eval ++ cw) ?_ (by simp at hl3 ⊢; omega) (fun k p hk=>?_)
        ·simp only [execOp,resolve,hcal,hv,Deferred.ofValue,pure_bind,invoke]
        ·simp only [Array.length_toList,Array.size_map] at hl3
         rw [Array.getD_eq_getD_getElem?,Array.getElem?_append,Array.getElem?_append]
         rw [List.getElem?_append,List.getElem?_append] at hk
         simp only [List.length_append,Array.size_append,Array.size_map] at hk ⊢
         by_cases c1:k < ps.length + as'.length
         ·rw [if_pos c1] at hk
          rw [if_pos (by omega)]
          by_cases c2:k < ps.length
          ·rw [if_pos c2] at hk
           rw [if_pos (by omega)]
           have:=hr1 k p hk
           rwa [Array.getD_eq_getD_getElem?] at this
          ·rw [if_neg c2] at hk
           rw [if_neg (by omega)]
           have hlt:=(List.getElem?_eq_some_iff.1 hk).1
           refine hr3 (k - ps.length) p _ hk ?_
           rw [hl1]
           simp [show k - fw.size < c.args.size by omega]
         ·rw [if_neg c1] at hk
          rw [if_neg (by omega)]
          have:=hr2 _ p hk
          rw [Array.getD_eq_getD_getElem?] at this
          rwa [show fw.size + c.args.size = ps.length + as'.length by omega]
      ·exact hf.elim
     ·cases he
    ·cases he
   ·cases he
  ·cases he
 ·cases he
end
end Gv
