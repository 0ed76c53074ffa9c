import Derived.Test.YtcpgflbfjplheaaGreatDoorKy
import Derived.RangeFuncNested
import Derived.RangeFuncBound
import Derived.RangeFuncCalls
import Derived.RangeFuncLeaves
import Derived.RangeFuncWrites
import Derived.RangeFuncBox
namespace Gs
open Go Go.RowKit
theorem ownFrom_of {β:Type} {B:Nat} {I:β → World → Prop}
 (h:∀ s W W',I s W → (∀ b o,W.heap[b]? = some o → (b < B ∨ o.isCells = true) → W'.heap[b]? = W.heap[b]?) → (∀ n₀ w₀,n₀ ≤ w₀.heap.size → n₀ ≤ B → Below n₀ w₀ W → Below n₀ w₀ W') → I s W'):OwnFrom B I:=by
 intro s W W' row hs hg hr
 refine h s W W' hs (fun b o hb hc=>?_) (fun n₀ w₀ hn hB hb=>?_)
 ·refine hg.block b (Array.getElem?_eq_some_iff.1 hb).1 (fun e=>?_)
  obtain ⟨h1,o',ho,hc'⟩:=hr b e.symm
  rw [hb] at ho
  injection ho with ho
  subst ho
  rcases hc with hc | hc
  ·omega
  ·rw [hc] at hc'; cases hc'
 ·exact ownFrom_below (β:=β) hn hB s W W' row hb hg hr
theorem Box.keepF {B:Nat} {W W':World} (hk:∀ b o,W.heap[b]? = some o → (b < B ∨ o.isCells = true) → W'.heap[b]? = W.heap[b]?) {b t v} (h:Box W b t v):Box W' b t v:=h.keep (hk b _ h.out (.inr rfl))
theorem OwnN.keepF {B:Nat} {W W':World} (hk:∀ b o,W.heap[b]? = some o → (b < B ∨ o.isCells = true) → W'.heap[b]? = W.heap[b]?) {k base e s l} (h:OwnN k W base e s l):OwnN k W' base e s l:=by
 refine ⟨h.1,?_⟩
 rcases h.2 with h2 | ⟨g,cap,cur,e1,hb,hh,r⟩
 ·exact .inl h2
 ·exact .inr ⟨g,cap,cur,e1,hb,(hk g _ hh (.inr rfl)).trans hh,r⟩
theorem Box.putObj {W:World} {b t v} (h:Box W b t v) {l:Nat} {o:Obj} (o':Obj) (hl:W.heap[l]? = some o) (ho:o.isCells = false):Box (W.putObj l o') b t v:=by
 refine h.keep (World.putObj_heap_other (fun e=>?_))
 subst e
 rw [h.out] at hl
 injection hl with hl
 subst hl
 cases ho
theorem OwnN.putObj {k W base e s xs} (h:OwnN k W base e s xs) {l:Nat} {o:Obj} (o':Obj) (hl:W.heap[l]? = some o) (ho:o.isCells = false):OwnN k (W.putObj l o') base e s xs:=by
 refine ⟨h.1,?_⟩
 rcases h.2 with h2 | ⟨g,cap,cur,e1,hb,hh,r⟩
 ·exact .inl h2
 ·refine .inr ⟨g,cap,cur,e1,hb,(World.putObj_heap_other (fun e=>?_)).trans hh,r⟩
  subst e
  rw [hh] at hl
  injection hl with hl
  subst hl
  cases ho
theorem below_putObj {B:Nat} {w W:World} (h:Below B w W) (hB:B ≤ w.heap.size) {l:Nat} (hl:w.heap.size ≤ l) {o:Obj} (o':Obj) (ho:W.heap[l]? = some o) (hc:o.isCells = false) (hw:o.isWalk = false):Below B w (W.putObj l o') :=
 h.trans (belowK_b (w:=w) hB W l o o' hl ho hc hw)
end Gs
