import Derived.Test.YtcpgflbfjplheaaGreatDoorKy
import Derived.RangeFuncWrites
import Derived.RangeFuncCalls
namespace Gs
open Go Go.RowKit
theorem OwnN.trim {w base e A n c l} (h:OwnN .u64 w base e ⟨A,n,c⟩ l) (hl:Lt 18446744073709551616 l):OwnN .u64 w base e ⟨A,nl l,c⟩ (limbs 18446744073709551616 (val 18446744073709551616 l)):=by
 have h1:=nl_le hl
 have h2:=h.len
 simp only at h2
 rw [trim_take hl]
 refine ⟨by simp [nums]; omega,?_⟩
 rcases h.2 with ⟨e1,e2⟩ | ⟨g,cap,cur,e1,hb,hh,h3,h4,h5,h6⟩
 ·simp only at e1 e2
  refine .inl ⟨?_,by show nl l = 0; omega⟩
  have:nl l = 0:=by omega
  simp only [this]
  rw [e2] at e1
  exact e1
 ·simp only at e1
  injection e1 with ea en ec
  simp only at h3
  refine .inr ⟨g,cap,cur,by simp only [ea,ec],hb,hh,by show nl l ≤ cap; omega,h4,h5,?_⟩
  simp only [Nat.mul_one] at h6 ⊢
  have:(nums .u64 l).take (nl l) = nums .u64 (l.take (nl l)):=by simp [nums,List.map_take]
  rw [← this,← h6,List.take_take,Nat.min_eq_left (by omega)]
theorem OwnN.rdU {w base e s l} (h:OwnN .u64 w base e s l) (hl:Lt 18446744073709551616 l):RdU w (fun b=>base ≤ b) s l:=⟨h.rd,hl⟩
theorem OwnN.rdAt {k w base e g n c l} (h:OwnN k w base e ⟨some ⟨g,0,none⟩,n,c⟩ l):RdN k w (fun b=>b = g) ⟨some ⟨g,0,none⟩,n,c⟩ l :=
 ⟨h.rd.len,h.rd.cap,h.rd.top,fun _=>⟨_,rfl,rfl,fun j hj=>by rw [show (⟨g,0,none⟩:Addr).add j = ⟨g,j,none⟩ by unfold Addr.add; split <;> simp_all]; exact (h.at j hj).1⟩⟩
structure Solo (g:Nat) (w w':World):Prop where
 os:w'.os = w.os
 tape:w'.tape = w.tape
 output:w'.output = w.output
 size:w'.heap.size = w.heap.size
 other:∀ b,b ≠ g → w'.heap[b]? = w.heap[b]?
 keeps:KeepsOthers w w'
variable {g:Nat} {w w1 w2:World}
theorem Solo.refl (g:Nat) (w:World):Solo g w w:=⟨rfl,rfl,rfl,rfl,fun _ _=>rfl,KeepsOthers.refl w⟩
theorem Solo.trans (h:Solo g w w1) (k:Solo g w1 w2):Solo g w w2:=⟨k.os.trans h.os,k.tape.trans h.tape,k.output.trans h.output,k.size.trans h.size,fun b hb=>(k.other b hb).trans (h.other b hb),h.keeps.trans k.keeps⟩
theorem Solo.drew (h:Solo g w w1):Solo g w w1.drew:=h.trans ⟨rfl,rfl,rfl,rfl,fun _ _=>rfl,KeepsOthers.drew w1⟩
theorem Solo.drewN (h:Solo g w w1) (n:Nat):Solo g w (w1.drewN n):=h.trans ⟨rfl,rfl,rfl,rfl,fun _ _=>rfl,⟨Nat.le_refl _,fun _ _ h _=>h⟩⟩
theorem Solo.setCell (h:Solo g w w1) (j:Nat) (v:Value):Solo g w (w1.setCell ⟨g,j,none⟩ v) :=
 h.trans ⟨rfl,rfl,rfl,by simp [World.setCell],fun b hb=>Below.heap_setCell w1 ⟨g,j,none⟩ v b hb,KeepsOthers.setCell _ _ _⟩
theorem Solo.below (h:Solo g w w1) {B:Nat} (hB:B ≤ g):Below B w w1:=⟨h.os,h.tape,h.output,by rw [h.size]; exact Nat.le_refl _,fun k hk=>h.other k (by omega)⟩
theorem RdN.solo {k P s l} (h:RdN k w P s l) (t:Solo g w w1) (hP:∀ b,P b → b ≠ g):RdN k w1 P s l:=h.keep fun b hb _=>t.other b (hP b hb)
theorem RdU.solo {P s l} (h:RdU w P s l) (t:Solo g w w1) (hP:∀ b,P b → b ≠ g):RdU w1 P s l:=⟨h.rd.solo t hP,h.lt⟩
theorem Box.solo {b t v} (h:Box w b t v) (k:Solo g w w1) (hb:b ≠ g):Box w1 b t v:=h.keep (k.other b hb)
theorem OwnN.solo {k base e s l} (h:OwnN k w base e s l) (t:Solo g w w1) (hs:∀ ad,s.A = some ad → ad.block ≠ g):OwnN k w1 base e s l:=by
 refine ⟨h.1,?_⟩
 rcases h.2 with h2 | ⟨g',cap,cur,e1,hb,hh,r⟩
 ·exact .inl h2
 ·refine .inr ⟨g',cap,cur,e1,hb,?_,r⟩
  injection e1 with e1
  rw [t.other g' (hs _ e1)]
  exact hh
structure Turn (S:Nat → Prop) (w w':World):Prop where
 os:w'.os = w.os
 tape:w'.tape = w.tape
 output:w'.output = w.output
 size:w'.heap.size = w.heap.size
 other:∀ b,¬ S b → w'.heap[b]? = w.heap[b]?
 keeps:KeepsOthers w w'
variable {S:Nat → Prop}
theorem Turn.refl (S:Nat → Prop) (w:World):Turn S w w:=⟨rfl,rfl,rfl,rfl,fun _ _=>rfl,KeepsOthers.refl w⟩
theorem Turn.trans (h:Turn S w w1) (k:Turn S w1 w2):Turn S w w2:=⟨k.os.trans h.os,k.tape.trans h.tape,k.output.trans h.output,k.size.trans h.size,fun b hb=>(k.other b hb).trans (h.other b hb),h.keeps.trans k.keeps⟩
theorem Turn.drewN (h:Turn S w w1) (n:Nat):Turn S w (w1.drewN n):=h.trans ⟨rfl,rfl,rfl,rfl,fun _ _=>rfl,⟨Nat.le_refl _,fun _ _ h _=>h⟩⟩
theorem Turn.drew (h:Turn S w w1):Turn S w w1.drew:=h.drewN 1
theorem Turn.solo (h:Turn S w w1) (k:Solo g w1 w2) (hg:S g):Turn S w w2:=h.trans ⟨k.os,k.tape,k.output,k.size,fun b hb=>k.other b (fun e=>hb (e ▸ hg)),k.keeps⟩
theorem Turn.setCell (h:Turn S w w1) (j:Nat) (v:Value) (hg:S g):Turn S w (w1.setCell ⟨g,j,none⟩ v):=h.solo ((Solo.refl g w1).setCell j v) hg
theorem Turn.below (h:Turn S w w1) {B:Nat} (hB:∀ b,S b → B ≤ b):Below B w w1:=⟨h.os,h.tape,h.output,by rw [h.size]; exact Nat.le_refl _,fun k hk=>h.other k (fun e=>by have:=hB k e; omega)⟩
theorem Box.turn {b t v} (h:Box w b t v) (k:Turn S w w1) (hb:¬ S b):Box w1 b t v:=h.keep (k.other b hb)
theorem OwnN.turn {k base e s l} (h:OwnN k w base e s l) (t:Turn S w w1) (hs:∀ ad,s.A = some ad → ¬ S ad.block):OwnN k w1 base e s l:=by
 refine ⟨h.1,?_⟩
 rcases h.2 with h2 | ⟨g',cap,cur,e1,hb,hh,r⟩
 ·exact .inl h2
 ·refine .inr ⟨g',cap,cur,e1,hb,?_,r⟩
  injection e1 with e1
  rw [t.other g' (hs _ e1)]
  exact hh
theorem RdU.turn {P s l} (h:RdU w P s l) (t:Turn S w w1) (hP:∀ b,P b → ¬ S b):RdU w1 P s l:=⟨h.rd.keep fun b hb _=>t.other b (hP b hb),h.lt⟩
theorem OwnN.ne_box {k base e g n c l b t v} (h:OwnN k w base e ⟨some ⟨g,0,none⟩,n,c⟩ l) (hb:Box w b t v) (he:e ≠ t):g ≠ b:=by
 rintro rfl
 rcases h.2 with ⟨e1,_⟩ | ⟨g',cap,cur,e1,_,hh,_⟩
 ·cases e1
 ·injection e1 with e1
  injection e1 with e1
  injection e1 with e1
  subst e1
  rw [hb.out] at hh
  injection hh with hh
  injection hh with _ hh
  exact he hh.symm
theorem OwnN.ne_boxS {k base e l b t v} {s:Sl} (h:OwnN k w base e s l) (hb:Box w b t v) (he:e ≠ t) (ad:Addr) (hs:s.A = some ad):b ≠ ad.block:=by
 rintro rfl
 rcases h.2 with ⟨e1,_⟩ | ⟨g',cap,cur,e1,_,hh,_⟩
 ·injection e1 with e1; rw [e1] at hs; cases hs
 ·injection e1 with e1
  rw [e1] at hs
  injection hs with hs
  subst hs
  rw [hb.out] at hh
  injection hh with hh
  injection hh with _ hh
  exact he hh.symm
theorem Box.grownRow {k base e t v l b} {s:Sl} (h:Box w b t v) (ho:OwnN k w base e s l) (he:e ≠ t) (hg:w.grownBy w1 (Value.slice s.A s.n s.c).ownBlock):Box w1 b t v:=by
 refine h.keep (hg.block b h.lt (fun e'=>?_))
 rcases ho.2 with ⟨e1,_⟩ | ⟨g',cap,cur,e1,_,hh,_⟩
 ·rw [e1] at e'; cases e'
 ·rw [e1] at e'
  injection e' with e'
  subst e'
  rw [h.out] at hh
  injection hh with hh
  injection hh with _ hh
  exact he hh.symm
section
variable {P:Program} {ops:Array Oper} {rest:List Oper} {o:Oper} {a:Act} {Q:Exit → Act → World → Prop}
theorem appendN {w0 W:World} {PP:Nat → Prop} (base:Nat) (hgd:o.guard = none) (s x:Operand) (t e:TypeId) (k:IntKind) (bytes:Nat)
 (ho:o.op = .call { callee:=.builtin .append,args:=#[s,x],argTypes:=#[t,t] })
 (ht:P.underlying t = some (.slice e)) (hinfo:(P.info? e).map (fun i=>(i.zero,i.size,i.bytes)) = some (some (.int k 0),1,bytes)) (hb0:0 < bytes)
 (v:Sl) (xs:List Nat) (ad:Addr) (m c:Nat) (ys:List Nat) (hs:a.eval s = .slice v.A v.n v.c) (hx:a.eval x = .slice (some ad) m c)
 (HO:OwnN k W base e v xs) (HR:RdN k W PP ⟨some ad,m,c⟩ ys) (HB:Below base w0 W) (hbase:base ≤ W.heap.size) (hl:(xs.length + m) * bytes ≤ 140737488355328)
 (h:∀ v1:Sl,∀ w1,OwnN k w1 base e v1 (xs ++ ys) → Below base w0 w1 → wpList P ops Q rest (a.put o.dst (.slice v1.A v1.n v1.c)) w1) :
 wpList P ops Q (o :: rest) a W:=by
 obtain ⟨i0,hi,hzz⟩:=Option.map_eq_some_iff.1 hinfo
 simp only [Prod.mk.injEq] at hzz
 obtain ⟨hz0,hz1,hz2⟩:=hzz
 have hn:xs.length = v.n:=HO.len
 have hm:ys.length = m:=HR.len
 have hlen:v.n + m ≤ 140737488355328:=Nat.le_trans (Nat.le_mul_of_pos_right _ hb0) (hn ▸ hl)
 refine wpList_append_own_at W hgd s x t ho base e i0 (.int k 0) 1 bytes ht hi hz0 hz1 hz2 rfl (by omega) (.slice v.A v.n v.c) v.n (nums k xs) hs HO ad m c (nums k ys) hx (by simp [nums,hm]) ?_ (fun u hu=>by
  obtain ⟨z,_,rfl⟩:=List.mem_map.1 hu; rfl) (by simp only [maxLen]; omega) (by rw [← hn]; exact hl) hbase ?_
 ·intro j u hj
  have hjl:j < m:=by
   have:=(List.getElem?_eq_some_iff.1 hj).1
   simpa [nums,hm] using this
  obtain ⟨ad',e',_,hc⟩:=HR.cells (by show 0 < m; omega)
  injection e' with e'
  subst e'
  rw [hc j hjl]
  rw [nums_get k ys j (by omega)] at hj
  exact hj
 ·intro v1 w1 hown hg _ _
  obtain ⟨A1,c1,rfl⟩:=own_sl hown
  refine h ⟨A1,v.n + m,c1⟩ w1 ?_ (HB.grown hg hbase (fun j hj=>OwnN.base HO j hj))
  simpa [OwnN,nums] using hown
end
end Gs
