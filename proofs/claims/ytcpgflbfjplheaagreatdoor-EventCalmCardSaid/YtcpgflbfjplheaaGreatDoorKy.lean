import Derived.Test.YtcpgflbfjplheaaGreatDoorMay
import Derived.Below
import Derived.OwnWalk
import Derived.Laws.MakeOwn
import Derived.Laws.OwnMore
import Derived.Laws.NewBlocks
import Derived.Maps.AppendAt
import Derived.Tactics
import Derived.Deep.Draws
import Derived.Deep.AppendLies
import Derived.WalkKit
namespace Gs
open Go Go.RowKit
structure Sl where
 A:Option Addr
 n:Nat
 c:Nat
def nums (k:IntKind) (l:List Nat):List Value:=l.map fun x=>.int k (Int.ofNat x)
theorem nums_length (k:IntKind) (l:List Nat):(nums k l).length = l.length:=by simp [nums]
theorem nums_get (k:IntKind) (l:List Nat) (j:Nat) (h:j < l.length):(nums k l)[j]? = some (.int k (gd l j:Nat)):=by
 rw [gd_lt h]; simp [nums,List.getElem?_eq_getElem h]
structure RdN (k:IntKind) (w:World) (P:Nat → Prop) (s:Sl) (l:List Nat):Prop where
 len:l.length = s.n
 cap:s.n ≤ s.c
 top:s.c ≤ 9223372036854775807
 cells:0 < s.n → ∃ ad,s.A = some ad ∧ P ad.block ∧ ∀ j,j < s.n → w.cell? (ad.add j) = some (.int k (gd l j:Nat))
theorem RdN.at {k w P s l} (h:RdN k w P s l) (i:Nat) (hi:i < s.n):∃ ad,s.A = some ad ∧ w.cell? (ad.add i) = some (.int k (gd l i:Nat)):=by
 obtain ⟨ad,e,_,hc⟩:=h.cells (by omega)
 exact ⟨ad,e,hc i hi⟩
theorem RdN.le {k w P s l} (h:RdN k w P s l):s.n ≤ 9223372036854775807:=Nat.le_trans h.cap h.top
theorem cell_below {w w1:World} (h:Below w.heap.size w w1) {a:Addr} {v:Value} (hc:w.cell? a = some v):w1.cell? a = some v:=(h.cell (World.block_lt_of_cell? w a hc)).trans hc
theorem add_block (ad:Addr) (j:Nat):(ad.add j).block = ad.block:=by unfold Addr.add; split <;> rfl
theorem RdN.keep {k w w1 P s l} (h:RdN k w P s l) (hk:∀ b,P b → b < w.heap.size → w1.heap[b]? = w.heap[b]?):RdN k w1 P s l:=by
 refine ⟨h.len,h.cap,h.top,fun hn=>?_⟩
 obtain ⟨ad,e,hp,hc⟩:=h.cells hn
 refine ⟨ad,e,hp,fun j hj=>?_⟩
 have h1:=hc j hj
 have h2:=World.block_lt_of_cell? w _ h1
 rw [add_block] at h2
 rw [World.cell?_of_block (w:=w) (a:=ad.add j) (by rw [add_block]; exact hk _ hp h2)]
 exact h1
theorem RdN.below {k w w1 P s l} (h:RdN k w P s l) (hb:Below w.heap.size w w1):RdN k w1 P s l:=h.keep fun b _ hb'=>hb.block b hb'
theorem RdN.mono {k w P P' s l} (h:RdN k w P s l) (hP:∀ b,P b → P' b):RdN k w P' s l:=by
 refine ⟨h.len,h.cap,h.top,fun hn=>?_⟩
 obtain ⟨ad,e,hp,hc⟩:=h.cells hn
 exact ⟨ad,e,hP _ hp,hc⟩
theorem RdN.lt {k w P s l} (h:RdN k w P s l):RdN k w (fun b=>P b ∧ b < w.heap.size) s l:=by
 refine ⟨h.len,h.cap,h.top,fun hn=>?_⟩
 obtain ⟨ad,e,hp,hc⟩:=h.cells hn
 refine ⟨ad,e,⟨hp,?_⟩,hc⟩
 have h2:=World.block_lt_of_cell? w _ (hc 0 hn)
 rwa [add_block] at h2
theorem RdN.nil (k w P) (c:Nat) (h:c ≤ 9223372036854775807) (A:Option Addr):RdN k w P ⟨A,0,c⟩ []:=⟨rfl,Nat.zero_le _,h,fun h=>absurd h (by simp)⟩
theorem add_add (ad:Addr) (i j:Nat):(ad.add i).add j = ad.add (i + j):=by
 unfold Addr.add
 by_cases h1:i = 0 <;> by_cases h2:j = 0 <;> simp [h1,h2,Nat.add_assoc]
theorem RdN.take {k w P s l} (h:RdN k w P s l) (i:Nat) (hi:i ≤ s.n) (c:Nat) (hc:i ≤ c) (hc':c ≤ s.c):RdN k w P ⟨s.A,i,c⟩ (l.take i):=by
 refine ⟨by rw [List.length_take,h.len]; show min i s.n = i; omega,hc,Nat.le_trans hc' h.top,fun hp=>?_⟩
 obtain ⟨ad,e,hP,hcell⟩:=h.cells (by simp at hp; omega)
 refine ⟨ad,e,hP,fun j hj=>?_⟩
 have hj':j < i:=hj
 rw [hcell j (by omega),gd_take hj']
theorem RdN.drop {k w P A n c l} (h:RdN k w P ⟨A,n,c⟩ l) (i:Nat) (hi:i ≤ n) (A':Option Addr) (hA:i < n → A' = A.map (·.add i)):RdN k w P ⟨A',n - i,c - i⟩ (l.drop i):=by
 have h0:=h.cap
 have h00:=h.top
 have hl:=h.len
 simp only at h0 h00 hl
 refine ⟨by rw [List.length_drop,hl],by show n - i ≤ c - i; omega,by show c - i ≤ _; omega,fun hp=>?_⟩
 simp only at hp
 obtain ⟨ad,e,hP,hcell⟩:=h.cells (by show 0 < n; omega)
 simp only at e
 refine ⟨ad.add i,by rw [hA (by omega),e]; rfl,by rw [add_block]; exact hP,fun j hj=>?_⟩
 simp only at hj
 rw [add_add,hcell (i + j) (by show i + j < n; omega),gd_drop]
structure RdU (w:World) (P:Nat → Prop) (s:Sl) (l:List Nat):Prop where
 rd:RdN .u64 w P s l
 lt:Lt 18446744073709551616 l
theorem RdU.below {w w1 P s l} (h:RdU w P s l) (hb:Below w.heap.size w w1):RdU w1 P s l:=⟨h.rd.below hb,h.lt⟩
theorem RdU.mono {w P P' s l} (h:RdU w P s l) (hP:∀ b,P b → P' b):RdU w P' s l:=⟨h.rd.mono hP,h.lt⟩
theorem RdU.ltb {w P s l} (h:RdU w P s l):RdU w (fun b=>P b ∧ b < w.heap.size) s l:=⟨h.rd.lt,h.lt⟩
def nl (l:List Nat):Nat:=(limbs 18446744073709551616 (val 18446744073709551616 l)).length
theorem nl_le {l:List Nat} (h:Lt 18446744073709551616 l):nl l ≤ l.length:=limbs_len_le B64 (val_lt h)
theorem trim_take {l:List Nat} (h:Lt 18446744073709551616 l):limbs 18446744073709551616 (val 18446744073709551616 l) = l.take (nl l):=by
 have key:∀ m,m ≤ l.length → val 18446744073709551616 (l.take m) = val 18446744073709551616 l → ∃ q,q ≤ m ∧ limbs 18446744073709551616 (val 18446744073709551616 l) = l.take q:=by
  intro m
  induction m with
  | zero=>intro _ hv; exact ⟨0,Nat.le_refl _,by rw [← hv]; rfl⟩
  | succ q ih =>
   intro hm hv
   by_cases hz:gd l q = 0
   ·obtain ⟨r,hr,e⟩:=ih (by omega) ((take_getLast hz _).trans hv)
    exact ⟨r,by omega,e⟩
   ·exact ⟨q + 1,Nat.le_refl _,by rw [← hv,limbs_val B64 (h.take _) (can_take (by omega) hz)]⟩
 obtain ⟨q,hq,e⟩:=key l.length (Nat.le_refl _) (by rw [List.take_length])
 have h1:nl l = q:=by unfold nl; rw [e,List.length_take]; omega
 rw [h1]; exact e
theorem nl_of {l:List Nat} (h:Lt 18446744073709551616 l) {m:Nat} (hm:m ≤ l.length) (hv:val 18446744073709551616 (l.take m) = val 18446744073709551616 l) (hz:∀ q,m = q + 1 → gd l q ≠ 0):nl l = m:=by
 have h1:limbs 18446744073709551616 (val 18446744073709551616 l) = l.take m:=by
  cases m with
  | zero=>rw [← hv]; rfl
  | succ q=>rw [← hv,limbs_val B64 (h.take _) (can_take (by omega) (hz q rfl))]
 unfold nl
 rw [h1,List.length_take]
 omega
theorem nl_lt {l m:List Nat} (h:nl l < nl m):val 18446744073709551616 l < val 18446744073709551616 m:=by
 have:=lt_of_len_lt B64 (limbs_lt B64 (val 18446744073709551616 l)) (limbs_can B64 (val 18446744073709551616 m)) h
 rwa [val_limbs B64,val_limbs B64] at this
theorem RdU.trim {w P A n c l} (h:RdU w P ⟨A,n,c⟩ l):RdU w P ⟨A,nl l,c⟩ (limbs 18446744073709551616 (val 18446744073709551616 l)):=by
 have h1:=nl_le h.lt
 have h2:=h.rd.len
 have h3:=h.rd.cap
 simp only at h2 h3
 refine ⟨?_,limbs_lt B64 _⟩
 rw [trim_take h.lt]
 exact h.rd.take (nl l) (by show nl l ≤ n; omega) c (by omega) (Nat.le_refl _)
theorem RdU.nl_le {w P A n c l} (h:RdU w P ⟨A,n,c⟩ l):nl l ≤ n:=by have h1:=Gs.nl_le h.lt; have h2:=h.rd.len; simp only at h2; omega
def OwnN (k:IntKind) (w:World) (base:Nat) (e:TypeId) (s:Sl) (l:List Nat):Prop:=w.ownsRow base e 1 (.slice s.A s.n s.c) s.n (nums k l)
theorem own_sl {w:World} {base n:Nat} {e:TypeId} {size:Nat} {v:Value} {xs:List Value} (h:w.ownsRow base e size v n xs):∃ A c,v = .slice A n c:=by
 rcases h.2 with ⟨rfl,rfl⟩ | ⟨g,cap,cur,rfl,_⟩
 ·exact ⟨none,0,rfl⟩
 ·exact ⟨_,cap,rfl⟩
theorem OwnN.len {k w base e s l} (h:OwnN k w base e s l):l.length = s.n:=by have:=h.1; rw [nums_length] at this; omega
theorem OwnN.rd {k w base e s l} (h:OwnN k w base e s l):RdN k w (fun b=>base ≤ b) s l:=by
 have hl:=h.len
 rcases h.2 with ⟨e1,e2⟩ | ⟨g,cap,cur,e1,hb,hh,h1,h2,h3,h4⟩
 ·injection e1 with e1 _ e3
  exact ⟨hl,by omega,by omega,fun hn=>by omega⟩
 ·injection e1 with e1 _ e3
  refine ⟨hl,by omega,by rw [e3]; simpa [maxLen] using h2,fun hn=>⟨_,e1,hb,fun j hj=>?_⟩⟩
  exact World.ownsRow.cells h (g:=g) (by rw [e1]; rfl) j _ (nums_get k l j (by omega))
theorem OwnN.base {k w base e s l} (h:OwnN k w base e s l) (j:Nat) (hj:(Value.slice s.A s.n s.c).ownBlock = some j):base ≤ j:=(World.ownsRow.lt h j hj).1
theorem OwnN.nil (k w base e):OwnN k w base e ⟨none,0,0⟩ []:=World.ownsRow_nil w base e 1
theorem OwnN.alloc {k w base e s l} (h:OwnN k w base e s l) (o:Obj):OwnN k (w.alloc o) base e s l:=World.ownsRow.alloc h o
theorem OwnN.below {k w w1 base e s l} (h:OwnN k w base e s l) (hb:Below w.heap.size w w1):OwnN k w1 base e s l :=
 World.ownsRow.kept h (row:=none) ⟨hb.os,hb.tape,hb.output,hb.size,fun i hi _=>hb.block i hi⟩ (by cases (Value.slice s.A s.n s.c).ownBlock <;> simp)
theorem OwnN.weaken {k w base base' e s l} (h:OwnN k w base e s l) (hb:base' ≤ base):OwnN k w base' e s l:=by
 refine ⟨h.1,?_⟩
 rcases h.2 with h2 | ⟨g,cap,cur,e1,h3,r⟩
 ·exact .inl h2
 ·exact .inr ⟨g,cap,cur,e1,Nat.le_trans hb h3,r⟩
theorem OwnN.drewN {k w base e s l} (h:OwnN k w base e s l) (n:Nat):OwnN k (w.drewN n) base e s l:=h
theorem Below.drewN {B w W} (h:Below B w W) (n:Nat):Below B w (W.drewN n):=⟨h.os,h.tape,h.output,h.size,h.block⟩
theorem Below.then {B:Nat} {w w1 w2:World} (h:Below B w w1) (hB:B ≤ w1.heap.size) (k:Below w1.heap.size w1 w2):Below B w w2 :=
 h.trans ⟨k.os,k.tape,k.output,k.size,fun i hi=>k.block i (Nat.lt_of_lt_of_le hi hB)⟩
theorem OwnN.form {k w base e s l} (h:OwnN k w base e s l) (hn:0 < s.n):∃ g,s.A = some ⟨g,0,none⟩ ∧ base ≤ g ∧ g < w.heap.size:=by
 rcases h.2 with ⟨e1,e2⟩ | ⟨g,cap,cur,e1,hb,hh,_⟩
 ·omega
 ·injection e1 with e1
  exact ⟨g,e1,hb,(Array.getElem?_eq_some_iff.1 hh).1⟩
theorem OwnN.at {k w base e g n c l} (h:OwnN k w base e ⟨some ⟨g,0,none⟩,n,c⟩ l) (j:Nat) (hj:j < n):w.cell? ⟨g,j,none⟩ = some (.int k (gd l j:Nat)) ∧ w.frozen? ⟨g,j,none⟩ = false:=by
 have hl:=h.len
 simp only at hl
 constructor
 ·have hc:=World.ownsRow.cells h (g:=g) rfl j _ (nums_get k l j (by omega))
  have ha:(⟨g,0,none⟩:Addr).add j = ⟨g,j,none⟩:=by unfold Addr.add; split <;> simp_all
  rwa [ha] at hc
 ·rcases h.2 with ⟨e1,_⟩ | ⟨g',cap,cur,e1,_,hh,_⟩
  ·cases e1
  ·injection e1 with e1
   injection e1 with e1
   injection e1 with e1
   subst e1
   simp [World.frozen?,hh]
theorem OwnN.store {k w base e g n c l} (h:OwnN k w base e ⟨some ⟨g,0,none⟩,n,c⟩ l) (j x:Nat):OwnN k (w.setCell ⟨g,j,none⟩ (.int k (x:Int))) base e ⟨some ⟨g,0,none⟩,n,c⟩ (l.set j x):=by
 have h1:=(World.ownsRow.stored h j (.int k (x:Int))).1
 have h2:(nums k l).set j (.int k (x:Int)) = nums k (l.set j x):=by simp [nums,List.map_set]
 unfold OwnN
 rwa [h2] at h1
theorem OwnN.made (k:IntKind) (W:World) (base:Nat) (e:TypeId) (l:List Nat) (hb:base ≤ W.heap.size) (hm:l.length ≤ 9223372036854775807):OwnN k (W.alloc (.cells (nums k l).toArray e)) base e ⟨some ⟨W.heap.size,0,none⟩,l.length,l.length⟩ l:=by
 have h:=World.ownsRow_lit (base:=base) (e:=e) (size:=1) W (nums k l).toArray l.length hb (by simpa [maxLen] using hm) (by simp [nums])
 simpa [OwnN] using h
theorem OwnN.far {k w base e s l} (h:OwnN k w base e s l) {p:Addr} (hp:∀ g,s.A = some g → p.block ≠ g.block) (u:Value):OwnN k (w.setCell p u) base e s l:=by
 refine ⟨h.1,?_⟩
 rcases h.2 with h2 | ⟨g,cap,cur,e1,hb,hh,r⟩
 ·exact .inl h2
 ·refine .inr ⟨g,cap,cur,e1,hb,?_,r⟩
  rw [Below.heap_setCell w p u g (fun e=>hp ⟨g,0,none⟩ (by injection e1) e.symm)]
  exact hh
theorem make_num {P:Program} (t e:TypeId) (k:IntKind) (bytes:Nat) (ht:P.underlying t = some (.slice e)) (hinfo:(P.info? e).map (fun i=>(i.zero,i.size,i.bytes)) = some (some (.int k 0),1,bytes)) (hb0:0 < bytes) (m:Nat) (hn:m * bytes ≤ 281474976710656) (W:World) :
 (Instr.makeSlice t (.int .i64 (m:Int)) (.int .i64 (m:Int))).run P W = .ok (.slice (some ⟨W.heap.size,0,none⟩) m m) (W.alloc (.cells (nums k (List.replicate m 0)).toArray e)):=by
 obtain ⟨i0,hi,hzz⟩:=Option.map_eq_some_iff.1 hinfo
 simp only [Prod.mk.injEq] at hzz
 obtain ⟨hz0,hz1,hz2⟩:=hzz
 have hm:m ≤ 281474976710656:=Nat.le_trans (Nat.le_mul_of_pos_right _ hb0) hn
 have hb:(i0.bytes:Int) * (m:Int) ≤ 281474976710656:=by
  have h:((m * i0.bytes:Nat):Int) ≤ 281474976710656:=by rw [hz2]; omega
  rw [Int.mul_comm]
  rwa [Int.natCast_mul] at h
 have h:=run_make (P:=P) W t e i0 (.int k 0) ht hi hz0 .i64 .i64 (m:Int) (m:Int) (by omega) (Int.le_refl _) hb (by omega)
 rw [h,hz1]
 simp only [Int.toNat_natCast,Nat.mul_one]
 have h2:madeCells (Value.int k 0).cells m = (nums k (List.replicate m 0)).toArray:=by
  apply Array.ext
  ·simp [madeCells,nums]
  ·intro i h1 h2
   simp [madeCells,nums,Value.cells,Nat.mod_one]
 rw [h2]
structure Box (w:World) (b:Nat) (t:TypeId) (v:Value):Prop where
 out:w.heap[b]? = some (.cells #[v] t (0,0))
theorem Box.lt {w b t v} (h:Box w b t v):b < w.heap.size:=(Array.getElem?_eq_some_iff.1 h.out).1
theorem Box.cell {w b t v} (h:Box w b t v):w.cell? ⟨b,0,none⟩ = some v:=by simp [World.cell?,h.out]
theorem Box.free {w b t v} (h:Box w b t v):w.frozen? ⟨b,0,none⟩ = false:=by simp [World.frozen?,h.out]
theorem Box.keep {w w' b t v} (h:Box w b t v) (hk:w'.heap[b]? = w.heap[b]?):Box w' b t v:=⟨hk.trans h.out⟩
theorem Box.below {w w' b t v} (h:Box w b t v) (hb:Below w.heap.size w w'):Box w' b t v:=h.keep (hb.block b h.lt)
theorem Box.new (w:World) (v:Value) (t:TypeId):Box (w.alloc (.cells #[v] t)) w.heap.size t v:=⟨heap_alloc_new w _⟩
theorem Box.new' (w:World) (v:Value) (t:TypeId) {b:Nat} (hb:b = w.heap.size):Box (w.alloc (.cells #[v] t)) b t v:=by subst hb; exact Box.new w v t
theorem Box.alloc {w b t v} (h:Box w b t v) (o:Obj):Box (w.alloc o) b t v:=h.keep (Below.heap_alloc w o b h.lt)
theorem Box.set {w b t v} (h:Box w b t v) (u:Value):Box (w.setCell ⟨b,0,none⟩ u) b t u:=⟨by simp [World.setCell,Array.getElem?_modify,h.out]⟩
theorem Box.far {w b t v} (h:Box w b t v) {p:Addr} (hp:b ≠ p.block) (u:Value):Box (w.setCell p u) b t v:=h.keep (Below.heap_setCell w p u b hp)
theorem Box.drew {w b t v} (h:Box w b t v):Box w.drew b t v:=⟨h.out⟩
theorem Box.drewN {w b t v} (h:Box w b t v) (n:Nat):Box (w.drewN n) b t v:=⟨h.out⟩
theorem set_heap {w:World} {p:Addr} (u:Value) {b:Nat} (hp:b ≠ p.block):(w.setCell p u).heap[b]? = w.heap[b]?:=Below.heap_setCell w p u b hp
section
variable {P:Program} {ops:Array Oper} {rest:List Oper} {o:Oper} {a:Act} {Q:Exit → Act → World → Prop}
theorem append1 {w0 W:World} (base:Nat) (hgd:o.guard = none) (s x:Operand) (t e:TypeId) (k:IntKind) (bytes:Nat)
 (ho:o.op = .call { callee:=.builtin .append,args:=#[s,x],argTypes:=#[t,t] })
 (ht:P.underlying t = some (.slice e)) (hinfo:(P.info? e).map (fun i=>(i.zero,i.size,i.bytes)) = some (some (.int k 0),1,bytes)) (hb0:0 < bytes)
 (v:Sl) (xs:List Nat) (y:Nat) (hs:a.eval s = .slice v.A v.n v.c) (hx:a.eval x = .slice (some ⟨W.heap.size,0,none⟩) 1 1)
 (HO:OwnN k W base e v xs) (HB:Below base w0 W) (hbase:base ≤ W.heap.size) (hl:(xs.length + 1) * bytes ≤ 140737488355328)
 (h:∀ v1:Sl,∀ w1,OwnN k w1 base e v1 (xs ++ [y]) → Below base w0 w1 → W.grownBy w1 (Value.slice v.A v.n v.c).ownBlock → wpList P ops Q rest (a.put o.dst (.slice v1.A v1.n v1.c)) w1) :
 wpList P ops Q (o :: rest) a (W.alloc (.cells #[.int k (y:Int)] e)):=by
 obtain ⟨i0,hi,hzz⟩:=Option.map_eq_some_iff.1 hinfo
 simp only [Prod.mk.injEq] at hzz
 obtain ⟨hz0,hz1,hz2⟩:=hzz
 have hn:xs.length = v.n:=HO.len
 have hlen:v.n + 1 ≤ 140737488355328:=Nat.le_trans (Nat.le_mul_of_pos_right _ hb0) (hn ▸ hl)
 refine wpList_append_own_at (W.alloc (.cells #[.int k (y:Int)] e)) hgd s x t ho base e i0 (.int k 0) 1 bytes ht hi hz0 hz1 hz2 rfl (by omega) (.slice v.A v.n v.c) v.n (nums k xs) hs (World.ownsRow.alloc HO _) ⟨W.heap.size,0,none⟩ 1 1 [.int k (y:Int)] hx rfl
  (World.news_of_block (cs:=#[.int k (y:Int)]) (t:=e) (fr:=(0,0)) (heap_alloc_new W _)) (by simp [Value.oneCell']) (by simp only [maxLen]; omega) (by rw [← hn]; exact hl) (by simp; omega) ?_
 intro v1 w1 hown hg _ _
 obtain ⟨A1,c1,rfl⟩:=own_sl hown
 refine h ⟨A1,v.n + 1,c1⟩ w1 ?_ ((HB.alloc hbase _).grown hg (by simp; omega) (fun j hj=>OwnN.base HO j hj)) (World.grownBy.trans (World.grownBy_alloc W _ _) hg)
 simpa [OwnN,nums] using hown
theorem append1s {K:Act → World → Prop} {w0 W:World} (base:Nat) (hw:Region.wanted o (yielded ops a.tmps) = true) (s x:Operand) (t e:TypeId) (k:IntKind) (bytes:Nat)
 (ho:o.op = .call { callee:=.builtin .append,args:=#[s,x],argTypes:=#[t,t] })
 (ht:P.underlying t = some (.slice e)) (hinfo:(P.info? e).map (fun i=>(i.zero,i.size,i.bytes)) = some (some (.int k 0),1,bytes)) (hb0:0 < bytes)
 (v:Sl) (xs:List Nat) (y:Nat) (hs:a.eval s = .slice v.A v.n v.c) (hx:a.eval x = .slice (some ⟨W.heap.size,0,none⟩) 1 1)
 (HO:OwnN k W base e v xs) (HB:Below base w0 W) (hbase:base ≤ W.heap.size) (hl:(xs.length + 1) * bytes ≤ 140737488355328)
 (h:∀ v1:Sl,∀ w1,OwnN k w1 base e v1 (xs ++ [y]) → Below base w0 w1 → W.grownBy w1 (Value.slice v.A v.n v.c).ownBlock → K (a.put o.dst (.slice v1.A v1.n v1.c)) w1) :
 if Region.wanted o (yielded ops a.tmps) = true then Oper.wp P o a (W.alloc (.cells #[.int k (y:Int)] e)) K Q else K (a.put o.dst undef) (W.alloc (.cells #[.int k (y:Int)] e)):=by
 obtain ⟨i0,hi,hzz⟩:=Option.map_eq_some_iff.1 hinfo
 simp only [Prod.mk.injEq] at hzz
 obtain ⟨hz0,hz1,hz2⟩:=hzz
 have hn:xs.length = v.n:=HO.len
 have hlen:v.n + 1 ≤ 140737488355328:=Nat.le_trans (Nat.le_mul_of_pos_right _ hb0) (hn ▸ hl)
 rw [if_pos hw]
 obtain ⟨v1,w1,hr,hown,hg,_,hat⟩:=run_append_own_at (P:=P) (W.alloc (.cells #[.int k (y:Int)] e)) base t o.type e i0 (.int k 0) 1 bytes ht hi hz0 hz1 hz2 rfl (by omega) (.slice v.A v.n v.c) v.n (nums k xs) (World.ownsRow.alloc HO _) ⟨W.heap.size,0,none⟩ 1 1 [.int k (y:Int)] rfl
  (World.news_of_block (cs:=#[.int k (y:Int)]) (t:=e) (fr:=(0,0)) (heap_alloc_new W _)) (by simp [Value.oneCell']) (by simp only [maxLen]; omega) (by rw [← hn]; exact hl) (by simp; omega)
 obtain ⟨A1,c1,rfl⟩:=own_sl hown
 unfold Oper.wp execOp
 simp only [ho,resolve,invoke,builtin,Sem.run_bind,Sem.run_pure,Result.andThen_ok,List.map_toArray,List.map_cons,List.map_nil,hs,hx,hr]
 refine h ⟨A1,v.n + 1,c1⟩ w1 ?_ ((HB.alloc hbase _).grown hg (by simp; omega) (fun j hj=>OwnN.base HO j hj)) (World.grownBy.trans (World.grownBy_alloc W _ _) hg)
 simpa [OwnN,nums] using hown
end
end Gs
