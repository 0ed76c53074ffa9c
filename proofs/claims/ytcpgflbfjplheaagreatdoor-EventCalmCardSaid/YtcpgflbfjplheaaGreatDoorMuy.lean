import Derived.Test.YtcpgflbfjplheaaGreatDoorKy
namespace Gs
open Go Go.RowKit
structure R32 (w:World) (P:Nat → Prop) (s:Sl) (l:List Nat):Prop where
 rd:RdN .u32 w P s l
 lt:Lt 4294967296 l
theorem R32.below {w w1 P s l} (h:R32 w P s l) (hb:Below w.heap.size w w1):R32 w1 P s l:=⟨h.rd.below hb,h.lt⟩
theorem R32.mono {w P P' s l} (h:R32 w P s l) (hP:∀ b,P b → P' b):R32 w P' s l:=⟨h.rd.mono hP,h.lt⟩
def nl2 (l:List Nat):Nat:=(limbs 4294967296 (val 4294967296 l)).length
theorem nl2_le {l:List Nat} (h:Lt 4294967296 l):nl2 l ≤ l.length:=limbs_len_le B32 (val_lt h)
theorem nl2_of {l:List Nat} (h:Lt 4294967296 l) {m:Nat} (hm:m ≤ l.length) (hv:val 4294967296 (l.take m) = val 4294967296 l) (hz:∀ q,m = q + 1 → gd l q ≠ 0):nl2 l = m ∧ limbs 4294967296 (val 4294967296 l) = l.take m:=by
 have h1:limbs 4294967296 (val 4294967296 l) = l.take m:=by
  cases m with
  | zero=>rw [← hv]; rfl
  | succ q=>rw [← hv,limbs_val B32 (h.take _) (can_take (by omega) (hz q rfl))]
 refine ⟨?_,h1⟩
 unfold nl2
 rw [h1,List.length_take]
 omega
theorem limbs2_can (x:Nat):Can (limbs 4294967296 x):=limbs_can B32 x
theorem R32.trim {w P A n c l} (h:R32 w P ⟨A,n,c⟩ l):R32 w P ⟨A,nl2 l,c⟩ (limbs 4294967296 (val 4294967296 l)):=by
 have h1:=nl2_le h.lt
 have h2:=h.rd.len
 have h3:=h.rd.cap
 simp only at h2 h3
 refine ⟨?_,limbs_lt B32 _⟩
 have e:limbs 4294967296 (val 4294967296 l) = l.take (nl2 l):=by
  have key:∀ m,m ≤ l.length → val 4294967296 (l.take m) = val 4294967296 l → limbs 4294967296 (val 4294967296 l) = l.take (nl2 l):=by
   intro m
   induction m with
   | zero =>
    intro _ hv
    obtain ⟨a,b⟩:=nl2_of h.lt (Nat.zero_le _) hv (fun q e=>by cases e)
    rw [b,a]
   | succ q ih =>
    intro hm hv
    by_cases hz:gd l q = 0
    ·exact ih (by omega) ((take_getLast hz _).trans hv)
    ·obtain ⟨a,b⟩:=nl2_of h.lt hm hv (fun q' e=>by (have e2:q' = q:=by omega); rw [e2]; exact hz)
     rw [b,a]
  exact key l.length (Nat.le_refl _) (by rw [List.take_length])
 rw [e]
 exact h.rd.take (nl2 l) (by show nl2 l ≤ n; omega) c (by omega) (Nat.le_refl _)
def halves (l:List Nat):List Nat:=l.flatMap fun x=>[x % 4294967296,x / 4294967296]
theorem halves_snoc (l:List Nat) (x:Nat):halves (l ++ [x]) = halves l ++ [x % 4294967296,x / 4294967296]:=by simp [halves]
theorem halves_length (l:List Nat):(halves l).length = 2 * l.length:=by
 induction l with
 | nil=>rfl
 | cons x l ih =>
  have:halves (x :: l) = [x % 4294967296,x / 4294967296] ++ halves l:=rfl
  rw [this,List.length_append,ih]
  simp
  omega
theorem halves_lt {l:List Nat} (h:Lt 18446744073709551616 l):Lt 4294967296 (halves l):=by
 intro y hy
 obtain ⟨x,hx,hy2⟩:=List.mem_flatMap.1 hy
 have:=h x hx
 simp only [List.mem_cons,List.mem_nil_iff,or_false] at hy2
 rcases hy2 with rfl | rfl <;> omega
theorem halves_val (l:List Nat):val 4294967296 (halves l) = val 18446744073709551616 l:=by
 induction l with
 | nil=>rfl
 | cons x l ih =>
  have:halves (x :: l) = (x % 4294967296) :: (x / 4294967296) :: halves l:=rfl
  rw [this,val_cons,val_cons,val_cons,ih]
  have:=Nat.mod_add_div x 4294967296
  generalize val 18446744073709551616 l = V at *
  omega
theorem halves_take_succ {l:List Nat} {i:Nat} (hi:i < l.length):halves (l.take (i + 1)) = halves (l.take i) ++ [gd l i % 4294967296,gd l i / 4294967296]:=by
 rw [gd_lt hi,List.take_succ_eq_append_getElem hi,halves_snoc]
def joinL (l:List Nat) (j:Nat):List Nat:=(List.range j).map fun q=>gd l (2 * q) + 4294967296 * gd l (2 * q + 1)
theorem joinL_succ (l:List Nat) (j:Nat):joinL l (j + 1) = joinL l j ++ [gd l (2 * j) + 4294967296 * gd l (2 * j + 1)]:=by simp [joinL,List.range_succ]
theorem joinL_length (l:List Nat) (j:Nat):(joinL l j).length = j:=by simp [joinL]
theorem joinL_lt {l:List Nat} (h:Lt 4294967296 l) (j:Nat):Lt 18446744073709551616 (joinL l j):=by
 intro y hy
 obtain ⟨q,_,rfl⟩:=List.mem_map.1 hy
 have h1:=h.gd (by omega) (2 * q)
 have h2:=h.gd (by omega) (2 * q + 1)
 omega
theorem joinL_val (l:List Nat) (j:Nat):val 18446744073709551616 (joinL l j) = val 4294967296 (l.take (2 * j)):=by
 induction j with
 | zero=>rfl
 | succ j ih =>
  rw [joinL_succ,val_snoc,ih,joinL_length,show 2 * (j + 1) = 2 * j + 1 + 1 by omega,val_take_succ,val_take_succ,show (18446744073709551616:Nat) = 4294967296 * 4294967296 from rfl,Nat.mul_pow,Nat.pow_succ,show 2 * j = j + j by omega,Nat.pow_add]
  generalize 4294967296 ^ j = T
  grind
theorem joinL_can {l:List Nat} (hc:Can l) {j:Nat} (hj:l.length ≤ 2 * j) (hj2:2 * j ≤ l.length + 1):Can (joinL l j):=by
 cases j with
 | zero=>exact Can.nil
 | succ q =>
  rw [can_iff (q:=q) (joinL_length l (q + 1)),joinL_succ,gd_lt (by simp [joinL_length]),List.getElem_append_right (by simp [joinL_length])]
  simp only [joinL_length,Nat.sub_self,List.getElem_cons_zero]
  have h1:l.length = 2 * q + 1 ∨ l.length = 2 * q + 1 + 1:=by omega
  rcases h1 with h1 | h1
  ·have:=(can_iff h1).1 hc; omega
  ·have:=(can_iff h1).1 hc; omega
theorem joinL_all {x:Nat} {j:Nat} (hj:(limbs 4294967296 x).length ≤ 2 * j) (hj2:2 * j ≤ (limbs 4294967296 x).length + 1):joinL (limbs 4294967296 x) j = limbs 18446744073709551616 x:=by
 refine (limbs_eq B64 (joinL_lt (limbs_lt B32 x) j) (joinL_can (limbs2_can x) hj hj2) ?_).symm
 rw [joinL_val,List.take_of_length_le hj,val_limbs B32]
section
variable {P:Program} {ops:Array Oper} {o:Oper} {a:Act} {Q:Exit → Act → World → Prop}
theorem append2s {K:Act → World → Prop} {w0 W:World} (base:Nat) (hw:Region.wanted o (yielded ops a.tmps) = true) (s x:Operand) (t e:TypeId) (k:IntKind) (bytes:Nat)
 (ho:o.op = .call { callee:=.builtin .append,args:=#[s,x],argTypes:=#[t,t] })
 (ht:P.underlying t = some (.slice e)) (hinfo:(P.info? e).map (fun i=>(i.zero,i.size,i.bytes)) = some (some (.int k 0),1,bytes)) (hb0:0 < bytes)
 (v:Sl) (xs:List Nat) (y z:Nat) (hs:a.eval s = .slice v.A v.n v.c) (hx:a.eval x = .slice (some ⟨W.heap.size,0,none⟩) 2 2)
 (HO:OwnN k W base e v xs) (HB:Below base w0 W) (hbase:base ≤ W.heap.size) (hl:(xs.length + 2) * bytes ≤ 140737488355328)
 (h:∀ v1:Sl,∀ w1,OwnN k w1 base e v1 (xs ++ [y,z]) → Below base w0 w1 → W.grownBy w1 (Value.slice v.A v.n v.c).ownBlock → K (a.put o.dst (.slice v1.A v1.n v1.c)) w1) :
 if Region.wanted o (yielded ops a.tmps) = true then Oper.wp P o a (W.alloc (.cells #[.int k (y:Int),.int k (z:Int)] e)) K Q else K (a.put o.dst undef) (W.alloc (.cells #[.int k (y:Int),.int k (z:Int)] e)):=by
 obtain ⟨i0,hi,hzz⟩:=Option.map_eq_some_iff.1 hinfo
 simp only [Prod.mk.injEq] at hzz
 obtain ⟨hz0,hz1,hz2⟩:=hzz
 have hn:xs.length = v.n:=HO.len
 have hlen:v.n + 2 ≤ 140737488355328:=Nat.le_trans (Nat.le_mul_of_pos_right _ hb0) (hn ▸ hl)
 rw [if_pos hw]
 obtain ⟨v1,w1,hr,hown,hg,_,hat⟩:=run_append_own_at (P:=P) (W.alloc (.cells #[.int k (y:Int),.int k (z:Int)] e)) base t o.type e i0 (.int k 0) 1 bytes ht hi hz0 hz1 hz2 rfl (by omega) (.slice v.A v.n v.c) v.n (nums k xs) (World.ownsRow.alloc HO _) ⟨W.heap.size,0,none⟩ 2 2 [.int k (y:Int),.int k (z:Int)] rfl
  (World.news_of_block (cs:=#[.int k (y:Int),.int k (z:Int)]) (t:=e) (fr:=(0,0)) (heap_alloc_new W _)) (by simp [Value.oneCell']) (by simp only [maxLen]; omega) (by rw [← hn]; exact hl) (by simp; omega)
 obtain ⟨A1,c1,rfl⟩:=own_sl hown
 unfold Oper.wp execOp
 simp only [ho,resolve,invoke,builtin,Sem.run_bind,Sem.run_pure,Result.andThen_ok,List.map_toArray,List.map_cons,List.map_nil,hs,hx,hr]
 refine h ⟨A1,v.n + 2,c1⟩ w1 ?_ ((HB.alloc hbase _).grown hg (by simp; omega) (fun j hj=>OwnN.base HO j hj)) (World.grownBy.trans (World.grownBy_alloc W _ _) hg)
 simpa [OwnN,nums] using hown
end
end Gs
