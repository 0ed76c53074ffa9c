import Derived.Test.YtcpgflbfjplheaaGreatDoorUA
import Derived.Test.YtcpgflbfjplheaaGreatDoorEB
import Derived.Test.YtcpgflbfjplheaaGreatDoorOby
import Derived.Test.YtcpgflbfjplheaaGreatDoorNsy
import Derived.Test.YtcpgflbfjplheaaGreatDoorVA
namespace Go.Proofs.YtcpgflbfjplheaaGreatDoor
open Go.RowKit Gs
set_option linter.unusedVariables false
theorem pow_ten_k {L K:Nat} (hL:L = 20 * K):(18446744073709551616:Nat) ^ K ≤ 10 ^ L:=by
 rw [hL,Nat.pow_mul]
 exact Nat.pow_le_pow_left (by decide) K
end Go.Proofs.YtcpgflbfjplheaaGreatDoor
namespace Gv
open Go Go.RowKit Gs
set_option linter.unusedVariables false
def rowP (k:IntKind) (l:List Nat):PV:=.sl (l.map fun (n:Nat)=>[PV.raw (.int k (n:Int))])
abbrev u64s (l:List Nat):PV:=rowP .u64 l
abbrev u32s (l:List Nat):PV:=rowP .u32 l
def nat (x:Nat):PV:=u64s (limbs 18446744073709551616 x)
def r32 (x:Nat):PV:=u32s (limbs 4294967296 x)
theorem rep_row {w:World} {P:Nat → Prop} {k:IntKind} {l:List Nat} {v:Value} (h:Rep w P (rowP k l) v):∃ A n c,v = .slice A n c ∧ RdN k w P ⟨A,n,c⟩ l:=by
 unfold rowP at h
 generalize hes:(l.map fun (n:Nat)=>[PV.raw (.int k (n:Int))]) = es at h
 cases h with
 | nil A c hc =>
  obtain rfl:l = []:=List.map_eq_nil_iff.1 hes
  exact ⟨A,0,c,rfl,RdN.nil _ _ _ c hc _⟩
 | sl k' _ ad c vs hk h1 h2 hf hc hr =>
  subst hes
  have hlen:(l.map fun (n:Nat)=>[PV.raw (.int k (n:Int))]).length = l.length:=by simp
  rw [hlen] at h1 ⊢
  refine ⟨some ad,l.length,c,rfl,rfl,h1,h2,fun hn=>⟨ad,rfl,?_,fun j hj=>?_⟩⟩
  ·have h3:=hc 0 [.raw (.int k (l[0]:Int))] (by rw [List.getElem?_map,List.getElem?_eq_getElem (show 0 < l.length from hn)]; rfl) 0 _ rfl
   exact h3.1
  ·have hj':j < l.length:=hj
   have hget:(l.map fun (n:Nat)=>[PV.raw (.int k (n:Int))])[j]? = some [.raw (.int k (l[j]:Int))]:=by rw [List.getElem?_map,List.getElem?_eq_getElem hj']; rfl
   have h3:=(hc j _ hget 0 _ rfl).2
   have h4:=hr j _ hget 0 _ rfl
   have h5:=hk j _ hget
   simp only [List.length_cons,List.length_nil] at h5
   subst h5
   generalize hu:vs j 0 = u at h3 h4
   cases h4
   rw [gd_lt hj']
   simpa using h3
theorem row_rep {w:World} {P:Nat → Prop} {k:IntKind} {l:List Nat} {A:Option Addr} {n c:Nat} (h:RdN k w P ⟨A,n,c⟩ l):Rep w P (rowP k l) (.slice A n c):=by
 have hlen:=h.len
 have hcap:=h.cap
 have htop:=h.top
 simp only at hlen hcap htop
 subst hlen
 rcases Nat.eq_zero_or_pos l.length with h0 | h0
 ·obtain rfl:=List.length_eq_zero_iff.1 h0
  exact .nil A c htop
 ·obtain ⟨ad,e,hP,hc⟩:=h.cells h0
  simp only at e
  subst e
  unfold rowP
  have hl2:(l.map fun (n:Nat)=>[PV.raw (.int k (n:Int))]).length = l.length:=by simp
  have key:∀ (i:Nat) (e:List PV),(l.map fun (n:Nat)=>[PV.raw (.int k (n:Int))])[i]? = some e → ∀ (j:Nat) (p:PV),e[j]? = some p → i < l.length ∧ j = 0 ∧ e = [.raw (.int k (gd l i:Int))] ∧ p = .raw (.int k (gd l i:Int)):=by
   intro i e hi j p hj
   rw [List.getElem?_map,Option.map_eq_some_iff] at hi
   obtain ⟨n,hn,rfl⟩:=hi
   have hlt:=(List.getElem?_eq_some_iff.1 hn).1
   have hgd:n = gd l i:=by rw [gd_lt hlt]; exact (List.getElem?_eq_some_iff.1 hn).2.symm
   subst hgd
   cases j with
   | zero=>simp at hj; exact ⟨hlt,rfl,rfl,hj.symm⟩
   | succ j=>simp at hj
  have:=Rep.sl (w:=w) (P:=P) 1 (l.map fun (n:Nat)=>[PV.raw (.int k (n:Int))]) ad c (fun i _=>.int k (gd l i:Int)) (fun i e hi=>?_) (by rw [hl2]; exact hcap) htop (fun i e hi j p hj=>?_) (fun i e hi j p hj=>?_) (fun i e hi j p hj=>?_)
  ·rwa [hl2] at this
  ·rw [List.getElem?_map,Option.map_eq_some_iff] at hi
   obtain ⟨n,_,rfl⟩:=hi
   rfl
  ·obtain ⟨_,_,_,rfl⟩:=key i e hi j p hj; rfl
  ·obtain ⟨h1,rfl,_,_⟩:=key i e hi j p hj
   exact ⟨hP,by simpa using hc i h1⟩
  ·obtain ⟨_,_,_,rfl⟩:=key i e hi j p hj; exact .raw _
def IsN (p:PV) (x k:Nat):Prop:=∃ l,p = u64s l ∧ Lt 18446744073709551616 l ∧ val 18446744073709551616 l = x ∧ l.length ≤ k
def sz (x:Nat):Nat:=(limbs 18446744073709551616 x).length
theorem sz_le {x k:Nat} (h:x < 18446744073709551616 ^ k):sz x ≤ k:=limbs_len_le B64 h
theorem lt_sz (x:Nat):x < 18446744073709551616 ^ sz x:=by
 have:=val_lt (limbs_lt B64 x)
 rwa [val_limbs B64] at this
theorem sz_mono {x y:Nat} (h:x ≤ y):sz x ≤ sz y:=sz_le (Nat.lt_of_le_of_lt h (lt_sz y))
theorem sz_add {x y a b:Nat} (h:sz x ≤ a) (h':sz y ≤ b):sz (x + y) ≤ a + b + 1:=by
 refine sz_le (Nat.lt_of_lt_of_le (pow_add_lt (lt_sz x) (lt_sz y)) (Nat.pow_le_pow_right (by omega) (by omega)))
theorem sz_mul {x y a b:Nat} (h:sz x ≤ a) (h':sz y ≤ b):sz (x * y) ≤ a + b :=
 sz_le (Nat.lt_of_lt_of_le (pow_mul_lt (lt_sz x) (lt_sz y)) (Nat.pow_le_pow_right (by omega) (by omega)))
theorem sz_small {x:Nat} (h:x < 18446744073709551616):sz x ≤ 1:=sz_le (by simpa using h)
theorem IsN.nat {x k:Nat} (h:sz x ≤ k):IsN (nat x) x k:=⟨_,rfl,limbs_lt B64 x,val_limbs B64 x,h⟩
theorem IsN.mk {l:List Nat} {k:Nat} (h:Lt 18446744073709551616 l) (hk:l.length ≤ k):IsN (u64s l) (val 18446744073709551616 l) k:=⟨l,rfl,h,rfl,hk⟩
theorem IsN.nil:IsN (.sl []) 0 0:=⟨[],rfl,Lt.nil _,rfl,Nat.le_refl _⟩
theorem IsN.sz {p:PV} {x k:Nat} (h:IsN p x k):sz x ≤ k:=by
 obtain ⟨l,_,h1,rfl,h2⟩:=h
 exact sz_le (Nat.lt_of_lt_of_le (val_lt h1) (Nat.pow_le_pow_right (by omega) h2))
theorem IsN.more {p:PV} {x k k':Nat} (h:IsN p x k) (hk:k ≤ k'):IsN p x k':=by
 obtain ⟨l,h0,h1,h2,h3⟩:=h
 exact ⟨l,h0,h1,h2,Nat.le_trans h3 hk⟩
theorem IsN.val {p:PV} {x k:Nat} (h:IsN p x k) {w:World} {P:Nat → Prop} {v:Value} (hr:Rep w P p v):∃ A n c l,v = .slice A n c ∧ RdU w P ⟨A,n,c⟩ l ∧ Gs.val 18446744073709551616 l = x ∧ n ≤ k:=by
 obtain ⟨l,rfl,h1,h2,h3⟩:=h
 obtain ⟨A,n,c,rfl,hr'⟩:=rep_row hr
 refine ⟨A,n,c,l,rfl,⟨hr',h1⟩,h2,?_⟩
 have:=hr'.len
 simp only at this
 omega
theorem r32_val {x:Nat} {w:World} {P:Nat → Prop} {v:Value} (hr:Rep w P (r32 x) v):∃ A n c,v = .slice A n c ∧ R32 w P ⟨A,n,c⟩ (limbs 4294967296 x):=by
 obtain ⟨A,n,c,rfl,hr'⟩:=rep_row hr
 exact ⟨A,n,c,rfl,hr',limbs_lt B32 x⟩
theorem Fn.of {P:Program} {f:FuncId} {args:List PV} {r:PV} (he:∃ fn,P.funcs[f]? = some fn ∧ fn.body.isSome = true ∧ (fn.name == "runtime.NumGoroutine") = false)
 (h:∀ (w:World) (P0:Nat → Prop) (vs:List Value),vs.length = args.length → (∀ (j:Nat) (p:PV) (v:Value),args[j]? = some p → vs[j]? = some v → Rep w P0 p v) →
  Calls P f vs.toArray w fun e w'=>∃ v,e = .returned v ∧ Rep w' (fun b=>P0 b ∨ w.heap.size ≤ b) r v ∧ Below w.heap.size w w'):Fn P f args r:=by
 refine ⟨he,fun w P0 vs hP hl hr=>?_⟩
 have:=h w P0 vs.toList (by simpa using hl.symm) fun j p v hp hv=>by
  have:=hr j p hp
  have hlt:=(List.getElem?_eq_some_iff.1 hv).1
  simp only [Array.length_toList] at hlt
  have e:vs.getD j undef = v:=by
   simp [Array.getElem?_toList] at hv
   rw [Array.getElem?_eq_getElem hlt] at hv
   simp [Array.getD,hlt]
   exact Option.some.inj hv
  rwa [e] at this
 rw [Array.toArray_toList] at this
 refine this.mono ?_
 rintro e w' ⟨v,rfl,h1,h2⟩
 exact ⟨v,r,rfl,rfl,h1,h2⟩
theorem two_list {vs:List Value} (h:vs.length = 2):∃ a b,vs = [a,b]:=by
 match vs,h with
 | [a,b],_=>exact ⟨a,b,rfl⟩
theorem one_list {vs:List Value} (h:vs.length = 1):∃ a,vs = [a]:=by
 match vs,h with
 | [a],_=>exact ⟨a,rfl⟩
end Gv
namespace Go.Proofs.YtcpgflbfjplheaaGreatDoor
open Go.RowKit Gs Gv
set_option linter.unusedVariables false
theorem mixed:Tryz.prog.follows .mixedOrders = true:=by kernel_rfl
section
variable {p q:PV} {x y k k':Nat}
theorem n_Add (h:IsN p x k) (h':IsN q y k') (hk:k ≤ 1000000) (hk':k' ≤ 1000000):Gv.Fn Tryz.prog 187 [p,q] (nat (x + y)):=by
 refine Fn.of ⟨_,Tryz.func187,rfl,by kernel_rfl⟩ fun w P0 vs hl hr=>?_
 obtain ⟨a,b,rfl⟩:=two_list hl
 obtain ⟨A,n,c,l,rfl,h1,h2,h3⟩:=h.val (hr 0 _ _ rfl rfl)
 obtain ⟨A',n',c',l',rfl,h1',h2',h3'⟩:=h'.val (hr 1 _ _ rfl rfl)
 refine (nat_Add h1 h1' (by omega) (by omega)).mono ?_
 rintro e w' ⟨A1,n1,c1,rfl,h4,hb⟩
 rw [h2,h2'] at h4
 exact ⟨_,rfl,row_rep (h4.rd.mono fun b hb=>.inr hb),hb⟩
theorem n_Mul (h:IsN p x k) (h':IsN q y k') (hk:k ≤ 1000000) (hk':k' ≤ 1000000):Gv.Fn Tryz.prog 137 [p,q] (nat (x * y)):=by
 refine Fn.of ⟨_,Tryz.func137,rfl,by kernel_rfl⟩ fun w P0 vs hl hr=>?_
 obtain ⟨a,b,rfl⟩:=two_list hl
 obtain ⟨A,n,c,l,rfl,h1,h2,h3⟩:=h.val (hr 0 _ _ rfl rfl)
 obtain ⟨A',n',c',l',rfl,h1',h2',h3'⟩:=h'.val (hr 1 _ _ rfl rfl)
 refine (nat_Mul h1 h1' (by omega) (by omega)).mono ?_
 rintro e w' ⟨A1,n1,c1,rfl,h4,hb⟩
 rw [h2,h2'] at h4
 exact ⟨_,rfl,row_rep (h4.rd.mono fun b hb=>.inr hb),hb⟩
theorem n_Cmp (h:IsN p x k) (h':IsN q y k') (hk:k ≤ 1000000) (hk':k' ≤ 1000000):Gv.Fn Tryz.prog 127 [p,q] (.raw (.int .i64 (cmpI x y))):=by
 refine Fn.of ⟨_,Tryz.func127,rfl,by kernel_rfl⟩ fun w P0 vs hl hr=>?_
 obtain ⟨a,b,rfl⟩:=two_list hl
 obtain ⟨A,n,c,l,rfl,h1,h2,h3⟩:=h.val (hr 0 _ _ rfl rfl)
 obtain ⟨A',n',c',l',rfl,h1',h2',h3'⟩:=h'.val (hr 1 _ _ rfl rfl)
 refine (nat_Cmp h1 h1' (by omega) (by omega)).mono ?_
 rintro e w' ⟨rfl,hb⟩
 rw [h2,h2']
 exact ⟨_,rfl,.raw _,hb⟩
theorem n_Sub (h:IsN p x k) (h':IsN q y k') (hk:k ≤ 1000000) (hk':k' ≤ 1000000) (hle:y ≤ x):Gv.Fn Tryz.prog 188 [p,q] (.tup [nat (x - y),.raw (.int .i64 0)]):=by
 refine Fn.of ⟨_,Tryz.func188,rfl,by kernel_rfl⟩ fun w P0 vs hl hr=>?_
 obtain ⟨a,b,rfl⟩:=two_list hl
 obtain ⟨A,n,c,l,rfl,h1,h2,h3⟩:=h.val (hr 0 _ _ rfl rfl)
 obtain ⟨A',n',c',l',rfl,h1',h2',h3'⟩:=h'.val (hr 1 _ _ rfl rfl)
 refine (nat_Sub h1 h1' (by omega) (by omega) (by rw [h2,h2']; exact hle)).mono ?_
 rintro e w' ⟨A1,n1,c1,rfl,h4,hb⟩
 rw [h2,h2'] at h4
 refine ⟨_,rfl,.tup _ _ rfl fun j p hj=>?_,hb⟩
 match j,hj with
 | 0,hj=>cases hj; exact row_rep (h4.rd.mono fun b hb=>.inr hb)
 | 1,hj=>cases hj; exact .raw _
theorem n_DivMod (h:IsN p x k) (h':IsN q y k') (hk:k ≤ 1000000) (hk':k' ≤ 1000000) (hy:y ≠ 0):Gv.Fn Tryz.prog 191 [p,q] (.tup [nat (x / y),nat (x % y),.raw (.int .i64 0)]):=by
 refine Fn.of ⟨_,Tryz.func191,rfl,by kernel_rfl⟩ fun w P0 vs hl hr=>?_
 obtain ⟨a,b,rfl⟩:=two_list hl
 obtain ⟨A,n,c,l,rfl,h1,h2,h3⟩:=h.val (hr 0 _ _ rfl rfl)
 obtain ⟨A',n',c',l',rfl,h1',h2',h3'⟩:=h'.val (hr 1 _ _ rfl rfl)
 refine (nat_DivMod h1 h1' (by omega) (by omega) (by rw [h2']; exact hy)).mono ?_
 rintro e w' ⟨A1,n1,c1,A2,n2,c2,rfl,h4,h5,hb⟩
 rw [h2,h2'] at h4 h5
 refine ⟨_,rfl,.tup _ _ rfl fun j p hj=>?_,hb⟩
 match j,hj with
 | 0,hj=>cases hj; exact row_rep (h4.rd.mono fun b hb=>.inr hb)
 | 1,hj=>cases hj; exact row_rep (h5.rd.mono fun b hb=>.inr hb)
 | 2,hj=>cases hj; exact .raw _
theorem n_Gcd (h:IsN p x k) (h':IsN q y k') (hk:k ≤ 1000000) (hk':k' ≤ 1000000):Gv.Fn Tryz.prog 190 [p,q] (nat (Nat.gcd x y)):=by
 refine Fn.of ⟨_,Tryz.func190,rfl,by kernel_rfl⟩ fun w P0 vs hl hr=>?_
 obtain ⟨a,b,rfl⟩:=two_list hl
 obtain ⟨A,n,c,l,rfl,h1,h2,h3⟩:=h.val (hr 0 _ _ rfl rfl)
 obtain ⟨A',n',c',l',rfl,h1',h2',h3'⟩:=h'.val (hr 1 _ _ rfl rfl)
 refine (nat_Gcd h1 h1' (by omega) (by omega)).mono ?_
 rintro e w' ⟨A1,n1,c1,rfl,h4,hb⟩
 rw [h2,h2'] at h4
 exact ⟨_,rfl,row_rep (h4.rd.mono fun b hb=>.inr hb),hb⟩
theorem n_Of (v:Nat) (hv:v < 18446744073709551616):Gv.Fn Tryz.prog 128 [.raw (.int .u64 v)] (nat v):=by
 refine Fn.of ⟨_,Tryz.func128,rfl,by kernel_rfl⟩ fun w P0 vs hl hr=>?_
 obtain ⟨a,rfl⟩:=one_list hl
 have:=hr 0 _ _ rfl rfl
 cases this
 refine (nat_Of v hv w).mono ?_
 rintro e w' ⟨A1,n1,c1,rfl,h4,hb⟩
 exact ⟨_,rfl,row_rep (h4.rd.mono fun b hb=>.inr hb),hb⟩
theorem n_Bits (h:IsN p x k) (hk:k ≤ 1000000):Gv.Fn Tryz.prog 133 [p] (.raw (.int .i64 (blen x:Nat))):=by
 refine Fn.of ⟨_,Tryz.func133,rfl,by kernel_rfl⟩ fun w P0 vs hl hr=>?_
 obtain ⟨a,rfl⟩:=one_list hl
 obtain ⟨A,n,c,l,rfl,h1,h2,h3⟩:=h.val (hr 0 _ _ rfl rfl)
 refine (nat_Bits h1 (by omega)).mono ?_
 rintro e w' ⟨rfl,rfl⟩
 rw [h2]
 exact ⟨_,rfl,.raw _,Below.refl _ _⟩
theorem k_Nats {l m:List Nat} (h:Lt 18446744073709551616 l) (h':Lt 18446744073709551616 m):Gv.Fn Tryz.prog 152 [u64s l,u64s m] (.raw (.bool (decide (l = m)))):=by
 refine Fn.of ⟨_,Tryz.func152,rfl,by kernel_rfl⟩ fun w P0 vs hl hr=>?_
 obtain ⟨a,b,rfl⟩:=two_list hl
 obtain ⟨A,n,c,rfl,h1⟩:=rep_row (hr 0 _ _ rfl rfl)
 obtain ⟨A',n',c',rfl,h1'⟩:=rep_row (hr 1 _ _ rfl rfl)
 refine (keep_Nats ⟨h1,h⟩ ⟨h1',h'⟩).mono ?_
 rintro e w' ⟨rfl,hb⟩
 exact ⟨_,rfl,.raw _,hb⟩
theorem r_In (h:IsN p x k) (hk:k ≤ 1000000):Gv.Fn Tryz.prog 85 [p] (r32 x):=by
 refine Fn.of ⟨_,Tryz.func85,rfl,by kernel_rfl⟩ fun w P0 vs hl hr=>?_
 obtain ⟨a,rfl⟩:=one_list hl
 obtain ⟨A,n,c,l,rfl,h1,h2,h3⟩:=h.val (hr 0 _ _ rfl rfl)
 refine (ref_In h1 (by omega)).mono ?_
 rintro e w' ⟨A1,n1,c1,rfl,h4,hb⟩
 rw [h2] at h4
 exact ⟨_,rfl,row_rep (h4.rd.mono fun b hb=>.inr hb),hb⟩
theorem sz32 {x k:Nat} (h:sz x ≤ k):(limbs 4294967296 x).length ≤ 2 * k:=by
 refine limbs_len_le B32 ?_
 rw [← pow64_32]
 exact Nat.lt_of_lt_of_le (lt_sz x) (Nat.pow_le_pow_right (by omega) h)
theorem r32_len {x k n c:Nat} {A:Option Addr} {w:World} {P:Nat → Prop} (h:R32 w P ⟨A,n,c⟩ (limbs 4294967296 x)) (hk:sz x ≤ k):n ≤ 2 * k:=by
 have h1:=h.rd.len
 have h2:=sz32 hk
 simp only at h1
 omega
theorem r_Out (hk:sz x ≤ 400000):Gv.Fn Tryz.prog 153 [r32 x] (nat x):=by
 refine Fn.of ⟨_,Tryz.func153,rfl,by kernel_rfl⟩ fun w P0 vs hl hr=>?_
 obtain ⟨a,rfl⟩:=one_list hl
 obtain ⟨A,n,c,rfl,h1⟩:=r32_val (hr 0 _ _ rfl rfl)
 have:=r32_len h1 hk
 refine (ref_Out h1 (by omega)).mono ?_
 rintro e w' ⟨A1,n1,c1,rfl,h4,hb⟩
 exact ⟨_,rfl,row_rep (h4.rd.mono fun b hb=>.inr hb),hb⟩
theorem r_Cmp (hk:sz x ≤ 400000) (hk':sz y ≤ 400000):Gv.Fn Tryz.prog 199 [r32 x,r32 y] (.raw (.int .i64 (cmpI x y))):=by
 refine Fn.of ⟨_,Tryz.func199,rfl,by kernel_rfl⟩ fun w P0 vs hl hr=>?_
 obtain ⟨a,b,rfl⟩:=two_list hl
 obtain ⟨A,n,c,rfl,h1⟩:=r32_val (hr 0 _ _ rfl rfl)
 obtain ⟨A',n',c',rfl,h1'⟩:=r32_val (hr 1 _ _ rfl rfl)
 have h2:=r32_len h1 hk
 have h3:=r32_len h1' hk'
 refine (ref_Cmp h1 h1' (by omega) (by omega)).mono ?_
 rintro e w' ⟨rfl,hb⟩
 exact ⟨_,rfl,.raw _,hb⟩
theorem r_Add (hk:sz x ≤ 400000) (hk':sz y ≤ 400000):Gv.Fn Tryz.prog 222 [r32 x,r32 y] (r32 (x + y)):=by
 refine Fn.of ⟨_,Tryz.func222,rfl,by kernel_rfl⟩ fun w P0 vs hl hr=>?_
 obtain ⟨a,b,rfl⟩:=two_list hl
 obtain ⟨A,n,c,rfl,h1⟩:=r32_val (hr 0 _ _ rfl rfl)
 obtain ⟨A',n',c',rfl,h1'⟩:=r32_val (hr 1 _ _ rfl rfl)
 have h2:=r32_len h1 hk
 have h3:=r32_len h1' hk'
 refine (ref_Add h1 h1' (by omega) (by omega)).mono ?_
 rintro e w' ⟨A1,n1,c1,rfl,h4,hb⟩
 exact ⟨_,rfl,row_rep (h4.rd.mono fun b hb=>.inr hb),hb⟩
theorem r_Sub (hk:sz x ≤ 400000) (hle:y ≤ x):Gv.Fn Tryz.prog 202 [r32 x,r32 y] (r32 (x - y)):=by
 refine Fn.of ⟨_,Tryz.func202,rfl,by kernel_rfl⟩ fun w P0 vs hl hr=>?_
 obtain ⟨a,b,rfl⟩:=two_list hl
 obtain ⟨A,n,c,rfl,h1⟩:=r32_val (hr 0 _ _ rfl rfl)
 obtain ⟨A',n',c',rfl,h1'⟩:=r32_val (hr 1 _ _ rfl rfl)
 have h2:=r32_len h1 hk
 refine (ref_Sub h1 h1' (by omega) hle).mono ?_
 rintro e w' ⟨A1,n1,c1,rfl,h4,hb⟩
 exact ⟨_,rfl,row_rep (h4.rd.mono fun b hb=>.inr hb),hb⟩
theorem r_Mul (hk:sz x ≤ 400000) (hk':sz y ≤ 400000):Gv.Fn Tryz.prog 172 [r32 x,r32 y] (r32 (x * y)):=by
 refine Fn.of ⟨_,Tryz.func172,rfl,by kernel_rfl⟩ fun w P0 vs hl hr=>?_
 obtain ⟨a,b,rfl⟩:=two_list hl
 obtain ⟨A,n,c,rfl,h1⟩:=r32_val (hr 0 _ _ rfl rfl)
 obtain ⟨A',n',c',rfl,h1'⟩:=r32_val (hr 1 _ _ rfl rfl)
 have h2:=r32_len h1 hk
 have h3:=r32_len h1' hk'
 refine (ref_Mul h1 h1' (by omega) (by omega)).mono ?_
 rintro e w' ⟨A1,n1,c1,rfl,h4,hb⟩
 exact ⟨_,rfl,row_rep (h4.rd.mono fun b hb=>.inr hb),hb⟩
theorem r_Of (v:Nat) (hv:v < 18446744073709551616):Gv.Fn Tryz.prog 86 [.raw (.int .u64 v)] (r32 v):=by
 refine Fn.of ⟨_,Tryz.func86,rfl,by kernel_rfl⟩ fun w P0 vs hl hr=>?_
 obtain ⟨a,rfl⟩:=one_list hl
 have:=hr 0 _ _ rfl rfl
 cases this
 refine (ref_Of_new v hv w).mono ?_
 rintro e w' ⟨A1,n1,c1,rfl,h4,hb⟩
 exact ⟨_,rfl,row_rep (h4.rd.mono fun b hb=>.inr hb),hb⟩
theorem CanF.rep {G:Nat → Prop} {w:World} {v:Value} {x K:Nat} (h:CanF G w v x K):Rep w G (r32 x) v:=by
 obtain ⟨A,n,c,rfl,hr,_⟩:=h
 exact row_rep hr.rd
theorem r_DivMod (hk:sz x ≤ 500) (hk':sz y ≤ 500) (hy:0 < y):Gv.Fn Tryz.prog 149 [r32 x,r32 y] (.agg [r32 (x / y),r32 (x % y)]):=by
 refine Fn.of ⟨_,Tryz.func149,rfl,by kernel_rfl⟩ fun w P0 vs hl hr=>?_
 obtain ⟨a,b,rfl⟩:=two_list hl
 obtain ⟨A,n,c,rfl,h1⟩:=r32_val (hr 0 _ _ rfl rfl)
 obtain ⟨A',n',c',rfl,h1'⟩:=r32_val (hr 1 _ _ rfl rfl)
 have h2:=r32_len h1 hk
 have h3:=r32_len h1' hk'
 have key:Calls Tryz.prog 149 #[.slice A n c,.slice A' n' c'] w fun e w'=>∃ q r,e = .returned (.agg #[q,r]) ∧ CanF (fun b=>P0 b ∨ w.heap.size ≤ b) w' q (x / y) n ∧ (∃ N,CanF (fun b=>P0 b ∨ w.heap.size ≤ b) w' r (x % y) N) ∧ Below w.heap.size w w':=by
  have ha:CanF P0 w (.slice A n c) x n:=⟨A,n,c,rfl,h1,Nat.le_refl _⟩
  have hb:CanR w (.slice A' n' c') y n':=⟨A',n',c',rfl,h1'.mono fun _ _=>trivial,Nat.le_refl _⟩
  rcases Nat.lt_or_ge x y with hlt | hge
  ·refine (ref_DivMod_lessF ha hb (by omega) (by omega) hlt).mono ?_
   rintro e w' ⟨q,r,he,h4,h5,hb⟩
   exact ⟨q,r,he,h4,⟨_,h5⟩,hb⟩
  ·by_cases h1n:n' ≤ 1
   ·have hl':(limbs 4294967296 y).length = n':=h1'.rd.len
    have hy1:y < 4294967296 ^ 1:=lt_of_limbs_len B32 (by omega)
    refine (ref_DivMod_oneF ha.r (CanR.tight hb hy1) (by omega) hy hge).mono ?_
    rintro e w' ⟨q,r,he,h4,h5,hb⟩
    exact ⟨q,r,he,h4.mono fun b hb=>.inr hb,⟨_,h5.mono fun b hb=>.inr hb⟩,hb⟩
   ·refine (ref_DivMod_longF (N:=n') h1 h1' (by omega) (Nat.le_refl _) (by omega) (by omega) hge).mono ?_
    rintro e w' ⟨q,r,he,h4,h5,hb⟩
    exact ⟨q,r,he,h4.mono fun b hb=>.inr hb,⟨_,h5.mono fun b hb=>.inr hb⟩,hb⟩
 refine key.mono ?_
 rintro e w' ⟨u,v,rfl,h4,⟨N,h5⟩,hb⟩
 refine ⟨_,rfl,.agg _ _ rfl (fun j p hj=>?_) (fun j p hj=>?_),hb⟩
 ·match j,hj with
  | 0,hj=>cases hj; rfl
  | 1,hj=>cases hj; rfl
 ·match j,hj with
  | 0,hj=>cases hj; exact CanF.rep h4
  | 1,hj=>cases hj; exact CanF.rep h5
end
end Go.Proofs.YtcpgflbfjplheaaGreatDoor
namespace Gs
open Go Go.RowKit Go.Proofs.YtcpgflbfjplheaaGreatDoor
def sg (s:Bool) (x:Nat):Int:=if s then -(x:Int) else (x:Int)
theorem sg_true (x:Nat):sg true x = -(x:Int):=rfl
theorem sg_false (x:Nat):sg false x = (x:Int):=rfl
theorem sg_abs (s:Bool) (x:Nat):(sg s x).natAbs = x:=by cases s <;> simp [sg]
theorem sg_lt (s:Bool) (x:Nat):decide (sg s x < 0) = (s && decide (0 < x)):=by
 cases s
 ·rw [sg_false,Bool.false_and,decide_eq_false_iff_not]; omega
 ·rw [sg_true,Bool.true_and,Bool.eq_iff_iff,decide_eq_true_iff,decide_eq_true_iff]; omega
theorem sg_of (z:Int):sg (decide (z < 0)) z.natAbs = z:=by
 by_cases h:z < 0
 ·rw [decide_eq_true h,sg_true]; omega
 ·rw [decide_eq_false h,sg_false]; omega
theorem sg_not (s:Bool) (x:Nat):sg (!s) x = -sg s x:=by cases s <;> simp [sg]
theorem sg_mul (s t:Bool) (x y:Nat):sg (s != t) (x * y) = sg s x * sg t y:=by
 cases s <;> cases t <;> simp [sg,Int.natCast_mul,Int.neg_mul,Int.mul_neg]
theorem sg_add (s:Bool) (x y:Nat):sg s (x + y) = sg s x + sg s y:=by
 cases s <;> simp [sg,Int.natCast_add] <;> omega
theorem sg_sub (s t:Bool) (x y:Nat) (h:s ≠ t) (hle:y ≤ x):sg s (x - y) = sg s x + sg t y:=by
 cases s <;> cases t <;> simp [sg] at h ⊢ <;> omega
theorem sg_sub' (s t:Bool) (x y:Nat) (h:s ≠ t) (hle:x ≤ y):sg t (y - x) = sg s x + sg t y:=by
 cases s <;> cases t <;> simp [sg] at h ⊢ <;> omega
theorem CanN.tight {w v x K K'} (h:CanN w v x K) (hx:x < 18446744073709551616 ^ K'):CanN w v x K':=by
 obtain ⟨A,n,c,rfl,hr,hn⟩:=h
 exact CanN.of hr hx
theorem Num.tight {w v x K K'} (h:Num w v x K) (hk:K ≤ K'):Num w v x K':=by
 obtain ⟨A,n,c,l,rfl,hr,hv,hn⟩:=h
 exact ⟨A,n,c,l,rfl,hr,hv,Nat.le_trans hn hk⟩
theorem CanN.lt {w v x K} (h:CanN w v x K):x < 18446744073709551616 ^ K:=h.num.lt
theorem CanN.nil (w:World) (K:Nat):CanN w (.slice none 0 0) 0 K:=⟨none,0,0,rfl,⟨RdN.nil _ _ _ 0 (by omega) _,Lt.nil _⟩,Nat.zero_le _⟩
def ZNum (w:World) (v:Value) (z:Int) (K:Nat):Prop:=∃ s m x,v = .agg #[.bool s,m] ∧ Num w m x K ∧ sg s x = z
def ZCan (w:World) (v:Value) (z:Int) (K:Nat):Prop:=∃ m,v = .agg #[.bool (decide (z < 0)),m] ∧ CanN w m z.natAbs K
def ZRef (w:World) (v:Value) (z:Int) (K:Nat):Prop:=∃ m,v = .agg #[.bool (decide (z < 0)),m] ∧ CanR w m z.natAbs K
def ZRaw (w:World) (v:Value) (s:Bool) (l:List Nat):Prop:=∃ m,v = .agg #[.bool s,m] ∧ RawN w m l
theorem ZNum.below {w w' v z K} (h:ZNum w v z K) (hb:Below w.heap.size w w'):ZNum w' v z K:=by
 obtain ⟨s,m,x,e,hm,hz⟩:=h
 exact ⟨s,m,x,e,hm.below hb,hz⟩
theorem ZCan.below {w w' v z K} (h:ZCan w v z K) (hb:Below w.heap.size w w'):ZCan w' v z K:=by
 obtain ⟨m,e,hm⟩:=h
 exact ⟨m,e,hm.below hb⟩
theorem ZRef.below {w w' v z K} (h:ZRef w v z K) (hb:Below w.heap.size w w'):ZRef w' v z K:=by
 obtain ⟨m,e,hm⟩:=h
 exact ⟨m,e,hm.below hb⟩
theorem ZRaw.below {w w' v s l} (h:ZRaw w v s l) (hb:Below w.heap.size w w'):ZRaw w' v s l:=by
 obtain ⟨m,e,hm⟩:=h
 exact ⟨m,e,hm.below hb⟩
theorem ZCan.num {w v z K} (h:ZCan w v z K):ZNum w v z K:=by
 obtain ⟨m,e,hm⟩:=h
 exact ⟨_,m,_,e,hm.num,sg_of z⟩
theorem ZRaw.num {w v s l x K} (h:ZRaw w v s l) (hx:val 18446744073709551616 l = x) (hl:l.length ≤ K):ZNum w v (sg s x) K:=by
 obtain ⟨m,e,hm⟩:=h
 exact ⟨s,m,x,e,hm.num' hx hl,rfl⟩
theorem ZNum.lt {w v z K} (h:ZNum w v z K):z.natAbs < 18446744073709551616 ^ K:=by
 obtain ⟨s,m,x,e,hm,rfl⟩:=h
 rw [sg_abs]
 exact hm.lt
theorem ZCan.lt {w v z K} (h:ZCan w v z K):z.natAbs < 18446744073709551616 ^ K:=h.num.lt
theorem ZRef.lt {w v z K} (h:ZRef w v z K):z.natAbs < 4294967296 ^ K:=by
 obtain ⟨m,e,hm⟩:=h
 exact hm.lt
theorem ZCan.tight {w v z K K'} (h:ZCan w v z K) (hx:z.natAbs < 18446744073709551616 ^ K'):ZCan w v z K':=by
 obtain ⟨m,e,hm⟩:=h
 exact ⟨m,e,hm.tight hx⟩
theorem ZRef.tight {w v z K K'} (h:ZRef w v z K) (hx:z.natAbs < 4294967296 ^ K'):ZRef w v z K':=by
 obtain ⟨m,e,hm⟩:=h
 exact ⟨m,e,CanR.tight hm hx⟩
theorem ZNum.mk {w m x K} (s:Bool) (h:Num w m x K):ZNum w (.agg #[.bool s,m]) (sg s x) K:=⟨s,m,x,rfl,h,rfl⟩
theorem ZCan.mk {w m x K} {s t:Bool} (h:CanN w m x K) (ht:t = (s && decide (0 < x))):ZCan w (.agg #[.bool t,m]) (sg s x) K:=⟨m,by rw [ht,sg_lt],by rw [sg_abs]; exact h⟩
theorem ZRef.mk {w m x K} {s t:Bool} (h:CanR w m x K) (ht:t = (s && decide (0 < x))):ZRef w (.agg #[.bool t,m]) (sg s x) K:=⟨m,by rw [ht,sg_lt],by rw [sg_abs]; exact h⟩
def NoI (w:World) (b:Nat):Prop:=∃ cs T fr,w.heap[b]? = some (.cells cs T fr) ∧ ∀ v ∈ cs,∀ k i,v ≠ .int k i
def Off (b:Nat) (w w1:World):Prop:=∀ j,j ≠ b → w1.heap[j]? = w.heap[j]?
theorem Off.set (w:World) (b o:Nat) (p:Value):Off b w (w.setCell ⟨b,o,none⟩ p):=fun j hj=>set_heap _ (by exact hj)
theorem Off.trans {b:Nat} {w w1 w2:World} (h:Off b w w1) (h':Off b w1 w2):Off b w w2:=fun j hj=>(h' j hj).trans (h j hj)
theorem Off.set2 (w:World) (b:Nat) (p q:Value):Off b w ((w.setCell ⟨b,0,none⟩ p).setCell ⟨b,1,none⟩ q):=(Off.set w b 0 p).trans (Off.set _ b 1 q)
theorem Off.set3 (w:World) (b:Nat) (p q r:Value):Off b w (((w.setCell ⟨b,0,none⟩ p).setCell ⟨b,1,none⟩ q).setCell ⟨b,2,none⟩ r):=(Off.set2 w b p q).trans (Off.set _ b 2 r)
theorem RdN.off {k w P s l b} (h:RdN k w P s l) (hn:NoI w b):RdN k w (fun j=>P j ∧ j ≠ b) s l:=by
 refine ⟨h.len,h.cap,h.top,fun h0=>?_⟩
 obtain ⟨ad,e,hp,hc⟩:=h.cells h0
 refine ⟨ad,e,⟨hp,fun hb=>?_⟩,hc⟩
 obtain ⟨cs,T,fr,hB,hv⟩:=hn
 have h1:=hc 0 h0
 have h2:(ad.add 0).block = b:=(add_block ad 0).trans hb
 unfold World.cell? at h1
 rw [h2,hB] at h1
 simp only at h1
 split at h1
 ·cases h1
 ·exact hv _ (Array.mem_of_getElem? h1) _ _ rfl
theorem RdN.offs {k w w1 P s l b} (h:RdN k w P s l) (hn:NoI w b) (ho:Off b w w1):RdN k w1 P s l:=((h.off hn).keep fun j hj _=>ho j hj.2).mono fun _ hj=>hj.1
theorem Num.off {w w1 v x K b} (h:Num w v x K) (hn:NoI w b) (ho:Off b w w1):Num w1 v x K:=by
 obtain ⟨A,n,c,l,e,hr,hv,hk⟩:=h
 exact ⟨A,n,c,l,e,⟨hr.rd.offs hn ho,hr.lt⟩,hv,hk⟩
theorem CanN.off {w w1 v x K b} (h:CanN w v x K) (hn:NoI w b) (ho:Off b w w1):CanN w1 v x K:=by
 obtain ⟨A,n,c,e,hr,hk⟩:=h
 exact ⟨A,n,c,e,⟨hr.rd.offs hn ho,hr.lt⟩,hk⟩
theorem CanR.off {w w1 v x K b} (h:CanR w v x K) (hn:NoI w b) (ho:Off b w w1):CanR w1 v x K:=by
 obtain ⟨A,n,c,e,hr,hk⟩:=h
 exact ⟨A,n,c,e,⟨hr.rd.offs hn ho,hr.lt⟩,hk⟩
theorem RawN.off {w w1 v l b} (h:RawN w v l) (hn:NoI w b) (ho:Off b w w1):RawN w1 v l:=by
 obtain ⟨A,n,c,e,hr⟩:=h
 exact ⟨A,n,c,e,⟨hr.rd.offs hn ho,hr.lt⟩⟩
def Bx (W:World) (b:Nat) (s:Bool) (A:Option Addr) (n c:Nat) (T:TypeId):Prop:=W.heap[b]? = some (.cells #[.bool s,.slice A n c] T (0,0))
theorem Bx.no {W b s A n c T} (h:Bx W b s A n c T):NoI W b:=⟨_,_,_,h,fun v hv k i=>by
 simp only [List.mem_toArray,List.mem_cons,List.mem_nil_iff,or_false] at hv
 rcases hv with rfl | rfl <;> intro e <;> cases e⟩
theorem Bx.at {W b s A n c T} (h:Bx W b s A n c T):W.cell? ⟨b,0,none⟩ = some (.bool s) ∧ W.cell? ⟨b,1,none⟩ = some (.slice A n c):=two_at h
theorem Bx.fr {W b s A n c T} (h:Bx W b s A n c T):W.frozen? ⟨b,0,none⟩ = false ∧ W.frozen? ⟨b,1,none⟩ = false:=by
 unfold Bx at h
 simp [World.frozen?,h]
theorem Bx.new (w:World) (s A n c T):Bx (w.alloc (.cells #[.bool s,.slice A n c] T)) w.heap.size s A n c T:=heap_alloc_new w _
theorem Bx.lt {W b s A n c T} (h:Bx W b s A n c T):b < W.heap.size:=by
 unfold Bx at h
 exact (Array.getElem?_eq_some_iff.1 h).1
theorem Bx.below {W W' b s A n c T} (h:Bx W b s A n c T) (hb:Below W.heap.size W W'):Bx W' b s A n c T:=(hb.block b h.lt).trans h
theorem Bx.alloc {W b s A n c T} (h:Bx W b s A n c T) (o:Obj):Bx (W.alloc o) b s A n c T:=h.below ((Below.refl _ W).alloc (Nat.le_refl _) o)
theorem Bx.store {W b s A n c T} (h:Bx W b s A n c T) (s':Bool) (A':Option Addr) (n' c':Nat):Bx ((W.setCell ⟨b,0,none⟩ (.bool s')).setCell ⟨b,1,none⟩ (.slice A' n' c')) b s' A' n' c' T:=two_cells h _ _
theorem Bx.off {W W' b b' s A n c T} (h:Bx W b s A n c T) (ho:Off b' W W') (hne:b ≠ b'):Bx W' b s A n c T:=(ho b hne).trans h
theorem ZNum.off {w w1 v z K b} (h:ZNum w v z K) (hn:NoI w b) (ho:Off b w w1):ZNum w1 v z K:=by
 obtain ⟨s,m,x,e,hm,hz⟩:=h
 exact ⟨s,m,x,e,hm.off hn ho,hz⟩
theorem ZCan.off {w w1 v z K b} (h:ZCan w v z K) (hn:NoI w b) (ho:Off b w w1):ZCan w1 v z K:=by
 obtain ⟨m,e,hm⟩:=h
 exact ⟨m,e,hm.off hn ho⟩
theorem ZRef.off {w w1 v z K b} (h:ZRef w v z K) (hn:NoI w b) (ho:Off b w w1):ZRef w1 v z K:=by
 obtain ⟨m,e,hm⟩:=h
 exact ⟨m,e,hm.off hn ho⟩
theorem ZRaw.off {w w1 v s l b} (h:ZRaw w v s l) (hn:NoI w b) (ho:Off b w w1):ZRaw w1 v s l:=by
 obtain ⟨m,e,hm⟩:=h
 exact ⟨m,e,hm.off hn ho⟩
theorem ZNum.alloc {w v z K} (h:ZNum w v z K) (o:Obj):ZNum (w.alloc o) v z K:=h.below ((Below.refl _ w).alloc (Nat.le_refl _) o)
theorem ZCan.alloc {w v z K} (h:ZCan w v z K) (o:Obj):ZCan (w.alloc o) v z K:=h.below ((Below.refl _ w).alloc (Nat.le_refl _) o)
theorem ZRef.alloc {w v z K} (h:ZRef w v z K) (o:Obj):ZRef (w.alloc o) v z K:=h.below ((Below.refl _ w).alloc (Nat.le_refl _) o)
theorem ZRaw.alloc {w v s l} (h:ZRaw w v s l) (o:Obj):ZRaw (w.alloc o) v s l:=h.below ((Below.refl _ w).alloc (Nat.le_refl _) o)
theorem Bx.new' (w:World) (s A n c T) {b:Nat} (hb:b = w.heap.size):Bx (w.alloc (.cells #[.bool s,.slice A n c] T)) b s A n c T:=by
 subst hb
 exact Bx.new w s A n c T
theorem ZCan.open {w v z K} (h:ZCan w v z K):∃ t A n c,v = .agg #[.bool t,.slice A n c] ∧ Hid (t = decide (z < 0)) ∧ Hid (CanN w (.slice A n c) z.natAbs K):=by
 obtain ⟨m,rfl,hm⟩:=h
 have h0:=hm
 obtain ⟨A,n,c,rfl,hr,hk⟩:=hm
 exact ⟨_,A,n,c,rfl,Lib.hid rfl,Lib.hid h0⟩
theorem ZRef.open {w v z K} (h:ZRef w v z K):∃ t A n c,v = .agg #[.bool t,.slice A n c] ∧ Hid (t = decide (z < 0)) ∧ Hid (CanR w (.slice A n c) z.natAbs K):=by
 obtain ⟨m,rfl,hm⟩:=h
 have h0:=hm
 obtain ⟨A,n,c,rfl,hr,hk⟩:=hm
 exact ⟨_,A,n,c,rfl,Lib.hid rfl,Lib.hid h0⟩
theorem ZNum.open {w v z K} (h:ZNum w v z K):∃ s A n c x,v = .agg #[.bool s,.slice A n c] ∧ Hid (sg s x = z) ∧ Hid (Num w (.slice A n c) x K):=by
 obtain ⟨s,m,x,rfl,hm,hz⟩:=h
 have h0:=hm
 obtain ⟨A,n,c,l,rfl,hr,hv,hk⟩:=hm
 exact ⟨s,A,n,c,x,rfl,Lib.hid hz,Lib.hid h0⟩
theorem ZRaw.open {w v s l} (h:ZRaw w v s l):∃ A n c,v = .agg #[.bool s,.slice A n c] ∧ Hid (RawN w (.slice A n c) l):=by
 obtain ⟨m,rfl,hm⟩:=h
 have h0:=hm
 obtain ⟨A,n,c,rfl,hr⟩:=hm
 exact ⟨A,n,c,rfl,Lib.hid h0⟩
theorem Num.drew {w v x K} (h:Num w v x K):Num w.drew v x K:=h.below (Below.refl _ w).drew
theorem CanN.drew {w v x K} (h:CanN w v x K):CanN w.drew v x K:=h.below (Below.refl _ w).drew
theorem CanR.drew {w v x K} (h:CanR w v x K):CanR w.drew v x K:=h.below (Below.refl _ w).drew
theorem RawN.drew {w v l} (h:RawN w v l):RawN w.drew v l:=h.below (Below.refl _ w).drew
theorem ZNum.drew {w v z K} (h:ZNum w v z K):ZNum w.drew v z K:=h.below (Below.refl _ w).drew
theorem ZCan.drew {w v z K} (h:ZCan w v z K):ZCan w.drew v z K:=h.below (Below.refl _ w).drew
theorem ZRef.drew {w v z K} (h:ZRef w v z K):ZRef w.drew v z K:=h.below (Below.refl _ w).drew
theorem ZRaw.drew {w v s l} (h:ZRaw w v s l):ZRaw w.drew v s l:=h.below (Below.refl _ w).drew
theorem Bx.drew {W b s A n c T} (h:Bx W b s A n c T):Bx W.drew b s A n c T:=h.below (Below.refl _ W).drew
end Gs
namespace Gv
open Go Go.RowKit Gs
set_option linter.unusedVariables false
section
variable {P:Program} {R:PV → Prop} {ρ:List PV} {C:List (List PV → Prop)} {k:VC}
theorem ok_call {f:FuncId} {args:List SV} {sh:RSh} {ps:List PV} {r:PV} (h:Fn P f ps r) (hp:pvs ρ args = ps) (hf:fitsR sh r = true) (hk:k.ok P R (ρ ++ [r]) C):(VC.call f args sh k).ok P R ρ C:=⟨r,by rw [hp]; exact h,hf,hk⟩
theorem ok_prim {p:Prim} {args:List SV} {r:PV} (h:p.ev (pvs ρ args) = some r) (hk:k.ok P R (ρ ++ [r]) C):(VC.prim p args k).ok P R ρ C:=⟨r,h,hk⟩
theorem ok_ite {c:SV} {a b:VC} {t:Bool} (h:pv ρ c = .raw (.bool t)) (h1:t = true → a.ok P R ρ C) (h2:t = false → b.ok P R ρ C):(VC.ite c a b).ok P R ρ C:=⟨t,h,h1,h2⟩
theorem ok_ret {s:SV} {r:PV} (h:R r) (hs:pv ρ s = r):(VC.ret s).ok P R ρ C:=by show R (pv ρ s); rw [hs]; exact h
end
def zc (z:Int):PV:=.agg [.raw (.bool (decide (z < 0))),nat z.natAbs]
def IsZ (p:PV) (z:Int) (k:Nat):Prop:=∃ s l,p = .agg [.raw (.bool s),u64s l] ∧ Lt 18446744073709551616 l ∧ sg s (val 18446744073709551616 l) = z ∧ l.length ≤ k
def zs (z:Int):Nat:=sz z.natAbs
theorem IsZ.zc {z:Int} {k:Nat} (h:zs z ≤ k):IsZ (zc z) z k:=⟨_,_,rfl,limbs_lt B64 _,by rw [val_limbs B64,sg_of],h⟩
theorem IsZ.zs {p:PV} {z:Int} {k:Nat} (h:IsZ p z k):zs z ≤ k:=by
 obtain ⟨s,l,_,h1,rfl,h2⟩:=h
 unfold Gv.zs
 rw [sg_abs]
 exact sz_le (Nat.lt_of_lt_of_le (val_lt h1) (Nat.pow_le_pow_right (by omega) h2))
theorem zc_sg {s:Bool} {x:Nat}:zc (sg s x) = .agg [.raw (.bool (s && decide (0 < x))),nat x]:=by unfold zc; rw [sg_lt,sg_abs]
theorem sz_pos {x:Nat}:decide ((sz x:Int) > 0) = decide (0 < x):=by
 rw [Bool.eq_iff_iff,decide_eq_true_iff,decide_eq_true_iff]
 have:=limbs_len_zero B64 x
 unfold sz
 omega
theorem zs_sub {x y:Int} {a b:Nat} (h:zs x ≤ a) (h':zs y ≤ b):zs (x - y) ≤ a + b + 1 :=
 Nat.le_trans (sz_mono (by omega:(x - y).natAbs ≤ x.natAbs + y.natAbs)) (sz_add h h')
theorem zs_mul {x y:Int} {a b:Nat} (h:zs x ≤ a) (h':zs y ≤ b):zs (x * y) ≤ a + b:=by
 unfold zs
 rw [Int.natAbs_mul]
 exact sz_mul h h'
theorem zs_neg {x:Int} {a:Nat} (h:zs x ≤ a):zs (-x) ≤ a:=by unfold zs; rw [Int.natAbs_neg]; exact h
end Gv
namespace Go.Proofs.YtcpgflbfjplheaaGreatDoor
open Go.RowKit Gs Gv
set_option linter.unusedVariables false
theorem z_made {s:Bool} {q:PV} {x k:Nat} (h:IsN q x k) (hk:k ≤ 1000000):Gv.Fn Tryz.prog 136 [.raw (.bool s),q] (zc (sg s x)):=by
 have h0:=h
 obtain ⟨l,rfl,h1,h2,h3⟩:=h
 refine Fn.intro mixed vc_zed_made rfl ?_
 refine ok_call (n_Add h0 IsN.nil hk (by decide)) rfl rfl ?_
 refine ok_ite rfl ?_ ?_
 ·rintro rfl
  refine ok_prim rfl (ok_prim rfl (ok_ret rfl ?_))
  rw [zc_sg]
  show PV.agg [.raw (.bool (decide (((((limbs 18446744073709551616 (x + 0)).map fun (n:Nat)=>[PV.raw (.int .u64 (n:Int))]).length:Nat):Int) > 0))),nat (x + 0)] = _
  rw [List.length_map,← sz_pos]
  rfl
 ·rintro rfl
  refine ok_ret rfl ?_
  rw [zc_sg]
  rfl
theorem z_good {p:PV} {z:Int} {k:Nat} (h:IsZ p z k) (hk:k ≤ 1000000):Gv.Fn Tryz.prog 140 [p] (zc z):=by
 obtain ⟨s,l,rfl,h1,h2,h3⟩:=h
 refine Fn.intro mixed vc_zed_good rfl ?_
 refine ok_call (z_made ⟨l,rfl,h1,rfl,h3⟩ hk) rfl rfl (ok_ret rfl ?_)
 rw [h2]
 rfl
theorem z_Neg {p:PV} {z:Int} {k:Nat} (h:IsZ p z k) (hk:k ≤ 1000000):Gv.Fn Tryz.prog 175 [p] (zc (-z)):=by
 obtain ⟨s,l,rfl,h1,h2,h3⟩:=h
 refine Fn.intro mixed vc_zed_Neg rfl ?_
 refine ok_prim rfl (ok_call (z_made ⟨l,rfl,h1,rfl,h3⟩ hk) rfl rfl (ok_ret rfl ?_))
 rw [sg_not,h2]
 rfl
theorem z_Mul {p q:PV} {x y:Int} {k k':Nat} (h:IsZ p x k) (h':IsZ q y k') (hk:k ≤ 400000) (hk':k' ≤ 400000):Gv.Fn Tryz.prog 70 [p,q] (zc (x * y)):=by
 obtain ⟨s,l,rfl,h1,h2,h3⟩:=h
 obtain ⟨s',l',rfl,h1',h2',h3'⟩:=h'
 refine Fn.intro mixed vc_zed_Mul rfl ?_
 refine ok_prim rfl (ok_call (n_Mul ⟨l,rfl,h1,rfl,h3⟩ ⟨l',rfl,h1',rfl,h3'⟩ (by omega) (by omega)) rfl rfl ?_)
 refine ok_call (z_made (IsN.nat (sz_mul (IsN.mk h1 h3).sz (IsN.mk h1' h3').sz)) (by omega)) rfl rfl (ok_ret rfl ?_)
 rw [sg_mul,h2,h2']
 rfl
theorem zc_nat (z:Int):IsN (nat z.natAbs) z.natAbs (zs z):=IsN.nat (Nat.le_refl _)
theorem z_Add {p q:PV} {x y:Int} {k k':Nat} (h:IsZ p x k) (h':IsZ q y k') (hk:k ≤ 400000) (hk':k' ≤ 400000):Gv.Fn Tryz.prog 132 [p,q] (zc (x + y)):=by
 have hx:=h.zs
 have hy:=h'.zs
 have h0:=h
 have h0':=h'
 obtain ⟨s,l,rfl,h1,h2,h3⟩:=h
 obtain ⟨s',l',rfl,h1',h2',h3'⟩:=h'
 refine Fn.intro mixed vc_zed_Add rfl ?_
 refine ok_call (z_good h0 (by omega)) rfl rfl (ok_call (z_good h0' (by omega)) rfl rfl (ok_prim rfl (ok_ite rfl (fun hs=>?_) (fun hs=>?_))))
 ·refine ok_call (n_Add (zc_nat x) (zc_nat y) (by omega) (by omega)) rfl rfl ?_
  refine ok_call (z_made (IsN.nat (sz_add (a:=k) (b:=k') hx hy)) (by omega)) rfl rfl (ok_ret rfl ?_)
  have e:decide (x < 0) = decide (y < 0):=by simpa using hs
  rw [sg_add,sg_of,e,sg_of]
  rfl
 ·have e:decide (x < 0) ≠ decide (y < 0):=by simpa using hs
  refine ok_call (n_Cmp (zc_nat x) (zc_nat y) (by omega) (by omega)) rfl rfl (ok_prim rfl (ok_ite rfl (fun hc=>?_) (fun hc=>?_)))
  ·have hlt:x.natAbs < y.natAbs:=by
    have:cmpI (x.natAbs:Nat) (y.natAbs:Nat) < 0:=by simpa using hc
    unfold cmpI at this
    split at this
    ·omega
    ·split at this <;> omega
   refine ok_call (n_Sub (zc_nat y) (zc_nat x) (by omega) (by omega) (by omega)) rfl rfl ?_
   refine ok_call (z_made (IsN.nat (k:=k') (Nat.le_trans (sz_mono (Nat.sub_le _ _)) hy)) (by omega)) rfl rfl (ok_ret rfl ?_)
   rw [sg_sub' _ _ _ _ e (by omega),sg_of,sg_of]
   rfl
  ·have hle:y.natAbs ≤ x.natAbs:=by
    have:¬ cmpI (x.natAbs:Nat) (y.natAbs:Nat) < 0:=by simpa using hc
    unfold cmpI at this
    split at this
    ·omega
    ·omega
   refine ok_call (n_Sub (zc_nat x) (zc_nat y) (by omega) (by omega) hle) rfl rfl ?_
   refine ok_call (z_made (IsN.nat (k:=k) (Nat.le_trans (sz_mono (Nat.sub_le _ _)) hx)) (by omega)) rfl rfl (ok_ret rfl ?_)
   rw [sg_sub _ _ _ _ e hle,sg_of,sg_of]
   rfl
theorem z_Sub {p q:PV} {x y:Int} {k k':Nat} (h:IsZ p x k) (h':IsZ q y k') (hk:k ≤ 400000) (hk':k' ≤ 400000):Gv.Fn Tryz.prog 135 [p,q] (zc (x - y)):=by
 have h0:=h
 have h0':=h'
 have hy:=zs_neg h'.zs
 obtain ⟨s,l,rfl,h1,h2,h3⟩:=h
 obtain ⟨s',l',rfl,h1',h2',h3'⟩:=h'
 refine Fn.intro mixed vc_zed_Sub rfl ?_
 refine ok_call (z_Neg h0' (by omega)) rfl rfl (ok_call (z_Add h0 (IsZ.zc hy) hk hk') rfl rfl (ok_ret rfl ?_))
 rw [Int.sub_eq_add_neg]
 rfl
theorem z_Of {v:Int} (h1:-9223372036854775808 ≤ v) (h2:v ≤ 9223372036854775807):Gv.Fn Tryz.prog 116 [.raw (.int .i64 v)] (zc v):=by
 refine Fn.intro mixed vc_zed_Of rfl ?_
 refine ok_prim rfl (ok_ite rfl (fun hs=>?_) (fun hs=>?_))
 ·have hv:v < 0:=by simpa using hs
  refine ok_prim rfl (ok_prim rfl (ok_prim rfl (ok_prim rfl ?_)))
  have e:IntKind.u64.wrap (IntKind.u64.wrap (IntKind.i64.wrap (0 - IntKind.i64.wrap (v + 1))) + 1) = ((v.natAbs:Nat):Int):=by
   rw [IntWalk.i64_in (v + 1) (by omega),IntWalk.i64_in _ (by omega),IntKind.wrap_u64,IntKind.wrap_u64]
   omega
  refine ok_call (ps:=[.raw (.int .u64 ((v.natAbs:Nat):Int))]) (n_Of v.natAbs (by omega)) (by rw [← e]; rfl) rfl ?_
  refine ok_call (z_made (IsN.nat (sz_small (by omega))) (by decide)) rfl rfl (ok_ret rfl ?_)
  rw [sg_true,show -(v.natAbs:Int) = v by omega]
  rfl
 ·have hv:0 ≤ v:=by simpa using hs
  refine ok_prim rfl ?_
  have e:IntKind.u64.wrap v = ((v.natAbs:Nat):Int):=by
   rw [IntKind.wrap_u64]
   omega
  refine ok_call (ps:=[.raw (.int .u64 ((v.natAbs:Nat):Int))]) (n_Of v.natAbs (by omega)) (by rw [← e]; rfl) rfl ?_
  refine ok_call (z_made (IsN.nat (sz_small (by omega))) (by decide)) rfl rfl (ok_ret rfl ?_)
  rw [sg_false,show (v.natAbs:Int) = v by omega]
  rfl
end Go.Proofs.YtcpgflbfjplheaaGreatDoor
namespace Gv
open Go Go.RowKit Gs
set_option linter.unusedVariables false
theorem text_ex (x:Nat):∃ s,IsText s x:=by
 rcases Nat.eq_zero_or_pos x with rfl | hx
 ·exact ⟨⟨#[48]⟩,by decide,by decide,by decide,by decide⟩
 ·have hlt:x < 10 ^ x:=Nat.lt_pow_self (by omega)
  obtain ⟨h1,h2,h3⟩:=dropZ (digs x x) (allDig_digs x x)
  rw [dec_digs,Nat.mod_eq_of_lt hlt] at h2
  generalize (digs x x).dropWhile (· == 48) = D at h1 h2 h3
  have hb:byt ⟨(D.map fun d=>UInt8.ofNat d).toArray⟩ = D:=by
   unfold byt
   simp only [List.map_map]
   have:∀ d ∈ D,((fun x:UInt8=>x.toNat) ∘ fun d=>UInt8.ofNat d) d = d:=by
    intro d hd
    have:=List.all_eq_true.1 h1 d hd
    simp only [isDig,Bool.and_eq_true,decide_eq_true_eq] at this
    simp only [Function.comp,UInt8.toNat_ofNat']
    omega
   rw [List.map_congr_left this,List.map_id']
  refine ⟨⟨(D.map fun d=>UInt8.ofNat d).toArray⟩,?_,?_,?_,?_⟩
  ·rw [hb]; exact h1
  ·rw [hb]; exact h2
  ·rw [← byt_length,hb]
   rcases Nat.eq_zero_or_pos D.length with h0 | h0
   ·rw [List.length_eq_zero_iff.1 h0] at h2
    rw [← h2] at hx
    exact absurd hx (by decide)
   ·exact h0
  ·rw [hb]
   intro h0
   refine absurd h0 (h3 ?_)
   rintro rfl
   rw [← h2] at hx
   exact absurd hx (by decide)
noncomputable def txt (x:Nat):ByteArray:=Classical.choose (text_ex x)
theorem txt_is (x:Nat):IsText (txt x) x:=Classical.choose_spec (text_ex x)
theorem txt_eq {s:ByteArray} {x:Nat} (h:IsText s x):s = txt x:=h.unique (txt_is x)
theorem txt_size {x k:Nat} (h:sz x ≤ k):(txt x).size ≤ 20 * k + 1:=by
 have h1:x < 10 ^ (20 * k + 1):=by
  refine Nat.lt_of_lt_of_le (lt_sz x) (Nat.le_trans (Nat.pow_le_pow_right (by omega) h) (Nat.le_trans (Go.Proofs.YtcpgflbfjplheaaGreatDoor.pow_ten_k rfl) (Nat.pow_le_pow_right (by omega) (by omega))))
 exact (txt_is x).size_le h1 (by omega)
end Gv
namespace Go.Proofs.YtcpgflbfjplheaaGreatDoor
open Go.RowKit Gs Gv
set_option linter.unusedVariables false
theorem n_Text {p:PV} {x k:Nat} (h:IsN p x k) (hk:k ≤ 50000):Gv.Fn Tryz.prog 129 [p] (.raw (.string (txt x))):=by
 refine Fn.of ⟨_,Tryz.func129,rfl,by kernel_rfl⟩ fun w P0 vs hl hr=>?_
 obtain ⟨a,rfl⟩:=one_list hl
 obtain ⟨A,n,c,l,rfl,h1,h2,h3⟩:=h.val (hr 0 _ _ rfl rfl)
 have hx:val 18446744073709551616 l < 10 ^ (20 * k):=by
  rw [h2]
  exact Nat.lt_of_lt_of_le (lt_sz x) (Nat.le_trans (Nat.pow_le_pow_right (by omega) h.sz) (pow_ten_k rfl))
 refine (nat_Text h1 (by omega) hx (by omega)).mono ?_
 rintro e w' ⟨s,rfl,hs,hb⟩
 rw [h2] at hs
 rw [txt_eq hs]
 exact ⟨_,rfl,.raw _,hb⟩
end Go.Proofs.YtcpgflbfjplheaaGreatDoor
namespace Gv
open Go Go.RowKit Gs
set_option linter.unusedVariables false
noncomputable def ztxt (z:Int):ByteArray:=if z < 0 then (⟨#[45]⟩:ByteArray) ++ txt z.natAbs else txt z.natAbs
theorem ztxt_neg {z:Int} (h:z < 0):ztxt z = (⟨#[45]⟩:ByteArray) ++ txt z.natAbs:=if_pos h
theorem ztxt_pos {z:Int} (h:¬ z < 0):ztxt z = txt z.natAbs:=if_neg h
theorem rowP_len (k:IntKind) (l:List Nat):Prim.ev .len [rowP k l] = some (.raw (.int .i64 (l.length:Nat))):=by
 unfold rowP
 simp [Prim.ev]
theorem nat_len (x:Nat):Prim.ev .len [nat x] = some (.raw (.int .i64 (sz x:Nat))):=rowP_len _ _
theorem sz_eq0 {x:Nat}:sz x = 0 ↔ x = 0:=limbs_len_zero B64 x
end Gv
namespace Go.Proofs.YtcpgflbfjplheaaGreatDoor
open Go.RowKit Gs Gv
set_option linter.unusedVariables false
theorem z_below (z:Int):Gv.Fn Tryz.prog 141 [zc z] (.raw (.bool (decide (z < 0)))):=Fn.intro mixed vc_zed_number_below rfl (ok_ret rfl rfl)
theorem z_nought (z:Int):Gv.Fn Tryz.prog 142 [zc z] (.raw (.bool (decide (z = 0)))):=by
 refine Fn.intro mixed vc_zed_number_nought rfl (ok_prim (nat_len z.natAbs) (ok_prim rfl (ok_ret ?_ rfl)))
 show PV.raw (.bool (((sz z.natAbs:Nat):Int) == 0)) = _
 congr 2
 have:=@sz_eq0 z.natAbs
 rw [Bool.eq_iff_iff,decide_eq_true_iff,beq_iff_eq]
 omega
theorem z_Sign {p:PV} {z:Int} {k:Nat} (h:IsZ p z k) (hk:k ≤ 1000000):Gv.Fn Tryz.prog 75 [p] (.raw (.int .i64 z.sign)):=by
 have h0:=h
 obtain ⟨s,l,rfl,h1,h2,h3⟩:=h
 refine Fn.intro mixed vc_zed_Sign rfl ?_
 refine ok_call (z_good h0 hk) rfl rfl (ok_call (z_below z) rfl rfl (ok_ite rfl (fun hs=>?_) (fun hs=>?_)))
 ·refine ok_ret ?_ rfl
  have:z < 0:=by simpa using hs
  rw [Int.sign_eq_neg_one_of_neg this]
  rfl
 ·refine ok_call (z_nought z) rfl rfl (ok_ite rfl (fun hn=>?_) (fun hn=>?_))
  ·refine ok_ret ?_ rfl
   have:z = 0:=by simpa using hn
   rw [this]
   rfl
  ·refine ok_ret ?_ rfl
   have h5:¬ z < 0:=by simpa using hs
   have h6:¬ z = 0:=by simpa using hn
   rw [Int.sign_eq_one_of_pos (by omega)]
   rfl
theorem z_Cmp {p q:PV} {x y:Int} {k k':Nat} (h:IsZ p x k) (h':IsZ q y k') (hk:k ≤ 400000) (hk':k' ≤ 400000):Gv.Fn Tryz.prog 69 [p,q] (.raw (.int .i64 (x - y).sign)):=by
 have h0:=h
 have h0':=h'
 have hb:=zs_sub h.zs h'.zs
 obtain ⟨s,l,rfl,h1,h2,h3⟩:=h
 obtain ⟨s',l',rfl,h1',h2',h3'⟩:=h'
 exact Fn.intro mixed vc_zed_Cmp rfl (ok_call (z_Sub h0 h0' hk hk') rfl rfl (ok_call (z_Sign (IsZ.zc hb) (by omega)) rfl rfl (ok_ret rfl rfl)))
theorem z_Text {p:PV} {z:Int} {k:Nat} (h:IsZ p z k) (hk:k ≤ 50000):Gv.Fn Tryz.prog 126 [p] (.raw (.string (ztxt z))):=by
 have h0:=h
 obtain ⟨s,l,rfl,h1,h2,h3⟩:=h
 have ha:val 18446744073709551616 l = z.natAbs:=by rw [← h2,sg_abs]
 have hn:IsN (u64s l) z.natAbs k:=⟨l,rfl,h1,ha,h3⟩
 refine Fn.intro mixed vc_zed_Text rfl ?_
 refine ok_call (z_Sign h0 (by omega)) rfl rfl (ok_prim rfl (ok_ite rfl (fun hs=>?_) (fun hs=>?_)))
 ·have hz:z < 0:=by
   have:z.sign < 0:=by simpa using hs
   exact Int.sign_neg_iff.1 this
  refine ok_call (n_Text hn hk) rfl rfl (ok_prim (r:=.raw (.string (ztxt z))) ?_ (ok_ret rfl rfl))
  have hsz:=txt_size (show sz z.natAbs ≤ k from h0.zs)
  rw [ztxt_neg hz]
  have e:(⟨#[45]⟩:ByteArray).size + (txt z.natAbs).size ≤ 9223372036854775807:=by
   have:(⟨#[45]⟩:ByteArray).size = 1:=rfl
   omega
  show ((if (⟨#[45]⟩:ByteArray).size + (txt z.natAbs).size ≤ 9223372036854775807 then some (Value.string ((⟨#[45]⟩:ByteArray) ++ txt z.natAbs)) else none).map PV.raw) = _
  rw [if_pos e]
  rfl
 ·have hz:¬ z < 0:=fun hz=>by
   have:¬ z.sign < 0:=by simpa using hs
   exact this (Int.sign_neg_iff.2 hz)
  refine ok_call (n_Text hn hk) rfl rfl (ok_ret ?_ rfl)
  rw [ztxt_pos hz]
  rfl
end Go.Proofs.YtcpgflbfjplheaaGreatDoor
namespace Gv
open Go Go.RowKit Gs
set_option linter.unusedVariables false
end Gv
namespace Go.Proofs.YtcpgflbfjplheaaGreatDoor
open Go.RowKit Gs Gv
set_option linter.unusedVariables false
end Go.Proofs.YtcpgflbfjplheaaGreatDoor
namespace Gv
open Go Go.RowKit Gs
set_option linter.unusedVariables false
def zf (z:Int):PV:=.agg [.raw (.bool (decide (z < 0))),r32 z.natAbs]
theorem zf_sg {s:Bool} {x:Nat}:zf (sg s x) = .agg [.raw (.bool (s && decide (0 < x))),r32 x]:=by unfold zf; rw [sg_lt,sg_abs]
theorem r32_len0 {x:Nat}:decide (((limbs 4294967296 x).length:Int) > 0) = decide (0 < x):=by
 rw [Bool.eq_iff_iff,decide_eq_true_iff,decide_eq_true_iff]
 have:=limbs_len_zero B32 x
 omega
theorem r32_len1 {x:Nat}:(((limbs 4294967296 x).length:Int) == 0) = decide (x = 0):=by
 rw [Bool.eq_iff_iff,beq_iff_eq,decide_eq_true_iff]
 have:=limbs_len_zero B32 x
 omega
end Gv
namespace Go.Proofs.YtcpgflbfjplheaaGreatDoor
open Go.RowKit Gs Gv
set_option linter.unusedVariables false
theorem f_made {s:Bool} {x:Nat}:Gv.Fn Tryz.prog 150 [.raw (.bool s),r32 x] (zf (sg s x)):=by
 refine Fn.intro mixed vc_ref02_made rfl (ok_ite rfl ?_ ?_)
 ·rintro rfl
  refine ok_prim (rowP_len _ _) (ok_prim rfl (ok_ret rfl ?_))
  rw [zf_sg,← r32_len0]
  rfl
 ·rintro rfl
  refine ok_ret rfl ?_
  rw [zf_sg]
  rfl
theorem f_In {p:PV} {z:Int} {k:Nat} (h:IsZ p z k) (hk:k ≤ 1000000):Gv.Fn Tryz.prog 88 [p] (zf z):=by
 obtain ⟨s,l,rfl,h1,h2,h3⟩:=h
 refine Fn.intro mixed vc_ref02_In rfl (ok_call (r_In ⟨l,rfl,h1,rfl,h3⟩ hk) rfl rfl (ok_call f_made rfl rfl (ok_ret rfl ?_)))
 rw [h2]
 rfl
theorem f_Out {z:Int} (hk:zs z ≤ 400000):Gv.Fn Tryz.prog 154 [zf z] (zc z) :=
 Fn.intro mixed vc_ref02_Out rfl (ok_call (r_Out hk) rfl rfl (ok_ret rfl rfl))
theorem f_Of {v:Int} (h1:-9223372036854775808 ≤ v) (h2:v ≤ 9223372036854775807):Gv.Fn Tryz.prog 174 [.raw (.int .i64 v)] (zf v):=by
 refine Fn.intro mixed vc_ref02_Of rfl (ok_prim rfl (ok_ite rfl (fun hs=>?_) (fun hs=>?_)))
 ·have hv:v < 0:=by simpa using hs
  refine ok_prim rfl (ok_prim rfl (ok_prim rfl (ok_prim rfl ?_)))
  have e:IntKind.u64.wrap (IntKind.u64.wrap (IntKind.i64.wrap (0 - IntKind.i64.wrap (v + 1))) + 1) = ((v.natAbs:Nat):Int):=by
   rw [IntWalk.i64_in (v + 1) (by omega),IntWalk.i64_in _ (by omega),IntKind.wrap_u64,IntKind.wrap_u64]
   omega
  refine ok_call (ps:=[.raw (.int .u64 ((v.natAbs:Nat):Int))]) (r_Of v.natAbs (by omega)) (by rw [← e]; rfl) rfl ?_
  refine ok_call f_made rfl rfl (ok_ret rfl ?_)
  rw [sg_true,show -(v.natAbs:Int) = v by omega]
  rfl
 ·have hv:0 ≤ v:=by simpa using hs
  refine ok_prim rfl ?_
  have e:IntKind.u64.wrap v = ((v.natAbs:Nat):Int):=by
   rw [IntKind.wrap_u64]
   omega
  refine ok_call (ps:=[.raw (.int .u64 ((v.natAbs:Nat):Int))]) (r_Of v.natAbs (by omega)) (by rw [← e]; rfl) rfl ?_
  refine ok_call f_made rfl rfl (ok_ret rfl ?_)
  rw [sg_false,show (v.natAbs:Int) = v by omega]
  rfl
theorem f_Sign (z:Int):Gv.Fn Tryz.prog 176 [zf z] (.raw (.int .i64 z.sign)):=by
 refine Fn.intro mixed vc_ref02_Int_Sign rfl (ok_prim (rowP_len _ _) (ok_prim rfl (ok_ite (t:=decide (z.natAbs = 0)) (by rw [← r32_len1]; rfl) (fun hs=>?_) (fun hs=>?_))))
 ·have:z = 0:=by
   have:z.natAbs = 0:=by simpa using hs
   omega
  rw [this]
  exact ok_ret rfl rfl
 ·have h0:z ≠ 0:=by
   have:¬ z.natAbs = 0:=by simpa using hs
   omega
  refine ok_ite rfl (fun hn=>?_) (fun hn=>?_)
  ·have:z < 0:=by simpa using hn
   rw [Int.sign_eq_neg_one_of_neg this]
   exact ok_ret rfl rfl
  ·have:¬ z < 0:=by simpa using hn
   rw [Int.sign_eq_one_of_pos (by omega)]
   exact ok_ret rfl rfl
theorem f_Minus (z:Int):Gv.Fn Tryz.prog 203 [zf z] (zf (-z)):=by
 refine Fn.intro mixed vc_ref02_Int_Minus rfl (ok_prim rfl (ok_call f_made rfl rfl (ok_ret rfl ?_)))
 rw [sg_not,sg_of]
 rfl
theorem f_Add {x y:Int} (hx:zs x ≤ 200000) (hy:zs y ≤ 200000):Gv.Fn Tryz.prog 173 [zf x,zf y] (zf (x + y)):=by
 have hx':sz x.natAbs ≤ 200000:=hx
 have hy':sz y.natAbs ≤ 200000:=hy
 refine Fn.intro mixed vc_ref02_Add rfl (ok_prim rfl (ok_ite rfl (fun hs=>?_) (fun hs=>?_)))
 ·refine ok_call (r_Add (by omega) (by omega)) rfl rfl (ok_call f_made rfl rfl (ok_ret rfl ?_))
  have e:decide (x < 0) = decide (y < 0):=by simpa using hs
  rw [sg_add,sg_of,e,sg_of]
  rfl
 ·have e:decide (x < 0) ≠ decide (y < 0):=by simpa using hs
  refine ok_call (r_Cmp (by omega) (by omega)) rfl rfl (ok_prim rfl (ok_ite rfl (fun hc=>?_) (fun hc=>?_)))
  ·have hle:y.natAbs ≤ x.natAbs:=by
    have:cmpI (x.natAbs:Nat) (y.natAbs:Nat) ≥ 0:=by simpa using hc
    unfold cmpI at this
    split at this
    ·omega
    ·omega
   refine ok_call (r_Sub (by omega) hle) rfl rfl (ok_call f_made rfl rfl (ok_ret rfl ?_))
   rw [sg_sub _ _ _ _ e hle,sg_of,sg_of]
   rfl
  ·have hlt:x.natAbs < y.natAbs:=by
    have:¬ cmpI (x.natAbs:Nat) (y.natAbs:Nat) ≥ 0:=by simpa using hc
    unfold cmpI at this
    split at this
    ·omega
    ·split at this <;> omega
   refine ok_call (r_Sub (by omega) (by omega)) rfl rfl (ok_call f_made rfl rfl (ok_ret rfl ?_))
   rw [sg_sub' _ _ _ _ e (by omega),sg_of,sg_of]
   rfl
theorem f_Sub {x y:Int} (hx:zs x ≤ 200000) (hy:zs y ≤ 200000):Gv.Fn Tryz.prog 177 [zf x,zf y] (zf (x - y)):=by
 refine Fn.intro mixed vc_ref02_Sub rfl (ok_call (f_Minus y) rfl rfl (ok_call (f_Add hx (zs_neg hy)) rfl rfl (ok_ret rfl ?_)))
 rw [Int.sub_eq_add_neg]
 rfl
theorem f_Cmp {x y:Int} (hx:zs x ≤ 200000) (hy:zs y ≤ 200000):Gv.Fn Tryz.prog 121 [zf x,zf y] (.raw (.int .i64 (x - y).sign)) :=
 Fn.intro mixed vc_ref02_Cmp rfl (ok_call (f_Sub hx hy) rfl rfl (ok_call (f_Sign _) rfl rfl (ok_ret rfl rfl)))
theorem f_Mul {x y:Int} (hx:zs x ≤ 200000) (hy:zs y ≤ 200000):Gv.Fn Tryz.prog 122 [zf x,zf y] (zf (x * y)):=by
 have hx':sz x.natAbs ≤ 200000:=hx
 have hy':sz y.natAbs ≤ 200000:=hy
 refine Fn.intro mixed vc_ref02_Mul rfl (ok_prim rfl (ok_call (r_Mul (by omega) (by omega)) rfl rfl (ok_call f_made rfl rfl (ok_ret rfl ?_))))
 rw [sg_mul,sg_of,sg_of]
 rfl
theorem k_Ints {s t:Bool} {l m:List Nat} (h:Lt 18446744073709551616 l) (h':Lt 18446744073709551616 m):Gv.Fn Tryz.prog 151 [.agg [.raw (.bool s),u64s l],.agg [.raw (.bool t),u64s m]] (.raw (.bool (s == t && decide (l = m)))):=by
 refine Fn.intro mixed vc_keep_Ints rfl (ok_prim rfl (ok_ite rfl (fun hs=>?_) (fun hs=>?_)))
 ·rw [hs,Bool.true_and]
  exact ok_call (k_Nats h h') rfl rfl (ok_ret rfl rfl)
 ·rw [hs,Bool.false_and]
  exact ok_ret rfl rfl
end Go.Proofs.YtcpgflbfjplheaaGreatDoor
namespace Gv
open Go Go.RowKit Gs
set_option linter.unusedVariables false
section
variable {P:Program} {R:PV → Prop} {ρ:List PV} {C:List (List PV → Prop)} {k:VC} {args:List SV} {kk:IntKind} {a b:Int}
theorem ok_true {c:SV} {x y:VC} (h:pv ρ c = .raw (.bool true)) (h1:x.ok P R ρ C):(VC.ite c x y).ok P R ρ C:=⟨true,h,fun _=>h1,fun h=>by cases h⟩
theorem ok_false {c:SV} {x y:VC} (h:pv ρ c = .raw (.bool false)) (h1:y.ok P R ρ C):(VC.ite c x y).ok P R ρ C:=ok_ite h (fun h=>Bool.noConfusion h) fun _=>h1
theorem ok_eq (hp:pvs ρ args = [.raw (.int kk a),.raw (.int kk b)]) (t:Bool) (h:(a == b) = t) (hk:k.ok P R (ρ ++ [.raw (.bool t)]) C):(VC.prim (.op2 .eql false) args k).ok P R ρ C:=by
 refine ⟨_,?_,hk⟩
 rw [hp,← h]
 show ((if kk = kk then some (Value.bool (a == b)) else none).map PV.raw) = _
 rw [if_pos rfl]
 rfl
theorem ok_neq (hp:pvs ρ args = [.raw (.int kk a),.raw (.int kk b)]) (t:Bool) (h:(a != b) = t) (hk:k.ok P R (ρ ++ [.raw (.bool t)]) C):(VC.prim (.op2 .neq false) args k).ok P R ρ C:=by
 refine ⟨_,?_,hk⟩
 rw [hp,← h]
 show ((if kk = kk then some (Value.bool (a != b)) else none).map PV.raw) = _
 rw [if_pos rfl]
 rfl
theorem ok_gtr (hp:pvs ρ args = [.raw (.int kk a),.raw (.int kk b)]) (t:Bool) (h:decide (a > b) = t) (hk:k.ok P R (ρ ++ [.raw (.bool t)]) C):(VC.prim (.op2 .gtr false) args k).ok P R ρ C:=by
 refine ⟨_,?_,hk⟩
 rw [hp,← h]
 show ((if kk = kk then some (Value.bool (decide (a > b))) else none).map PV.raw) = _
 rw [if_pos rfl]
 rfl
theorem ok_seq {a b:ByteArray} (hp:pvs ρ args = [.raw (.string a),.raw (.string b)]) (h:a = b) (hk:k.ok P R (ρ ++ [.raw (.bool true)]) C):(VC.prim (.op2 .eql false) args k).ok P R ρ C:=by
 refine ⟨_,?_,hk⟩
 rw [hp,h]
 show some (PV.raw (.bool (b.toList == b.toList))) = _
 rw [beq_self_eq_true]
theorem ok_callR {f:FuncId} {args:List SV} {sh:RSh} {ps:List PV} {r r':PV} (h:Fn P f ps r) (e:r = r') (hp:pvs ρ args = ps) (hf:fitsR sh r' = true) (hk:k.ok P R (ρ ++ [r']) C):(VC.call f args sh k).ok P R ρ C:=by subst e; exact ⟨r,by rw [hp]; exact h,hf,hk⟩
end
theorem zs_small {v:Int} (h:v.natAbs < 18446744073709551616):zs v ≤ 1:=sz_small h
theorem IsZ.s {v:Int} (h:v.natAbs < 18446744073709551616):IsZ (Gv.zc v) v 1:=IsZ.zc (zs_small h)
end Gv
namespace Gv
open Go Go.RowKit Gs
set_option linter.unusedVariables false
section
variable {P:Program} {R:PV → Prop} {ρ:List PV} {C:List (List PV → Prop)} {k:VC} {args:List SV} {kk:IntKind} {a b:Int}
theorem ok_leq (hp:pvs ρ args = [.raw (.int kk a),.raw (.int kk b)]) (t:Bool) (h:decide (a ≤ b) = t) (hk:k.ok P R (ρ ++ [.raw (.bool t)]) C):(VC.prim (.op2 .leq false) args k).ok P R ρ C:=by
 refine ⟨_,?_,hk⟩
 rw [hp,← h]
 show ((if kk = kk then some (Value.bool (decide (a ≤ b))) else none).map PV.raw) = _
 rw [if_pos rfl]
 rfl
theorem ok_geq (hp:pvs ρ args = [.raw (.int kk a),.raw (.int kk b)]) (t:Bool) (h:decide (a ≥ b) = t) (hk:k.ok P R (ρ ++ [.raw (.bool t)]) C):(VC.prim (.op2 .geq false) args k).ok P R ρ C:=by
 refine ⟨_,?_,hk⟩
 rw [hp,← h]
 show ((if kk = kk then some (Value.bool (decide (a ≥ b))) else none).map PV.raw) = _
 rw [if_pos rfl]
 rfl
theorem ok_lss (hp:pvs ρ args = [.raw (.int kk a),.raw (.int kk b)]) (t:Bool) (h:decide (a < b) = t) (hk:k.ok P R (ρ ++ [.raw (.bool t)]) C):(VC.prim (.op2 .lss false) args k).ok P R ρ C:=by
 refine ⟨_,?_,hk⟩
 rw [hp,← h]
 show ((if kk = kk then some (Value.bool (decide (a < b))) else none).map PV.raw) = _
 rw [if_pos rfl]
 rfl
theorem ok_mul (hp:pvs ρ args = [.raw (.int kk a),.raw (.int kk b)]) (c:Int) (h:kk.wrap (a * b) = c) (hk:k.ok P R (ρ ++ [.raw (.int kk c)]) C):(VC.prim (.op2 .mul false) args k).ok P R ρ C:=by
 refine ⟨_,?_,hk⟩
 rw [hp,← h]
 show ((if kk = kk then some (Value.int kk (kk.wrap (a * b))) else none).map PV.raw) = _
 rw [if_pos rfl]
 rfl
theorem ok_add (hp:pvs ρ args = [.raw (.int kk a),.raw (.int kk b)]) (c:Int) (h:kk.wrap (a + b) = c) (hk:k.ok P R (ρ ++ [.raw (.int kk c)]) C):(VC.prim (.op2 .add false) args k).ok P R ρ C:=by
 refine ⟨_,?_,hk⟩
 rw [hp,← h]
 show ((if kk = kk then some (Value.int kk (kk.wrap (a + b))) else none).map PV.raw) = _
 rw [if_pos rfl]
 rfl
theorem ok_sub (hp:pvs ρ args = [.raw (.int kk a),.raw (.int kk b)]) (c:Int) (h:kk.wrap (a - b) = c) (hk:k.ok P R (ρ ++ [.raw (.int kk c)]) C):(VC.prim (.op2 .sub false) args k).ok P R ρ C:=by
 refine ⟨_,?_,hk⟩
 rw [hp,← h]
 show ((if kk = kk then some (Value.int kk (kk.wrap (a - b))) else none).map PV.raw) = _
 rw [if_pos rfl]
 rfl
end
theorem sign_mem (z:Int):z.sign = -1 ∨ z.sign = 0 ∨ z.sign = 1:=by
 rcases Int.lt_trichotomy z 0 with h | h | h
 ·exact .inl (Int.sign_eq_neg_one_of_neg h)
 ·subst h; exact .inr (.inl rfl)
 ·exact .inr (.inr (Int.sign_eq_one_of_pos h))
theorem sign_wrap (x y:Int):IntKind.i64.wrap (x.sign * y.sign) = x.sign * y.sign:=by
 rcases sign_mem x with h | h | h <;> rcases sign_mem y with h' | h' | h' <;> rw [h,h'] <;> decide
end Gv
namespace Gv
open Go Go.RowKit Gs
set_option linter.unusedVariables false
end Gv
namespace Gv
open Go Go.RowKit Gs
set_option linter.unusedVariables false
theorem ok_not {P:Program} {R:PV → Prop} {ρ:List PV} {C:List (List PV → Prop)} {k:VC} {args:List SV} {a:Bool} (hp:pvs ρ args = [.raw (.bool a)]) (hk:k.ok P R (ρ ++ [.raw (.bool (!a))]) C):(VC.prim (.op1 .not) args k).ok P R ρ C:=by
 refine ⟨_,?_,hk⟩
 rw [hp]
 rfl
end Gv
namespace Gv
open Go Go.RowKit Gs
set_option linter.unusedVariables false
section
variable {P:Program} {R:PV → Prop} {ρ:List PV} {C:List (List PV → Prop)} {k:VC} {args:List SV} {kk:IntKind} {a b:Int}
theorem ok_cv {k2:IntKind} (hp:pvs ρ args = [.raw (.int kk a)]) (c:Int) (h:k2.wrap a = c) (hk:k.ok P R (ρ ++ [.raw (.int k2 c)]) C):(VC.prim (.cv k2) args k).ok P R ρ C:=by
 refine ⟨_,?_,hk⟩
 rw [hp,← h]
 rfl
theorem ok_rem (hp:pvs ρ args = [.raw (.int kk a),.raw (.int kk b)]) (hb:b ≠ 0) (c:Int) (h:a.tmod b = c) (hk:k.ok P R (ρ ++ [.raw (.int kk c)]) C):(VC.prim (.op2 .rem false) args k).ok P R ρ C:=by
 refine ⟨_,?_,hk⟩
 rw [hp,← h]
 show ((if kk = kk then (if b = 0 then none else some (Value.int kk (a.tmod b))) else none).map PV.raw) = _
 rw [if_pos rfl,if_neg hb]
 rfl
end
end Gv
namespace Go.Proofs.YtcpgflbfjplheaaGreatDoor
open Go.RowKit Gs Gv
set_option linter.unusedVariables false
end Go.Proofs.YtcpgflbfjplheaaGreatDoor
