import Derived.Test.YtcpgflbfjplheaaGreatDoorFA
import Derived.Test.YtcpgflbfjplheaaGreatDoorVA
import Derived.Test.YtcpgflbfjplheaaGreatDoorTfy
import Derived.Laws.EntriesVeiled
import Derived.Test.YtcpgflbfjplheaaGreatDoorShy
namespace Gv
open Go Go.RowKit Gs
set_option linter.unusedVariables false
theorem sg_div (s:Bool) {x g:Nat} (hg:g ∣ x):sg s (x / g) = sg s x / (g:Int):=by
 cases s
 ·show ((x / g:Nat):Int) = (x:Int) / (g:Int)
  exact Int.natCast_ediv x g
 ·show -((x / g:Nat):Int) = (-(x:Int)) / (g:Int)
  rw [Int.neg_ediv_of_dvd (Int.natCast_dvd_natCast.2 hg),Int.natCast_ediv]
def qv (n:Int) (d:Nat):Rat:=if d = 0 then (n:Rat) else mkRat n d
theorem mk_num {z:Int} {d:Nat} (hd:d ≠ 0):(mkRat z d).num = z / ((Nat.gcd z.natAbs d:Nat):Int):=by
 rw [Rat.num_mkRat,if_neg hd,Nat.gcd_comm]
theorem mk_den {z:Int} {d:Nat} (hd:d ≠ 0):(mkRat z d).den = d / Nat.gcd z.natAbs d:=by
 rw [Rat.den_mkRat,if_neg hd,Nat.gcd_comm]
theorem mk_self (q:Rat):mkRat q.num q.den = q:=Rat.mkRat_self q
theorem add_mk (a b:Rat):a + b = mkRat (a.num * b.den + b.num * a.den) (a.den * b.den):=by
 conv=>lhs; rw [← mk_self a,← mk_self b]
 exact Rat.mkRat_add_mkRat _ _ a.den_nz b.den_nz
theorem mul_mk (a b:Rat):a * b = mkRat (a.num * b.num) (a.den * b.den):=by
 conv=>lhs; rw [← mk_self a,← mk_self b]
 exact Rat.mkRat_mul_mkRat _ _ _ _
theorem sz_add1 {x y k:Nat} (h:sz x ≤ k) (h':sz y ≤ k):sz (x + y) ≤ k + 1:=by
 refine sz_le ?_
 have h1:x < 18446744073709551616 ^ k:=Nat.lt_of_lt_of_le (lt_sz x) (Nat.pow_le_pow_right (by omega) h)
 have h2:y < 18446744073709551616 ^ k:=Nat.lt_of_lt_of_le (lt_sz y) (Nat.pow_le_pow_right (by omega) h')
 rw [Nat.pow_succ]
 generalize (18446744073709551616:Nat) ^ k = m at *
 omega
theorem zs_add1 {x y:Int} {k:Nat} (h:zs x ≤ k) (h':zs y ≤ k):zs (x + y) ≤ k + 1 :=
 Nat.le_trans (sz_mono (by omega:(x + y).natAbs ≤ x.natAbs + y.natAbs)) (sz_add1 h h')
structure Qb (q:Rat) (k:Nat):Prop where
 n:zs q.num ≤ k
 d:sz q.den ≤ k
theorem div_abs_le (z:Int) (g:Nat):(z / (g:Int)).natAbs ≤ z.natAbs:=by
 have:=Int.natAbs_ediv_le_natAbs z (g:Int)
 exact this
theorem Qb.mk' {z:Int} {d k:Nat} (hd:d ≠ 0) (h1:zs z ≤ k) (h2:sz d ≤ k):Qb (mkRat z d) k:=by
 refine ⟨?_,?_⟩
 ·rw [mk_num hd]
  exact Nat.le_trans (sz_mono (div_abs_le _ _)) h1
 ·rw [mk_den hd]
  exact Nat.le_trans (sz_mono (Nat.div_le_self _ _)) h2
theorem Qb.more {q:Rat} {k k':Nat} (h:Qb q k) (hk:k ≤ k'):Qb q k':=⟨Nat.le_trans h.n hk,Nat.le_trans h.d hk⟩
theorem den_mul_nz (a b:Rat):a.den * b.den ≠ 0:=Nat.mul_ne_zero a.den_nz b.den_nz
theorem Qb.pos {q:Rat} {k:Nat} (h:Qb q k):1 ≤ k:=by
 have:=h.d
 have h2:=@sz_eq0 q.den
 have:=q.den_nz
 omega
theorem zs_nat {x k:Nat} (h:sz x ≤ k):zs (x:Int) ≤ k:=h
theorem Qb.add {x y:Rat} {a b:Nat} (h:Qb x a) (h':Qb y b):Qb (x + y) (a + b + 1):=by
 rw [add_mk]
 refine .mk' (den_mul_nz x y) (zs_add1 (zs_mul h.n (zs_nat h'.d)) ?_) (Nat.le_succ_of_le (sz_mul h.d h'.d))
 exact Nat.le_trans (zs_mul h'.n (zs_nat h.d)) (by omega)
theorem Qb.mul {x y:Rat} {a b:Nat} (h:Qb x a) (h':Qb y b):Qb (x * y) (a + b):=by
 rw [mul_mk]
 exact .mk' (den_mul_nz x y) (zs_mul h.n h'.n) (sz_mul h.d h'.d)
theorem Qb.neg {x:Rat} {a:Nat} (h:Qb x a):Qb (-x) a:=⟨by show zs (-x.num) ≤ a; unfold zs; rw [Int.natAbs_neg]; exact h.n,h.d⟩
theorem Qb.sub {x y:Rat} {a b:Nat} (h:Qb x a) (h':Qb y b):Qb (x - y) (a + b + 1):=by
 rw [Rat.sub_eq_add_neg]; exact h.add h'.neg
theorem Qb.int {z:Int} {k:Nat} (h:zs z ≤ k) (hk:1 ≤ k):Qb (z:Rat) k:=⟨h,Nat.le_trans (by show sz 1 ≤ 1; exact sz_le (by decide)) hk⟩
theorem zs_s {v:Int} (h:v.natAbs < 18446744073709551616):zs v ≤ 1:=sz_le (by simpa using h)
def qd (z w:Int):Rat:=if w = 0 then (z:Rat) else mkRat (if w < 0 then -z else z) w.natAbs
theorem qd_div {z w:Int} (h:w ≠ 0):qd z w = (z:Rat) / (w:Rat):=by
 unfold qd
 rw [if_neg h,Rat.mkRat_eq_div]
 rcases Int.lt_trichotomy w 0 with h1 | h1 | h1
 ·rw [if_pos h1]
  have e:((w.natAbs:Nat):Rat) = -(w:Rat):=by
   have:((w.natAbs:Nat):Int) = -w:=by omega
   have h3:(((w.natAbs:Nat):Int):Rat) = ((-w:Int):Rat):=by rw [this]
   rw [Rat.intCast_neg] at h3
   exact h3
  rw [e,Rat.intCast_neg]
  have:(w:Rat) ≠ 0:=by simpa using h
  grind
 ·omega
 ·rw [if_neg (by omega)]
  have e:((w.natAbs:Nat):Rat) = (w:Rat):=by
   have:((w.natAbs:Nat):Int) = w:=by omega
   have h3:(((w.natAbs:Nat):Int):Rat) = (w:Rat):=by rw [this]
   exact h3
  rw [e]
theorem Qb.qd {z w:Int} {k:Nat} (h:zs z ≤ k) (h':zs w ≤ k) (hk:1 ≤ k):Qb (qd z w) k:=by
 unfold Gv.qd
 split
 ·exact .int h hk
 ·refine .mk' (by omega) ?_ h'
  split
  ·unfold zs; rw [Int.natAbs_neg]; exact h
  ·exact h
theorem self_div (q:Rat):(q.num:Rat) / ((q.den:Int):Rat) = q:=by
 have:=mk_self q
 rw [Rat.mkRat_eq_div] at this
 exact this
theorem div_qd {a b:Rat} (h:b ≠ 0):qd (a.num * b.den) (b.num * a.den) = a / b:=by
 have h1:b.num ≠ 0:=by simpa using h
 have h2:(a.den:Int) ≠ 0:=by have:=a.den_nz; omega
 rw [qd_div (Int.mul_ne_zero h1 h2)]
 have ea:=self_div a
 have eb:=self_div b
 have h3:((a.den:Int):Rat) ≠ 0:=by simpa using h2
 have h4:((b.den:Int):Rat) ≠ 0:=by have:=b.den_nz; simpa using this
 have h5:(b.num:Rat) ≠ 0:=by simpa using h1
 rw [Rat.intCast_mul,Rat.intCast_mul]
 conv=>rhs; rw [← ea,← eb]
 grind
theorem Qb.div {x y:Rat} {a b:Nat} (h:Qb x a) (h':Qb y b) (hy:y ≠ 0):Qb (x / y) (a + b):=by
 rw [← div_qd hy]
 have:=h.pos
 exact .qd (zs_mul h.n (zs_nat h'.d)) (Nat.le_trans (zs_mul h'.n (zs_nat h.d)) (by omega)) (by omega)
theorem num_neg_iff (q:Rat):q.num < 0 ↔ q < 0:=by
 rw [Rat.lt_iff]
 show _ ↔ q.num * ((1:Nat):Int) < 0 * (q.den:Int)
 simp
theorem num_zero_iff (q:Rat):q.num = 0 ↔ q = 0:=Rat.num_eq_zero
theorem num_pos_iff (q:Rat):0 < q.num ↔ 0 < q:=by
 rw [Rat.lt_iff]
 show _ ↔ 0 * (q.den:Int) < q.num * ((1:Nat):Int)
 simp
theorem sign_cmp (a b:Rat):(a.num * b.den - b.num * a.den).sign = if a < b then -1 else if a = b then 0 else 1:=by
 by_cases h1:a < b
 ·rw [if_pos h1]
  have:=(Rat.lt_iff a b).1 h1
  exact Int.sign_eq_neg_one_of_neg (by omega)
 ·rw [if_neg h1]
  by_cases h2:a = b
  ·rw [if_pos h2,h2,Int.sub_self]; rfl
  ·rw [if_neg h2]
   have h3:b < a:=by grind
   have:=(Rat.lt_iff b a).1 h3
   exact Int.sign_eq_one_of_pos (by omega)
theorem qv_int (n:Int):qv n 0 = n:=if_pos rfl
theorem qv_mk {n:Int} {d:Nat} (h:d ≠ 0):qv n d = mkRat n d:=if_neg h
def qcmp (a b:Rat):Int:=if a < b then -1 else if a = b then 0 else 1
theorem qcmp_sign (a b:Rat):(a.num * b.den - b.num * a.den).sign = qcmp a b:=sign_cmp a b
def qc (q:Rat):PV:=.agg [.raw (.bool (decide (q.num < 0))),nat q.num.natAbs,nat q.den]
def IsQ (p:PV) (q:Rat) (k:Nat):Prop:=∃ s l m,p = .agg [.raw (.bool s),u64s l,u64s m] ∧ Lt 18446744073709551616 l ∧ Lt 18446744073709551616 m ∧ qv (sg s (val 18446744073709551616 l)) (val 18446744073709551616 m) = q ∧ l.length ≤ k ∧ m.length ≤ k ∧ 1 ≤ k
def qf (q:Rat):PV:=.agg [.raw (.bool (decide (q.num < 0))),r32 q.num.natAbs,r32 q.den]
theorem IsQ.qc {q:Rat} {k:Nat} (h:Qb q k):IsQ (qc q) q k:=by
 refine ⟨_,_,_,rfl,limbs_lt B64 _,limbs_lt B64 _,?_,h.n,h.d,h.pos⟩
 rw [val_limbs B64,val_limbs B64,sg_of,qv_mk q.den_nz,mk_self]
theorem IsQ.b {p:PV} {q:Rat} {k:Nat} (h:IsQ p q k):Qb q k:=by
 obtain ⟨s,l,m,_,h1,h2,rfl,h3,h4,h5⟩:=h
 have e1:zs (sg s (val 18446744073709551616 l)) ≤ k:=by
  unfold zs; rw [sg_abs]
  exact sz_le (Nat.lt_of_lt_of_le (val_lt h1) (Nat.pow_le_pow_right (by omega) h3))
 have e2:sz (val 18446744073709551616 m) ≤ k:=sz_le (Nat.lt_of_lt_of_le (val_lt h2) (Nat.pow_le_pow_right (by omega) h4))
 unfold qv
 split
 ·exact .int e1 h5
 ·exact .mk' (by assumption) e1 e2
end Gv
namespace Gv
open Go Go.RowKit Gs
set_option linter.unusedVariables false
theorem abs_of {s:Bool} {l:List Nat} {z:Int} (h:sg s (val 18446744073709551616 l) = z):val 18446744073709551616 l = z.natAbs:=by rw [← h,sg_abs]
theorem gcd_pos {a d:Nat} (hd:d ≠ 0):Nat.gcd a d ≠ 0:=fun h=>hd (Nat.gcd_eq_zero_iff.1 h).2
theorem zc_gcd {s:Bool} {x:Nat} {z:Int} {d:Nat} (h:sg s x = z):sg s (x / Nat.gcd x d) = z / ((Nat.gcd z.natAbs d:Nat):Int):=by
 rw [sg_div s (Nat.gcd_dvd_left _ _),h,← h,sg_abs]
theorem qc_zc {z:Int} {d:Nat} (hd:d ≠ 0):qc (mkRat z d) = .agg [.raw (.bool (decide (z / ((Nat.gcd z.natAbs d:Nat):Int) < 0))),nat (z / ((Nat.gcd z.natAbs d:Nat):Int)).natAbs,nat (d / Nat.gcd z.natAbs d)]:=by
 unfold qc
 rw [mk_num hd,mk_den hd]
end Gv
namespace Go.Proofs.YtcpgflbfjplheaaGreatDoor
open Go.RowKit Gs Gv
set_option linter.unusedVariables false
theorem q_whole (z:Int):Gv.Fn Tryz.prog 117 [zc z] (qc (z:Rat)) :=
 Fn.intro mixed vc_rat_whole rfl (ok_call (n_Of 1 (by decide)) rfl rfl (ok_ret rfl rfl))
theorem q_made {p q:PV} {z:Int} {d k k':Nat} (h:IsZ p z k) (h':IsN q d k') (hd:d ≠ 0) (hk:k ≤ 400000) (hk':k' ≤ 400000):Gv.Fn Tryz.prog 134 [p,q] (qc (mkRat z d)):=by
 obtain ⟨s,l,rfl,h1,h2,h3⟩:=h
 have hx:=abs_of h2
 have hg:=gcd_pos (a:=val 18446744073709551616 l) hd
 have sx:sz (val 18446744073709551616 l) ≤ k:=(IsN.mk h1 h3).sz
 have sd:sz d ≤ k':=h'.sz
 have sg':sz (Nat.gcd (val 18446744073709551616 l) d) ≤ k':=Nat.le_trans (sz_mono (Nat.gcd_le_right _ (by omega))) sd
 have ig:IsN (nat (Nat.gcd (val 18446744073709551616 l) d)) (Nat.gcd (val 18446744073709551616 l) d) k':=IsN.nat sg'
 have h'':=h'
 obtain ⟨l',rfl,_⟩:=h''
 refine Fn.intro mixed vc_rat_made rfl (ok_call (n_Gcd ⟨l,rfl,h1,rfl,h3⟩ h' (by omega) (by omega)) rfl rfl ?_)
 refine ok_call (n_DivMod ⟨l,rfl,h1,rfl,h3⟩ ig (by omega) (by omega) hg) rfl rfl (ok_call (n_DivMod h' ig (by omega) (by omega) hg) rfl rfl ?_)
 try simp only [List.cons_append,List.nil_append]
 have i1:IsZ (.agg [.raw (.bool s),nat (val 18446744073709551616 l / Nat.gcd (val 18446744073709551616 l) d)]) (z / ((Nat.gcd z.natAbs d:Nat):Int)) k:=by
  refine ⟨s,_,rfl,limbs_lt B64 _,?_,Nat.le_trans (sz_mono (Nat.div_le_self _ _)) sx⟩
  rw [val_limbs B64,zc_gcd h2]
 have i0:IsZ (.agg [.raw (.bool false),.sl []]) 0 0:=⟨false,[],rfl,Lt.nil _,rfl,Nat.le_refl _⟩
 refine ok_call (z_Add i1 i0 hk (by omega)) rfl rfl (ok_ret rfl ?_)
 rw [qc_zc hd,Int.add_zero,← hx]
 rfl
theorem q_good {p:PV} {q:Rat} {k:Nat} (h:IsQ p q k) (hk:k ≤ 200000):Gv.Fn Tryz.prog 68 [p] (qc q):=by
 obtain ⟨s,l,m,rfl,h1,h2,h3,h4,h5,h6⟩:=h
 have i1:IsZ (.agg [.raw (.bool s),u64s l]) (sg s (val 18446744073709551616 l)) k:=⟨s,l,rfl,h1,rfl,h4⟩
 have i0:IsZ (.agg [.raw (.bool false),.sl []]) 0 0:=⟨false,[],rfl,Lt.nil _,rfl,Nat.le_refl _⟩
 have i2:IsN (u64s m) (val 18446744073709551616 m) k:=⟨m,rfl,h2,rfl,h5⟩
 generalize hz:sg s (val 18446744073709551616 l) = z at *
 generalize hd:val 18446744073709551616 m = d at *
 have iz:=i1.zs
 refine Fn.intro mixed vc_rat_good rfl (ok_call (z_Add i1 i0 (by omega) (by omega)) rfl rfl (ok_call (n_Bits i2 (by omega)) rfl rfl ?_))
 try simp only [List.cons_append,List.nil_append]
 rw [Int.add_zero]
 refine ok_eq rfl (decide (d = 0)) ?_ (ok_ite rfl (fun e=>?_) (fun e=>?_))
 ·have:=@blen_pos d
  rw [Bool.eq_iff_iff,decide_eq_true_iff,beq_iff_eq]
  refine ⟨fun e=>Decidable.byContradiction fun hd0=>?_,fun e=>by rw [e]; rfl⟩
  have:=this hd0
  omega
 ·obtain rfl:d = 0:=by simpa using e
  rw [qv_int] at h3
  subst h3
  exact ok_call (q_whole z) rfl rfl (ok_ret rfl rfl)
 ·have hd0:d ≠ 0:=by simpa using e
  rw [qv_mk hd0] at h3
  subst h3
  exact ok_call (q_made (IsZ.zc iz) i2 hd0 (by omega) (by omega)) rfl rfl (ok_ret rfl rfl)
theorem q_over (q:Rat):Gv.Fn Tryz.prog 71 [qc q] (zc (q.den:Int)) :=
 Fn.intro mixed vc_rat_over rfl (ok_ret rfl rfl)
theorem q_Make {p q:PV} {z w:Int} {k k':Nat} (h:IsZ p z k) (h':IsZ q w k') (hw:w ≠ 0) (hk:k ≤ 200000) (hk':k' ≤ 200000):Gv.Fn Tryz.prog 115 [p,q] (.tup [qc (qd z w),.raw (.int .i64 0)]):=by
 have h0:=h'
 have hz:=h.zs
 have h00:=h
 obtain ⟨s',l',rfl,h1',h2',h3'⟩:=h'
 obtain ⟨s,l,rfl,_⟩:=h00
 have hx:=abs_of h2'
 have i0:IsZ (.agg [.raw (.bool false),.sl []]) 0 0:=⟨false,[],rfl,Lt.nil _,rfl,Nat.le_refl _⟩
 have iw:IsN (u64s l') w.natAbs k':=⟨l',rfl,h1',hx,h3'⟩
 have hw':w.natAbs ≠ 0:=by omega
 refine Fn.intro mixed vc_rat_Make rfl (ok_call (z_Sign h0 (by omega)) rfl rfl ?_)
 try simp only [List.cons_append,List.nil_append]
 refine ok_eq rfl false (by simpa using hw) (ok_false rfl ?_)
 try simp only [List.cons_append,List.nil_append]
 refine ok_eq rfl (decide (w < 0)) ?_ (ok_ite rfl (fun e=>?_) (fun e=>?_))
 ·rw [Bool.eq_iff_iff,decide_eq_true_iff,beq_iff_eq]
  exact Int.sign_eq_neg_one_iff_neg
 ·have e:w < 0:=by simpa using e
  try simp only [List.cons_append,List.nil_append]
  refine ok_call (z_Neg h (by omega)) rfl rfl (ok_call (z_Add (IsZ.zc (zs_neg hz)) i0 (by omega) (by omega)) rfl rfl ?_)
  try simp only [List.cons_append,List.nil_append]
  rw [Int.add_zero]
  refine ok_call (q_made (IsZ.zc (zs_neg hz)) iw hw' (by omega) (by omega)) rfl rfl (ok_ret rfl ?_)
  unfold qd
  rw [if_neg hw,if_pos e]
  rfl
 ·have e:¬ w < 0:=by simpa using e
  try simp only [List.cons_append,List.nil_append]
  refine ok_call (z_Add h i0 (by omega) (by omega)) rfl rfl ?_
  try simp only [List.cons_append,List.nil_append]
  rw [Int.add_zero]
  refine ok_call (q_made (IsZ.zc hz) iw hw' (by omega) (by omega)) rfl rfl (ok_ret rfl ?_)
  unfold qd
  rw [if_neg hw,if_neg e]
  rfl
def qnone:PV:=.agg [.raw (.bool false),.sl [],.sl []]
theorem q_Make_zero {p q:PV} {k':Nat} (h':IsZ q 0 k') (hk':k' ≤ 200000) (hp:fits (.ag 2) p = true):Gv.Fn Tryz.prog 115 [p,q] (.tup [qnone,.raw (.int .i64 12)]):=by
 have h0:=h'
 obtain ⟨s',l',rfl,_⟩:=h0
 refine Fn.intro mixed vc_rat_Make (by simp only [fitsAll,hp]; rfl) (ok_call (z_Sign h' (by omega)) rfl rfl ?_)
 try simp only [List.cons_append,List.nil_append]
 exact ok_eq rfl true rfl (ok_true rfl (ok_ret rfl rfl))
theorem q_Of {a b:Int} (h1:-9223372036854775808 ≤ a) (h2:a ≤ 9223372036854775807) (h3:-9223372036854775808 ≤ b) (h4:b ≤ 9223372036854775807):Gv.Fn Tryz.prog 54 [.raw (.int .i64 a),.raw (.int .i64 b)] (qc (qd a b)):=by
 have ia:IsZ (zc a) a 1:=IsZ.s (by omega)
 have ib:IsZ (zc b) b 1:=IsZ.s (by omega)
 refine Fn.intro mixed vc_rat_Of rfl (ok_call (z_Of h1 h2) rfl rfl (ok_call (z_Of h3 h4) rfl rfl ?_))
 try simp only [List.cons_append,List.nil_append]
 by_cases hb:b = 0
 ·subst hb
  refine ok_call (q_Make_zero ib (by omega) rfl) rfl rfl ?_
  try simp only [List.cons_append,List.nil_append]
  refine ok_neq rfl true rfl (ok_true rfl (ok_call (z_Of h1 h2) rfl rfl ?_))
  try simp only [List.cons_append,List.nil_append]
  exact ok_call (q_whole a) rfl rfl (ok_ret rfl rfl)
 ·refine ok_call (q_Make ia ib hb (by omega) (by omega)) rfl rfl ?_
  try simp only [List.cons_append,List.nil_append]
  exact ok_neq rfl false rfl (ok_false rfl (ok_ret rfl rfl))
theorem q_fill1 {a b:Rat} {k k':Nat} (ha:Qb a k) (hb:Qb b k') (hk:k + k' ≤ 100000):Gv.Fn Tryz.prog 196 [qc a,qc b] (qc (a + b)):=by
 have z1:IsZ (zc a.num) a.num k:=IsZ.zc ha.n
 have z2:IsZ (zc b.num) b.num k':=IsZ.zc hb.n
 have d1:IsZ (zc (a.den:Int)) (a.den:Int) k:=IsZ.zc ha.d
 have d2:IsZ (zc (b.den:Int)) (b.den:Int) k':=IsZ.zc hb.d
 have m1:zs (a.num * b.den) ≤ k + k':=zs_mul ha.n hb.d
 have m2:zs (b.num * a.den) ≤ k + k':=by rw [Nat.add_comm]; exact zs_mul hb.n ha.d
 have n1:IsN (nat a.den) a.den k:=IsN.nat ha.d
 have n2:IsN (nat b.den) b.den k':=IsN.nat hb.d
 refine Fn.intro mixed vc_rat_ops_fill_1 rfl (ok_call (q_over b) rfl rfl (ok_call (z_Mul z1 d2 (by omega) (by omega)) rfl rfl ?_))
 try simp only [List.cons_append,List.nil_append]
 refine ok_call (q_over a) rfl rfl (ok_call (z_Mul z2 d1 (by omega) (by omega)) rfl rfl ?_)
 try simp only [List.cons_append,List.nil_append]
 refine ok_call (z_Add (IsZ.zc m1) (IsZ.zc m2) (by omega) (by omega)) rfl rfl (ok_call (n_Mul n1 n2 (by omega) (by omega)) rfl rfl ?_)
 try simp only [List.cons_append,List.nil_append]
 refine ok_call (q_made (IsZ.zc (zs_add1 m1 m2)) (IsN.nat (sz_mul ha.d hb.d)) (den_mul_nz a b) (by omega) (by omega)) rfl rfl (ok_ret rfl ?_)
 rw [add_mk]
 rfl
theorem q_fill3 {a b:Rat} {k k':Nat} (ha:Qb a k) (hb:Qb b k') (hk:k + k' ≤ 100000):Gv.Fn Tryz.prog 198 [qc a,qc b] (qc (a * b)):=by
 have z1:IsZ (zc a.num) a.num k:=IsZ.zc ha.n
 have z2:IsZ (zc b.num) b.num k':=IsZ.zc hb.n
 have n1:IsN (nat a.den) a.den k:=IsN.nat ha.d
 have n2:IsN (nat b.den) b.den k':=IsN.nat hb.d
 refine Fn.intro mixed vc_rat_ops_fill_3 rfl (ok_call (z_Mul z1 z2 (by omega) (by omega)) rfl rfl (ok_call (n_Mul n1 n2 (by omega) (by omega)) rfl rfl ?_))
 try simp only [List.cons_append,List.nil_append]
 refine ok_call (q_made (IsZ.zc (zs_mul ha.n hb.n)) (IsN.nat (sz_mul ha.d hb.d)) (den_mul_nz a b) (by omega) (by omega)) rfl rfl (ok_ret rfl ?_)
 rw [mul_mk]
 rfl
end Go.Proofs.YtcpgflbfjplheaaGreatDoor
namespace Go.Proofs.YtcpgflbfjplheaaGreatDoor
open Go.RowKit Gs
set_option linter.unusedVariables false
structure OpsW (w:World) (g:Nat) (d mu:Int) (v:Value):Prop where
 heap:w.heap[g]? = some (.cells #[Value.int .u32 d,Value.int .i32 mu,Value.int .u32 0,v] 205 (0,0))
variable {w w1:World} {g:Nat} {d mu:Int} {v:Value}
theorem OpsW.free (h:OpsW w g d mu v) (j:Nat):w.frozen? ⟨g,j,none⟩ = false:=by simp [World.frozen?,h.heap]
theorem OpsW.c0 (h:OpsW w g d mu v):w.cell? ⟨g,0,none⟩ = some (.int .u32 d):=by simp [World.cell?,h.heap]
theorem OpsW.c1 (h:OpsW w g d mu v):w.cell? ⟨g,1,none⟩ = some (.int .i32 mu):=by simp [World.cell?,h.heap]
theorem OpsW.c3 (h:OpsW w g d mu v):w.cell? ⟨g,3,none⟩ = some v:=by simp [World.cell?,h.heap]
theorem OpsW.keep (h:OpsW w g d mu v) (hk:w1.heap[g]? = w.heap[g]?):OpsW w1 g d mu v:=⟨hk.trans h.heap⟩
theorem OpsW.drew (h:OpsW w g d mu v):OpsW w.drew g d mu v:=⟨h.heap⟩
theorem OpsW.set0 (h:OpsW w g d mu v) (e:Int):OpsW (w.setCell ⟨g,0,none⟩ (.int .u32 e)) g e mu v:=⟨by simp [World.setCell,Array.getElem?_modify,h.heap]⟩
theorem OpsW.set1 (h:OpsW w g d mu v) (e:Int):OpsW (w.setCell ⟨g,1,none⟩ (.int .i32 e)) g d e v:=⟨by simp [World.setCell,Array.getElem?_modify,h.heap]⟩
theorem OpsW.set3 (h:OpsW w g d mu v) (u:Value):OpsW (w.setCell ⟨g,3,none⟩ u) g d mu u:=⟨by simp [World.setCell,Array.getElem?_modify,h.heap]⟩
theorem OpsW.lt (h:OpsW w g d mu v):g < w.heap.size:=(Array.getElem?_eq_some_iff.1 h.heap).1
def Filled (w0 w:World) (v:Value):Prop:=∃ c b,w0.heap.size ≤ c ∧ w0.heap.size ≤ b ∧ v = .slice (some ⟨b,0,none⟩) 3 3 ∧
 w.heap[c]? = some (.cells #[.func (.func 196) #[] #[]] 49 (0,0)) ∧
 w.heap[b]? = some (.cells #[.func (.func 196) #[] #[],.func (.func 197) #[] #[.pointer (some ⟨c,0,none⟩)],.func (.func 198) #[] #[]] 49 (0,0))
structure Sole (g:Nat) (w w':World):Prop where
 os:w'.os = w.os
 tape:w'.tape = w.tape
 output:w'.output = w.output
 size:w.heap.size ≤ w'.heap.size
 other:∀ b,b ≠ g → b < w.heap.size → w'.heap[b]? = w.heap[b]?
theorem Sole.refl (g:Nat) (w:World):Sole g w w:=⟨rfl,rfl,rfl,Nat.le_refl _,fun _ _ _=>rfl⟩
theorem Sole.trans {w w1 w2:World} (h:Sole g w w1) (k:Sole g w1 w2):Sole g w w2:=⟨k.os.trans h.os,k.tape.trans h.tape,k.output.trans h.output,Nat.le_trans h.size k.size,fun b hb hl=>(k.other b hb (Nat.lt_of_lt_of_le hl h.size)).trans (h.other b hb hl)⟩
theorem Sole.drew (h:Sole g w w1):Sole g w w1.drew:=h.trans ⟨rfl,rfl,rfl,Nat.le_refl _,fun _ _ _=>rfl⟩
theorem Sole.setCell (h:Sole g w w1) (j:Nat) (u:Value):Sole g w (w1.setCell ⟨g,j,none⟩ u) :=
 h.trans ⟨rfl,rfl,rfl,by simp [World.setCell],fun b hb _=>Below.heap_setCell w1 _ u b hb⟩
theorem Sole.far (h:Sole g w w1) {p:Addr} (hp:w.heap.size ≤ p.block) (u:Value):Sole g w (w1.setCell p u) :=
 ⟨h.os,h.tape,h.output,by have:=h.size; simpa [World.setCell] using this,fun b hb hl=>(Below.heap_setCell w1 p u b (by omega)).trans (h.other b hb hl)⟩
theorem Sole.alloc (h:Sole g w w1) (o:Obj):Sole g w (w1.alloc o) :=
 h.trans ⟨rfl,rfl,rfl,by show w1.heap.size ≤ (w1.heap.push o).size; simp,fun b _ hl=>Below.heap_alloc w1 o b hl⟩
theorem Filled.keep {w0 w w':World} {v:Value} (h:Filled w0 w v) (hk:∀ b,w0.heap.size ≤ b → w'.heap[b]? = w.heap[b]?):Filled w0 w' v:=by
 obtain ⟨c,b,h1,h2,h3,h4,h5⟩:=h
 exact ⟨c,b,h1,h2,h3,by rw [hk c h1,h4],by rw [hk b h2,h5]⟩
set_option maxRecDepth 100000 in
set_option maxHeartbeats 2000000 in
theorem ops_fill {w:World} {g:Nat} {d mu:Int} {v:Value} (h:OpsW w g d mu v) :
 Calls Tryz.prog 139 #[.pointer (some ⟨g,0,none⟩)] w fun e w'=>∃ u,e = .returned (.tuple #[]) ∧ OpsW w' g d mu u ∧ Filled w w' u ∧ Sole g w w':=by
 have hlt:=h.lt
 have hmf:∀ (fn:Fn) (first cap:Array Value) (w:World),(Instr.makeFunc fn first cap).run Tryz.prog w = .ok (.func fn first cap) w:=fun _ _ _ _=>rfl
 obtain ⟨W0,hW0⟩:∃ W0,w.alloc (.cells #[Value.nilFunc] 49) = W0:=⟨_,rfl⟩
 have b0:Box W0 w.heap.size 49 .nilFunc:=by rw [← hW0]; exact Box.new w _ _
 have h0:OpsW W0 g d mu v:=by rw [← hW0]; exact h.keep (Below.heap_alloc w _ g hlt)
 have s0:Sole g w W0:=by rw [← hW0]; exact (Sole.refl g w).alloc _
 have z0:W0.heap.size = w.heap.size + 1:=by rw [← hW0]; simp
 have c0:=b0.cell
 have e0:=b0.free
 obtain ⟨W1,hW1⟩:∃ W1,W0.setCell ⟨w.heap.size,0,none⟩ (.func (.func 196) #[] #[]) = W1:=⟨_,rfl⟩
 have b1:Box W1 w.heap.size 49 (.func (.func 196) #[] #[]):=by rw [← hW1]; exact b0.set _
 have h1:OpsW W1 g d mu v:=by rw [← hW1]; exact h0.keep (Below.heap_setCell W0 _ _ g (by simp; omega))
 have s1:Sole g w W1:=by rw [← hW1]; exact s0.far (Nat.le_refl _) _
 have z1:W1.heap.size = w.heap.size + 1:=by rw [← hW1]; simp [World.setCell,z0]
 have c1:=b1.cell
 obtain ⟨W2,hW2⟩:∃ W2,W1.alloc (.cells #[.func (.func 196) #[] #[],.func (.func 197) #[] #[.pointer (some ⟨w.heap.size,0,none⟩)],.func (.func 198) #[] #[]] 49) = W2:=⟨_,rfl⟩
 have h2:OpsW W2 g d mu v:=by rw [← hW2]; exact h1.keep (Below.heap_alloc W1 _ g (by omega))
 have s2:Sole g w W2:=by rw [← hW2]; exact s1.alloc _
 have hF:Filled w (W2.setCell ⟨g,3,none⟩ (.slice (some ⟨w.heap.size + 1,0,none⟩) 3 3)) (.slice (some ⟨w.heap.size + 1,0,none⟩) 3 3):=by
  refine ⟨w.heap.size,w.heap.size + 1,Nat.le_refl _,by omega,rfl,?_,?_⟩
  ·rw [Below.heap_setCell W2 _ _ _ (by simp; omega),← hW2,Below.heap_alloc W1 _ _ (by omega)]
   exact b1.out
  ·rw [Below.heap_setCell W2 _ _ _ (by simp; omega),← hW2,← z1]
   exact heap_alloc_new W1 _
 have hO:=h2.set3 (.slice (some ⟨w.heap.size + 1,0,none⟩) 3 3)
 have hS:=s2.setCell 3 (.slice (some ⟨w.heap.size + 1,0,none⟩) 3 3)
 have HF:=Lib.hid hF
 have HO:=Lib.hid hO
 have HS:=Lib.hid hS
 have c3:=h2.c3
 have e3:=h2.free 3
 clear hF hO hS
 go_enter Tryz.func139,Tryz.ntmps139
 go_wp2
 go_end0
 exact ⟨_,rfl,HO.out,HF.out,HS.out⟩
set_option maxRecDepth 100000 in
set_option maxHeartbeats 2000000 in
theorem ops_slow {w:World} {g:Nat} {v:Value} (h:OpsW w g 0 0 v) :
 Calls Tryz.prog 195 #[.pointer (some ⟨g,0,none⟩),.func (.func 139) #[.pointer (some ⟨g,0,none⟩)] #[]] w fun e w'=>∃ u,e = .returned (.tuple #[]) ∧ OpsW w' g 1 0 u ∧ Filled w w' u ∧ Sole g w w':=by
 have h1:=h.set1 1
 have hlt:=h.lt
 have hnot:∀ (x:Bool) (w:World),(Op.unary .not (.bool x)).run Tryz.prog w = .ok (.bool (!x)) w:=fun _ _=>rfl
 go_enter_defers Tryz.func195,Tryz.ntmps195
 go_wp2_with (first | (go_at_call 245; refine (once_lock ⟨g,1,none⟩ _ h.c1 (h.free 1)).mono ?_; rintro e w' ⟨rfl,rfl⟩) | (go_at_call 194; refine (once_load h1.c0).mono ?_; rintro e w' ⟨rfl,rfl⟩) | (go_at_call 139; refine (ops_fill h1).mono ?_; rintro e w' ⟨u,rfl,h2,hF,hS⟩))
 refine leaves_cons (f:=247) (args:=#[.pointer (some ⟨g,0,none⟩),.bool true]) (by simp) (by simp [go_sem]) ?_
 refine (once_store ⟨g,0,none⟩ _ .returning _ h2.c0 (h2.free 0)).mono ?_
 rintro e u' w'' ⟨rfl,rfl,rfl⟩
 have h3:=h2.drew.set0 1
 refine leaves_cons (f:=246) (args:=#[.pointer (some ⟨g,1,none⟩)]) (by simp [settle]) (by simp [go_sem]) ?_
 refine (once_unlock ⟨g,1,none⟩ _ _ h3.c1 (h3.free 1)).mono ?_
 rintro e u' w'' ⟨rfl,rfl,rfl⟩
 have h4:=h3.set1 0
 have hS4:Sole g w _:=(((((Sole.refl g w).setCell 1 (.int .i32 1)).trans hS).drew.setCell 0 (.int .u32 1)).setCell 1 (.int .i32 0))
 simp [Leaves,settle,results,Tryz.results195]
 refine ⟨u,h4,?_,hS4⟩
 have hF':Filled w w' u:=by obtain ⟨c,b,q1,q2,q3,q4,q5⟩:=hF; exact ⟨c,b,by simpa [World.setCell] using q1,by simpa [World.setCell] using q2,q3,q4,q5⟩
 refine hF'.keep fun b hb=>?_
 rw [Below.heap_setCell _ _ _ _ (by simp; omega),Below.heap_setCell _ _ _ _ (by simp; omega)]
 rfl
set_option maxRecDepth 100000 in
set_option maxHeartbeats 2000000 in
theorem ops_Do {w:World} {g:Nat} {v:Value} (h:OpsW w g 0 0 v) :
 Calls Tryz.prog 138 #[.pointer (some ⟨g,0,none⟩),.func (.func 139) #[.pointer (some ⟨g,0,none⟩)] #[]] w fun e w'=>∃ u,e = .returned (.tuple #[]) ∧ OpsW w' g 1 0 u ∧ Filled w w' u ∧ Sole g w w':=by
 have hnot:∀ (x:Bool) (w:World),(Op.unary .not (.bool x)).run Tryz.prog w = .ok (.bool (!x)) w:=fun _ _=>rfl
 go_enter Tryz.func138,Tryz.ntmps138
 go_wp2_with (first | (go_at_call 194; refine (once_load h.c0).mono ?_; rintro e w' ⟨rfl,rfl⟩) | (go_at_call 195; refine (ops_slow h).mono ?_; rintro e w' ⟨u,rfl,h2,hF,hS⟩))
 go_end0
 exact ⟨u,rfl,h2,hF,hS⟩
end Go.Proofs.YtcpgflbfjplheaaGreatDoor
namespace Go.Proofs.YtcpgflbfjplheaaGreatDoor
open Go.RowKit Gs Gv
set_option linter.unusedVariables false
theorem q_fill2 {a b:Rat} {k k':Nat} (ha:Qb a k) (hb:Qb b k') (hk:k + k' ≤ 100000):Gv.Fn Tryz.prog 197 [qc a,qc b,.ref [.clo (.func 196) [] []]] (qc (a - b)):=by
 have hn:=hb.neg
 refine Fn.introC mixed vc_rat_ops_fill_2 rfl (ok_prim rfl (ok_call (z_Neg (IsZ.zc hb.n) (by omega)) rfl rfl ?_))
 try simp only [List.cons_append,List.nil_append]
 refine ⟨qc (a + -b),?_,rfl,ok_ret rfl ?_⟩
 ·exact q_fill1 ha hn hk
 ·rw [Rat.sub_eq_add_neg]
  rfl
set_option maxRecDepth 100000 in
set_option maxHeartbeats 2000000 in
theorem q_do {op:Int} {p q:PV} {a b:Rat} {k k':Nat} (ha:IsQ p a k) (hb:IsQ q b k') (hk:k + k' ≤ 100000) (r:Rat) (hr:(op = 0 ∧ r = a + b) ∨ (op = 1 ∧ r = a - b) ∨ (op = 2 ∧ r = a * b)) :
 Gv.Fn Tryz.prog 72 [.raw (.int .i64 op),p,q] (qc r):=by
 refine Fn.of ⟨_,Tryz.func72,rfl,by kernel_rfl⟩ fun w P0 vs hl hrep=>?_
 obtain ⟨v0,v1,v2,rfl⟩:∃ a b c,vs = [a,b,c]:=by
  match vs,hl with
  | [a,b,c],_=>exact ⟨a,b,c,rfl⟩
 have r0:=hrep 0 _ _ rfl rfl
 have r1:=hrep 1 _ _ rfl rfl
 have r2:=hrep 2 _ _ rfl rfl
 have ha0:=ha
 have hb0:=hb
 obtain ⟨s,l,m,rfl,_⟩:=ha0
 obtain ⟨s',l',m',rfl,_⟩:=hb0
 cases r0
 have r1':=r1
 have r2':=r2
 cases r1
 rename_i xs lx fx qx
 cases r2
 rename_i ys ly fy qy
 obtain ⟨W3,hW3⟩:∃ W3,((w.alloc (.cells xs 27)).alloc (.cells ys 27)).alloc (.cells #[.bool false,.slice none 0 0,.slice none 0 0] 27) = W3:=⟨_,rfl⟩
 have z3:W3.heap.size = w.heap.size + 3:=by rw [← hW3]; simp
 obtain ⟨W4,hW4⟩:∃ W4,W3.alloc (.cells #[.int .u32 0,.int .i32 0,.int .u32 0,.slice none 0 0] 205) = W4:=⟨_,rfl⟩
 have o4:OpsW W4 (w.heap.size + 3) 0 0 (.slice none 0 0):=by rw [← hW4,← z3]; exact ⟨heap_alloc_new W3 _⟩
 go_enter Tryz.func72,Tryz.ntmps72
 go_wp2_with (go_at_call 138; refine (ops_Do o4).mono ?_; rintro e w5 ⟨u,rfl,o5,hF,hS⟩)
 rename_i K5 hK5
 have hg:=o5.lt
 obtain ⟨cb,bb,f1,f2,rfl,f4,f5⟩:=hF
 have z4:W4.heap.size = w.heap.size + 4:=by rw [← hW4]; simp [z3]
 have hx:w5.heap[w.heap.size]? = some (.cells xs 27 (0,0)):=by
  rw [hS.other _ (by omega) (by omega),← hW4,Below.heap_alloc W3 _ _ (by omega),← hW3,Below.heap_alloc _ _ _ (by simp; omega),Below.heap_alloc _ _ _ (by simp)]
  exact heap_alloc_new w _
 have hy:w5.heap[w.heap.size + 1]? = some (.cells ys 27 (0,0)):=by
  rw [hS.other _ (by omega) (by omega),← hW4,Below.heap_alloc W3 _ _ (by omega),← hW3,Below.heap_alloc _ _ _ (by simp)]
  have:=heap_alloc_new (w.alloc (.cells xs 27)) (.cells ys 27)
  simpa using this
 have hz:w5.heap[w.heap.size + 2]? = some (.cells #[.bool false,.slice none 0 0,.slice none 0 0] 27 (0,0)):=by
  rw [hS.other _ (by omega) (by omega),← hW4,Below.heap_alloc W3 _ _ (by omega),← hW3]
  have:=heap_alloc_new ((w.alloc (.cells xs 27)).alloc (.cells ys 27)) (.cells #[.bool false,.slice none 0 0,.slice none 0 0] 27)
  simpa using this
 have hB4:Below w.heap.size w W4:=by
  rw [← hW4,← hW3]
  exact ((((Below.refl _ w).alloc (Nat.le_refl _) _).alloc (by simp) _).alloc (by simp; omega) _).alloc (by simp; omega) _
 have hB5:Below w.heap.size w w5:=hB4.trans ⟨hS.os,hS.tape,hS.output,hS.size,fun b hb=>hS.other b (by omega) (by omega)⟩
 refine wp_of_reg (R:=(· = qc r)) (E:=⟨w,fun b=>P0 b ∧ b < w.heap.size,21,fun _=>False,none⟩) (β:=fun j=>if j = 0 then some (.blk (w.heap.size + 2)) else none)
  (ρ:=[.raw (.int .i64 op),.ref [.raw (.bool s),u64s l,u64s m],.ref [.raw (.bool s'),u64s l',u64s m'],.ref [.raw (.int .u32 1),.raw (.int .i32 0),.raw (.int .u32 0),
   .sl [[.clo (.func 196) [] []],[.clo (.func 197) [] [.ref [.clo (.func 196) [] []]]],[.clo (.func 198) [] []]]]])
  (fn:=Tryz.f72) mixed rfl (by kernel_rfl) vc_rat_do_rest ?_ ?_ ?_ rfl rfl ?_
 ·have ga:=q_good ha (by omega)
  have gb:=q_good hb (by omega)
  have ea:=ha.b
  have eb:=hb.b
  rcases hr with ⟨rfl,rfl⟩ | ⟨rfl,rfl⟩ | ⟨rfl,rfl⟩
  ·refine ok_prim rfl (ok_prim rfl (ok_prim rfl (ok_prim rfl (ok_prim rfl (ok_call ga rfl rfl (ok_prim rfl (ok_call gb rfl rfl ?_)))))))
   exact ⟨qc (a + b),q_fill1 ea eb hk,rfl,ok_ret rfl rfl⟩
  ·refine ok_prim rfl (ok_prim rfl (ok_prim rfl (ok_prim rfl (ok_prim rfl (ok_call ga rfl rfl (ok_prim rfl (ok_call gb rfl rfl ?_)))))))
   exact ⟨qc (a - b),q_fill2 ea eb hk,rfl,ok_ret rfl rfl⟩
  ·refine ok_prim rfl (ok_prim rfl (ok_prim rfl (ok_prim rfl (ok_prim rfl (ok_call ga rfl rfl (ok_prim rfl (ok_call gb rfl rfl ?_)))))))
   exact ⟨qc (a * b),q_fill3 ea eb hk,rfl,ok_ret rfl rfl⟩
 ·obtain ⟨W,hW⟩:∃ W,W = Ok ⟨w,fun b=>P0 b ∧ b < w.heap.size,21,fun _=>False,none⟩ (Gv.look [(0,HB.box [.con (.bool false),.con (.slice none 0 0),.con (.slice none 0 0)] 27)]) (fun j=>if j = 0 then some (.blk (w.heap.size + 2)) else none):=⟨_,rfl⟩
  have hOk:∀ c,((P0 c ∧ c < w.heap.size) ∨ w.heap.size ≤ c) → c ≠ w.heap.size + 2 → W c:=by
   intro c h1 h2
   rw [hW]
   refine ⟨h1.imp id .inl,fun j e=>?_⟩
   obtain ⟨x,e1,e2⟩:=e
   simp only [look_cons] at e1
   split at e1
   ·rename_i hj
    cases e1
    have e3:(if j = 0 then some (Loc.blk (w.heap.size + 2)) else none) = some (.blk c):=e2
    rw [if_pos hj] at e3
    exact h2 (Loc.blk.inj (Option.some.inj e3)).symm
   ·cases e1
  have hkeep:∀ {p:PV} {v:Value},Rep w P0 p v → Rep w5 W p v:=by
   intro p v h
   exact h.keep fun c hc hl=>⟨hOk c (.inl ⟨hc,hl⟩) (by omega),hB5.block c hl⟩
  have hcell:∀ {B:Nat} {T:TypeId} {zs:Array Value} {ps:List PV},w5.heap[B]? = some (.cells zs T (0,0)) → ps.length = zs.size → w.heap.size ≤ B → B ≠ w.heap.size + 2 → (∀ (j:Nat) (p:PV),ps[j]? = some p → p.flat = true) →
   (∀ (j:Nat) (p:PV),ps[j]? = some p → Rep w5 W p (zs.getD j undef)) → Rep w5 W (.ref ps) (.pointer (some ⟨B,0,none⟩)):=by
   intro B T zs ps h1 h2 h3 h4 h5 h6
   refine .ref ps _ (fun j=>zs.getD j undef) h5 (fun j p hj=>⟨hOk _ (.inr h3) h4,?_⟩) h6
   have hlt:=(List.getElem?_eq_some_iff.1 hj).1
   rw [add_mid]
   simp only [World.cell?,h1]
   simp [Array.getD,show j < zs.size by omega]
  have rc:Rep w5 W (.clo (.func 196) [] []) (.func (.func 196) #[] #[]) :=
   .clo _ [] [] #[] #[] rfl rfl (fun j p h=>by simp at h) (fun j p h=>by simp at h)
  have rc3:Rep w5 W (.clo (.func 198) [] []) (.func (.func 198) #[] #[]) :=
   .clo _ [] [] #[] #[] rfl rfl (fun j p h=>by simp at h) (fun j p h=>by simp at h)
  have rcp:Rep w5 W (.ref [.clo (.func 196) [] []]) (.pointer (some ⟨cb,0,none⟩)):=by
   refine hcell f4 rfl (by omega) (by omega) (fun j p hj=>?_) (fun j p hj=>?_)
   ·match j,hj with
    | 0,hj=>cases hj; rfl
   ·match j,hj with
    | 0,hj=>cases hj; exact rc
  have rc2:Rep w5 W (.clo (.func 197) [] [.ref [.clo (.func 196) [] []]]) (.func (.func 197) #[] #[.pointer (some ⟨cb,0,none⟩)]):=by
   refine .clo _ [] _ #[] #[_] rfl rfl (fun j p h=>by simp at h) (fun j p hj=>?_)
   match j,hj with
   | 0,hj=>cases hj; exact rcp
  have rs:Rep w5 W (.sl [[.clo (.func 196) [] []],[.clo (.func 197) [] [.ref [.clo (.func 196) [] []]]],[.clo (.func 198) [] []]]) (.slice (some ⟨bb,0,none⟩) 3 3):=by
   refine .sl 1 _ ⟨bb,0,none⟩ 3 (fun i _=>(#[Value.func (.func 196) #[] #[],.func (.func 197) #[] #[.pointer (some ⟨cb,0,none⟩)],.func (.func 198) #[] #[]]).getD i undef) ?_ (by decide) (by decide) ?_ ?_ ?_
   ·intro i e he
    match i,he with
    | 0,he=>cases he; rfl
    | 1,he=>cases he; rfl
    | 2,he=>cases he; rfl
   ·intro i e he j p hp
    match i,he,j,hp with
    | 0,he,0,hp=>cases he; cases hp; rfl
    | 1,he,0,hp=>cases he; cases hp; rfl
    | 2,he,0,hp=>cases he; cases hp; rfl
    | 0,he,j + 1,hp=>cases he; simp at hp
    | 1,he,j + 1,hp=>cases he; simp at hp
    | 2,he,j + 1,hp=>cases he; simp at hp
   ·intro i e he j p hp
    refine ⟨hOk bb (.inr (by omega)) (by omega),?_⟩
    match i,he,j,hp with
    | 0,he,0,hp=>rw [add_mid]; simp only [World.cell?,f5]; rfl
    | 1,he,0,hp=>rw [add_mid]; simp only [World.cell?,f5]; rfl
    | 2,he,0,hp=>rw [add_mid]; simp only [World.cell?,f5]; rfl
    | 0,he,j + 1,hp=>cases he; simp at hp
    | 1,he,j + 1,hp=>cases he; simp at hp
    | 2,he,j + 1,hp=>cases he; simp at hp
   ·intro i e he j p hp
    match i,he,j,hp with
    | 0,he,0,hp=>cases he; cases hp; exact rc
    | 1,he,0,hp=>cases he; cases hp; exact rc2
    | 2,he,0,hp=>cases he; cases hp; exact rc3
    | 0,he,j + 1,hp=>cases he; simp at hp
    | 1,he,j + 1,hp=>cases he; simp at hp
    | 2,he,j + 1,hp=>cases he; simp at hp
  refine ⟨rfl,rfl,(Kept.refl _).below hB5,?_,?_,?_,fun v hv=>by cases hv⟩
  ·rw [← hW]
   intro t x ht
   have c6:RepS [.raw (.int .i64 op),.ref [.raw (.bool s),u64s l,u64s m],.ref [.raw (.bool s'),u64s l',u64s m'],.ref [.raw (.int .u32 1),.raw (.int .i32 0),.raw (.int .u32 0),
    .sl [[.clo (.func 196) [] []],[.clo (.func 197) [] [.ref [.clo (.func 196) [] []]]],[.clo (.func 198) [] []]]]]
    (fun j=>if j = 0 then some (.blk (w.heap.size + 2)) else none) w5 W (.box 0 0) (.pointer (some ⟨w.heap.size + 2,0,none⟩)):=.box 0 0 _ rfl
   simp only [look_cons] at ht
   split at ht
   ·subst t; cases ht; exact .pure _ _ _ rfl rfl (.raw _) (fun e=>by cases e)
   split at ht
   ·subst t; cases ht; exact .pure _ _ _ rfl rfl (hcell hx lx (by omega) (by omega) fx fun j p hj=>hkeep (qx j p hj)) (fun e=>by cases e)
   split at ht
   ·subst t; cases ht; exact .pure _ _ _ rfl rfl (hcell hy ly (by omega) (by omega) fy fun j p hj=>hkeep (qy j p hj)) (fun e=>by cases e)
   split at ht
   ·subst t; cases ht; exact c6
   split at ht
   ·subst t; cases ht
    refine .pure _ _ _ rfl rfl (hcell o5.heap rfl (by omega) (by omega) (fun j p hj=>?_) (fun j p hj=>?_)) (fun e=>by cases e)
    ·match j,hj with
     | 0,hj=>cases hj; rfl
     | 1,hj=>cases hj; rfl
     | 2,hj=>cases hj; rfl
     | 3,hj=>cases hj; rfl
    ·match j,hj with
     | 0,hj=>cases hj; exact .raw _
     | 1,hj=>cases hj; exact .raw _
     | 2,hj=>cases hj; exact .raw _
     | 3,hj=>cases hj; exact rs
   ·cases ht
  ·rw [← hW]
   intro j x hj
   simp only [look_cons] at hj
   split at hj
   ·subst j; cases hj
    refine ⟨_,_,rfl,hz,rfl,Or.inl (by show w.heap.size ≤ _; omega),fun i x hi=>?_⟩
    match i,hi with
    | 0,hi=>cases hi; exact ⟨rfl,.con _ rfl⟩
    | 1,hi=>cases hi; exact ⟨rfl,.con _ rfl⟩
    | 2,hi=>cases hi; exact ⟨rfl,.con _ rfl⟩
   ·cases hj
  ·intro j j' b e1 e2
   have z:∀ j:Nat,Gv.Owns (fun j=>if j = 0 then some (.blk (w.heap.size + 2)) else none) (Gv.look [(0,HB.box [.con (.bool false),.con (.slice none 0 0),.con (.slice none 0 0)] 27)]) j b → j = 0:=fun j e=>by
    obtain ⟨x,e,_⟩:=e
    simp only [look_cons] at e
    split at e
    ·assumption
    ·cases e
   rw [z j e1,z j' e2]
 ·intro j hj
  by_cases h:j = 0
  ·rw [h]; show 0 < 1; decide
  ·exact absurd (if_neg h) hj
 ·intro ρ β st s a' w' hr hR hS'
  obtain ⟨v,h1,p,h2,h3⟩:=retS_run hr hS'
  rw [pv_of h2] at hR
  subst hR
  have key:a'.defers = [] ∧ ∃ v,(results Tryz.f72 a'.tmps).run Tryz.prog w' = .ok v w' ∧ ∃ v_1,Ending.returned v = .returned v_1 ∧ Rep w' (fun b=>P0 b ∨ w.heap.size ≤ b) (qc r) v_1 ∧ Below w.heap.size w w' :=
   ⟨hS'.df,v,h1,v,rfl,h3.mono fun b hb=>hb.imp (fun h=>h.1) (fun h=>h.elim id False.elim),kept_below hS'.bel⟩
  exact ⟨hK5 _ _ (wp_ret key),key⟩
theorem q_Add {p q:PV} {a b:Rat} {k k':Nat} (ha:IsQ p a k) (hb:IsQ q b k') (hk:k + k' ≤ 100000):Gv.Fn Tryz.prog 21 [p,q] (qc (a + b)):=by
 have h:=q_do (op:=0) ha hb hk (a + b) (.inl ⟨rfl,rfl⟩)
 obtain ⟨s,l,m,rfl,_⟩:=ha
 obtain ⟨s',l',m',rfl,_⟩:=hb
 exact Fn.intro mixed vc_rat_Add rfl (ok_call h rfl rfl (ok_ret rfl rfl))
theorem q_Sub {p q:PV} {a b:Rat} {k k':Nat} (ha:IsQ p a k) (hb:IsQ q b k') (hk:k + k' ≤ 100000):Gv.Fn Tryz.prog 131 [p,q] (qc (a - b)):=by
 have h:=q_do (op:=1) ha hb hk (a - b) (.inr (.inl ⟨rfl,rfl⟩))
 obtain ⟨s,l,m,rfl,_⟩:=ha
 obtain ⟨s',l',m',rfl,_⟩:=hb
 exact Fn.intro mixed vc_rat_Sub rfl (ok_call h rfl rfl (ok_ret rfl rfl))
theorem q_Mul {p q:PV} {a b:Rat} {k k':Nat} (ha:IsQ p a k) (hb:IsQ q b k') (hk:k + k' ≤ 100000):Gv.Fn Tryz.prog 74 [p,q] (qc (a * b)):=by
 have h:=q_do (op:=2) ha hb hk (a * b) (.inr (.inr ⟨rfl,rfl⟩))
 obtain ⟨s,l,m,rfl,_⟩:=ha
 obtain ⟨s',l',m',rfl,_⟩:=hb
 exact Fn.intro mixed vc_rat_Mul rfl (ok_call h rfl rfl (ok_ret rfl rfl))
end Go.Proofs.YtcpgflbfjplheaaGreatDoor
namespace Gv
open Go Go.RowKit Gs
set_option linter.unusedVariables false
theorem sign_div {z:Int} {g:Nat} (hg:(g:Int) ∣ z) (h0:g ≠ 0):(z / (g:Int)).sign = z.sign:=by
 obtain ⟨t,rfl⟩:=hg
 rw [Int.mul_ediv_cancel_left _ (by omega),Int.sign_mul,Int.sign_eq_one_of_pos (show (0:Int) < g by omega),Int.one_mul]
theorem qv_sign (z:Int) (d:Nat):(qv z d).num.sign = z.sign:=by
 unfold qv
 split
 ·rfl
 ·rename_i h
  rw [mk_num h]
  exact sign_div (Int.ofNat_dvd_left.2 (Nat.gcd_dvd_left _ _)) (gcd_pos h)
end Gv
namespace Go.Proofs.YtcpgflbfjplheaaGreatDoor
open Go.RowKit Gs Gv
set_option linter.unusedVariables false
theorem q_Div {p q:PV} {a b:Rat} {k k':Nat} (ha:IsQ p a k) (hb:IsQ q b k') (hk:k + k' ≤ 100000) (h0:b ≠ 0):Gv.Fn Tryz.prog 95 [p,q] (.tup [qc (a / b),.raw (.int .i64 0)]):=by
 have ga:=q_good ha (by omega)
 have gb:=q_good hb (by omega)
 have ea:=ha.b
 have eb:=hb.b
 obtain ⟨s,l,m,rfl,_⟩:=ha
 obtain ⟨s',l',m',rfl,_⟩:=hb
 have m1:zs (a.num * b.den) ≤ k + k':=zs_mul ea.n eb.d
 have m2:zs (b.num * a.den) ≤ k + k':=by rw [Nat.add_comm]; exact zs_mul eb.n ea.d
 have hn:b.num * a.den ≠ 0:=Int.mul_ne_zero (by simpa using h0) (by have:=a.den_nz; omega)
 refine Fn.intro mixed vc_rat_Div rfl (ok_call ga rfl rfl (ok_call gb rfl rfl (ok_call (q_over b) rfl rfl (ok_call (z_Mul (IsZ.zc ea.n) (IsZ.zc (zs_nat eb.d)) (by omega) (by omega)) rfl rfl ?_))))
 try simp only [List.cons_append,List.nil_append]
 refine ok_call (q_over a) rfl rfl (ok_call (z_Mul (IsZ.zc eb.n) (IsZ.zc (zs_nat ea.d)) (by omega) (by omega)) rfl rfl ?_)
 try simp only [List.cons_append,List.nil_append]
 refine ok_call (q_Make (IsZ.zc m1) (IsZ.zc m2) hn (by omega) (by omega)) rfl rfl (ok_ret ?_ rfl)
 rw [div_qd h0]
 rfl
theorem q_Div_zero {p q:PV} {a:Rat} {k k':Nat} (ha:IsQ p a k) (hb:IsQ q 0 k') (hk:k + k' ≤ 100000):Gv.Fn Tryz.prog 95 [p,q] (.tup [qnone,.raw (.int .i64 12)]):=by
 have ga:=q_good ha (by omega)
 have gb:=q_good hb (by omega)
 have ea:=ha.b
 have eb:=hb.b
 obtain ⟨s,l,m,rfl,_⟩:=ha
 obtain ⟨s',l',m',rfl,_⟩:=hb
 have m2:(0:Rat).num * (a.den:Int) = 0:=by simp
 refine Fn.intro mixed vc_rat_Div rfl (ok_call ga rfl rfl (ok_call gb rfl rfl (ok_call (q_over 0) rfl rfl (ok_call (z_Mul (IsZ.zc ea.n) (IsZ.zc (zs_nat eb.d)) (by omega) (by omega)) rfl rfl ?_))))
 try simp only [List.cons_append,List.nil_append]
 refine ok_call (q_over a) rfl rfl (ok_call (z_Mul (IsZ.zc eb.n) (IsZ.zc (zs_nat ea.d)) (by omega) (by omega)) rfl rfl ?_)
 try simp only [List.cons_append,List.nil_append]
 rw [m2]
 exact ok_call (q_Make_zero (k':=1) (IsZ.s (by decide)) (by omega) rfl) rfl rfl (ok_ret rfl rfl)
theorem q_Sign {p:PV} {a:Rat} {k:Nat} (ha:IsQ p a k) (hk:k ≤ 100000):Gv.Fn Tryz.prog 23 [p] (.raw (.int .i64 a.num.sign)):=by
 obtain ⟨s,l,m,rfl,h1,h2,h3,h4,h5,h6⟩:=ha
 have i1:IsZ (.agg [.raw (.bool s),u64s l]) (sg s (val 18446744073709551616 l)) k:=⟨s,l,rfl,h1,rfl,h4⟩
 rw [← h3,qv_sign]
 exact Fn.intro mixed vc_rat_Sign rfl (ok_call (z_Sign i1 (by omega)) rfl rfl (ok_ret rfl rfl))
theorem q_Cmp {p q:PV} {a b:Rat} {k k':Nat} (ha:IsQ p a k) (hb:IsQ q b k') (hk:k + k' ≤ 100000):Gv.Fn Tryz.prog 20 [p,q] (.raw (.int .i64 (qcmp a b))):=by
 have ga:=q_good ha (by omega)
 have gb:=q_good hb (by omega)
 have ea:=ha.b
 have eb:=hb.b
 obtain ⟨s,l,m,rfl,_⟩:=ha
 obtain ⟨s',l',m',rfl,_⟩:=hb
 have m1:zs (a.num * b.den) ≤ k + k':=zs_mul ea.n eb.d
 have m2:zs (b.num * a.den) ≤ k + k':=by rw [Nat.add_comm]; exact zs_mul eb.n ea.d
 refine Fn.intro mixed vc_rat_Cmp rfl (ok_call ga rfl rfl (ok_call gb rfl rfl (ok_call (q_over b) rfl rfl (ok_call (z_Mul (IsZ.zc ea.n) (IsZ.zc (zs_nat eb.d)) (by omega) (by omega)) rfl rfl ?_))))
 try simp only [List.cons_append,List.nil_append]
 refine ok_call (q_over a) rfl rfl (ok_call (z_Mul (IsZ.zc eb.n) (IsZ.zc (zs_nat ea.d)) (by omega) (by omega)) rfl rfl ?_)
 try simp only [List.cons_append,List.nil_append]
 refine ok_call (z_Cmp (IsZ.zc m1) (IsZ.zc m2) (by omega) (by omega)) rfl rfl (ok_ret ?_ rfl)
 rw [← qcmp_sign]
 rfl
end Go.Proofs.YtcpgflbfjplheaaGreatDoor
namespace Gv
open Go Go.RowKit Gs
set_option linter.unusedVariables false
theorem B32':2 ≤ 4294967296:=by omega
theorem rowP_inj {k:IntKind} {l m:List Nat} (h:rowP k l = rowP k m):l = m:=by
 unfold rowP at h
 injection h with h
 refine (List.map_inj_right fun a b e=>?_).1 h
 have e:(a:Int) = (b:Int):=by simpa using e
 omega
theorem r32_inj {x y:Nat} (h:r32 x = r32 y):x = y:=limbs_inj B32' (rowP_inj h)
noncomputable def un32 (p:PV):Nat:=open Classical in if h:∃ x,p = r32 x then Classical.choose h else 0
theorem un32_r32 (x:Nat):un32 (r32 x) = x:=by
 unfold un32
 rw [dif_pos ⟨x,rfl⟩]
 exact (r32_inj (Classical.choose_spec (p:=fun y=>r32 x = r32 y) ⟨x,rfl⟩)).symm
theorem r32p_len (x:Nat):Prim.ev .len [r32 x] = some (.raw (.int .i64 ((limbs 4294967296 x).length:Nat))):=rowP_len _ _
theorem limbs32_1 {x:Nat} (h:(limbs 4294967296 x).length = 1):limbs 4294967296 x = [x]:=by
 have h2:=val_limbs B32' x
 generalize limbs 4294967296 x = l at *
 match l,h with
 | [a],_ =>
  have:val 4294967296 [a] = a:=by simp [val]
  rw [this] at h2
  rw [h2]
theorem limbs32_len0 {x:Nat}:(limbs 4294967296 x).length = 0 ↔ x = 0:=limbs_len_zero B32' x
theorem qf_mk {z:Int} {d:Nat} (hd:d ≠ 0):qf (mkRat z d) = .agg [.raw (.bool (decide (z < 0))),r32 (z.natAbs / Nat.gcd z.natAbs d),r32 (d / Nat.gcd z.natAbs d)]:=by
 have h1:(z / ((Nat.gcd z.natAbs d:Nat):Int)).natAbs = z.natAbs / Nat.gcd z.natAbs d:=by
  have e:=sg_div (decide (z < 0)) (Nat.gcd_dvd_left z.natAbs d)
  rw [sg_of] at e
  rw [← e,sg_abs]
 have h2:decide (z / ((Nat.gcd z.natAbs d:Nat):Int) < 0) = decide (z < 0):=by
  have hs:=sign_div (z:=z) (Int.ofNat_dvd_left.2 (Nat.gcd_dvd_left z.natAbs d)) (gcd_pos hd)
  rw [Bool.eq_iff_iff,decide_eq_true_iff,decide_eq_true_iff,← Int.sign_eq_neg_one_iff_neg,hs,Int.sign_eq_neg_one_iff_neg]
 unfold qf
 rw [mk_num hd,mk_den hd,h1,h2]
end Gv
namespace Go.Proofs.YtcpgflbfjplheaaGreatDoor
open Go.RowKit Gs Gv
set_option linter.unusedVariables false
theorem r_Gcd {x y:Nat} (hx:sz x ≤ 500) (hy:sz y ≤ 500):Gv.Fn Tryz.prog 148 [r32 x,r32 y] (r32 (Nat.gcd x y)):=by
 refine Fn.intro mixed vc_ref01_Gcd rfl ⟨fun vs=>∃ a b,vs = [r32 a,r32 b] ∧ Nat.gcd a b = Nat.gcd x y ∧ sz a ≤ 500 ∧ sz b ≤ 500,fun vs=>un32 (vs.getD 1 (.raw undef)),⟨x,y,rfl,rfl,hx,hy⟩,?_⟩
 rintro vs hl ⟨a,b,rfl,hg,ha,hb⟩
 refine ok_prim (r32p_len b) (ok_gtr rfl (decide (0 < b)) ?_ (ok_ite rfl (fun e=>?_) (fun e=>?_)))
 ·have:=@limbs32_len0 b
  rw [Bool.eq_iff_iff,decide_eq_true_iff,decide_eq_true_iff]
  omega
 ·have e:0 < b:=by simpa using e
  refine ok_call (r_DivMod ha hb e) rfl rfl ?_
  refine ⟨⟨b,a % b,rfl,?_,hb,Nat.le_trans (sz_mono (Nat.le_of_lt (Nat.mod_lt _ e))) hb⟩,?_⟩
  ·rw [← hg,Nat.gcd_comm a b,Nat.gcd_rec b a,Nat.gcd_comm]
  ·show un32 (r32 (a % b)) < un32 (r32 b)
   rw [un32_r32,un32_r32]
   exact Nat.mod_lt _ e
 ·have e:b = 0:=by
   have:¬ 0 < b:=by simpa using e
   omega
  subst e
  refine ok_ret ?_ rfl
  rw [← hg,Nat.gcd_zero_right]
  rfl
theorem g_Made {z:Int} {d:Nat} (hd:d ≠ 0) (hz:zs z ≤ 500) (hs:sz d ≤ 500):Gv.Fn Tryz.prog 87 [zf z,r32 d] (qf (mkRat z d)):=by
 have hg:=gcd_pos (a:=z.natAbs) hd
 have sg':sz (Nat.gcd z.natAbs d) ≤ 500:=Nat.le_trans (sz_mono (Nat.gcd_le_right _ (by omega))) hs
 have l0:=@limbs32_len0 (Nat.gcd z.natAbs d)
 have d1:=r_DivMod (x:=z.natAbs) (y:=Nat.gcd z.natAbs d) hz sg' (by omega)
 have d2:=r_DivMod (x:=d) (y:=Nat.gcd z.natAbs d) hs sg' (by omega)
 refine Fn.intro mixed vc_ref03_Made rfl (ok_call (r_Gcd hz hs) rfl rfl (ok_prim (r32p_len _) (ok_eq rfl false (by rw [beq_eq_false_iff_ne]; omega) (ok_false rfl (ok_prim (r32p_len _) ?_)))))
 try simp only [List.cons_append,List.nil_append]
 refine ok_eq rfl (decide ((limbs 4294967296 (Nat.gcd z.natAbs d)).length = 1)) ?_ (ok_ite rfl (fun e=>?_) (fun e=>?_))
 ·rw [Bool.eq_iff_iff,decide_eq_true_iff,beq_iff_eq]
  omega
 ·have e:(limbs 4294967296 (Nat.gcd z.natAbs d)).length = 1:=by simpa using e
  have e2:=limbs32_1 e
  refine ok_prim (r:=.ref [.raw (.int .u32 (Nat.gcd z.natAbs d:Nat))]) ?_ (ok_prim rfl (ok_eq rfl (decide (Nat.gcd z.natAbs d = 1)) ?_ (ok_ite rfl (fun h=>?_) (fun h=>?_))))
  ·show Prim.ev (.idx 1) [r32 (Nat.gcd z.natAbs d),.raw (.int .i64 0)] = _
   unfold r32
   rw [e2]
   rfl
  ·rw [Bool.eq_iff_iff,decide_eq_true_iff,beq_iff_eq]
   omega
  ·have h:Nat.gcd z.natAbs d = 1:=by simpa using h
   refine ok_ret (r:=.agg [.raw (.bool (decide (z < 0))),r32 z.natAbs,r32 d]) ?_ rfl
   rw [qf_mk hd,h,Nat.div_one,Nat.div_one]
  ·try simp only [List.cons_append,List.nil_append]
   refine ok_call d1 rfl rfl (ok_call d2 rfl rfl (ok_ret ?_ rfl))
   rw [qf_mk hd]
   rfl
 ·refine ok_call d1 rfl rfl (ok_call d2 rfl rfl (ok_ret ?_ rfl))
  rw [qf_mk hd]
  rfl
theorem g_Made1 {z:Int} (hz:zs z ≤ 500):Gv.Fn Tryz.prog 87 [zf z,r32 1] (qf (z:Rat)):=by
 have:=g_Made (z:=z) (d:=1) (by decide) hz (Nat.le_trans (sz_small (by decide)) (by decide))
 rw [show mkRat z 1 = (z:Rat) from Rat.mkRat_one z] at this
 exact this
theorem g_In {p:PV} {q:Rat} {k:Nat} (h:IsQ p q k) (hk:k ≤ 500):Gv.Fn Tryz.prog 33 [p] (qf q):=by
 obtain ⟨s,l,m,rfl,h1,h2,h3,h4,h5,h6⟩:=h
 have i1:IsZ (.agg [.raw (.bool s),u64s l]) (sg s (val 18446744073709551616 l)) k:=⟨s,l,rfl,h1,rfl,h4⟩
 have i2:IsN (u64s m) (val 18446744073709551616 m) k:=⟨m,rfl,h2,rfl,h5⟩
 generalize hz:sg s (val 18446744073709551616 l) = z at *
 generalize hd:val 18446744073709551616 m = d at *
 have l0:=@limbs32_len0 d
 have iz:=i1.zs
 refine Fn.intro mixed vc_ref03_In rfl (ok_call (r_In i2 (by omega)) rfl rfl (ok_prim (r32p_len _) (ok_eq rfl (decide (d = 0)) ?_ (ok_ite rfl (fun e=>?_) (fun e=>?_)))))
 ·rw [Bool.eq_iff_iff,decide_eq_true_iff,beq_iff_eq]
  omega
 ·obtain rfl:d = 0:=by simpa using e
  rw [qv_int] at h3
  subst h3
  exact ok_call (r_Of 1 (by decide)) rfl rfl (ok_call (f_In i1 (by omega)) rfl rfl (ok_call (g_Made1 (by omega)) rfl rfl (ok_ret rfl rfl)))
 ·have hd0:d ≠ 0:=by simpa using e
  rw [qv_mk hd0] at h3
  subst h3
  exact ok_call (f_In i1 (by omega)) rfl rfl (ok_call (g_Made hd0 (by omega) (Nat.le_trans i2.sz (by omega))) rfl rfl (ok_ret rfl rfl))
theorem g_Out {q:Rat} {k:Nat} (h:Qb q k) (hk:k ≤ 400000):Gv.Fn Tryz.prog 90 [qf q] (qc q):=by
 have h1:=h.n
 have h2:=h.d
 have l0:=limbs_len_zero B64 q.den
 have hn:=q.den_nz
 refine Fn.intro mixed vc_ref03_Out rfl (ok_call (r_Out (x:=q.den) (by omega)) rfl rfl (ok_prim (rowP_len _ _) (ok_eq rfl false (by rw [beq_eq_false_iff_ne]; omega) (ok_false rfl ?_))))
 try simp only [List.cons_append,List.nil_append]
 exact ok_call (f_Out (z:=q.num) (by omega)) rfl rfl (ok_ret rfl rfl)
theorem g_den (q:Rat):Gv.Fn Tryz.prog 123 [qf q] (zf (q.den:Int)):=by
 have l0:=@limbs32_len0 q.den
 have hn:=q.den_nz
 exact Fn.intro mixed vc_ref03_den rfl (ok_prim (r32p_len _) (ok_eq rfl false (by rw [beq_eq_false_iff_ne]; omega) (ok_false rfl (ok_ret rfl rfl))))
theorem g_Of {a b:Int} (h1:-9223372036854775808 ≤ a) (h2:a ≤ 9223372036854775807) (h3:-9223372036854775808 ≤ b) (h4:b ≤ 9223372036854775807):Gv.Fn Tryz.prog 114 [.raw (.int .i64 a),.raw (.int .i64 b)] (qf (qd a b)):=by
 have key:∀ b:Int,-9223372036854775808 ≤ b → b ≤ 9223372036854775807 → b ≠ 0 → ∀ s:Bool,s = (decide (a < 0) != decide (b < 0)) →
  (s = true → Gv.Fn Tryz.prog 87 [.agg [.raw (.bool (decide (((limbs 4294967296 a.natAbs).length:Int) > 0))),r32 a.natAbs],r32 b.natAbs] (qf (qd a b))) ∧
  (s = false → Gv.Fn Tryz.prog 87 [.agg [.raw (.bool false),r32 a.natAbs],r32 b.natAbs] (qf (qd a b))):=by
  intro b h3 h4 hb s hs
  have hb':b.natAbs ≠ 0:=by omega
  have sa:sz a.natAbs ≤ 500:=Nat.le_trans (sz_small (by omega)) (by decide)
  have sb:sz b.natAbs ≤ 500:=Nat.le_trans (sz_small (by omega)) (by decide)
  have l0:=@limbs32_len0 a.natAbs
  unfold qd
  rw [if_neg hb]
  constructor
  ·rintro rfl
   have:=g_Made (z:=if b < 0 then -a else a) hb' (by split <;> (unfold zs; first | (rw [Int.natAbs_neg]; exact sa) | exact sa)) sb
   have e:zf (if b < 0 then -a else a) = .agg [.raw (.bool (decide (((limbs 4294967296 a.natAbs).length:Int) > 0))),r32 a.natAbs]:=by
    unfold zf
    have e1:decide ((if b < 0 then -a else a) < 0) = decide (((limbs 4294967296 a.natAbs).length:Int) > 0):=by
     rw [Bool.eq_iff_iff,decide_eq_true_iff,decide_eq_true_iff]
     have hs:(decide (a < 0) ≠ decide (b < 0)):=by simpa using hs.symm
     by_cases ha:a < 0 <;> by_cases hb2:b < 0 <;> simp [ha,hb2] at hs ⊢ <;> omega
    have e2:(if b < 0 then -a else a).natAbs = a.natAbs:=by split <;> simp
    rw [e1,e2]
   rw [e] at this
   exact this
  ·rintro rfl
   have:=g_Made (z:=if b < 0 then -a else a) hb' (by split <;> (unfold zs; first | (rw [Int.natAbs_neg]; exact sa) | exact sa)) sb
   have e:zf (if b < 0 then -a else a) = .agg [.raw (.bool false),r32 a.natAbs]:=by
    unfold zf
    have e1:decide ((if b < 0 then -a else a) < 0) = false:=by
     rw [decide_eq_false_iff_not]
     have hs:(decide (a < 0) = decide (b < 0)):=by simpa using hs.symm
     by_cases ha:a < 0 <;> by_cases hb2:b < 0 <;> simp [ha,hb2] at hs ⊢ <;> omega
    have e2:(if b < 0 then -a else a).natAbs = a.natAbs:=by split <;> simp
    rw [e1,e2]
   rw [e] at this
   exact this
 have fin:∀ b:Int,b ≠ 0 ∨ True → True:=fun _ _=>trivial
 refine Fn.intro mixed vc_ref03_Of rfl (ok_eq rfl (decide (b = 0)) (by rw [Bool.eq_iff_iff,decide_eq_true_iff,beq_iff_eq]) (ok_ite rfl (fun e=>?_) (fun e=>?_)))
 ·obtain rfl:b = 0:=by simpa using e
  obtain ⟨k1,k2⟩:=key 1 (by decide) (by decide) (by decide) _ rfl
  rw [show qd a 1 = qd a 0 by unfold qd; rw [if_neg (by decide),if_neg (by decide),if_pos rfl]; exact Rat.mkRat_one a] at k1 k2
  refine ok_call (f_Of h1 h2) rfl rfl (ok_call (f_Of (v:=1) (by decide) (by decide)) rfl rfl (ok_prim rfl (ok_ite rfl (fun e=>?_) (fun e=>?_))))
  ·try simp only [List.cons_append,List.nil_append]
   exact ok_prim (r32p_len _) (ok_prim rfl (ok_call (k1 e) rfl rfl (ok_ret rfl rfl)))
  ·exact ok_call (k2 e) rfl rfl (ok_ret rfl rfl)
 ·have hb:b ≠ 0:=by simpa using e
  obtain ⟨k1,k2⟩:=key b h3 h4 hb _ rfl
  refine ok_call (f_Of h1 h2) rfl rfl (ok_call (f_Of h3 h4) rfl rfl (ok_prim rfl (ok_ite rfl (fun e=>?_) (fun e=>?_))))
  ·try simp only [List.cons_append,List.nil_append]
   exact ok_prim (r32p_len _) (ok_prim rfl (ok_call (k1 e) rfl rfl (ok_ret rfl rfl)))
  ·exact ok_call (k2 e) rfl rfl (ok_ret rfl rfl)
theorem g_Sign (q:Rat):Gv.Fn Tryz.prog 120 [qf q] (.raw (.int .i64 q.num.sign)):=Fn.intro mixed vc_ref03_Rat_Sign rfl (ok_call (f_Sign q.num) rfl rfl (ok_ret rfl rfl))
theorem g_Minus (q:Rat):Gv.Fn Tryz.prog 212 [qf q] (qf (-q)):=Fn.intro mixed vc_ref03_Rat_Minus rfl (ok_call (f_Minus q.num) rfl rfl (ok_ret rfl rfl))
theorem g_Cmp {a b:Rat} {k k':Nat} (ha:Qb a k) (hb:Qb b k') (hk:k + k' ≤ 100000):Gv.Fn Tryz.prog 60 [qf a,qf b] (.raw (.int .i64 (qcmp a b))):=by
 have m1:zs (a.num * b.den) ≤ k + k':=zs_mul ha.n hb.d
 have m2:zs (b.num * a.den) ≤ k + k':=by rw [Nat.add_comm]; exact zs_mul hb.n ha.d
 have x1:=ha.n
 have x2:=hb.n
 have x3:=zs_nat ha.d
 have x4:=zs_nat hb.d
 refine Fn.intro mixed vc_ref03_Cmp rfl (ok_call (g_den b) rfl rfl (ok_call (f_Mul (x:=a.num) (y:=b.den) (by omega) (by omega)) rfl rfl (ok_call (g_den a) rfl rfl (ok_call (f_Mul (x:=b.num) (y:=a.den) (by omega) (by omega)) rfl rfl ?_))))
 try simp only [List.cons_append,List.nil_append]
 refine ok_call (f_Cmp (x:=a.num * b.den) (y:=b.num * a.den) (by omega) (by omega)) rfl rfl (ok_ret ?_ rfl)
 rw [← qcmp_sign]
 rfl
theorem g_Add {a b:Rat} {k k':Nat} (ha:Qb a k) (hb:Qb b k') (hk:k + k' ≤ 490):Gv.Fn Tryz.prog 113 [qf a,qf b] (qf (a + b)):=by
 have m1:zs (a.num * b.den) ≤ k + k':=zs_mul ha.n hb.d
 have m2:zs (b.num * a.den) ≤ k + k':=by rw [Nat.add_comm]; exact zs_mul hb.n ha.d
 have m3:=zs_add1 m1 m2
 have m4:sz (a.den * b.den) ≤ k + k':=sz_mul ha.d hb.d
 have x1:=ha.n
 have x2:=hb.n
 have x3:=zs_nat ha.d
 have x4:=zs_nat hb.d
 have x5:=ha.d
 have x6:=hb.d
 refine Fn.intro mixed vc_ref03_Add rfl (ok_call (g_den b) rfl rfl (ok_call (f_Mul (x:=a.num) (y:=b.den) (by omega) (by omega)) rfl rfl (ok_call (g_den a) rfl rfl (ok_call (f_Mul (x:=b.num) (y:=a.den) (by omega) (by omega)) rfl rfl ?_))))
 try simp only [List.cons_append,List.nil_append]
 refine ok_call (f_Add (x:=a.num * b.den) (y:=b.num * a.den) (by omega) (by omega)) rfl rfl (ok_call (g_den a) rfl rfl (ok_call (g_den b) rfl rfl (ok_call (r_Mul (x:=a.den) (y:=b.den) (by omega) (by omega)) rfl rfl ?_)))
 try simp only [List.cons_append,List.nil_append]
 refine ok_call (g_Made (z:=a.num * b.den + b.num * a.den) (den_mul_nz a b) (by omega) (by omega)) rfl rfl (ok_ret ?_ rfl)
 rw [add_mk]
 rfl
theorem g_Sub {a b:Rat} {k k':Nat} (ha:Qb a k) (hb:Qb b k') (hk:k + k' ≤ 490):Gv.Fn Tryz.prog 168 [qf a,qf b] (qf (a - b)):=by
 rw [Rat.sub_eq_add_neg]
 exact Fn.intro mixed vc_ref03_Sub rfl (ok_call (g_Minus b) rfl rfl (ok_call (g_Add ha hb.neg hk) rfl rfl (ok_ret rfl rfl)))
theorem g_Mul {a b:Rat} {k k':Nat} (ha:Qb a k) (hb:Qb b k') (hk:k + k' ≤ 490):Gv.Fn Tryz.prog 112 [qf a,qf b] (qf (a * b)):=by
 have m1:zs (a.num * b.num) ≤ k + k':=zs_mul ha.n hb.n
 have m4:sz (a.den * b.den) ≤ k + k':=sz_mul ha.d hb.d
 have x1:=ha.n
 have x2:=hb.n
 have x5:=ha.d
 have x6:=hb.d
 refine Fn.intro mixed vc_ref03_Mul rfl (ok_call (f_Mul (x:=a.num) (y:=b.num) (by omega) (by omega)) rfl rfl (ok_call (g_den a) rfl rfl (ok_call (g_den b) rfl rfl (ok_call (r_Mul (x:=a.den) (y:=b.den) (by omega) (by omega)) rfl rfl ?_))))
 try simp only [List.cons_append,List.nil_append]
 refine ok_call (g_Made (z:=a.num * b.num) (den_mul_nz a b) (by omega) (by omega)) rfl rfl (ok_ret ?_ rfl)
 rw [mul_mk]
 rfl
theorem g_Div {a b:Rat} {k k':Nat} (ha:Qb a k) (hb:Qb b k') (hk:k + k' ≤ 490) (h0:b ≠ 0):Gv.Fn Tryz.prog 156 [qf a,qf b] (qf (a / b)):=by
 have m1:zs (a.num * b.den) ≤ k + k':=zs_mul ha.n hb.d
 have m4:sz (a.den * b.num.natAbs) ≤ k + k':=sz_mul ha.d hb.n
 have hn:b.num ≠ 0:=by simpa using h0
 have hm:b.num * a.den ≠ 0:=Int.mul_ne_zero hn (by have:=a.den_nz; omega)
 have hd:a.den * b.num.natAbs ≠ 0:=Nat.mul_ne_zero a.den_nz (by omega)
 have x1:=ha.n
 have x2:sz b.num.natAbs ≤ k':=hb.n
 have x4:=zs_nat hb.d
 have x5:=ha.d
 have da:=a.den_nz
 have e1:(b.num * (a.den:Int)).natAbs = a.den * b.num.natAbs:=by rw [Int.natAbs_mul,Nat.mul_comm]; rfl
 have e2:b.num * (a.den:Int) < 0 ↔ b.num < 0:=by
  constructor
  ·intro h
   refine Decidable.byContradiction fun h2=>?_
   have:=Int.mul_nonneg (show 0 ≤ b.num by omega) (show (0:Int) ≤ (a.den:Int) by omega)
   omega
  ·intro h
   exact Int.mul_neg_of_neg_of_pos h (by omega)
 have e:a / b = mkRat (if b.num < 0 then -(a.num * b.den) else a.num * b.den) (a.den * b.num.natAbs):=by
  rw [← div_qd h0]
  unfold qd
  rw [if_neg hm,e1]
  congr 1
  by_cases h:b.num < 0
  ·rw [if_pos h,if_pos (e2.2 h)]
  ·rw [if_neg h,if_neg (fun h'=>h (e2.1 h'))]
 refine Fn.intro mixed vc_ref03_Div rfl (ok_call (g_den b) rfl rfl (ok_call (f_Mul (x:=a.num) (y:=b.den) (by omega) (by omega)) rfl rfl (ok_call (g_Sign b) rfl rfl (ok_prim rfl (ok_ite rfl (fun h=>?_) (fun h=>?_))))))
 ·have h:b.num < 0:=by
   have:b.num.sign < 0:=by simpa using h
   simpa using this
  try simp only [List.cons_append,List.nil_append]
  refine ok_call (f_Minus (a.num * b.den)) rfl rfl (ok_call (g_den a) rfl rfl (ok_call (r_Mul (x:=a.den) (y:=b.num.natAbs) (by omega) (by omega)) rfl rfl ?_))
  try simp only [List.cons_append,List.nil_append]
  refine ok_call (g_Made (z:=-(a.num * b.den)) hd (by have:=zs_neg m1; omega) (by omega)) rfl rfl (ok_ret ?_ rfl)
  rw [e,if_pos h]
  rfl
 ·have h:¬ b.num < 0:=by
   have:¬ b.num.sign < 0:=by simpa using h
   intro h'
   exact this (by simpa using h')
  try simp only [List.cons_append,List.nil_append]
  refine ok_call (g_den a) rfl rfl (ok_call (r_Mul (x:=a.den) (y:=b.num.natAbs) (by omega) (by omega)) rfl rfl ?_)
  try simp only [List.cons_append,List.nil_append]
  refine ok_call (g_Made (z:=a.num * b.den) hd (by omega) (by omega)) rfl rfl (ok_ret ?_ rfl)
  rw [e,if_neg h]
  rfl
theorem k_Rats {s t:Bool} {l m l' m':List Nat} (h1:Lt 18446744073709551616 l) (h2:Lt 18446744073709551616 m) (h3:Lt 18446744073709551616 l') (h4:Lt 18446744073709551616 m') :
 Gv.Fn Tryz.prog 89 [.agg [.raw (.bool s),u64s l,u64s m],.agg [.raw (.bool t),u64s l',u64s m']] (.raw (.bool ((s == t && decide (l = l')) && decide (m = m')))):=by
 refine Fn.intro mixed vc_keep_Rats rfl (ok_call (k_Ints h1 h3) rfl rfl (ok_ite rfl (fun e=>?_) (fun e=>?_)))
 ·refine ok_call (k_Nats h2 h4) rfl rfl (ok_ret ?_ rfl)
  rw [e,Bool.true_and]
  rfl
 ·refine ok_ret ?_ rfl
  rw [e,Bool.false_and]
  rfl
theorem k_Rats_same (q:Rat):Gv.Fn Tryz.prog 89 [qc q,qc q] (.raw (.bool true)):=by
 have:=k_Rats (s:=decide (q.num < 0)) (t:=decide (q.num < 0)) (limbs_lt B64 q.num.natAbs) (limbs_lt B64 q.den) (limbs_lt B64 q.num.natAbs) (limbs_lt B64 q.den)
 simp only [beq_self_eq_true,decide_true,Bool.and_self] at this
 exact this
theorem k_Small {s:Bool} {l m:List Nat} {k:Int}:Gv.Fn Tryz.prog 43 [.agg [.raw (.bool s),u64s l,u64s m],.raw (.int .i64 k)] (.raw (.bool (decide ((l.length:Int) ≤ k) && decide ((m.length:Int) ≤ k)))):=by
 refine Fn.intro mixed vc_keep_Small rfl (ok_prim (rowP_len _ _) (ok_prim rfl (ok_ite rfl (fun e=>?_) (fun e=>?_))))
 ·refine ok_prim (rowP_len _ _) (ok_prim rfl (ok_ret ?_ rfl))
  have e:decide ((l.length:Int) ≤ k) = true:=e
  rw [e,Bool.true_and]
  rfl
 ·refine ok_ret ?_ rfl
  have e:decide ((l.length:Int) ≤ k) = false:=e
  rw [e,Bool.false_and]
  rfl
end Go.Proofs.YtcpgflbfjplheaaGreatDoor
namespace Gv
open Go Go.RowKit Gs
set_option linter.unusedVariables false
noncomputable def qtxt (a:Rat):ByteArray:=if a.den = 1 then ztxt a.num else ztxt a.num ++ (⟨#[47]⟩:ByteArray) ++ txt a.den
theorem ztxt_size {z:Int} {k:Nat} (h:zs z ≤ k):(ztxt z).size ≤ 20 * k + 2:=by
 have:=txt_size h
 unfold ztxt
 split
 ·rw [ByteArray.size_append]
  show 1 + _ ≤ _
  omega
 ·omega
theorem qtxt_one {z:Int}:qtxt (z:Rat) = ztxt z:=if_pos rfl
end Gv
namespace Go.Proofs.YtcpgflbfjplheaaGreatDoor
open Go.RowKit Gs Gv
set_option linter.unusedVariables false
theorem q_Text {p:PV} {a:Rat} {k:Nat} (ha:IsQ p a k) (hk:k ≤ 50000):Gv.Fn Tryz.prog 63 [p] (.raw (.string (qtxt a))):=by
 have ga:=q_good ha (by omega)
 have ea:=ha.b
 obtain ⟨s,l,m,rfl,_⟩:=ha
 have big:∀ {u v:ByteArray},u.size + v.size ≤ 9223372036854775807 → Prim.ev (.op2 .add false) [.raw (.string u),.raw (.string v)] = some (.raw (.string (u ++ v))):=fun h=>by simp [Prim.ev,bin2,h]
 have s1:(ztxt a.num).size ≤ 20 * k + 2:=ztxt_size ea.n
 have s2:(txt a.den).size ≤ 20 * k + 1:=txt_size ea.d
 refine Fn.intro mixed vc_rat_Text rfl (ok_call ga rfl rfl (ok_call (z_Text (IsZ.zc ea.n) hk) rfl rfl (ok_call (n_Of 1 (by decide)) rfl rfl (ok_call (n_Cmp (IsN.nat ea.d) (IsN.nat (sz_small (by decide:1 < 18446744073709551616))) (by omega) (by omega)) rfl rfl ?_))))
 try simp only [List.cons_append,List.nil_append]
 refine ok_eq rfl (decide (a.den = 1)) ?_ (ok_ite rfl (fun e=>?_) (fun e=>?_))
 ·unfold cmpI
  rw [Bool.eq_iff_iff,decide_eq_true_iff,beq_iff_eq]
  split
  ·omega
  ·split <;> omega
 ·refine ok_ret ?_ rfl
  unfold qtxt
  rw [if_pos (by simpa using e)]
  rfl
 ·try simp only [List.cons_append,List.nil_append]
  refine ok_prim (big (u:=ztxt a.num) (v:=⟨#[47]⟩) (by show (ztxt a.num).size + 1 ≤ _; omega)) (ok_call (n_Text (IsN.nat ea.d) hk) rfl rfl (ok_prim (big (u:=ztxt a.num ++ (⟨#[47]⟩:ByteArray)) (v:=txt a.den) ?_) (ok_ret ?_ rfl)))
  ·rw [ByteArray.size_append]
   show (ztxt a.num).size + 1 + _ ≤ _
   omega
  ·unfold qtxt
   rw [if_neg (by simpa using e)]
   rfl
end Go.Proofs.YtcpgflbfjplheaaGreatDoor
namespace Gv
open Go Go.RowKit Gs
set_option linter.unusedVariables false
end Gv
namespace Go.Proofs.YtcpgflbfjplheaaGreatDoor
open Go.RowKit Gs Gv
set_option linter.unusedVariables false
end Go.Proofs.YtcpgflbfjplheaaGreatDoor
