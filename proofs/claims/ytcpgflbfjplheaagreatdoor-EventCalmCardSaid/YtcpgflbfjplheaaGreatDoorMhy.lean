import Derived.Test.YtcpgflbfjplheaaGreatDoorMgy
namespace Gs
def digs:Nat → Nat → List Nat
 | 0,_=>[]
 | k + 1,r=>digs k (r / 10) ++ [48 + r % 10]
theorem digs_length (k:Nat):∀ r,(digs k r).length = k:=by
 induction k with
 | zero=>intro r; rfl
 | succ k ih=>intro r; simp [digs,ih]
theorem allDig_digs (k:Nat):∀ r,allDig (digs k r) = true:=by
 induction k with
 | zero=>intro r; rfl
 | succ k ih =>
  intro r
  rw [digs,allDig_append,ih]
  have h:=Nat.mod_lt r (show 0 < 10 by omega)
  simp only [allDig,List.all_cons,List.all_nil,isDig,Bool.true_and,Bool.and_true,Bool.and_eq_true,decide_eq_true_eq]
  omega
theorem dec_digs (k:Nat):∀ r,dec (digs k r) = r % 10 ^ k:=by
 induction k with
 | zero=>intro r; simp [digs,dec,Nat.mod_one]
 | succ k ih =>
  intro r
  rw [digs,dec_snoc,ih,Nat.pow_succ,Nat.mul_comm (10 ^ k) 10,Nat.mod_mul]
  omega
theorem gd_digs (k:Nat):∀ r j,j < k → gd (digs k r) j = 48 + r / 10 ^ (k - 1 - j) % 10:=by
 induction k with
 | zero=>intro r j h; omega
 | succ k ih =>
  intro r j h
  rw [digs]
  rcases Nat.lt_or_ge j k with h1 | h1
  ·have:=ih (r / 10) j h1
   rw [gd_lt (by simp [digs_length]; omega),List.getElem_append_left (by rw [digs_length]; exact h1),← gd_lt,this,Nat.div_div_eq_div_mul,← Nat.pow_succ']
   congr 3
   congr 1
   omega
  ·obtain rfl:j = k:=by omega
   rw [gd_lt (by simp [digs_length]),List.getElem_append_right (by rw [digs_length]; omega)]
   simp [digs_length]
theorem digs_ext {k r:Nat} {o:List Nat} (hl:o.length = k) (h:∀ j,j < k → gd o j = 48 + r / 10 ^ (k - 1 - j) % 10):o = digs k r:=by
 apply List.ext_getElem
 ·rw [hl,digs_length]
 ·intro j h1 h2
  rw [← gd_lt h1,← gd_lt h2,h j (by omega),gd_digs k r j (by omega)]
theorem dec_inj {D:List Nat}:∀ {E:List Nat},D.length = E.length → allDig D = true → allDig E = true → dec D = dec E → D = E:=by
 induction D with
 | nil =>
  intro E hl hD hE h
  exact (List.length_eq_zero_iff.1 hl.symm).symm
 | cons d D ih =>
  intro E hl hD hE h
  cases E with
  | nil=>simp at hl
  | cons e E =>
   have hl2:D.length = E.length:=by simpa using hl
   have hD2:allDig (d :: D) = (isDig d && allDig D):=rfl
   have hE2:allDig (e :: E) = (isDig e && allDig E):=rfl
   rw [hD2,Bool.and_eq_true] at hD
   rw [hE2,Bool.and_eq_true] at hE
   have h1:=dec_lt hD.2
   have h2:=dec_lt hE.2
   rw [dec_cons,dec_cons,← hl2] at h
   rw [← hl2] at h2
   have hd:=hD.1
   have he:=hE.1
   simp only [isDig,Bool.and_eq_true,decide_eq_true_eq] at hd he
   have hpos:0 < 10 ^ D.length:=Nat.pow_pos (by omega)
   have q:d - 48 = e - 48:=by
    have q1:((d - 48) * 10 ^ D.length + dec D) / 10 ^ D.length = d - 48:=by
     rw [Nat.add_comm,Nat.add_mul_div_right _ _ hpos,Nat.div_eq_of_lt h1,Nat.zero_add]
    have q2:((e - 48) * 10 ^ D.length + dec E) / 10 ^ D.length = e - 48:=by
     rw [Nat.add_comm,Nat.add_mul_div_right _ _ hpos,Nat.div_eq_of_lt h2,Nat.zero_add]
    rw [← q1,← q2,h]
   obtain rfl:d = e:=by omega
   rw [ih hl2 hD.2 hE.2 (Nat.add_left_cancel h)]
theorem byt_inj {s t:ByteArray} (h:byt s = byt t):s = t:=by
 unfold byt at h
 have h2:s.data.toList = t.data.toList:=by
  apply List.map_inj_right (f:=fun x:UInt8=>x.toNat) (fun a b e=>UInt8.toNat_inj.1 e) |>.1
  exact h
 cases s; cases t
 simp only at h2
 rw [Array.toList_inj.1 h2]
theorem dec_ge {D:List Nat} (h:allDig D = true) (hn:1 ≤ D.length) (h0:gd D 0 ≠ 48):10 ^ (D.length - 1) ≤ dec D:=by
 cases D with
 | nil=>simp at hn
 | cons d D =>
  have hD2:allDig (d :: D) = (isDig d && allDig D):=rfl
  rw [hD2,Bool.and_eq_true] at h
  have hd:=h.1
  simp only [isDig,Bool.and_eq_true,decide_eq_true_eq] at hd
  have:d ≠ 48:=by rw [gd_lt (by simp)] at h0; exact h0
  rw [dec_cons,List.length_cons,Nat.add_sub_cancel]
  calc 10 ^ D.length = 1 * 10 ^ D.length:=(Nat.one_mul _).symm
   _ ≤ (d - 48) * 10 ^ D.length:=Nat.mul_le_mul_right _ (by omega)
   _ ≤ _:=Nat.le_add_right _ _
def IsText (s:ByteArray) (v:Nat):Prop:=allDig (byt s) = true ∧ dec (byt s) = v ∧ 0 < s.size ∧ (gd (byt s) 0 = 48 → s.size = 1)
theorem IsText.size_le {s:ByteArray} {v k:Nat} (h:IsText s v) (hv:v < 10 ^ k) (hk:0 < k):s.size ≤ k:=by
 obtain ⟨h1,h2,h3,h4⟩:=h
 by_cases h0:gd (byt s) 0 = 48
 ·rw [h4 h0]; omega
 ·have:=dec_ge h1 (by rw [byt_length]; omega) h0
  rw [h2,byt_length] at this
  have:=(Nat.pow_lt_pow_iff_right (show 1 < 10 by omega)).1 (Nat.lt_of_le_of_lt this hv)
  omega
theorem IsText.unique {s t:ByteArray} {v:Nat} (h:IsText s v) (g:IsText t v):s = t:=by
 have hs:=h.1
 have gs:=g.1
 have h1:v < 10 ^ s.size:=by rw [← h.2.1,← byt_length]; exact dec_lt hs
 have g1:v < 10 ^ t.size:=by rw [← g.2.1,← byt_length]; exact dec_lt gs
 have h2:=h.size_le g1 g.2.2.1
 have g2:=g.size_le h1 h.2.2.1
 exact byt_inj (dec_inj (by rw [byt_length,byt_length]; omega) hs gs (by rw [h.2.1,g.2.1]))
def catB (ps:List ByteArray):List Nat:=(ps.reverse.map byt).flatten
theorem catB_nil:catB [] = []:=rfl
theorem catB_snoc (ps:List ByteArray) (p:ByteArray):catB (ps ++ [p]) = byt p ++ catB ps:=by simp [catB]
def Parts (v x:Nat) (ps:List ByteArray):Prop:=allDig (catB ps) = true ∧ x * 10 ^ (catB ps).length + dec (catB ps) = v
theorem Parts.start (v:Nat):Parts v v []:=⟨rfl,by simp [catB_nil,dec]⟩
theorem Parts.step {v x:Nat} {ps:List ByteArray} (h:Parts v x ps) {p:ByteArray} (hp:byt p = digs 18 (x % 10 ^ 18)):Parts v (x / 10 ^ 18) (ps ++ [p]):=by
 obtain ⟨h1,h2⟩:=h
 refine ⟨?_,?_⟩
 ·rw [catB_snoc,allDig_append,hp,allDig_digs,h1]; rfl
 ·rw [catB_snoc,dec_append,List.length_append,hp,digs_length,dec_digs,Nat.mod_mod,Nat.pow_add,← h2]
  have:=Nat.div_add_mod x (10 ^ 18)
  generalize 10 ^ (catB ps).length = T at *
  generalize dec (catB ps) = U at *
  rw [← Nat.add_assoc,← Nat.mul_assoc,← Nat.add_mul,Nat.mul_comm (x / 10 ^ 18),this]
theorem dropZ (D:List Nat):allDig D = true → allDig (D.dropWhile (· == 48)) = true ∧ dec (D.dropWhile (· == 48)) = dec D ∧ (D.dropWhile (· == 48) ≠ [] → gd (D.dropWhile (· == 48)) 0 ≠ 48):=by
 induction D with
 | nil=>intro _; exact ⟨rfl,rfl,fun h=>(h rfl).elim⟩
 | cons d D ih =>
  intro h
  have hD2:allDig (d :: D) = (isDig d && allDig D):=rfl
  by_cases hd:d = 48
  ·subst hd
   rw [hD2,Bool.and_eq_true] at h
   obtain ⟨a,b,c⟩:=ih h.2
   rw [List.dropWhile_cons_of_pos (by simp)]
   refine ⟨a,?_,c⟩
   rw [b,dec_cons]
   simp
  ·rw [List.dropWhile_cons_of_neg (by simpa using hd)]
   exact ⟨h,rfl,fun _=>by rw [gd_lt (by simp)]; exact hd⟩
theorem Parts.text {v:Nat} {ps:List ByteArray} (h:Parts v 0 ps) {s:ByteArray} (hs:byt s = (catB ps).dropWhile (· == 48)) (h0:s.size ≠ 0):IsText s v:=by
 obtain ⟨h1,h2⟩:=h
 obtain ⟨a,b,c⟩:=dropZ _ h1
 rw [← hs] at a b c
 refine ⟨a,by rw [b,← h2,Nat.zero_mul,Nat.zero_add],by omega,fun h=>?_⟩
 refine (c (fun e=>h0 ?_) h).elim
 rw [← byt_length,e]; rfl
theorem Parts.text0 {v:Nat} {ps:List ByteArray} (h:Parts v 0 ps) {s:ByteArray} (hs:byt s = (catB ps).dropWhile (· == 48)) (h0:s.size = 0) {z:ByteArray} (hz:byt z = [48]):IsText z v:=by
 obtain ⟨h1,h2⟩:=h
 obtain ⟨a,b,c⟩:=dropZ _ h1
 rw [← hs] at b
 have hn:byt s = []:=List.length_eq_zero_iff.1 (by rw [byt_length]; exact h0)
 have hv:v = 0:=by rw [← h2,Nat.zero_mul,Nat.zero_add,← b,hn]; rfl
 have hzs:z.size = 1:=by rw [← byt_length,hz]; rfl
 refine ⟨by rw [hz]; rfl,by rw [hz,hv]; rfl,by omega,fun _=>hzs⟩
end Gs
