import Derived.Test.YtcpgflbfjplheaaGreatDoorMey
namespace Gs
open Go
structure KInv (A V:Nat) (i:Nat) (u q:List Nat):Prop where
 ltu:Lt 18446744073709551616 u
 ltq:Lt 18446744073709551616 q
 eq:val 18446744073709551616 u + V * 18446744073709551616 ^ i * val 18446744073709551616 (q.drop i) = A
 top:val 18446744073709551616 (u.drop i) < V
variable {A V i n:Nat} {u q:List Nat}
theorem KInv.part (h:KInv A V (i + 1) u q) (hV:V < 18446744073709551616 ^ n) (hl:i + n + 1 ≤ u.length) :
 val 18446744073709551616 (u.drop i) = val 18446744073709551616 ((u.drop i).take (n + 1)) ∧ val 18446744073709551616 ((u.drop i).take (n + 1)) < 18446744073709551616 * V:=by
 have h1:=val_drop 18446744073709551616 u i
 have h2:=h.ltu.gd (by omega) i
 have h3:=h.top
 have h4:val 18446744073709551616 (u.drop i) < 18446744073709551616 * V:=by
  have:18446744073709551616 * (val 18446744073709551616 (u.drop (i + 1)) + 1) ≤ 18446744073709551616 * V:=Nat.mul_le_mul_left _ h3
  omega
 have h5:=val_take_drop 18446744073709551616 (u.drop i) (n + 1) (by rw [List.length_drop]; omega)
 have h6:18446744073709551616 * V < 18446744073709551616 ^ (n + 1):=by
  rw [Nat.pow_succ,Nat.mul_comm]
  exact Nat.mul_lt_mul_of_pos_right hV (by omega)
 rcases Nat.eq_zero_or_pos (val 18446744073709551616 ((u.drop i).drop (n + 1))) with h7 | h7
 ·rw [h7,Nat.mul_zero,Nat.add_zero] at h5
  exact ⟨h5,by rw [← h5]; exact h4⟩
 ·exfalso
  have:18446744073709551616 ^ (n + 1) * 1 ≤ 18446744073709551616 ^ (n + 1) * val 18446744073709551616 ((u.drop i).drop (n + 1)):=Nat.mul_le_mul_left _ h7
  omega
theorem KInv.step (h:KInv A V (i + 1) u q) (hV:V < 18446744073709551616 ^ n) (hl:i + n + 1 ≤ u.length) {u':List Nat} {d:Nat} (hp:PartTo u u' i (n + 1))
 (e:val 18446744073709551616 ((u.drop i).take (n + 1)) = val 18446744073709551616 ((u'.drop i).take (n + 1)) + d * V) (ht:val 18446744073709551616 ((u'.drop i).take (n + 1)) < V) {q':List Nat} (hq1:q'.drop (i + 1) = q.drop (i + 1)) (hq2:gd q' i = d) (hq3:Lt 18446744073709551616 q') :
 KInv A V i u' q':=by
 obtain ⟨h1,h2⟩:=h.part hV hl
 have h3:=val_take_drop 18446744073709551616 (u.drop i) (n + 1) (by rw [List.length_drop]; omega)
 have h4:=val_take_drop 18446744073709551616 (u'.drop i) (n + 1) (by rw [List.length_drop,hp.len]; omega)
 rw [List.drop_drop] at h3 h4
 have h5:val 18446744073709551616 (u.drop (i + (n + 1))) = 0 ∨ 18446744073709551616 ^ (n + 1) = 0:=by
  have:18446744073709551616 ^ (n + 1) * val 18446744073709551616 (u.drop (i + (n + 1))) = 0:=by omega
  rcases Nat.mul_eq_zero.1 this with h | h
  ·exact .inr h
  ·exact .inl h
 have h6:val 18446744073709551616 (u.drop (i + (n + 1))) = 0:=h5.resolve_right (Nat.ne_of_gt (Nat.pow_pos (by omega)))
 rw [hp.post,h6,Nat.mul_zero,Nat.add_zero] at h4
 refine ⟨hp.lt,hq3,?_,by rw [h4]; exact ht⟩
 have h7:=val_take_drop 18446744073709551616 u i (by omega)
 have h8:=val_take_drop 18446744073709551616 u' i (by rw [hp.len]; omega)
 rw [hp.pre,h4] at h8
 rw [h1,e] at h7
 have h9:=h.eq
 rw [val_drop _ q' i,hq1,hq2,h8]
 rw [h7,Nat.pow_succ] at h9
 generalize val 18446744073709551616 ((u'.drop i).take (n + 1)) = r at *
 generalize 18446744073709551616 ^ i = K at *
 generalize val 18446744073709551616 (q.drop (i + 1)) = z at *
 rw [← h9]
 grind
theorem KInv.last (h:KInv A V 0 u q):val 18446744073709551616 q = A / V ∧ val 18446744073709551616 u = A % V:=by
 have h1:=h.eq
 have h2:=h.top
 rw [Nat.pow_zero,Nat.mul_one,List.drop_zero] at h1
 rw [List.drop_zero] at h2
 rw [← h1]
 constructor
 ·rw [Nat.add_comm,Nat.mul_add_div (by omega),Nat.div_eq_of_lt h2,Nat.add_zero]
 ·rw [Nat.add_comm,Nat.mul_add_mod,Nat.mod_eq_of_lt h2]
structure OverInv (U0 V n:Nat) (u1:List Nat) (i d ov:Nat):Prop where
 d1:d < 18446744073709551616
 ge:U0 / V ≤ d
 ov1:ov ≤ 1
 eq:U0 + 18446744073709551616 ^ (n + 1) * ov = val 18446744073709551616 ((u1.drop i).take (n + 1)) + d * V
variable {U0 d ov:Nat} {u1:List Nat}
theorem OverInv.more (h:OverInv U0 V n u1 i d 1) (hl:Lt 18446744073709551616 u1):U0 / V < d:=by
 have h1:=h.eq
 have h2:=val_lt ((hl.drop i).take (n + 1))
 have h3:val 18446744073709551616 ((u1.drop i).take (n + 1)) < 18446744073709551616 ^ (n + 1):=Nat.lt_of_lt_of_le h2 (Nat.pow_le_pow_right (by omega) (by rw [List.length_take]; omega))
 have h4:U0 < d * V:=by
  clear h2
  rw [Nat.mul_one] at h1
  generalize 18446744073709551616 ^ (n + 1) = K at *
  generalize val 18446744073709551616 ((u1.drop i).take (n + 1)) = x at *
  generalize d * V = z at *
  omega
 exact Nat.div_lt_of_lt_mul (by rw [Nat.mul_comm]; exact h4)
theorem OverInv.step (h:OverInv U0 V n u1 i d 1) (hl:Lt 18446744073709551616 u1) {u2:List Nat} {c:Nat} (hc:c ≤ 1)
 (e:val 18446744073709551616 ((u2.drop i).take (n + 1)) + 18446744073709551616 ^ (n + 1) * c = val 18446744073709551616 ((u1.drop i).take (n + 1)) + V):OverInv U0 V n u2 i (d - 1) (1 - c):=by
 have h0:=h.more hl
 have h1:=h.eq
 have h2:=h.d1
 have hd:=Nat.lt_of_le_of_lt (Nat.zero_le _) h0
 obtain ⟨p,rfl⟩:∃ p,d = p + 1:=⟨d - 1,by omega⟩
 rw [Nat.add_mul] at h1
 refine ⟨by omega,Nat.le_of_lt_succ h0,by omega,?_⟩
 rw [Nat.add_sub_cancel]
 have:c = 0 ∨ c = 1:=by omega
 rcases this with rfl | rfl
 ·simp only [Nat.sub_zero,Nat.mul_one,Nat.mul_zero] at *; omega
 ·simp only [Nat.sub_self,Nat.mul_one,Nat.mul_zero] at *; omega
theorem OverInv.last (h:OverInv U0 V n u1 i d 0) (hV:0 < V):U0 = val 18446744073709551616 ((u1.drop i).take (n + 1)) + d * V ∧ val 18446744073709551616 ((u1.drop i).take (n + 1)) < V:=by
 have h1:=h.eq
 have h2:=h.ge
 rw [Nat.mul_zero,Nat.add_zero] at h1
 refine ⟨h1,?_⟩
 generalize val 18446744073709551616 ((u1.drop i).take (n + 1)) = r at *
 rcases Nat.lt_or_ge r V with h3 | h3
 ·exact h3
 ·exfalso
  have:(d + 1) * V ≤ U0:=by rw [Nat.add_mul]; omega
  have:=(Nat.le_div_iff_mul_le hV).2 this
  omega
theorem over_start {U0 V n G d i:Nat} {O:List Nat} (hO:Lt 18446744073709551616 O) (hd:d ≤ 1) (hG:G < 18446744073709551616) (eq:U0 + 18446744073709551616 ^ (n + 1) * d = val 18446744073709551616 ((O.drop i).take (n + 1)) + G * V) (h:¬ U0 < 18446744073709551616 * V):d = 0:=by
 have h2:=val_lt ((hO.drop i).take (n + 1))
 have h3:val 18446744073709551616 ((O.drop i).take (n + 1)) < 18446744073709551616 ^ (n + 1):=Nat.lt_of_lt_of_le h2 (Nat.pow_le_pow_right (by omega) (by rw [List.length_take]; omega))
 have h4:G * V ≤ 18446744073709551616 * V:=Nat.mul_le_mul_right _ (by omega)
 clear h2
 generalize 18446744073709551616 ^ (n + 1) = K at *
 generalize val 18446744073709551616 ((O.drop i).take (n + 1)) = x at *
 generalize G * V = z at *
 rcases (show d = 0 ∨ d = 1 by omega) with rfl | rfl
 ·rfl
 ·omega
theorem PartTo.trans {o O O2:List Nat} {i n:Nat} (h:PartTo o O i n) (k:PartTo O O2 i n):PartTo o O2 i n:=⟨k.len.trans h.len,k.lt,k.pre.trans h.pre,k.post.trans h.post⟩
theorem shl_len_top {b by_ n:Nat} (hn:(limbs 18446744073709551616 b).length = n + 1) (hb:by_ = 64 - blen (gd (limbs 18446744073709551616 b) n)):(limbs 18446744073709551616 (b * 2 ^ by_)).length = n + 1:=by
 have hlt:=limbs_lt B64 b
 have hc:=limbs_can B64 b
 have hx:gd (limbs 18446744073709551616 b) n ≠ 0:=(can_iff hn).1 hc
 have hx2:=hlt.gd (by omega) n
 have h1:=blen_val hlt hn hx
 rw [val_limbs B64] at h1
 have h2:=lt_blen b
 have h3:=blen_u64 hx2
 have h4:=blen_pos hx
 apply Nat.le_antisymm
 ·apply limbs_len_le B64
  have:b * 2 ^ by_ < 2 ^ blen b * 2 ^ by_:=Nat.mul_lt_mul_of_pos_right h2 (Nat.two_pow_pos _)
  rw [← Nat.pow_add,h1] at this
  have e:18446744073709551616 ^ (n + 1) = 2 ^ (64 * (n + 1)):=by rw [Nat.pow_mul]
  rw [e]
  exact Nat.lt_of_lt_of_le this (Nat.pow_le_pow_right (by omega) (by omega))
 ·rw [← hn]
  exact limbs_len_mono B64 (Nat.le_mul_of_pos_right _ (Nat.two_pow_pos _))
theorem shl_len_le {a by_ N:Nat} (ha:(limbs 18446744073709551616 a).length ≤ N) (hb:by_ ≤ 63):(limbs 18446744073709551616 (a * 2 ^ by_)).length ≤ N + 1:=by
 apply limbs_len_le B64
 have h1:=lt_of_limbs_len B64 ha
 have h2:(2:Nat) ^ by_ ≤ 2 ^ 63:=Nat.pow_le_pow_right (by omega) hb
 rw [Nat.pow_succ]
 exact Nat.lt_of_lt_of_le (Nat.mul_lt_mul_of_pos_right h1 (Nat.two_pow_pos _)) (Nat.mul_le_mul_left _ (by omega))
theorem KInv.start {a b by_ N m:Nat} {u q:List Nat} (hu:Lt 18446744073709551616 u) (hq:Lt 18446744073709551616 q) (hv:val 18446744073709551616 u = a * 2 ^ by_) (hql:q.length = m)
 (ha:a < 18446744073709551616 ^ N) (hm:m + n = N + 1) (hn:1 ≤ n) (hb:18446744073709551616 ^ (n - 1) ≤ b) (hul:u.length = N + 1):KInv (a * 2 ^ by_) (b * 2 ^ by_) m u q:=by
 refine ⟨hu,hq,by rw [List.drop_of_length_le (by omega)]; simp [val,hv],?_⟩
 have h1:=val_take_drop 18446744073709551616 u m (by omega)
 rw [hv] at h1
 have h2:18446744073709551616 ^ m * val 18446744073709551616 (u.drop m) ≤ a * 2 ^ by_:=by omega
 have h3:a * 2 ^ by_ < 18446744073709551616 ^ m * (b * 2 ^ by_):=by
  have e:18446744073709551616 ^ N = 18446744073709551616 ^ m * 18446744073709551616 ^ (n - 1):=by rw [← Nat.pow_add]; congr 1; omega
  have:a < 18446744073709551616 ^ m * b:=Nat.lt_of_lt_of_le ha (by rw [e]; exact Nat.mul_le_mul_left _ hb)
  rw [← Nat.mul_assoc]
  exact Nat.mul_lt_mul_of_pos_right this (Nat.two_pow_pos _)
 exact Nat.lt_of_mul_lt_mul_left (Nat.lt_of_le_of_lt h2 h3)
end Gs
