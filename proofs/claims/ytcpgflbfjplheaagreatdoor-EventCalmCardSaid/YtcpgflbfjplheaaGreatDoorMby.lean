import Derived.Test.YtcpgflbfjplheaaGreatDoorMay
namespace Gs
theorem mul_step {x y c o:Nat} (hx:x < 18446744073709551616) (hy:y < 18446744073709551616) (hc:c < 18446744073709551616) (ho:o < 18446744073709551616) :
 x * y / 18446744073709551616 + (x * y % 18446744073709551616 + c) / 18446744073709551616 + (o + (x * y % 18446744073709551616 + c) % 18446744073709551616) / 18446744073709551616 < 18446744073709551616 ∧
  (o + (x * y % 18446744073709551616 + c) % 18446744073709551616) % 18446744073709551616 + 18446744073709551616 * (x * y / 18446744073709551616 + (x * y % 18446744073709551616 + c) / 18446744073709551616 + (o + (x * y % 18446744073709551616 + c) % 18446744073709551616) / 18446744073709551616) = o + x * y + c:=by
 have h1:x * y ≤ 18446744073709551615 * 18446744073709551615:=Nat.mul_le_mul (by omega) (by omega)
 generalize x * y = p at *
 omega
structure MulIn (o0 m:List Nat) (i x k c:Nat) (o:List Nat):Prop where
 len:o.length = o0.length
 lt:Lt 18446744073709551616 o
 c1:c < 18446744073709551616
 eq:val 18446744073709551616 o + 18446744073709551616 ^ (i + k) * c = val 18446744073709551616 o0 + 18446744073709551616 ^ i * (x * val 18446744073709551616 (m.take k))
 far:∀ j,i + m.length ≤ j → gd o j = gd o0 j
theorem MulIn.start {o0:List Nat} (m:List Nat) (i x:Nat) (h:Lt 18446744073709551616 o0):MulIn o0 m i x 0 0 o0:=⟨rfl,h,by omega,by simp [val],fun _ _=>rfl⟩
theorem MulIn.step {o0 m o:List Nat} {i x k c:Nat} (h:MulIn o0 m i x k c o) (hx:x < 18446744073709551616) (hm:Lt 18446744073709551616 m) (hk:k < m.length) (hik:i + k < o0.length) :
 MulIn o0 m i x (k + 1) (x * gd m k / 18446744073709551616 + (x * gd m k % 18446744073709551616 + c) / 18446744073709551616 + (gd o (i + k) + (x * gd m k % 18446744073709551616 + c) % 18446744073709551616) / 18446744073709551616)
  (o.set (i + k) ((gd o (i + k) + (x * gd m k % 18446744073709551616 + c) % 18446744073709551616) % 18446744073709551616)):=by
 have hy:=hm.gd (by omega) k
 have ho:=h.lt.gd (by omega) (i + k)
 obtain ⟨s1,s2⟩:=mul_step hx hy h.c1 ho
 have s0:(gd o (i + k) + (x * gd m k % 18446744073709551616 + c) % 18446744073709551616) % 18446744073709551616 < 18446744073709551616:=Nat.mod_lt _ (by omega)
 generalize (gd o (i + k) + (x * gd m k % 18446744073709551616 + c) % 18446744073709551616) % 18446744073709551616 = s at *
 generalize x * gd m k / 18446744073709551616 + (x * gd m k % 18446744073709551616 + c) / 18446744073709551616 + (gd o (i + k) + (x * gd m k % 18446744073709551616 + c) % 18446744073709551616) / 18446744073709551616 = c' at *
 refine ⟨by rw [List.length_set,h.len],h.lt.set _ s0,s1,?_,fun j hj=>by rw [gd_set_ne (by omega),h.far j hj]⟩
 have h2:=val_set 18446744073709551616 o (i + k) s (by rw [h.len]; exact hik)
 have h3:=h.eq
 rw [val_take_succ,← Nat.add_assoc i k 1,Nat.pow_succ]
 have h4:18446744073709551616 ^ (i + k) = 18446744073709551616 ^ i * 18446744073709551616 ^ k:=Nat.pow_add ..
 generalize 18446744073709551616 ^ (i + k) = B at *
 have h5:B * (s + 18446744073709551616 * c') = B * (gd o (i + k) + x * gd m k + c):=by rw [s2]
 have h6:18446744073709551616 ^ i * (x * (18446744073709551616 ^ k * gd m k)) = B * (x * gd m k):=by rw [h4]; grind
 have h7:18446744073709551616 ^ i * (x * (val 18446744073709551616 (m.take k) + 18446744073709551616 ^ k * gd m k)) = 18446744073709551616 ^ i * (x * val 18446744073709551616 (m.take k)) + B * (x * gd m k):=by rw [Nat.mul_add,Nat.mul_add,h6]
 rw [h7]
 have h8:B * 18446744073709551616 * c' = B * (18446744073709551616 * c'):=Nat.mul_assoc ..
 rw [h8]
 simp only [Nat.mul_add] at h5
 omega
structure MulOut (l m:List Nat) (i:Nat) (o:List Nat):Prop where
 len:o.length = l.length + m.length
 lt:Lt 18446744073709551616 o
 eq:val 18446744073709551616 o = val 18446744073709551616 (l.take i) * val 18446744073709551616 m
 far:∀ j,i + m.length ≤ j → gd o j = 0
theorem gd_replicate (n i:Nat):gd (List.replicate n 0) i = 0:=by
 rcases Nat.lt_or_ge i n with h | h
 ·rw [gd_lt (by simpa using h)]; simp
 ·rw [gd_ge (by simpa using h)]
theorem MulOut.start (l m:List Nat):MulOut l m 0 (List.replicate (l.length + m.length) 0):=⟨by simp,Lt.replicate (by omega) _,by rw [val_replicate]; simp [val],fun j _=>gd_replicate _ _⟩
theorem MulOut.step {l m o0 o:List Nat} {i c:Nat} (h:MulOut l m i o0) (hi:i < l.length) (h':MulIn o0 m i (gd l i) m.length c o):MulOut l m (i + 1) (o.set (i + m.length) c):=by
 have hl:i + m.length < o.length:=by rw [h'.len,h.len]; omega
 refine ⟨by rw [List.length_set,h'.len,h.len],h'.lt.set _ h'.c1,?_,fun j hj=>?_⟩
 ·have h1:=val_set 18446744073709551616 o (i + m.length) c hl
  rw [h'.far _ (Nat.le_refl _),h.far _ (Nat.le_refl _),Nat.mul_zero,Nat.add_zero,h'.eq,h.eq,List.take_length] at h1
  rw [h1,val_take_succ,Nat.add_mul]
  grind
 ·rw [gd_set_ne (by omega),h'.far j (by omega),h.far j (by omega)]
end Gs
