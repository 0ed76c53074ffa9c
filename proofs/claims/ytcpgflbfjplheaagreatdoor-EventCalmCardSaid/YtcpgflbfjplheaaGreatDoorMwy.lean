import Derived.Test.YtcpgflbfjplheaaGreatDoorMvy
import Derived.Test.YtcpgflbfjplheaaGreatDoorMcy
namespace Gs
open Go Go.RowKit
structure RShl (l:List Nat) (f s i:Nat) (o:List Nat):Prop where
 len:o.length = f + l.length + 1
 lt:Lt 4294967296 o
 top:gd o (f + i) < 2 ^ s
 z:∀ j,f + i < j → gd o j = 0
 eq:val 4294967296 o = val 4294967296 (l.take i) * (2 ^ s * 4294967296 ^ f)
theorem RShl.start (l:List Nat) (f s:Nat):RShl l f s 0 (List.replicate (f + l.length + 1) 0) :=
 ⟨by simp,Lt.replicate (by omega) _,by rw [gd_replicate]; exact Nat.two_pow_pos _,fun j _=>gd_replicate _ j,by rw [val_replicate]; simp [val]⟩
theorem RShl.step {l:List Nat} {f s i:Nat} {o:List Nat} (h:RShl l f s i o) (hl:Lt 4294967296 l) (hs:s < 32) (hi:i < l.length) :
 RShl l f s (i + 1) ((o.set (f + i) (gd l i % 2 ^ (32 - s) * 2 ^ s + gd o (f + i))).set (f + i + 1) (gd l i / 2 ^ (32 - s))):=by
 have h1:=hl.gd (by omega) i
 have hp:2 ^ (32 - s) * 2 ^ s = 4294967296:=by rw [← Nat.pow_add,show 32 - s + s = 32 by omega]
 have hd:=Nat.mod_add_div (gd l i) (2 ^ (32 - s))
 have hm:=Nat.mod_lt (gd l i) (Nat.two_pow_pos (32 - s))
 have hlow:gd l i % 2 ^ (32 - s) * 2 ^ s + gd o (f + i) < 4294967296:=by
  have h2:(gd l i % 2 ^ (32 - s) + 1) * 2 ^ s ≤ 2 ^ (32 - s) * 2 ^ s:=Nat.mul_le_mul_right _ hm
  have:=h.top
  rw [hp,Nat.add_mul,Nat.one_mul] at h2
  omega
 have hhi:gd l i / 2 ^ (32 - s) < 2 ^ s:=by
  rw [Nat.div_lt_iff_lt_mul (Nat.two_pow_pos _),Nat.mul_comm,hp]
  exact h1
 have hhi2:gd l i / 2 ^ (32 - s) < 4294967296:=Nat.lt_of_lt_of_le hhi (by rw [show (4294967296:Nat) = 2 ^ 32 from rfl]; exact Nat.pow_le_pow_right (by omega) (by omega))
 refine ⟨by simp [h.len],(h.lt.set _ hlow).set _ hhi2,?_,fun j hj=>?_,?_⟩
 ·rw [show f + (i + 1) = f + i + 1 by omega,gd_set_self (by rw [List.length_set,h.len]; omega)]
  exact hhi
 ·rw [gd_set_ne (by omega),gd_set_ne (by omega)]
  exact h.z j (by omega)
 ·have e1:=val_set 4294967296 o (f + i) (gd l i % 2 ^ (32 - s) * 2 ^ s + gd o (f + i)) (by rw [h.len]; omega)
  have e2:=val_set 4294967296 (o.set (f + i) (gd l i % 2 ^ (32 - s) * 2 ^ s + gd o (f + i))) (f + i + 1) (gd l i / 2 ^ (32 - s)) (by rw [List.length_set,h.len]; omega)
  have hz1:gd (o.set (f + i) (gd l i % 2 ^ (32 - s) * 2 ^ s + gd o (f + i))) (f + i + 1) = 0:=by rw [gd_set_ne (by omega)]; exact h.z _ (by omega)
  rw [hz1,Nat.mul_zero,Nat.add_zero] at e2
  rw [e2,val_take_succ]
  have e3:=h.eq
  have hp2:4294967296 ^ (f + i + 1) = 4294967296 ^ f * 4294967296 ^ i * (2 ^ (32 - s) * 2 ^ s):=by rw [hp,Nat.pow_succ,Nat.pow_add]
  rw [hp2,Nat.pow_add] at *
  generalize gd l i % 2 ^ (32 - s) = m at *
  generalize gd l i / 2 ^ (32 - s) = q at *
  generalize 4294967296 ^ f = F at *
  generalize 4294967296 ^ i = I at *
  generalize 2 ^ (32 - s) = T at *
  generalize 2 ^ s = S at *
  rw [← hd]
  grind
theorem RShl.last {l:List Nat} {f s k:Nat} {o:List Nat} (h:RShl l f s l.length o) (hk:32 * f + s = k):val 4294967296 o = val 4294967296 l * 2 ^ k:=by
 rw [h.eq,List.take_of_length_le (Nat.le_refl _),← hk,show (4294967296:Nat) = 2 ^ 32 from rfl,← Nat.pow_mul,← Nat.pow_add,Nat.add_comm]
end Gs
