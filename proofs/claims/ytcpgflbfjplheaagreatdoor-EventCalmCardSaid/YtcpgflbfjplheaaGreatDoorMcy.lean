import Derived.Test.YtcpgflbfjplheaaGreatDoorMay
import Derived.Laws.Bits64b
namespace Gs
open Go
theorem two64 {b:Nat} (hb:b < 64):2 ^ b * 2 ^ (64 - b) = 18446744073709551616:=by
 rw [← Nat.pow_add,show b + (64 - b) = 64 by omega]
theorem mul_pow_div {x b:Nat} (hb:b < 64):x * 2 ^ b / 18446744073709551616 = x / 2 ^ (64 - b):=by
 rw [← two64 hb,Nat.mul_comm x,Nat.mul_div_mul_left _ _ (Nat.two_pow_pos b)]
theorem mul_pow_mod {x b:Nat} (hb:b < 64):x * 2 ^ b % 18446744073709551616 = x % 2 ^ (64 - b) * 2 ^ b:=by
 rw [← two64 hb,Nat.mul_comm x,Nat.mul_mod_mul_left,Nat.mul_comm]
theorem div_pow_lt {y b:Nat} (hb:b < 64) (hy:y < 18446744073709551616):y / 2 ^ (64 - b) < 2 ^ b:=by
 rw [Nat.div_lt_iff_lt_mul (Nat.two_pow_pos _),two64 hb]; exact hy
theorem div_pow_lt' {y b:Nat} (hb:b < 64) (hy:y < 18446744073709551616):y / 2 ^ b < 2 ^ (64 - b):=by
 rw [Nat.div_lt_iff_lt_mul (Nat.two_pow_pos _),Nat.mul_comm,two64 hb]; exact hy
theorem wrap_u64_nat (x:Nat):IntKind.u64.wrap (x:Int) = ((x % 18446744073709551616:Nat):Int):=by rw [IntKind.wrap_u64]; omega
theorem join_lt {q r i:Nat} (hi:i ≤ 64) (hr:r < 2 ^ i) (hq:q < 2 ^ (64 - i)):q * 2 ^ i + r < 18446744073709551616:=by
 have h1:(q + 1) * 2 ^ i ≤ 2 ^ (64 - i) * 2 ^ i:=Nat.mul_le_mul_right _ hq
 rw [← Nat.pow_add,show 64 - i + i = 64 by omega,Nat.add_mul,Nat.one_mul] at h1
 omega
theorem or_join {q r i:Nat} (hi:i ≤ 64) (hr:r < 2 ^ i) (hq:q < 2 ^ (64 - i)):bits .or .u64 ((q * 2 ^ i:Nat):Int) (r:Int) = ((q * 2 ^ i + r:Nat):Int):=by
 have h:=join_lt hi hr hq
 rw [bits_or_u64_nat _ _ (by omega) (by omega),Nat.mul_comm,← Nat.two_pow_add_eq_or_of_lt hr q]
theorem or_join' {q r i:Nat} (hi:i ≤ 64) (hr:r < 2 ^ i) (hq:q < 2 ^ (64 - i)):bits .or .u64 (r:Int) ((q * 2 ^ i:Nat):Int) = ((q * 2 ^ i + r:Nat):Int):=by
 have h:=join_lt hi hr hq
 rw [bits_or_u64_nat _ _ (by omega) (by omega),Nat.or_comm,Nat.mul_comm,← Nat.two_pow_add_eq_or_of_lt hr q]
def shlZ (x y b:Nat):Nat:=x * 2 ^ b % 18446744073709551616 + y / 2 ^ (64 - b)
theorem shlZ_lt {x y b:Nat} (hb:b < 64) (hy:y < 18446744073709551616):shlZ x y b < 18446744073709551616:=by
 unfold shlZ
 rw [mul_pow_mod hb]
 exact join_lt (by omega) (div_pow_lt hb hy) (Nat.mod_lt _ (Nat.two_pow_pos _))
theorem shlZ_go {x y b:Nat} (hb:b < 64) (hy:y < 18446744073709551616):bits .or .u64 (IntKind.u64.wrap ((x:Int) * 2 ^ b)) ((y:Int) / 2 / 2 ^ (63 - b)) = (shlZ x y b:Int):=by
 have e1:IntKind.u64.wrap ((x:Int) * 2 ^ b) = ((x * 2 ^ b % 18446744073709551616:Nat):Int):=by
  rw [← wrap_u64_nat]; congr 1
 have e2:(y:Int) / 2 / 2 ^ (63 - b) = ((y / 2 ^ (64 - b):Nat):Int):=by
  have:y / 2 ^ (64 - b) = y / 2 / 2 ^ (63 - b):=by rw [Nat.div_div_eq_div_mul,show 64 - b = (63 - b) + 1 by omega,Nat.pow_succ,Nat.mul_comm]
  rw [this]; simp
 rw [e1,e2]
 unfold shlZ
 rw [mul_pow_mod hb,or_join (by omega) (div_pow_lt hb hy) (Nat.mod_lt _ (Nat.two_pow_pos _))]
theorem shlZ_eq {x b:Nat} (y:Nat) (hb:b < 64):shlZ x y b + 18446744073709551616 * (x / 2 ^ (64 - b)) = x * 2 ^ b + y / 2 ^ (64 - b):=by
 unfold shlZ
 have:=Nat.mod_add_div (x * 2 ^ b) 18446744073709551616
 rw [mul_pow_div hb] at this
 omega
def pv (L:List Nat) (i:Nat):Nat:=if i = 0 then 0 else gd L (i - 1)
theorem pv_lt {L:List Nat} (h:Lt 18446744073709551616 L) (i:Nat):pv L i < 18446744073709551616:=by
 unfold pv; split
 ·omega
 ·exact h.gd (by omega) _
structure ShlInv (L:List Nat) (f b i:Nat) (o:List Nat):Prop where
 len:o.length = f + L.length + 1
 lt:Lt 18446744073709551616 o
 eq:val 18446744073709551616 o + 18446744073709551616 ^ (f + i) * (pv L i / 2 ^ (64 - b)) = 18446744073709551616 ^ f * (val 18446744073709551616 (L.take i) * 2 ^ b)
 far:∀ j,f + i ≤ j → gd o j = 0
theorem gd_zeros (n i:Nat):gd (List.replicate n 0) i = 0:=by
 rcases Nat.lt_or_ge i n with h | h
 ·rw [gd_lt (by simpa using h)]; simp
 ·rw [gd_ge (by simpa using h)]
theorem ShlInv.start (L:List Nat) (f b:Nat):ShlInv L f b 0 (List.replicate (f + L.length + 1) 0) :=
 ⟨by simp,Lt.replicate (by omega) _,by rw [val_replicate]; simp [val,pv],fun j _=>gd_zeros _ _⟩
theorem ShlInv.step {L o:List Nat} {f b i:Nat} (h:ShlInv L f b i o) (hL:Lt 18446744073709551616 L) (hb:b < 64) (hi:i ≤ L.length):ShlInv L f b (i + 1) (o.set (f + i) (shlZ (gd L i) (pv L i) b)):=by
 have hy:=pv_lt hL i
 have e:=shlZ_eq (x:=gd L i) (pv L i) hb
 refine ⟨by rw [List.length_set,h.len],h.lt.set _ (shlZ_lt hb hy),?_,fun j hj=>by rw [gd_set_ne (by omega),h.far j (by omega)]⟩
 have h2:=val_set 18446744073709551616 o (f + i) (shlZ (gd L i) (pv L i) b) (by rw [h.len]; omega)
 rw [h.far _ (Nat.le_refl _),Nat.mul_zero,Nat.add_zero] at h2
 have h3:=h.eq
 have hp:pv L (i + 1) = gd L i:=by unfold pv; rw [if_neg (by omega),Nat.add_sub_cancel]
 rw [h2,hp,val_take_succ,← Nat.add_assoc f i 1,Nat.pow_succ]
 have h4:18446744073709551616 ^ (f + i) = 18446744073709551616 ^ f * 18446744073709551616 ^ i:=Nat.pow_add ..
 generalize shlZ (gd L i) (pv L i) b = z at *
 generalize gd L i / 2 ^ (64 - b) = q at *
 generalize pv L i / 2 ^ (64 - b) = r at *
 generalize 2 ^ b = T at *
 have h5:18446744073709551616 ^ (f + i) * (z + 18446744073709551616 * q) = 18446744073709551616 ^ (f + i) * (gd L i * T + r):=by rw [e]
 have h6:18446744073709551616 ^ f * ((val 18446744073709551616 (L.take i) + 18446744073709551616 ^ i * gd L i) * T) = 18446744073709551616 ^ f * (val 18446744073709551616 (L.take i) * T) + 18446744073709551616 ^ (f + i) * (gd L i * T):=by rw [h4]; grind
 rw [h6]
 generalize 18446744073709551616 ^ (f + i) = Bi at *
 grind
theorem ShlInv.last {L o:List Nat} {f b:Nat} (h:ShlInv L f b (L.length + 1) o):val 18446744073709551616 o = val 18446744073709551616 L * 2 ^ (64 * f + b):=by
 have h1:=h.eq
 have hp:pv L (L.length + 1) = 0:=by unfold pv; rw [if_neg (by omega),Nat.add_sub_cancel,gd_ge (Nat.le_refl _)]
 rw [hp,Nat.zero_div,Nat.mul_zero,Nat.add_zero,List.take_of_length_le (by omega)] at h1
 rw [h1,Nat.pow_add,Nat.pow_mul]
 have:(2:Nat) ^ 64 = 18446744073709551616:=rfl
 rw [this]
 grind
def shrZ (x y b:Nat):Nat:=y % 2 ^ b * 2 ^ (64 - b) + x / 2 ^ b
theorem shrZ_lt {x y b:Nat} (hb:b < 64) (hx:x < 18446744073709551616):shrZ x y b < 18446744073709551616 :=
 join_lt (by omega) (div_pow_lt' hb hx) (by rw [show 64 - (64 - b) = b by omega]; exact Nat.mod_lt _ (Nat.two_pow_pos _))
theorem shrZ_go {x y b:Nat} (hb:b < 64) (hx:x < 18446744073709551616):bits .or .u64 ((x:Int) / 2 ^ b) (IntKind.u64.wrap (IntKind.u64.wrap ((y:Int) * 2) * 2 ^ (63 - b))) = (shrZ x y b:Int):=by
 have e1:(x:Int) / 2 ^ b = ((x / 2 ^ b:Nat):Int):=by simp
 have e2:IntKind.u64.wrap (IntKind.u64.wrap ((y:Int) * 2) * 2 ^ (63 - b)) = ((y % 2 ^ b * 2 ^ (64 - b):Nat):Int):=by
  have h1:((y:Int) * 2) = ((y * 2:Nat):Int):=by simp
  rw [h1,wrap_u64_nat]
  have h2:(((y * 2 % 18446744073709551616:Nat):Int) * 2 ^ (63 - b)) = ((y * 2 % 18446744073709551616 * 2 ^ (63 - b):Nat):Int):=by simp
  rw [h2,wrap_u64_nat]
  congr 1
  rw [Nat.mod_mul_mod,Nat.mul_assoc,← Nat.pow_succ',show (63 - b).succ = 64 - b by omega,← two64 hb,Nat.mul_comm (2 ^ b),Nat.mul_comm y,Nat.mul_mod_mul_left,Nat.mul_comm]
 rw [e1,e2]
 exact or_join' (by omega) (div_pow_lt' hb hx) (by rw [show 64 - (64 - b) = b by omega]; exact Nat.mod_lt _ (Nat.two_pow_pos _))
structure ShrInv (D:List Nat) (b j:Nat) (p:List Nat):Prop where
 len:p.length = j
 lt:Lt 18446744073709551616 p
 eq:val 18446744073709551616 p * 2 ^ b + gd D 0 % 2 ^ b = val 18446744073709551616 (D.take j) + 18446744073709551616 ^ j * (gd D j % 2 ^ b)
theorem ShrInv.start (D:List Nat) (b:Nat):ShrInv D b 0 []:=⟨rfl,Lt.nil _,by simp [val]⟩
theorem ShrInv.step {D p:List Nat} {b j:Nat} (h:ShrInv D b j p) (hD:Lt 18446744073709551616 D) (hb:b < 64):ShrInv D b (j + 1) (p ++ [shrZ (gd D j) (gd D (j + 1)) b]):=by
 have hx:=hD.gd (by omega) j
 refine ⟨by simp [h.len],h.lt.append (Lt.cons (shrZ_lt hb hx) (Lt.nil _)),?_⟩
 have h1:=h.eq
 have h2:=Nat.mod_add_div (gd D j) (2 ^ b)
 have h3:=two64 hb
 rw [val_snoc,val_take_succ,h.len,Nat.pow_succ]
 unfold shrZ
 generalize gd D j / 2 ^ b = q at *
 generalize gd D j % 2 ^ b = r at *
 generalize gd D 0 % 2 ^ b = r0 at *
 generalize gd D (j + 1) % 2 ^ b = r1 at *
 generalize 18446744073709551616 ^ j = Bj at *
 rw [← h2,← h3]
 generalize 2 ^ b = T at *
 generalize 2 ^ (64 - b) = S at *
 grind
theorem ShrInv.last {D p:List Nat} {b j:Nat} (h:ShrInv D b j p) (hj:D.length ≤ j):val 18446744073709551616 p = val 18446744073709551616 D / 2 ^ b:=by
 have h1:=h.eq
 rw [gd_ge hj,Nat.zero_mod,Nat.mul_zero,Nat.add_zero,List.take_of_length_le hj] at h1
 have h2:=Nat.mod_lt (gd D 0) (Nat.two_pow_pos b)
 rw [← h1,Nat.mul_comm,Nat.mul_add_div (Nat.two_pow_pos b),Nat.div_eq_of_lt h2,Nat.add_zero]
theorem val_drop_div {B:Nat} (hB:2 ≤ B) {l:List Nat} (h:Lt B l) (f:Nat):val B (l.drop f) = val B l / B ^ f:=by
 rcases Nat.lt_or_ge f l.length with hf | hf
 ·have h1:=val_take_drop B l f (by omega)
  have h2:=val_lt (h.take f)
  rw [List.length_take,Nat.min_eq_left (by omega)] at h2
  rw [h1,Nat.add_comm,Nat.mul_add_div (Nat.pow_pos (by omega)),Nat.div_eq_of_lt h2,Nat.add_zero]
 ·rw [List.drop_of_length_le hf,val_nil,Nat.div_eq_of_lt]
  exact Nat.lt_of_lt_of_le (val_lt h) (Nat.pow_le_pow_right (by omega) hf)
theorem shr_val {l:List Nat} (h:Lt 18446744073709551616 l) (f b:Nat):val 18446744073709551616 (l.drop f) / 2 ^ b = val 18446744073709551616 l / 2 ^ (64 * f + b):=by
 have:(2:Nat) ^ 64 = 18446744073709551616:=rfl
 rw [val_drop_div B64 h,Nat.div_div_eq_div_mul,Nat.pow_add,Nat.pow_mul,this]
end Gs
