import Derived.Test.YtcpgflbfjplheaaGreatDoorMcy
import Derived.Lib.BitFns
import Derived.Laws.BitsLemmas
namespace Gs
open Go
structure HalfPre (yn1 yn0 un un1:Nat):Prop where
 y1:2147483648 ≤ yn1
 y2:yn1 < 4294967296
 y3:yn0 < 4294967296
 u1:un1 < 4294967296
 u:un < yn1 * 4294967296 + yn0
structure Half (yn1 yn0 un un1 q r:Nat):Prop where
 eq:un = q * yn1 + r
 rlt:r < 4294967296
 ge:(un * 4294967296 + un1) / (yn1 * 4294967296 + yn0) ≤ q
 le:q ≤ 4294967297
variable {yn1 yn0 un un1 q r:Nat}
theorem HalfPre.start (h:HalfPre yn1 yn0 un un1):Half yn1 yn0 un un1 (un / yn1) (un - un / yn1 * yn1):=by
 have h1:=h.y1
 have h2:=h.y2
 have h3:=h.y3
 have h4:=h.u1
 have h5:=h.u
 have h6:=Nat.mod_add_div un yn1
 rw [Nat.mul_comm] at h6
 have h7:=Nat.mod_lt un (show 0 < yn1 by omega)
 refine ⟨by omega,by omega,?_,?_⟩
 ·rw [Nat.le_div_iff_mul_le (by omega)]
  have h8:=Nat.div_mul_le_self (un * 4294967296 + un1) (yn1 * 4294967296 + yn0)
  generalize (un * 4294967296 + un1) / (yn1 * 4294967296 + yn0) = Q at *
  have h10:Q * (yn1 * 4294967296 + yn0) = Q * yn1 * 4294967296 + Q * yn0:=by grind
  rw [h10] at h8
  clear h10
  generalize Q * yn1 = z at *
  omega
 ·have:un / yn1 < 4294967298:=by
   rw [Nat.div_lt_iff_lt_mul (by omega)]
   omega
  omega
theorem Half.qy (h:Half yn1 yn0 un un1 q r):q * (yn1 * 4294967296 + yn0) + r * 4294967296 = un * 4294967296 + q * yn0:=by
 have h1:=h.eq
 rw [h1]
 grind
theorem HalfPre.lt (h:HalfPre yn1 yn0 un un1):(un * 4294967296 + un1) / (yn1 * 4294967296 + yn0) < 4294967296:=by
 have h1:=h.y1
 have h4:=h.u1
 have h5:=h.u
 rw [Nat.div_lt_iff_lt_mul (by omega)]
 omega
theorem Half.no (hp:HalfPre yn1 yn0 un un1) (h:Half yn1 yn0 un un1 q r) (ht:q * yn0 ≤ 4294967296 * r + un1):(un * 4294967296 + un1) / (yn1 * 4294967296 + yn0) = q:=by
 have h1:=h.qy
 have h2:=h.ge
 have h3:q ≤ (un * 4294967296 + un1) / (yn1 * 4294967296 + yn0):=by
  rw [Nat.le_div_iff_mul_le (by have:=hp.y1; omega)]
  generalize q * yn0 = z at *
  omega
 omega
theorem Half.yes1 (hp:HalfPre yn1 yn0 un un1) (ht:4294967296 ≤ q):(un * 4294967296 + un1) / (yn1 * 4294967296 + yn0) < q:=Nat.lt_of_lt_of_le hp.lt ht
theorem Half.yes2 (hp:HalfPre yn1 yn0 un un1) (h:Half yn1 yn0 un un1 q r) (ht:4294967296 * r + un1 < q * yn0):(un * 4294967296 + un1) / (yn1 * 4294967296 + yn0) < q:=by
 have h1:=h.qy
 rw [Nat.div_lt_iff_lt_mul (by have:=hp.y1; omega)]
 generalize q * yn0 = z at *
 generalize q * (yn1 * 4294967296 + yn0) = z2 at *
 omega
theorem Half.on (h:Half yn1 yn0 un un1 q r) (ht:(un * 4294967296 + un1) / (yn1 * 4294967296 + yn0) < q) (hr:r + yn1 < 4294967296):Half yn1 yn0 un un1 (q - 1) (r + yn1):=by
 have hq0:0 < q:=Nat.lt_of_le_of_lt (Nat.zero_le _) ht
 obtain ⟨p,rfl⟩:∃ p,q = p + 1:=⟨q - 1,(Nat.sub_one_add_one (Nat.ne_of_gt hq0)).symm⟩
 have h1:=h.eq
 have h2:=h.le
 refine ⟨?_,hr,Nat.le_of_lt_succ ht,by omega⟩
 rw [Nat.add_mul] at h1
 simp only [Nat.add_sub_cancel]
 omega
theorem Half.off (hp:HalfPre yn1 yn0 un un1) (h:Half yn1 yn0 un un1 q r) (ht:(un * 4294967296 + un1) / (yn1 * 4294967296 + yn0) < q) (hr:4294967296 ≤ r + yn1):(un * 4294967296 + un1) / (yn1 * 4294967296 + yn0) = q - 1:=by
 have hq0:0 < q:=Nat.lt_of_le_of_lt (Nat.zero_le _) ht
 obtain ⟨p,rfl⟩:∃ p,q = p + 1:=⟨q - 1,(Nat.sub_one_add_one (Nat.ne_of_gt hq0)).symm⟩
 have h1:=h.eq
 have h2:=h.le
 have h4:=hp.y3
 simp only [Nat.add_sub_cancel]
 have h3:p ≤ (un * 4294967296 + un1) / (yn1 * 4294967296 + yn0):=by
  rw [Nat.le_div_iff_mul_le (by have:=hp.y1; omega),Nat.mul_add,← Nat.mul_assoc]
  have h5:p * yn0 ≤ 4294967296 * 4294967295:=Nat.mul_le_mul (by omega) (by omega)
  rw [Nat.add_mul] at h1
  generalize p * yn1 = z at *
  generalize p * yn0 = z2 at *
  omega
 exact Nat.le_antisymm (Nat.le_of_lt_succ ht) h3
theorem half_rest (a c d q y:Nat) (hle:q * y ≤ a * c + d) (hlt:a * c + d - q * y < 18446744073709551616) :
 IntKind.u64.wrap (IntKind.u64.wrap (IntKind.u64.wrap ((a:Int) * (c:Int)) + (d:Int)) - IntKind.u64.wrap ((q:Int) * (y:Int))) = ((a * c + d - q * y:Nat):Int):=by
 have e1:(a:Int) * (c:Int) = ((a * c:Nat):Int):=by simp
 have e2:(q:Int) * (y:Int) = ((q * y:Nat):Int):=by simp
 rw [e1,e2]
 simp only [IntKind.wrap_u64]
 generalize a * c = z at *
 generalize q * y = z2 at *
 omega
def blen (n:Nat):Nat:=if n = 0 then 0 else n.log2 + 1
theorem blen_zero:blen 0 = 0:=rfl
theorem lt_blen (n:Nat):n < 2 ^ blen n:=by
 unfold blen
 split
 ·omega
 ·exact Nat.lt_log2_self
theorem blen_le {n:Nat} (h:n ≠ 0):2 ^ (blen n - 1) ≤ n:=by
 unfold blen
 rw [if_neg h,Nat.add_sub_cancel]
 exact Nat.log2_self_le h
theorem blen_pos {n:Nat} (h:n ≠ 0):0 < blen n:=by unfold blen; rw [if_neg h]; omega
theorem blen_unique {n k:Nat} (h1:2 ^ k ≤ n) (h2:n < 2 ^ (k + 1)):blen n = k + 1:=by
 have h0:n ≠ 0:=by have:=Nat.two_pow_pos k; omega
 have a:=lt_blen n
 have b:=blen_le h0
 have c:=blen_pos h0
 rcases Nat.lt_trichotomy (blen n) (k + 1) with h | h | h
 ·have:2 ^ blen n ≤ 2 ^ k:=Nat.pow_le_pow_right (by omega) (by omega)
  omega
 ·exact h
 ·have:2 ^ (k + 1) ≤ 2 ^ (blen n - 1):=Nat.pow_le_pow_right (by omega) (by omega)
  omega
theorem blen_half {n:Nat} (h:n ≠ 0):blen n = 1 + blen (n / 2):=by
 rcases Nat.eq_zero_or_pos (n / 2) with h1 | h1
 ·have:n = 1:=by omega
  subst this; rfl
 ·have a:=lt_blen (n / 2)
  have b:=blen_le (show n / 2 ≠ 0 by omega)
  have c:=blen_pos (show n / 2 ≠ 0 by omega)
  obtain ⟨k,hk⟩:∃ k,blen (n / 2) = k + 1:=⟨blen (n / 2) - 1,by omega⟩
  rw [hk,Nat.add_sub_cancel] at b
  rw [hk] at a ⊢
  rw [Nat.add_comm 1]
  exact blen_unique (by rw [Nat.pow_succ]; omega) (by rw [Nat.pow_succ]; omega)
theorem bitLen_blen : ∀ (f n : Nat), n < 2 ^ f → f ≤ 64 → Lib.bitLen n = blen n := by
  intro f
  induction f with
  | zero => intro n h _; have : n = 0 := by simpa using h
            subst this; rfl
  | succ f ih =>
    intro n h hf
    by_cases h0 : n = 0
    · subst h0; rfl
    · have h64 : n < 2 ^ 64 := Nat.lt_of_lt_of_le h (Nat.pow_le_pow_right (by omega) hf)
      rw [Lib.bitLen_half n h0 h64, blen_half h0, ih (n / 2) (by rw [Nat.pow_succ] at h; omega) (by omega)]
theorem bitLen_u64 {n:Nat} (h:n < 18446744073709551616):Lib.bitLen n = blen n:=bitLen_blen 64 n h (by omega)
theorem blen_u64 {n:Nat} (h:n < 18446744073709551616):blen n ≤ 64:=by
 by_cases h0:n = 0
 ·subst h0; rw [blen_zero]; omega
 ·have:=blen_le h0
  rcases Nat.lt_or_ge 64 (blen n) with h1 | h1
  ·have:2 ^ 64 ≤ 2 ^ (blen n - 1):=Nat.pow_le_pow_right (by omega) (by omega)
   omega
  ·exact h1
theorem norm_le {y:Nat} (h0:y ≠ 0) (h:y < 18446744073709551616):9223372036854775808 ≤ y * 2 ^ (64 - blen y) ∧ y * 2 ^ (64 - blen y) < 18446744073709551616:=by
 have h1:=blen_u64 h
 have h2:=blen_le h0
 have h3:=lt_blen y
 have h4:=blen_pos h0
 constructor
 ·have:2 ^ (blen y - 1) * 2 ^ (64 - blen y) ≤ y * 2 ^ (64 - blen y):=Nat.mul_le_mul_right _ h2
  rw [← Nat.pow_add,show blen y - 1 + (64 - blen y) = 63 by omega] at this
  exact this
 ·have:y * 2 ^ (64 - blen y) < 2 ^ blen y * 2 ^ (64 - blen y):=Nat.mul_lt_mul_of_pos_right h3 (Nat.two_pow_pos _)
  rw [← Nat.pow_add,show blen y + (64 - blen y) = 64 by omega] at this
  exact this
theorem div_high {hi lo y s:Nat} (hs:s ≤ 63) (hy:y * 2 ^ s < 18446744073709551616) (hh:hi < y) (hlo:lo < 18446744073709551616) :
 bits .or .u64 (IntKind.u64.wrap ((hi:Int) * 2 ^ s)) ((lo:Int) / 2 ^ (64 - s)) = ((hi * 2 ^ s + lo / 2 ^ (64 - s):Nat):Int) ∧ hi * 2 ^ s + lo / 2 ^ (64 - s) < y * 2 ^ s:=by
 have h1:(hi + 1) * 2 ^ s ≤ y * 2 ^ s:=Nat.mul_le_mul_right _ hh
 rw [Nat.add_mul,Nat.one_mul] at h1
 have h2:=div_pow_lt (show s < 64 by omega) hlo
 have h6:hi * 2 ^ s < 18446744073709551616:=Nat.lt_of_le_of_lt (Nat.le_trans (Nat.le_add_right _ _) h1) hy
 refine ⟨?_,by
  generalize lo / 2 ^ (64 - s) = g at *
  generalize hi * 2 ^ s = z at *
  generalize y * 2 ^ s = z2 at *
  omega⟩
 have e1:IntKind.u64.wrap ((hi:Int) * 2 ^ s) = ((hi * 2 ^ s:Nat):Int):=by
  have:((hi:Int) * 2 ^ s) = ((hi * 2 ^ s:Nat):Int):=by simp
  rw [this,wrap_u64_nat,Nat.mod_eq_of_lt h6]
 have e2:(lo:Int) / 2 ^ (64 - s) = ((lo / 2 ^ (64 - s):Nat):Int):=by simp
 rw [e1,e2]
 have h3:hi < 2 ^ (64 - s):=by
  have h4:=two64 (show s < 64 by omega)
  rcases Nat.lt_or_ge hi (2 ^ (64 - s)) with h5 | h5
  ·exact h5
  ·have h7:2 ^ s * 2 ^ (64 - s) ≤ hi * 2 ^ s:=by rw [Nat.mul_comm]; exact Nat.mul_le_mul_right _ h5
   rw [h4] at h7
   exact absurd h6 (Nat.not_lt.2 h7)
 exact or_join (by omega) h2 h3
theorem div_low {lo s:Nat}:IntKind.u64.wrap ((lo:Int) * 2 ^ s) = ((lo * 2 ^ s % 18446744073709551616:Nat):Int):=by
 have:((lo:Int) * 2 ^ s) = ((lo * 2 ^ s:Nat):Int):=by simp
 rw [this,wrap_u64_nat]
theorem div_whole {hi lo s:Nat} (hs:s ≤ 63):(hi * 18446744073709551616 + lo) * 2 ^ s = (hi * 2 ^ s + lo / 2 ^ (64 - s)) * 18446744073709551616 + lo * 2 ^ s % 18446744073709551616:=by
 have h1:=Nat.mod_add_div (lo * 2 ^ s) 18446744073709551616
 rw [mul_pow_div (show s < 64 by omega)] at h1
 generalize lo / 2 ^ (64 - s) = z at *
 generalize 2 ^ s = t at *
 rw [Nat.add_mul,Nat.add_mul]
 have:hi * 18446744073709551616 * t = hi * t * 18446744073709551616:=by grind
 omega
theorem and_mask (x:Nat) (h:x < 18446744073709551616):bits .and .u64 (x:Int) 4294967295 = ((x % 4294967296:Nat):Int):=by
 have:=bits_and_u64_nat x 4294967295 h (by omega)
 rw [show ((4294967295:Nat):Int) = 4294967295 by rfl] at this
 rw [this]
 congr 1
 exact Nat.and_two_pow_sub_one_eq_mod x 32
theorem two_halves {U y a b:Nat} (hy:0 < y) :
 (U * 4294967296 + a) / y * 4294967296 + ((U * 4294967296 + a) % y * 4294967296 + b) / y = (U * 18446744073709551616 + (a * 4294967296 + b)) / y ∧
  ((U * 4294967296 + a) % y * 4294967296 + b) % y = (U * 18446744073709551616 + (a * 4294967296 + b)) % y:=by
 have h1:=Nat.mod_add_div (U * 4294967296 + a) y
 obtain ⟨q,hq⟩:∃ q,q = (U * 4294967296 + a) / y:=⟨_,rfl⟩
 obtain ⟨r,hr⟩:∃ r,r = (U * 4294967296 + a) % y:=⟨_,rfl⟩
 rw [← hq,← hr] at h1 ⊢
 clear hq hr
 have h2:U * 18446744073709551616 + (a * 4294967296 + b) = y * (q * 4294967296) + (r * 4294967296 + b):=by grind
 rw [h2]
 exact ⟨(Nat.mul_add_div hy _ _).symm,(Nat.mul_add_mod _ _ _).symm⟩
end Gs
