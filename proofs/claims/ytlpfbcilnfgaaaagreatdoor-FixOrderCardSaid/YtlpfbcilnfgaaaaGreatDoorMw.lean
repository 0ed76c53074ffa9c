/- Plain laws behind the reference's shifts. -/
import Derived.Test.YtlpfbcilnfgaaaaGreatDoorMv
import Derived.Test.YtlpfbcilnfgaaaaGreatDoorMc
namespace Gs
open Go Go.RowKit

theorem bits_or_u32_nat (a b : Nat) (ha : a < 4294967296) (hb : b < 4294967296) :
    bits .or .u32 (a : Int) (b : Int) = ((a ||| b : Nat) : Int) := by
  have hx : a ||| b < 2 ^ 32 := Nat.or_lt_two_pow (by omega) (by omega)
  have h1 : (BitVec.ofInt 32 (a : Int)).toNat = a := by
    rw [BitVec.ofInt_natCast, BitVec.toNat_ofNat]; exact Nat.mod_eq_of_lt (by omega)
  have h2 : (BitVec.ofInt 32 (b : Int)).toNat = b := by
    rw [BitVec.ofInt_natCast, BitVec.toNat_ofNat]; exact Nat.mod_eq_of_lt (by omega)
  show IntKind.u32.wrap ((BitVec.ofInt 32 (a : Int) ||| BitVec.ofInt 32 (b : Int)).toNat : Int) = _
  rw [BitVec.toNat_or, h1, h2, IntKind.wrap_u32]
  omega
theorem or32 {q r i : Nat} (hi : i ≤ 32) (hr : r < 2 ^ i) (hq : q < 2 ^ (32 - i)) : bits .or .u32 (r : Int) ((q * 2 ^ i : Nat) : Int) = ((q * 2 ^ i + r : Nat) : Int) := by
  have hlt : q * 2 ^ i + r < 4294967296 := by
    have h1 : (q + 1) * 2 ^ i ≤ 2 ^ (32 - i) * 2 ^ i := Nat.mul_le_mul_right _ hq
    rw [← Nat.pow_add, show 32 - i + i = 32 by omega, Nat.add_mul, Nat.one_mul] at h1
    omega
  rw [bits_or_u32_nat _ _ (by omega) (by omega), Nat.or_comm, Nat.mul_comm, ← Nat.two_pow_add_eq_or_of_lt hr q]
theorem or32_zero {q : Nat} (hq : q < 4294967296) : bits .or .u32 0 (q : Int) = (q : Int) := by
  have := bits_or_u32_nat 0 q (by omega) hq
  rw [Nat.zero_or] at this
  exact this
/-- i rounds of the reference's Shl by f limbs and s bits -/
structure RShl (l : List Nat) (f s i : Nat) (o : List Nat) : Prop where
  len : o.length = f + l.length + 1
  lt : Lt 4294967296 o
  top : gd o (f + i) < 2 ^ s
  z : ∀ j, f + i < j → gd o j = 0
  eq : val 4294967296 o = val 4294967296 (l.take i) * (2 ^ s * 4294967296 ^ f)
theorem RShl.start (l : List Nat) (f s : Nat) : RShl l f s 0 (List.replicate (f + l.length + 1) 0) :=
  ⟨by simp, Lt.replicate (by omega) _, by rw [gd_replicate]; exact Nat.two_pow_pos _, fun j _ => gd_replicate _ j, by rw [val_replicate]; simp [val]⟩
theorem RShl.step {l : List Nat} {f s i : Nat} {o : List Nat} (h : RShl l f s i o) (hl : Lt 4294967296 l) (hs : s < 32) (hi : i < l.length) :
    RShl l f s (i + 1) ((o.set (f + i) (gd l i % 2 ^ (32 - s) * 2 ^ s + gd o (f + i))).set (f + i + 1) (gd l i / 2 ^ (32 - s))) := by
  have h1 := hl.gd (by omega) i
  have hp : 2 ^ (32 - s) * 2 ^ s = 4294967296 := by rw [← Nat.pow_add, show 32 - s + s = 32 by omega]
  have hd := Nat.mod_add_div (gd l i) (2 ^ (32 - s))
  have hm := Nat.mod_lt (gd l i) (Nat.two_pow_pos (32 - s))
  have hlow : gd l i % 2 ^ (32 - s) * 2 ^ s + gd o (f + i) < 4294967296 := by
    have h2 : (gd l i % 2 ^ (32 - s) + 1) * 2 ^ s ≤ 2 ^ (32 - s) * 2 ^ s := Nat.mul_le_mul_right _ hm
    have := h.top
    rw [hp, Nat.add_mul, Nat.one_mul] at h2
    omega
  have hhi : gd l i / 2 ^ (32 - s) < 2 ^ s := by
    rw [Nat.div_lt_iff_lt_mul (Nat.two_pow_pos _), Nat.mul_comm, hp]
    exact h1
  have hhi2 : gd l i / 2 ^ (32 - s) < 4294967296 := Nat.lt_of_lt_of_le hhi (by rw [show (4294967296 : Nat) = 2 ^ 32 from rfl]; exact Nat.pow_le_pow_right (by omega) (by omega))
  refine ⟨by simp [h.len], (h.lt.set _ hlow).set _ hhi2, ?_, fun j hj => ?_, ?_⟩
  · rw [show f + (i + 1) = f + i + 1 by omega, gd_set_self (by rw [List.length_set, h.len]; omega)]
    exact hhi
  · rw [gd_set_ne (by omega), gd_set_ne (by omega)]
    exact h.z j (by omega)
  · have e1 := val_set 4294967296 o (f + i) (gd l i % 2 ^ (32 - s) * 2 ^ s + gd o (f + i)) (by rw [h.len]; omega)
    have e2 := val_set 4294967296 (o.set (f + i) (gd l i % 2 ^ (32 - s) * 2 ^ s + gd o (f + i))) (f + i + 1) (gd l i / 2 ^ (32 - s)) (by rw [List.length_set, h.len]; omega)
    have hz1 : gd (o.set (f + i) (gd l i % 2 ^ (32 - s) * 2 ^ s + gd o (f + i))) (f + i + 1) = 0 := by rw [gd_set_ne (by omega)]; exact h.z _ (by omega)
    rw [hz1, Nat.mul_zero, Nat.add_zero] at e2
    rw [e2, val_take_succ]
    have e3 := h.eq
    have hp2 : 4294967296 ^ (f + i + 1) = 4294967296 ^ f * 4294967296 ^ i * (2 ^ (32 - s) * 2 ^ s) := by rw [hp, Nat.pow_succ, Nat.pow_add]
    rw [hp2, Nat.pow_add] at *
    generalize gd l i % 2 ^ (32 - s) = m at *
    generalize gd l i / 2 ^ (32 - s) = q at *
    generalize 4294967296 ^ f = F at *
    generalize 4294967296 ^ i = I at *
    generalize 2 ^ (32 - s) = T at *
    generalize 2 ^ s = S at *
    rw [← hd]
    grind
theorem RShl.last {l : List Nat} {f s k : Nat} {o : List Nat} (h : RShl l f s l.length o) (hk : 32 * f + s = k) : val 4294967296 o = val 4294967296 l * 2 ^ k := by
  rw [h.eq, List.take_of_length_le (Nat.le_refl _), ← hk, show (4294967296 : Nat) = 2 ^ 32 from rfl, ← Nat.pow_mul, ← Nat.pow_add, Nat.add_comm]

/-- the lowest n limbs of a number -/
def low32 (x n : Nat) : List Nat := (List.range n).map fun j => x / 4294967296 ^ j % 4294967296
theorem low32_succ (x n : Nat) : low32 x (n + 1) = low32 x n ++ [x / 4294967296 ^ n % 4294967296] := by simp [low32, List.range_succ]
theorem low32_length (x n : Nat) : (low32 x n).length = n := by simp [low32]
theorem low32_lt (x n : Nat) : Lt 4294967296 (low32 x n) := by
  intro y hy
  obtain ⟨j, _, rfl⟩ := List.mem_map.1 hy
  exact Nat.mod_lt _ (by omega)
theorem low32_val (x n : Nat) : val 4294967296 (low32 x n) = x % 4294967296 ^ n := by
  induction n with
  | zero => simp [low32, val, Nat.mod_one]
  | succ n ih => rw [low32_succ, val_snoc, ih, low32_length, Nat.pow_succ, Nat.mod_mul]
theorem gd_low32 {x n j : Nat} (h : j < n) : gd (low32 x n) j = x / 4294967296 ^ j % 4294967296 := by
  rw [gd_lt (by rw [low32_length]; exact h)]
  simp [low32]
theorem val_drop_div2 {l : List Nat} (h : Lt 4294967296 l) (f : Nat) : val 4294967296 (l.drop f) = val 4294967296 l / 4294967296 ^ f := val_drop_div B32 h f
/-- a limb of the shifted number -/
theorem shr_limb {l : List Nat} (h : Lt 4294967296 l) {s : Nat} (hs : s ≤ 32) (f j : Nat) :
    (gd l (f + j) + 4294967296 * gd l (f + j + 1)) / 2 ^ s % 4294967296 = val 4294967296 l / 4294967296 ^ f / 2 ^ s / 4294967296 ^ j % 4294967296 := by
  rw [Nat.div_div_eq_div_mul (val 4294967296 l / 4294967296 ^ f) (2 ^ s), Nat.mul_comm (2 ^ s), ← Nat.div_div_eq_div_mul (val 4294967296 l / 4294967296 ^ f), Nat.div_div_eq_div_mul (val 4294967296 l), ← Nat.pow_add, ← val_drop_div2 h, val_drop, val_drop]
  generalize val 4294967296 (l.drop (f + j + 1 + 1)) = R
  generalize gd l (f + j) = a
  generalize gd l (f + j + 1) = b
  have hp : 4294967296 = 2 ^ s * 2 ^ (32 - s) := by rw [← Nat.pow_add, show s + (32 - s) = 32 by omega]
  have e : a + 4294967296 * (b + 4294967296 * R) = (a + 4294967296 * b) + 2 ^ s * (4294967296 * (2 ^ (32 - s) * R)) := by
    have : 4294967296 * (4294967296 * R) = 2 ^ s * (4294967296 * (2 ^ (32 - s) * R)) := by
      conv => lhs; rw [Nat.mul_left_comm]
      rw [Nat.mul_left_comm (2 ^ s)]
      congr 1
      rw [← Nat.mul_assoc, ← hp]
    rw [Nat.mul_add, this]
    omega
  rw [e, Nat.add_mul_div_left _ _ (Nat.two_pow_pos s), Nat.add_mul_mod_self_left]
end Gs
