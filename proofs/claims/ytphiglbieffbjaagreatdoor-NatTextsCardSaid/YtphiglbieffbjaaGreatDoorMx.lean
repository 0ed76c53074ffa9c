/- Plain laws behind the reference's quotients. -/
import Derived.Test.YtphiglbieffbjaaGreatDoorMw
namespace Gs
open Go Go.RowKit

/-- the places from i up are done, r is the rest so far -/
structure RShort (l : List Nat) (b i r : Nat) (o : List Nat) : Prop where
  len : o.length = l.length
  lt : Lt 4294967296 o
  rl : r < b
  eq : val 4294967296 (o.drop i) * b + r = val 4294967296 (l.drop i)
theorem drop_set_lt {o : List Nat} {i j x : Nat} (h : i < j) : (o.set i x).drop j = o.drop j := by
  rw [List.drop_set, if_pos h]
theorem RShort.start (l : List Nat) {b : Nat} (hb : 0 < b) : RShort l b l.length 0 (List.replicate l.length 0) :=
  ⟨by simp, Lt.replicate (by omega) _, hb, by simp [val]⟩
theorem RShort.step {l o : List Nat} {b i r : Nat} (h : RShort l b (i + 1) r o) (hl : Lt 4294967296 l) (hi : i < l.length) (hb : b < 4294967296) :
    RShort l b i ((r * 4294967296 + gd l i) % b) (o.set i ((r * 4294967296 + gd l i) / b)) := by
  have h1 := hl.gd (by omega) i
  have hr := h.rl
  have hq : (r * 4294967296 + gd l i) / b < 4294967296 := by
    rw [Nat.div_lt_iff_lt_mul (by omega)]
    have : (r + 1) * 4294967296 ≤ b * 4294967296 := Nat.mul_le_mul_right _ hr
    rw [Nat.mul_comm 4294967296]
    omega
  refine ⟨by rw [List.length_set]; exact h.len, h.lt.set _ hq, Nat.mod_lt _ (by omega), ?_⟩
  rw [val_drop, drop_set_lt (Nat.lt_succ_self i), gd_set_self (by rw [h.len]; exact hi), val_drop 4294967296 l]
  have he := h.eq
  have hd := Nat.mod_add_div (r * 4294967296 + gd l i) b
  generalize val 4294967296 (o.drop (i + 1)) = O at *
  generalize val 4294967296 (l.drop (i + 1)) = L at *
  generalize (r * 4294967296 + gd l i) % b = m at *
  generalize (r * 4294967296 + gd l i) / b = q at *
  rw [← he]
  grind
theorem RShort.last {l o : List Nat} {b r : Nat} (h : RShort l b 0 r o) : val 4294967296 o = val 4294967296 l / b ∧ r = val 4294967296 l % b := by
  have he := h.eq
  have hr := h.rl
  rw [List.drop_zero, List.drop_zero] at he
  rw [← he]
  constructor
  · rw [Nat.mul_comm, Nat.mul_add_div (by omega), Nat.div_eq_of_lt hr, Nat.add_zero]
  · rw [Nat.mul_comm, Nat.mul_add_mod, Nat.mod_eq_of_lt hr]
end Gs
