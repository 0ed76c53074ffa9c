/- The contracts of package nat over numbers alone: shifts, bits, the root. -/
import Derived.Test.YtphiglbieffbjaaGreatDoorOc
import Derived.Test.YtphiglbieffbjaaGreatDoorNm
import Derived.Test.YtphiglbieffbjaaGreatDoorNe
namespace Gs
theorem pow_shl_lt {x m K : Nat} (h : x < 18446744073709551616 ^ K) : x * 2 ^ m < 18446744073709551616 ^ (K + m) := by
  rw [Nat.pow_add]
  have h1 : 2 ^ m ≤ 18446744073709551616 ^ m := Nat.pow_le_pow_left (by omega) m
  exact Nat.lt_of_lt_of_le (Nat.mul_lt_mul_of_pos_right h (Nat.pow_pos (by omega))) (Nat.mul_le_mul_left _ h1)
theorem blen_pow (m : Nat) : blen (1 * 2 ^ m) = m + 1 := by
  have h1 := lt_blen (1 * 2 ^ m)
  have h0 : 1 * 2 ^ m ≠ 0 := by rw [Nat.one_mul]; exact Nat.ne_of_gt (Nat.pow_pos (by omega))
  have h2 := blen_le h0
  rw [Nat.one_mul] at h1 h2 ⊢
  have h3 := (Nat.pow_lt_pow_iff_right (show 1 < 2 by omega)).1 h1
  have h4 := (Nat.pow_le_pow_iff_right (show 1 < 2 by omega)).1 h2
  omega
theorem blen_bound {x K : Nat} (h : x < 18446744073709551616 ^ K) : blen x ≤ 64 * K := by
  by_cases h0 : x = 0
  · rw [h0, blen_zero]; omega
  · have h1 := Nat.lt_of_le_of_lt (blen_le h0) h
    rw [show (18446744073709551616 : Nat) = 2 ^ 64 from rfl, ← Nat.pow_mul] at h1
    have := (Nat.pow_lt_pow_iff_right (show 1 < 2 by omega)).1 h1
    omega
theorem div_blen (x : Nat) : x / 2 ^ blen x = 0 := Nat.div_eq_of_lt (lt_blen x)
theorem div_blen1 {x : Nat} (h : x ≠ 0) : x / 2 ^ (blen x - 1) = 1 := by
  have h1 := lt_blen x
  have h2 := blen_le h
  have h3 : 2 ^ blen x = 2 ^ (blen x - 1) * 2 := by rw [← Nat.pow_succ]; congr 1; have := blen_pos h; omega
  rw [h3] at h1
  have h4 : 0 < 2 ^ (blen x - 1) := Nat.pow_pos (by omega)
  exact Nat.div_eq_of_lt_le (by omega) (by omega)
end Gs
namespace Go.Proofs.YtphiglbieffbjaaGreatDoor
open Go.RowKit Gs
set_option linter.unusedVariables false
variable {w : World} {a b : Value} {x y K K' : Nat}

theorem call_Shl {kk : Int} (m : Nat) (h : Num w a x K) (hK : K ≤ 1000000) (hm : m ≤ 1000000) (hkk : kk = (m : Int)) :
    Calls Tryz.prog 18 #[a, .int .i64 kk] w fun e w' => ∃ r, e = .returned (.tuple #[r, .int .i64 0]) ∧ CanN w' r (x * 2 ^ m) (K + m) ∧ Below w.heap.size w w' := by
  subst hkk
  have q := pow_shl_lt (m := m) h.lt
  obtain ⟨A, n, c, l, rfl, hr, hv, hn⟩ := h
  refine (nat_Shl hr (by omega) (by omega) (by omega)).mono ?_
  rintro e w' ⟨A1, n1, c1, rfl, h1, hb⟩
  rw [hv, Int.toNat_natCast] at h1
  exact ⟨_, rfl, CanN.of h1 q, hb⟩
theorem call_Shr {kk : Int} (m : Nat) (h : Num w a x K) (hK : K ≤ 1000000) (hm : m ≤ 1000000) (hkk : kk = (m : Int)) :
    Calls Tryz.prog 19 #[a, .int .i64 kk] w fun e w' => ∃ r, e = .returned (.tuple #[r, .int .i64 0]) ∧ CanN w' r (x / 2 ^ m) K ∧ Below w.heap.size w w' := by
  subst hkk
  have q := Nat.lt_of_le_of_lt (Nat.div_le_self x (2 ^ m)) h.lt
  obtain ⟨A, n, c, l, rfl, hr, hv, hn⟩ := h
  refine (nat_Shr hr (by omega) (by omega) (by omega)).mono ?_
  rintro e w' ⟨A1, n1, c1, rfl, h1, hb⟩
  rw [hv, Int.toNat_natCast] at h1
  exact ⟨_, rfl, CanN.of h1 q, hb⟩
theorem call_Bits {z : Int} (h : Num w a x K) (hK : K ≤ 1000000) (hB : ((blen x : Nat) : Int) = z) :
    Calls Tryz.prog 22 #[a] w fun e w' => e = .returned (.int .i64 z) ∧ Below w.heap.size w w' := by
  obtain ⟨A, n, c, l, rfl, hr, hv, hn⟩ := h
  refine (nat_Bits hr (by omega)).mono ?_
  rintro e w' ⟨rfl, rfl⟩
  rw [hv, hB]
  exact ⟨rfl, Below.refl _ _⟩
theorem call_Sqrt {r : Nat} (h : Num w a x K) (hK : K ≤ 1000000) (hr0 : IsRoot x r) :
    Calls Tryz.prog 24 #[a] w fun e w' => ∃ s, e = .returned s ∧ CanN w' s r K ∧ Below w.heap.size w w' := by
  have q : r < 18446744073709551616 ^ K := by
    rcases Nat.eq_zero_or_pos r with h0 | h0
    · rw [h0]; exact Nat.pow_pos (by omega)
    · exact Nat.lt_of_le_of_lt (Nat.le_trans (Nat.le_mul_of_pos_left r h0) hr0.1) h.lt
  obtain ⟨A, n, c, l, rfl, hr, hv, hn⟩ := h
  refine (nat_Sqrt hr (by omega) (by rw [hv]; exact hr0)).mono ?_
  rintro e w' ⟨A1, n1, c1, rfl, h1, hb⟩
  exact ⟨_, rfl, CanN.of h1 q, hb⟩
end Go.Proofs.YtphiglbieffbjaaGreatDoor
