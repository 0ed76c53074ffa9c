/- The contracts of package nat over numbers alone: what a value holds, not where it lies. -/
import Derived.Test.YtlpfbcilnfgaaaaGreatDoorOa
import Derived.Test.YtlpfbcilnfgaaaaGreatDoorNl
import Derived.Test.YtlpfbcilnfgaaaaGreatDoorNp
namespace Gs
open Go Go.RowKit

/-- v is a slice whose limbs make the number x; at most K of them -/
def Num (w : World) (v : Value) (x K : Nat) : Prop := ∃ A n c l, v = .slice A n c ∧ RdU w (fun _ => True) ⟨A, n, c⟩ l ∧ val 18446744073709551616 l = x ∧ n ≤ K
/-- the same, without highest limbs that are 0 -/
def CanN (w : World) (v : Value) (x K : Nat) : Prop := ∃ A n c, v = .slice A n c ∧ RdU w (fun _ => True) ⟨A, n, c⟩ (limbs 18446744073709551616 x) ∧ n ≤ K
theorem Num.below {w w' v x K} (h : Num w v x K) (hb : Below w.heap.size w w') : Num w' v x K := by
  obtain ⟨A, n, c, l, e, hr, hv, hn⟩ := h
  exact ⟨A, n, c, l, e, hr.below hb, hv, hn⟩
theorem CanN.below {w w' v x K} (h : CanN w v x K) (hb : Below w.heap.size w w') : CanN w' v x K := by
  obtain ⟨A, n, c, e, hr, hn⟩ := h
  exact ⟨A, n, c, e, hr.below hb, hn⟩
theorem CanN.num {w v x K} (h : CanN w v x K) : Num w v x K := by
  obtain ⟨A, n, c, e, hr, hn⟩ := h
  exact ⟨A, n, c, _, e, hr, val_limbs B64 x, hn⟩
theorem Num.lt {w v x K} (h : Num w v x K) : x < 18446744073709551616 ^ K := by
  obtain ⟨A, n, c, l, e, hr, hv, hn⟩ := h
  have h1 := val_lt hr.lt
  have h2 := hr.rd.len
  simp only at h2
  rw [hv, h2] at h1
  exact Nat.lt_of_lt_of_le h1 (Nat.pow_le_pow_right (by omega) hn)
theorem CanN.of {w : World} {P : Nat → Prop} {A n c x K} (h : RdU w P ⟨A, n, c⟩ (limbs 18446744073709551616 x)) (hx : x < 18446744073709551616 ^ K) : CanN w (.slice A n c) x K := by
  refine ⟨A, n, c, rfl, h.mono fun _ _ => trivial, ?_⟩
  have h2 := h.rd.len
  simp only at h2
  rw [← h2]
  exact limbs_len_le B64 hx
theorem Num.of {w : World} {P : Nat → Prop} {A n c l K} (h : RdU w P ⟨A, n, c⟩ l) (hn : n ≤ K) : Num w (.slice A n c) (val 18446744073709551616 l) K := ⟨A, n, c, l, rfl, h.mono fun _ _ => trivial, rfl, hn⟩
theorem Num.nil (w : World) : Num w (.slice none 0 0) 0 0 := ⟨none, 0, 0, [], rfl, ⟨RdN.nil _ _ _ 0 (by omega) _, Lt.nil _⟩, rfl, Nat.le_refl _⟩
theorem Num.made (w : World) (e : TypeId) (l : List Nat) (hl : Lt 18446744073709551616 l) (hm : l.length ≤ 1000) : Num (w.alloc (.cells (nums .u64 l).toArray e)) (.slice (some ⟨w.heap.size, 0, none⟩) l.length l.length) (val 18446744073709551616 l) l.length :=
  Num.of (P := fun b => w.heap.size ≤ b) ⟨(OwnN.made .u64 w w.heap.size e l (Nat.le_refl _) (by omega)).rd, hl⟩ (Nat.le_refl _)
theorem Num.alloc {w v x K} (h : Num w v x K) (o : Obj) : Num (w.alloc o) v x K := h.below ((Below.refl _ w).alloc (Nat.le_refl _) o)
theorem CanN.alloc {w v x K} (h : CanN w v x K) (o : Obj) : CanN (w.alloc o) v x K := h.below ((Below.refl _ w).alloc (Nat.le_refl _) o)
theorem Num.made' (w : World) (e : TypeId) (l : List Nat) {b m x : Nat} (hl : Lt 18446744073709551616 l) (hm : l.length = m) (hm2 : m ≤ 1000) (hb : b = w.heap.size) (hx : val 18446744073709551616 l = x) : Num (w.alloc (.cells (nums .u64 l).toArray e)) (.slice (some ⟨b, 0, none⟩) m m) x m := by
  subst hb hm hx
  exact Num.made w e l hl hm2
theorem CanN.made' (w : World) (e : TypeId) (l : List Nat) {b m x : Nat} (hl : Lt 18446744073709551616 l) (hm : l.length = m) (hm2 : m ≤ 1000) (hb : b = w.heap.size) (hx : val 18446744073709551616 l = x) (hc : Can l) : CanN (w.alloc (.cells (nums .u64 l).toArray e)) (.slice (some ⟨b, 0, none⟩) m m) x m := by
  subst hb hm
  have hx2 := limbs_eq B64 hl hc hx
  exact ⟨_, _, _, rfl, by rw [hx2]; exact ⟨(OwnN.made .u64 w w.heap.size e l (Nat.le_refl _) (by omega)).rd.mono (fun _ _ => trivial), hl⟩, Nat.le_refl _⟩
theorem lt_dec {l : List Nat} (h : l.all (fun x => decide (x < 18446744073709551616)) = true) : Lt 18446744073709551616 l := by
  intro x hx
  exact of_decide_eq_true (List.all_eq_true.1 h x hx)
theorem Below.un {w w' : World} {o : Obj} (h : Below (w.alloc o).heap.size (w.alloc o) w') : Below w.heap.size w w' := Gs.Below.then ((Below.refl _ w).alloc (Nat.le_refl _) o) (by simp) h
theorem Below.tr {w w1 w2 : World} (h : Below w.heap.size w w1) (k : Below w1.heap.size w1 w2) : Below w.heap.size w w2 := Gs.Below.then h h.size k
theorem pow_add_lt {x y K K' : Nat} (h : x < 18446744073709551616 ^ K) (h' : y < 18446744073709551616 ^ K') : x + y < 18446744073709551616 ^ (K + K' + 1) := by
  have h1 : 18446744073709551616 ^ K ≤ 18446744073709551616 ^ (K + K') := Nat.pow_le_pow_right (by omega) (by omega)
  have h2 : 18446744073709551616 ^ K' ≤ 18446744073709551616 ^ (K + K') := Nat.pow_le_pow_right (by omega) (by omega)
  rw [Nat.pow_succ]
  omega
theorem pow_mul_lt {x y K K' : Nat} (h : x < 18446744073709551616 ^ K) (h' : y < 18446744073709551616 ^ K') : x * y < 18446744073709551616 ^ (K + K') := by
  rw [Nat.pow_add]
  rcases Nat.eq_zero_or_pos x with h0 | h0
  · subst h0
    rw [Nat.zero_mul]
    exact Nat.mul_pos (Nat.pow_pos (by omega)) (Nat.pow_pos (by omega))
  · exact Nat.mul_lt_mul_of_lt_of_le h (Nat.le_of_lt h') (by omega)
end Gs
namespace Go.Proofs.YtlpfbcilnfgaaaaGreatDoor
open Go.RowKit Gs
set_option linter.unusedVariables false
variable {w : World} {a b : Value} {x y K K' : Nat}

theorem call_Add (h : Num w a x K) (h' : Num w b y K') (hK : K ≤ 1000000) (hK' : K' ≤ 1000000) :
    Calls Tryz.prog 100 #[a, b] w fun e w' => ∃ r, e = .returned r ∧ CanN w' r (x + y) (K + K' + 1) ∧ Below w.heap.size w w' := by
  have q := pow_add_lt h.lt h'.lt
  obtain ⟨A, n, c, l, rfl, hr, hv, hn⟩ := h
  obtain ⟨A', n', c', l', rfl, hr', hv', hn'⟩ := h'
  refine (nat_Add hr hr' (by omega) (by omega)).mono ?_
  rintro e w' ⟨A1, n1, c1, rfl, h1, hb⟩
  rw [hv, hv'] at h1
  exact ⟨_, rfl, CanN.of h1 q, hb⟩
theorem call_Mul (h : Num w a x K) (h' : Num w b y K') (hK : K ≤ 1000000) (hK' : K' ≤ 1000000) :
    Calls Tryz.prog 106 #[a, b] w fun e w' => ∃ r, e = .returned r ∧ CanN w' r (x * y) (K + K') ∧ Below w.heap.size w w' := by
  have q := pow_mul_lt h.lt h'.lt
  obtain ⟨A, n, c, l, rfl, hr, hv, hn⟩ := h
  obtain ⟨A', n', c', l', rfl, hr', hv', hn'⟩ := h'
  refine (nat_Mul hr hr' (by omega) (by omega)).mono ?_
  rintro e w' ⟨A1, n1, c1, rfl, h1, hb⟩
  rw [hv, hv'] at h1
  exact ⟨_, rfl, CanN.of h1 q, hb⟩
theorem call_Cmp {z : Int} (h : Num w a x K) (h' : Num w b y K') (hK : K ≤ 1000000) (hK' : K' ≤ 1000000) (hz : cmpI (x : Nat) (y : Nat) = z) :
    Calls Tryz.prog 101 #[a, b] w fun e w' => e = .returned (.int .i64 z) ∧ Below w.heap.size w w' := by
  obtain ⟨A, n, c, l, rfl, hr, hv, hn⟩ := h
  obtain ⟨A', n', c', l', rfl, hr', hv', hn'⟩ := h'
  refine (nat_Cmp hr hr' (by omega) (by omega)).mono ?_
  rintro e w' ⟨rfl, hb⟩
  rw [hv, hv', hz]
  exact ⟨rfl, hb⟩
theorem cmpI_eq {x y : Nat} (h : x = y) : cmpI (x : Nat) (y : Nat) = 0 := by subst h; unfold cmpI; rw [if_neg (by omega), if_neg (by omega)]
theorem cmpI_lt {x y : Nat} (h : x < y) : cmpI (x : Nat) (y : Nat) = -1 := by unfold cmpI; rw [if_pos (by omega)]
theorem cmpI_gt {x y : Nat} (h : y < x) : cmpI (x : Nat) (y : Nat) = 1 := by unfold cmpI; rw [if_neg (by omega), if_pos (by omega)]
theorem call_Gcd (h : Num w a x K) (h' : Num w b y K') (hK : K ≤ 1000000) (hK' : K' ≤ 1000000) :
    Calls Tryz.prog 126 #[a, b] w fun e w' => ∃ r, e = .returned r ∧ CanN w' r (Nat.gcd x y) (K + K') ∧ Below w.heap.size w w' := by
  have hq : Nat.gcd x y < 18446744073709551616 ^ (K + K') := by
    rcases Nat.eq_zero_or_pos x with h0 | h0
    · rw [h0, Nat.gcd_zero_left]
      exact Nat.lt_of_lt_of_le h'.lt (Nat.pow_le_pow_right (by omega) (by omega))
    · exact Nat.lt_of_le_of_lt (Nat.gcd_le_left y h0) (Nat.lt_of_lt_of_le h.lt (Nat.pow_le_pow_right (by omega) (by omega)))
  obtain ⟨A, n, c, l, rfl, hr, hv, hn⟩ := h
  obtain ⟨A', n', c', l', rfl, hr', hv', hn'⟩ := h'
  refine (nat_Gcd hr hr' (by omega) (by omega)).mono ?_
  rintro e w' ⟨A1, n1, c1, rfl, h1, hb⟩
  rw [hv, hv'] at h1
  exact ⟨_, rfl, CanN.of h1 hq, hb⟩
theorem call_DivMod (h : Num w a x K) (h' : Num w b y K') (hK : K ≤ 1000000) (hK' : K' ≤ 1000000) (hy : y ≠ 0) :
    Calls Tryz.prog 94 #[a, b] w fun e w' => ∃ q r, e = .returned (.tuple #[q, r, .int .i64 0]) ∧ CanN w' q (x / y) K ∧ CanN w' r (x % y) K' ∧ Below w.heap.size w w' := by
  have q1 := Nat.lt_of_le_of_lt (Nat.div_le_self x y) h.lt
  have q2 := Nat.lt_trans (Nat.mod_lt x (Nat.pos_of_ne_zero hy)) h'.lt
  obtain ⟨A, n, c, l, rfl, hr, hv, hn⟩ := h
  obtain ⟨A', n', c', l', rfl, hr', hv', hn'⟩ := h'
  refine (nat_DivMod hr hr' (by omega) (by omega) (by rw [hv']; exact hy)).mono ?_
  rintro e w' ⟨A1, n1, c1, A2, n2, c2, rfl, h1, h2, hb⟩
  rw [hv, hv'] at h1 h2
  exact ⟨_, _, rfl, CanN.of h1 q1, CanN.of h2 q2, hb⟩
theorem call_DivMod_zero (h : Num w a x K) (h' : Num w b y K') (hK : K ≤ 1000000) (hK' : K' ≤ 1000000) (hy : y = 0) :
    Calls Tryz.prog 94 #[a, b] w fun e w' => e = .returned (.tuple #[.slice none 0 0, .slice none 0 0, .int .i64 12]) ∧ Below w.heap.size w w' := by
  obtain ⟨A, n, c, l, rfl, hr, hv, hn⟩ := h
  obtain ⟨A', n', c', l', rfl, hr', hv', hn'⟩ := h'
  exact nat_DivMod_zero hr hr' (by omega) (by omega) (by rw [hv']; exact hy)
theorem call_Nats {D : Bool} (h : CanN w a x K) (h' : CanN w b y K') (hD : decide (x = y) = D) :
    Calls Tryz.prog 98 #[a, b] w fun e w' => e = .returned (.bool D) ∧ Below w.heap.size w w' := by
  obtain ⟨A, n, c, rfl, hr, hn⟩ := h
  obtain ⟨A', n', c', rfl, hr', hn'⟩ := h'
  refine (keep_Nats hr hr').mono ?_
  rintro e w' ⟨rfl, hb⟩
  refine ⟨?_, hb⟩
  congr 2
  rw [← hD, Bool.eq_iff_iff, decide_eq_true_iff, decide_eq_true_iff]
  exact ⟨fun h => limbs_inj B64 h, fun h => by rw [h]⟩
theorem call_Good (h : CanN w a x K) (hK : K ≤ 1000000) :
    Calls Tryz.prog 111 #[a] w fun e w' => e = .returned (.bool true) ∧ Below w.heap.size w w' := by
  obtain ⟨A, n, c, rfl, hr, hn⟩ := h
  refine (nat_Good hr (by omega)).mono ?_
  rintro e w' ⟨rfl, hb⟩
  refine ⟨?_, hb⟩
  congr 2
  unfold goodB nl
  rw [val_limbs B64, decide_eq_true_iff]
theorem call_Text {L : Nat} (h : Num w a x K) (hK : K ≤ 1000000) (hx : x < 10 ^ L) (hL : L ≤ 1000000) :
    Calls Tryz.prog 116 #[a] w fun e w' => ∃ s, e = .returned (.string s) ∧ IsText s x ∧ Below w.heap.size w w' := by
  obtain ⟨A, n, c, l, rfl, hr, hv, hn⟩ := h
  refine (nat_Text hr (by omega) (by rw [hv]; exact hx) hL).mono ?_
  rintro e w' ⟨s, rfl, h1, hb⟩
  rw [hv] at h1
  exact ⟨s, rfl, h1, hb⟩
theorem call_Parse {s : ByteArray} (h : IsText s x) (hs : s.size ≤ 20000) (hx : x < 18446744073709551616 ^ K) :
    Calls Tryz.prog 113 #[.string s] w fun e w' => ∃ r, e = .returned (.tuple #[r, .int .i64 0]) ∧ CanN w' r x K ∧ Below w.heap.size w w' := by
  refine (nat_Parse_ok h.2.2.1 hs h.2.2.2).mono ?_
  rintro e w' ⟨A1, n1, c1, rfl, h1, hb⟩
  obtain ⟨p1, p2⟩ := parse_good h.1
  rw [p1, h.2.1] at h1
  rw [p2]
  exact ⟨_, rfl, CanN.of h1 hx, hb⟩
end Go.Proofs.YtlpfbcilnfgaaaaGreatDoor
