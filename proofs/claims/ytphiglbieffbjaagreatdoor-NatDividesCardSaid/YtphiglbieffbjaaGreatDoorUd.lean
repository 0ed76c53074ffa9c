/- The reference's contracts over numbers alone; gessokeep.Nat; gessolaw01.same. -/
import Derived.Test.YtphiglbieffbjaaGreatDoorUc
import Derived.Test.YtphiglbieffbjaaGreatDoorOb
import Derived.Test.YtphiglbieffbjaaGreatDoorOc
namespace Gs
open Go Go.RowKit
/-- v is a slice of the reference's limbs of the number x; at most K of them -/
def CanR (w : World) (v : Value) (x K : Nat) : Prop := ∃ A n c, v = .slice A n c ∧ R32 w (fun _ => True) ⟨A, n, c⟩ (limbs 4294967296 x) ∧ n ≤ K
theorem CanR.below {w w' v x K} (h : CanR w v x K) (hb : Below w.heap.size w w') : CanR w' v x K := by
  obtain ⟨A, n, c, e, hr, hn⟩ := h
  exact ⟨A, n, c, e, hr.below hb, hn⟩
theorem CanR.alloc {w v x K} (h : CanR w v x K) (o : Obj) : CanR (w.alloc o) v x K := h.below ((Below.refl _ w).alloc (Nat.le_refl _) o)
theorem CanR.of {w : World} {P : Nat → Prop} {A n c x K} (h : R32 w P ⟨A, n, c⟩ (limbs 4294967296 x)) (hx : x < 4294967296 ^ K) : CanR w (.slice A n c) x K := by
  refine ⟨A, n, c, rfl, h.mono fun _ _ => trivial, ?_⟩
  have h2 := h.rd.len
  simp only at h2
  rw [← h2]
  exact limbs_len_le B32 hx
theorem CanR.lt {w v x K} (h : CanR w v x K) : x < 4294967296 ^ K := by
  obtain ⟨A, n, c, e, hr, hn⟩ := h
  have h2 := hr.rd.len
  simp only at h2
  exact lt_of_limbs_len B32 (by rw [h2]; exact hn)
/-- v is a slice of just these limbs -/
def RawN (w : World) (v : Value) (l : List Nat) : Prop := ∃ A n c, v = .slice A n c ∧ RdU w (fun _ => True) ⟨A, n, c⟩ l
theorem RawN.below {w w' v l} (h : RawN w v l) (hb : Below w.heap.size w w') : RawN w' v l := by
  obtain ⟨A, n, c, e, hr⟩ := h
  exact ⟨A, n, c, e, hr.below hb⟩
theorem RawN.alloc {w v l} (h : RawN w v l) (o : Obj) : RawN (w.alloc o) v l := h.below ((Below.refl _ w).alloc (Nat.le_refl _) o)
theorem RawN.num {w v l} (h : RawN w v l) : Num w v (val 18446744073709551616 l) l.length := by
  obtain ⟨A, n, c, e, hr⟩ := h
  exact ⟨A, n, c, l, e, hr, rfl, by have := hr.rd.len; simp only at this; omega⟩
theorem RawN.num' {w v l x K} (h : RawN w v l) (hx : val 18446744073709551616 l = x) (hl : l.length ≤ K) : Num w v x K := by
  obtain ⟨A, n, c, e, hr⟩ := h
  exact ⟨A, n, c, l, e, hr, hx, by have := hr.rd.len; simp only at this; omega⟩
theorem RawN.of {w : World} {P : Nat → Prop} {A n c l} (h : RdU w P ⟨A, n, c⟩ l) : RawN w (.slice A n c) l := ⟨A, n, c, rfl, h.mono fun _ _ => trivial⟩
theorem pow64_32 (K : Nat) : (18446744073709551616 : Nat) ^ K = 4294967296 ^ (2 * K) := by
  rw [Nat.pow_mul]
theorem pow32_add_lt {x y K K' : Nat} (h : x < 4294967296 ^ K) (h' : y < 4294967296 ^ K') : x + y < 4294967296 ^ (K + K' + 1) := by
  have h1 : 4294967296 ^ K ≤ 4294967296 ^ (K + K') := Nat.pow_le_pow_right (by omega) (by omega)
  have h2 : 4294967296 ^ K' ≤ 4294967296 ^ (K + K') := Nat.pow_le_pow_right (by omega) (by omega)
  rw [Nat.pow_succ]
  omega
theorem pow32_mul_lt {x y K K' : Nat} (h : x < 4294967296 ^ K) (h' : y < 4294967296 ^ K') : x * y < 4294967296 ^ (K + K') := by
  rw [Nat.pow_add]
  rcases Nat.eq_zero_or_pos x with h0 | h0
  · subst h0
    rw [Nat.zero_mul]
    exact Nat.mul_pos (Nat.pow_pos (by omega)) (Nat.pow_pos (by omega))
  · exact Nat.mul_lt_mul_of_lt_of_le h (Nat.le_of_lt h') (by omega)
end Gs
namespace Go.Proofs.YtphiglbieffbjaaGreatDoor
open Go.RowKit Gs
set_option linter.unusedVariables false
variable {w : World} {a b : Value} {x y K K' : Nat}

theorem call_In (h : Num w a x K) (hK : K ≤ 1000000) :
    Calls Tryz.prog 12 #[a] w fun e w' => ∃ r, e = .returned r ∧ CanR w' r x (2 * K) ∧ Below w.heap.size w w' := by
  have q := h.lt
  rw [pow64_32] at q
  obtain ⟨A, n, c, l, rfl, hr, hv, hn⟩ := h
  refine (ref_In hr (by omega)).mono ?_
  rintro e w' ⟨A1, n1, c1, rfl, h1, hb⟩
  rw [hv] at h1
  exact ⟨_, rfl, CanR.of h1 q, hb⟩
theorem call_Out (h : CanR w a x K) (hK : K ≤ 1000000) :
    Calls Tryz.prog 43 #[a] w fun e w' => ∃ r, e = .returned r ∧ CanN w' r x K ∧ Below w.heap.size w w' := by
  have q := Nat.lt_of_lt_of_le h.lt (Nat.pow_le_pow_left (show 4294967296 ≤ 18446744073709551616 by omega) K)
  obtain ⟨A, n, c, rfl, hr, hn⟩ := h
  refine (ref_Out hr (by omega)).mono ?_
  rintro e w' ⟨A1, n1, c1, rfl, h1, hb⟩
  exact ⟨_, rfl, CanN.of h1 q, hb⟩
theorem call_RCmp {z : Int} (h : CanR w a x K) (h' : CanR w b y K') (hK : K ≤ 1000000) (hK' : K' ≤ 1000000) (hz : cmpI (x : Nat) (y : Nat) = z) :
    Calls Tryz.prog 53 #[a, b] w fun e w' => e = .returned (.int .i64 z) ∧ Below w.heap.size w w' := by
  obtain ⟨A, n, c, rfl, hr, hn⟩ := h
  obtain ⟨A', n', c', rfl, hr', hn'⟩ := h'
  rw [← hz]
  exact ref_Cmp hr hr' (by omega) (by omega)
theorem call_RMul (h : CanR w a x K) (h' : CanR w b y K') (hK : K ≤ 1000000) (hK' : K' ≤ 1000000) :
    Calls Tryz.prog 34 #[a, b] w fun e w' => ∃ r, e = .returned r ∧ CanR w' r (x * y) (K + K') ∧ Below w.heap.size w w' := by
  have q := pow32_mul_lt h.lt h'.lt
  obtain ⟨A, n, c, rfl, hr, hn⟩ := h
  obtain ⟨A', n', c', rfl, hr', hn'⟩ := h'
  refine (ref_Mul hr hr' (by omega) (by omega)).mono ?_
  rintro e w' ⟨A1, n1, c1, rfl, h1, hb⟩
  exact ⟨_, rfl, CanR.of h1 q, hb⟩
theorem call_RAdd (h : CanR w a x K) (h' : CanR w b y K') (hK : K ≤ 1000000) (hK' : K' ≤ 1000000) :
    Calls Tryz.prog 33 #[a, b] w fun e w' => ∃ r, e = .returned r ∧ CanR w' r (x + y) (K + K' + 1) ∧ Below w.heap.size w w' := by
  have q := pow32_add_lt h.lt h'.lt
  obtain ⟨A, n, c, rfl, hr, hn⟩ := h
  obtain ⟨A', n', c', rfl, hr', hn'⟩ := h'
  refine (ref_Add hr hr' (by omega) (by omega)).mono ?_
  rintro e w' ⟨A1, n1, c1, rfl, h1, hb⟩
  exact ⟨_, rfl, CanR.of h1 q, hb⟩
theorem call_RSub (h : CanR w a x K) (h' : CanR w b y K') (hK : K ≤ 1000000) (hle : y ≤ x) :
    Calls Tryz.prog 55 #[a, b] w fun e w' => ∃ r, e = .returned r ∧ CanR w' r (x - y) K ∧ Below w.heap.size w w' := by
  have q : x - y < 4294967296 ^ K := Nat.lt_of_le_of_lt (Nat.sub_le _ _) h.lt
  obtain ⟨A, n, c, rfl, hr, hn⟩ := h
  obtain ⟨A', n', c', rfl, hr', hn'⟩ := h'
  refine (ref_Sub hr hr' (by omega) hle).mono ?_
  rintro e w' ⟨A1, n1, c1, rfl, h1, hb⟩
  exact ⟨_, rfl, CanR.of h1 q, hb⟩
theorem call_same {D : Bool} (h : CanN w a x K) (h' : CanR w b y K') (hK' : K' ≤ 1000000) (hD : decide (x = y) = D) :
    Calls Tryz.prog 13 #[a, b] w fun e w' => e = .returned (.bool D) ∧ Below w.heap.size w w' := by
  have HD := Lib.hid hD
  have ko := call_Out h' hK'
  have KO := Lib.hid ko
  clear hD ko
  go_enter Tryz.func13, Tryz.ntmps13
  go_wp2_with fail
  refine KO.out.mono ?_
  rintro e w1 ⟨r, rfl, hr, hb1⟩
  go_wp2_with fail
  refine (call_Nats (h.below hb1) hr HD.out).mono ?_
  rintro e w2 ⟨rfl, hb2⟩
  go_wp2
  go_ret
  exact ⟨rfl, Gs.Below.tr hb1 hb2⟩

set_option maxRecDepth 100000 in
set_option maxHeartbeats 1000000 in
theorem keep_Nat {A n c} {l : List Nat} {P} {w : World} (h : RdU w P ⟨A, n, c⟩ l) (hn : n ≤ 1000000) :
    Calls Tryz.prog 10 #[.slice A n c] w fun e w' => ∃ r, e = .returned r ∧ RawN w' r l ∧ Below w.heap.size w w' := by
  have hlen := h.rd.len
  have HLEN := Lib.hid hlen
  cases A with
  | none =>
    have h0 : n = 0 := by
      rcases Nat.eq_zero_or_pos n with h0 | h0
      · exact h0
      · obtain ⟨ad, e, _⟩ := h.rd.cells h0; cases e
    subst h0
    obtain rfl := List.length_eq_zero_iff.1 hlen
    clear hlen HLEN
    go_enter Tryz.func10, Tryz.ntmps10
    go_wp2
    go_ret
    exact ⟨_, rfl, ⟨some ⟨w.heap.size, 0, none⟩, 0, 0, rfl, RdN.nil _ _ _ 0 (by omega) _, Lt.nil _⟩, (Below.refl _ w).alloc (Nat.le_refl _) _⟩
  | some ad =>
    clear hlen
    go_enter Tryz.func10, Tryz.ntmps10
    go_wp2_with (at_builtin; refine appendN (w0 := w) w.heap.size rfl (.tmp 3) (.tmp 4) 22 45 .u64 8 rfl Tryz.underlying22 info_u64 (by decide) ⟨some ⟨w.heap.size, 0, none⟩, 0, 0⟩ [] ad n c l rfl rfl (OwnN.made .u64 w w.heap.size 45 [] (Nat.le_refl _) (Nat.zero_le _)) (h.rd.below ((Below.refl _ w).alloc (Nat.le_refl _) _)) ((Below.refl _ w).alloc (Nat.le_refl _) _) (by simp) (by simp; omega) ?_; intro v1 w1 hown1 hb1)
    go_ret
    refine ⟨_, rfl, ⟨v1.A, v1.n, v1.c, rfl, ?_⟩, hb1⟩
    rw [List.nil_append] at hown1
    exact ⟨hown1.rd.mono (fun _ _ => trivial), h.lt⟩
theorem call_Nats_raw {l m : List Nat} {D : Bool} (h : RawN w a l) (h' : RawN w b m) (hD : decide (l = m) = D) :
    Calls Tryz.prog 29 #[a, b] w fun e w' => e = .returned (.bool D) ∧ Below w.heap.size w w' := by
  obtain ⟨A, n, c, rfl, hr⟩ := h
  obtain ⟨A', n', c', rfl, hr'⟩ := h'
  rw [← hD]
  exact keep_Nats hr hr'
theorem call_Good_raw {l : List Nat} {D : Bool} (h : RawN w a l) (hK : l.length ≤ 1000000) (hD : goodB l = D) :
    Calls Tryz.prog 30 #[a] w fun e w' => e = .returned (.bool D) ∧ Below w.heap.size w w' := by
  obtain ⟨A, n, c, rfl, hr⟩ := h
  have := hr.rd.len
  simp only at this
  rw [← hD]
  exact nat_Good hr (by omega)
end Go.Proofs.YtphiglbieffbjaaGreatDoor
