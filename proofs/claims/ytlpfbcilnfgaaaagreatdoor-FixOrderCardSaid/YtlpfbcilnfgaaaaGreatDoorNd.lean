/- Contracts: nat.Of, nat.Good. -/
import Derived.Test.YtlpfbcilnfgaaaaGreatDoorNb
import Derived.Test.YtlpfbcilnfgaaaaGreatDoorMb
namespace Go.Proofs.YtlpfbcilnfgaaaaGreatDoor
open Go.RowKit Gs
set_option linter.unusedVariables false

set_option maxHeartbeats 400000 in
theorem nat_Of (v : Nat) (hv : v < 18446744073709551616) (w : World) : Calls Tryz.prog 112 #[.int .u64 v] w fun e w' => ∃ A1 n1 c1, e = .returned (.slice A1 n1 c1) ∧ RdU w' (fun b => w.heap.size ≤ b) ⟨A1, n1, c1⟩ (limbs 18446744073709551616 v) ∧ Below w.heap.size w w' := by
  by_cases h0 : v = 0
  · subst h0
    go_enter Tryz.func112, Tryz.ntmps112
    go_wp2
    go_ret
    exact ⟨none, 0, 0, rfl, ⟨RdN.nil _ _ _ 0 (by omega) _, Lt.nil _⟩, Below.refl _ _⟩
  · have hvb : ((v : Int) == 0) = false := by rw [beq_eq_false_iff_ne]; omega
    have hl : limbs 18446744073709551616 v = [v] := limbs_eq B64 (Lt.cons hv (Lt.nil _)) (by intro x hx; simp at hx; omega) (by simp [val])
    have HL := Lib.hid hl
    clear hl
    go_enter Tryz.func112, Tryz.ntmps112
    go_wp2
    go_ret
    refine ⟨some ⟨w.heap.size, 0, none⟩, 1, 1, rfl, ?_, (Below.refl _ _).alloc (Nat.le_refl _) _⟩
    rw [HL.out]
    have := OwnN.made .u64 w w.heap.size 129 [v] (Nat.le_refl _) (by simp)
    exact ⟨this.rd, Lt.cons hv (Lt.nil _)⟩

/-- is a number good? -/
def goodB (l : List Nat) : Bool := decide (nl l = l.length)
theorem goodB_zero : goodB [] = true := rfl
set_option maxHeartbeats 400000 in
theorem nat_Good {A n c} {l : List Nat} {P} {w : World} (h : RdU w P ⟨A, n, c⟩ l) (hn : n ≤ 281474976710656) :
    Calls Tryz.prog 111 #[.slice A n c] w fun e w' => e = .returned (.bool (goodB l)) ∧ Below w.heap.size w w' := by
  have hl := h.rd.len
  simp only at hl
  cases n with
  | zero =>
    obtain rfl : l = [] := List.eq_nil_of_length_eq_zero hl
    clear hl
    go_enter Tryz.func111, Tryz.ntmps111
    go_wp2
    go_ret
    exact ⟨rfl, Below.refl _ _⟩
  | succ q =>
    obtain ⟨ad, e, hc⟩ := h.rd.at q (by show q < q + 1; omega)
    simp only at e
    subst e
    have hv : val 18446744073709551616 (l.take (q + 1)) = val 18446744073709551616 l := by rw [List.take_of_length_le (by omega)]
    by_cases hz : gd l q = 0
    · have hzb : (((gd l q : Nat) : Int) != 0) = false := by rw [hz]; rfl
      have hg : goodB l = false := by
        have h1 := trim_val_le h.lt (m := q) (by omega) ((take_getLast hz _).trans hv)
        unfold goodB
        rw [decide_eq_false_iff_not]
        omega
      have HG := Lib.hid hg
      clear hl hz hg hv
      go_enter Tryz.func111, Tryz.ntmps111
      go_wp2
      go_ret
      exact ⟨by rw [HG.out]; rfl, Below.refl _ _⟩
    · have hzb : (((gd l q : Nat) : Int) != 0) = true := by rw [bne_iff_ne]; omega
      have hg : goodB l = true := by
        have h1 := nl_of h.lt (m := q + 1) (by omega) hv (fun q' e => by (have e2 : q' = q := by omega); rw [e2]; exact hz)
        unfold goodB
        rw [decide_eq_true_iff]
        omega
      have HG := Lib.hid hg
      clear hl hz hg hv
      go_enter Tryz.func111, Tryz.ntmps111
      go_wp2
      go_ret
      exact ⟨by rw [HG.out]; rfl, Below.refl _ _⟩
end Go.Proofs.YtlpfbcilnfgaaaaGreatDoor
