/- Contract: gessolaw01.NatBack answers true, at any two numbers and any power. -/
import Derived.Test.YtphiglbieffbjaaDoorOe
namespace Go.Proofs.YtphiglbieffbjaaDoor
open Go.RowKit Gs
set_option linter.unusedVariables false

theorem pow_ten_40 {L K : Nat} (hL : L = 20 * K) : (18446744073709551616 : Nat) ^ K ≤ 10 ^ L := by
  rw [hL, Nat.pow_mul]
  exact Nat.pow_le_pow_left (by decide) K
set_option maxRecDepth 100000 in
set_option maxHeartbeats 4000000 in
theorem law_NatBack {A n c A' n' c'} {l l' : List Nat} {P} {w : World} {k : Nat} (ha0 : RdU w P ⟨A, n, c⟩ l) (hb0 : RdU w P ⟨A', n', c'⟩ l') (hk : k < 65536) :
    Calls Tryd.prog 6 #[.slice A n c, .slice A' n' c', .int .u16 (k : Int)] w fun e w' => e = .returned (.bool true) ∧ Below w.heap.size w w' := by
  by_cases hs : n ≤ 40 ∧ n' ≤ 40
  · have ha := Num.of ha0 hs.1
    have hb := Num.of hb0 hs.2
    have t1 : ¬ (40 : Int) < (n : Int) := by omega
    have t2 : ¬ (40 : Int) < (n' : Int) := by omega
    obtain ⟨x, hx⟩ : ∃ x, x = val 18446744073709551616 l := ⟨_, rfl⟩
    obtain ⟨y, hy⟩ : ∃ x, x = val 18446744073709551616 l' := ⟨_, rfl⟩
    rw [← hx] at ha
    rw [← hy] at hb
    clear hx hy ha0 hb0 hs
    obtain ⟨L, hL⟩ : ∃ L, L = 20 * 40 := ⟨_, rfl⟩
    have hx10 := Lib.hid (Nat.lt_of_lt_of_le ha.lt (pow_ten_40 hL))
    have hL1 : L ≤ 1000 := by omega
    have hL2 : 0 < L := by omega
    clear hL
    have hxB := Lib.hid ha.lt
    obtain ⟨r, hr⟩ := root_exists x
    have hz1 : cmpI ((r * r : Nat) : Int) (x : Nat) ≤ 0 := by
      rcases Nat.lt_or_ge (r * r) x with h1 | h1
      · rw [cmpI_lt h1]; decide
      · rw [cmpI_eq (Nat.le_antisymm hr.1 h1)]; decide
    obtain ⟨z, hz⟩ : ∃ z, z = cmpI ((r * r : Nat) : Int) (x : Nat) := ⟨_, rfl⟩
    rw [← hz] at hz1
    have hz2 : decide (z ≤ 0) = true := decide_eq_true hz1
    have HZ := Lib.hid hz.symm
    have HR := Lib.hid hr
    clear hz hr
    by_cases h0 : y = 0
    · have HY := Lib.hid h0
      clear h0
      go_enter Tryd.func6, Tryd.ntmps6
      go_wp2_with fail
      refine (call_DivMod_zero ha hb (by decide) (by decide) HY.out).mono ?_
      rintro e w1 ⟨rfl, b1⟩
      go_wp2_with fail
      refine (call_Shl (k % 3000) (ha.below b1) (by decide) (by omega) (by omega)).mono ?_
      rintro e w2 ⟨l2, rfl, h2, b2⟩
      go_wp2_with fail
      refine (call_Shr (k % 3000) h2.num (by omega) (by omega) (by omega)).mono ?_
      rintro e w3 ⟨r3, rfl, h3, b3⟩
      rw [Nat.mul_div_cancel _ (Nat.pow_pos (show 0 < 2 by omega))] at h3
      go_wp2_with fail
      refine (call_Text (L := L) (ha.below (Gs.Below.tr b1 (Gs.Below.tr b2 b3))) (by decide) hx10.out (by omega)).mono ?_
      rintro e w4 ⟨s, rfl, hs4, b4⟩
      have hsz4 := Lib.hid (hs4.size_le hx10.out hL2)
      go_wp2_with fail
      refine (call_Parse (K := 40) hs4 (Nat.le_trans hsz4.out (by omega)) hxB.out).mono ?_
      rintro e w5 ⟨p5, rfl, h5, b5⟩
      go_wp2_with fail
      refine (call_Sqrt (ha.below (Gs.Below.tr b1 (Gs.Below.tr b2 (Gs.Below.tr b3 (Gs.Below.tr b4 b5))))) (by decide) HR.out).mono ?_
      rintro e w6 ⟨s6, rfl, h6, b6⟩
      go_wp2_with fail
      refine (call_Add (h6.num.alloc _) (Num.made' _ 29 [1] (lt_dec rfl) rfl (by decide) (by simp) rfl) (by decide) (by decide)).mono ?_
      rintro e w7 ⟨t7, rfl, h7, b7'⟩
      have b7 : Below w6.heap.size w6 w7 := (Gs.Below.un b7')
      clear b7'
      go_wp2_with fail
      refine (call_Cmp (h3.below (Gs.Below.tr b4 (Gs.Below.tr b5 (Gs.Below.tr b6 b7)))).num (ha.below (Gs.Below.tr b1 (Gs.Below.tr b2 (Gs.Below.tr b3 (Gs.Below.tr b4 (Gs.Below.tr b5 (Gs.Below.tr b6 b7))))))) (by omega) (by decide) (cmpI_eq rfl)).mono ?_
      rintro e w8 ⟨rfl, b8⟩
      go_wp2_with fail
      refine (call_Cmp (h5.below (Gs.Below.tr b6 (Gs.Below.tr b7 b8))).num (ha.below (Gs.Below.tr b1 (Gs.Below.tr b2 (Gs.Below.tr b3 (Gs.Below.tr b4 (Gs.Below.tr b5 (Gs.Below.tr b6 (Gs.Below.tr b7 b8)))))))) (by decide) (by decide) (cmpI_eq rfl)).mono ?_
      rintro e w9 ⟨rfl, b9⟩
      go_wp2_with fail
      refine (call_Mul (h6.below (Gs.Below.tr b7 (Gs.Below.tr b8 b9))).num (h6.below (Gs.Below.tr b7 (Gs.Below.tr b8 b9))).num (by decide) (by decide)).mono ?_
      rintro e w10 ⟨q10, rfl, h10, b10⟩
      go_wp2_with fail
      refine (call_Cmp h10.num (ha.below (Gs.Below.tr b1 (Gs.Below.tr b2 (Gs.Below.tr b3 (Gs.Below.tr b4 (Gs.Below.tr b5 (Gs.Below.tr b6 (Gs.Below.tr b7 (Gs.Below.tr b8 (Gs.Below.tr b9 b10)))))))))) (by decide) (by decide) HZ.out).mono ?_
      rintro e w11 ⟨rfl, b11⟩
      go_wp2_with fail
      refine (call_Mul (h7.below (Gs.Below.tr b8 (Gs.Below.tr b9 (Gs.Below.tr b10 b11)))).num (h7.below (Gs.Below.tr b8 (Gs.Below.tr b9 (Gs.Below.tr b10 b11)))).num (by decide) (by decide)).mono ?_
      rintro e w12 ⟨q12, rfl, h12, b12⟩
      go_wp2_with fail
      refine (call_Cmp h12.num (ha.below (Gs.Below.tr b1 (Gs.Below.tr b2 (Gs.Below.tr b3 (Gs.Below.tr b4 (Gs.Below.tr b5 (Gs.Below.tr b6 (Gs.Below.tr b7 (Gs.Below.tr b8 (Gs.Below.tr b9 (Gs.Below.tr b10 (Gs.Below.tr b11 b12)))))))))))) (by decide) (by decide) (cmpI_gt HR.out.2)).mono ?_
      rintro e w13 ⟨rfl, b13⟩
      go_wp2_with fail
      refine (law_wakes _).mono ?_
      rintro e w14 ⟨rfl, b14⟩
      go_wp2
      go_ret
      exact ⟨rfl, (Gs.Below.tr b1 (Gs.Below.tr b2 (Gs.Below.tr b3 (Gs.Below.tr b4 (Gs.Below.tr b5 (Gs.Below.tr b6 (Gs.Below.tr b7 (Gs.Below.tr b8 (Gs.Below.tr b9 (Gs.Below.tr b10 (Gs.Below.tr b11 (Gs.Below.tr b12 (Gs.Below.tr b13 b14)))))))))))))⟩
    · have HY := Lib.hid h0
      have HM := Lib.hid (Nat.mod_lt x (Nat.pos_of_ne_zero h0))
      clear h0
      go_enter Tryd.func6, Tryd.ntmps6
      go_wp2_with fail
      refine (call_DivMod ha hb (by decide) (by decide) HY.out).mono ?_
      rintro e w1 ⟨q1, r1, rfl, hq1, hr1, b1⟩
      go_wp2_with fail
      refine (call_Mul hq1.num (hb.below b1) (by decide) (by decide)).mono ?_
      rintro e w2 ⟨u2, rfl, h2, b2⟩
      go_wp2_with fail
      refine (call_Add h2.num (hr1.below b2).num (by decide) (by decide)).mono ?_
      rintro e w3 ⟨v3, rfl, h3, b3⟩
      go_wp2_with fail
      refine (call_Cmp h3.num (ha.below (Gs.Below.tr b1 (Gs.Below.tr b2 b3))) (by decide) (by decide) (cmpI_eq (Nat.div_add_mod' x y))).mono ?_
      rintro e w4 ⟨rfl, b4⟩
      go_wp2_with fail
      refine (call_Cmp (hr1.below (Gs.Below.tr b2 (Gs.Below.tr b3 b4))).num (hb.below (Gs.Below.tr b1 (Gs.Below.tr b2 (Gs.Below.tr b3 b4)))) (by decide) (by decide) (cmpI_lt HM.out)).mono ?_
      rintro e w5 ⟨rfl, b5⟩
      go_wp2_with fail
      refine (call_Shl (k % 3000) (ha.below (Gs.Below.tr b1 (Gs.Below.tr b2 (Gs.Below.tr b3 (Gs.Below.tr b4 b5))))) (by decide) (by omega) (by omega)).mono ?_
      rintro e w6 ⟨l6, rfl, h6, b6⟩
      go_wp2_with fail
      refine (call_Shr (k % 3000) h6.num (by omega) (by omega) (by omega)).mono ?_
      rintro e w7 ⟨r7, rfl, h7, b7⟩
      rw [Nat.mul_div_cancel _ (Nat.pow_pos (show 0 < 2 by omega))] at h7
      go_wp2_with fail
      refine (call_Text (L := L) (ha.below (Gs.Below.tr b1 (Gs.Below.tr b2 (Gs.Below.tr b3 (Gs.Below.tr b4 (Gs.Below.tr b5 (Gs.Below.tr b6 b7))))))) (by decide) hx10.out (by omega)).mono ?_
      rintro e w8 ⟨s, rfl, hs8, b8⟩
      have hsz8 := Lib.hid (hs8.size_le hx10.out hL2)
      go_wp2_with fail
      refine (call_Parse (K := 40) hs8 (Nat.le_trans hsz8.out (by omega)) hxB.out).mono ?_
      rintro e w9 ⟨p9, rfl, h9, b9⟩
      go_wp2_with fail
      refine (call_Sqrt (ha.below (Gs.Below.tr b1 (Gs.Below.tr b2 (Gs.Below.tr b3 (Gs.Below.tr b4 (Gs.Below.tr b5 (Gs.Below.tr b6 (Gs.Below.tr b7 (Gs.Below.tr b8 b9))))))))) (by decide) HR.out).mono ?_
      rintro e w10 ⟨s10, rfl, h10, b10⟩
      go_wp2_with fail
      refine (call_Add (h10.num.alloc _) (Num.made' _ 29 [1] (lt_dec rfl) rfl (by decide) (by simp) rfl) (by decide) (by decide)).mono ?_
      rintro e w11 ⟨t11, rfl, h11, b11'⟩
      have b11 : Below w10.heap.size w10 w11 := (Gs.Below.un b11')
      clear b11'
      go_wp2_with fail
      refine (call_Cmp (h7.below (Gs.Below.tr b8 (Gs.Below.tr b9 (Gs.Below.tr b10 b11)))).num (ha.below (Gs.Below.tr b1 (Gs.Below.tr b2 (Gs.Below.tr b3 (Gs.Below.tr b4 (Gs.Below.tr b5 (Gs.Below.tr b6 (Gs.Below.tr b7 (Gs.Below.tr b8 (Gs.Below.tr b9 (Gs.Below.tr b10 b11))))))))))) (by omega) (by decide) (cmpI_eq rfl)).mono ?_
      rintro e w12 ⟨rfl, b12⟩
      go_wp2_with fail
      refine (call_Cmp (h9.below (Gs.Below.tr b10 (Gs.Below.tr b11 b12))).num (ha.below (Gs.Below.tr b1 (Gs.Below.tr b2 (Gs.Below.tr b3 (Gs.Below.tr b4 (Gs.Below.tr b5 (Gs.Below.tr b6 (Gs.Below.tr b7 (Gs.Below.tr b8 (Gs.Below.tr b9 (Gs.Below.tr b10 (Gs.Below.tr b11 b12)))))))))))) (by decide) (by decide) (cmpI_eq rfl)).mono ?_
      rintro e w13 ⟨rfl, b13⟩
      go_wp2_with fail
      refine (call_Mul (h10.below (Gs.Below.tr b11 (Gs.Below.tr b12 b13))).num (h10.below (Gs.Below.tr b11 (Gs.Below.tr b12 b13))).num (by decide) (by decide)).mono ?_
      rintro e w14 ⟨q14, rfl, h14, b14⟩
      go_wp2_with fail
      refine (call_Cmp h14.num (ha.below (Gs.Below.tr b1 (Gs.Below.tr b2 (Gs.Below.tr b3 (Gs.Below.tr b4 (Gs.Below.tr b5 (Gs.Below.tr b6 (Gs.Below.tr b7 (Gs.Below.tr b8 (Gs.Below.tr b9 (Gs.Below.tr b10 (Gs.Below.tr b11 (Gs.Below.tr b12 (Gs.Below.tr b13 b14)))))))))))))) (by decide) (by decide) HZ.out).mono ?_
      rintro e w15 ⟨rfl, b15⟩
      go_wp2_with fail
      refine (call_Mul (h11.below (Gs.Below.tr b12 (Gs.Below.tr b13 (Gs.Below.tr b14 b15)))).num (h11.below (Gs.Below.tr b12 (Gs.Below.tr b13 (Gs.Below.tr b14 b15)))).num (by decide) (by decide)).mono ?_
      rintro e w16 ⟨q16, rfl, h16, b16⟩
      go_wp2_with fail
      refine (call_Cmp h16.num (ha.below (Gs.Below.tr b1 (Gs.Below.tr b2 (Gs.Below.tr b3 (Gs.Below.tr b4 (Gs.Below.tr b5 (Gs.Below.tr b6 (Gs.Below.tr b7 (Gs.Below.tr b8 (Gs.Below.tr b9 (Gs.Below.tr b10 (Gs.Below.tr b11 (Gs.Below.tr b12 (Gs.Below.tr b13 (Gs.Below.tr b14 (Gs.Below.tr b15 b16)))))))))))))))) (by decide) (by decide) (cmpI_gt HR.out.2)).mono ?_
      rintro e w17 ⟨rfl, b17⟩
      go_wp2_with fail
      refine (law_wakes _).mono ?_
      rintro e w18 ⟨rfl, b18⟩
      go_wp2
      go_ret
      exact ⟨rfl, (Gs.Below.tr b1 (Gs.Below.tr b2 (Gs.Below.tr b3 (Gs.Below.tr b4 (Gs.Below.tr b5 (Gs.Below.tr b6 (Gs.Below.tr b7 (Gs.Below.tr b8 (Gs.Below.tr b9 (Gs.Below.tr b10 (Gs.Below.tr b11 (Gs.Below.tr b12 (Gs.Below.tr b13 (Gs.Below.tr b14 (Gs.Below.tr b15 (Gs.Below.tr b16 (Gs.Below.tr b17 b18)))))))))))))))))⟩
  · have h3 : ¬ n ≤ 40 ∨ (n ≤ 40 ∧ ¬ n' ≤ 40) := by omega
    rcases h3 with h3 | ⟨h3, h4⟩
    · have t1 : (40 : Int) < (n : Int) := by omega
      go_enter Tryd.func6, Tryd.ntmps6
      go_wp2_with fail
      refine (law_wakes _).mono ?_
      rintro e w1 ⟨rfl, b1⟩
      go_wp2
      go_ret
      exact ⟨rfl, b1⟩
    · have t1 : ¬ (40 : Int) < (n : Int) := by omega
      have t2 : (40 : Int) < (n' : Int) := by omega
      go_enter Tryd.func6, Tryd.ntmps6
      go_wp2_with fail
      refine (law_wakes _).mono ?_
      rintro e w1 ⟨rfl, b1⟩
      go_wp2
      go_ret
      exact ⟨rfl, b1⟩
end Go.Proofs.YtphiglbieffbjaaDoor
