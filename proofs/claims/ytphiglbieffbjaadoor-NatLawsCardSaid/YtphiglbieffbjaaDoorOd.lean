/- Contract: gessolaw01.NatLaws answers true, at any three numbers. -/
import Derived.Test.YtphiglbieffbjaaDoorOc
namespace Go.Proofs.YtphiglbieffbjaaDoor
open Go.RowKit Gs
set_option linter.unusedVariables false

set_option maxRecDepth 100000 in
set_option maxHeartbeats 4000000 in
theorem law_NatLaws {A n c A' n' c' A'' n'' c''} {l l' l'' : List Nat} {P} {w : World} (ha0 : RdU w P ⟨A, n, c⟩ l) (hb0 : RdU w P ⟨A', n', c'⟩ l') (hc0 : RdU w P ⟨A'', n'', c''⟩ l'') :
    Calls Tryd.prog 3 #[.slice A n c, .slice A' n' c', .slice A'' n'' c''] w fun e w' => e = .returned (.bool true) ∧ Below w.heap.size w w' := by
  by_cases hs : n ≤ 20 ∧ n' ≤ 20 ∧ n'' ≤ 20
  · have ha := Num.of ha0 hs.1
    have hb := Num.of hb0 hs.2.1
    have hc := Num.of hc0 hs.2.2
    have t1 : ¬ (20 : Int) < (n : Int) := by omega
    have t2 : ¬ (20 : Int) < (n' : Int) := by omega
    have t3 : ¬ (20 : Int) < (n'' : Int) := by omega
    obtain ⟨x, hx⟩ : ∃ x, x = val 18446744073709551616 l := ⟨_, rfl⟩
    obtain ⟨y, hy⟩ : ∃ x, x = val 18446744073709551616 l' := ⟨_, rfl⟩
    obtain ⟨z, hz⟩ : ∃ x, x = val 18446744073709551616 l'' := ⟨_, rfl⟩
    rw [← hx] at ha
    rw [← hy] at hb
    rw [← hz] at hc
    clear hx hy hz ha0 hb0 hc0 hs
    go_enter Tryd.func3, Tryd.ntmps3
    go_wp2_with fail
    refine (call_Add ha hb (by decide) (by decide)).mono ?_
    rintro e w1 ⟨r1, rfl, h1, b1⟩
    go_wp2_with fail
    refine (call_Add (hb.below b1) (ha.below b1) (by decide) (by decide)).mono ?_
    rintro e w2 ⟨r2, rfl, h2, b2⟩
    go_wp2_with fail
    refine (call_Cmp (h1.below b2).num h2.num (by decide) (by decide) (cmpI_eq (Nat.add_comm x y))).mono ?_
    rintro e w3 ⟨rfl, b3⟩
    go_wp2_with fail
    refine (call_Mul (ha.below (Gs.Below.tr b1 (Gs.Below.tr b2 b3))) (hb.below (Gs.Below.tr b1 (Gs.Below.tr b2 b3))) (by decide) (by decide)).mono ?_
    rintro e w4 ⟨r4, rfl, h4, b4⟩
    go_wp2_with fail
    refine (call_Mul (hb.below (Gs.Below.tr b1 (Gs.Below.tr b2 (Gs.Below.tr b3 b4)))) (ha.below (Gs.Below.tr b1 (Gs.Below.tr b2 (Gs.Below.tr b3 b4)))) (by decide) (by decide)).mono ?_
    rintro e w5 ⟨r5, rfl, h5, b5⟩
    go_wp2_with fail
    refine (call_Cmp (h4.below b5).num h5.num (by decide) (by decide) (cmpI_eq (Nat.mul_comm x y))).mono ?_
    rintro e w6 ⟨rfl, b6⟩
    go_wp2_with fail
    refine (call_Add (hb.below (Gs.Below.tr b1 (Gs.Below.tr b2 (Gs.Below.tr b3 (Gs.Below.tr b4 (Gs.Below.tr b5 b6)))))) (hc.below (Gs.Below.tr b1 (Gs.Below.tr b2 (Gs.Below.tr b3 (Gs.Below.tr b4 (Gs.Below.tr b5 b6)))))) (by decide) (by decide)).mono ?_
    rintro e w7 ⟨r7, rfl, h7, b7⟩
    go_wp2_with fail
    refine (call_Mul (ha.below (Gs.Below.tr b1 (Gs.Below.tr b2 (Gs.Below.tr b3 (Gs.Below.tr b4 (Gs.Below.tr b5 (Gs.Below.tr b6 b7))))))) h7.num (by decide) (by decide)).mono ?_
    rintro e w8 ⟨r8, rfl, h8, b8⟩
    go_wp2_with fail
    refine (call_Mul (ha.below (Gs.Below.tr b1 (Gs.Below.tr b2 (Gs.Below.tr b3 (Gs.Below.tr b4 (Gs.Below.tr b5 (Gs.Below.tr b6 (Gs.Below.tr b7 b8)))))))) (hb.below (Gs.Below.tr b1 (Gs.Below.tr b2 (Gs.Below.tr b3 (Gs.Below.tr b4 (Gs.Below.tr b5 (Gs.Below.tr b6 (Gs.Below.tr b7 b8)))))))) (by decide) (by decide)).mono ?_
    rintro e w9 ⟨r9, rfl, h9, b9⟩
    go_wp2_with fail
    refine (call_Mul (ha.below (Gs.Below.tr b1 (Gs.Below.tr b2 (Gs.Below.tr b3 (Gs.Below.tr b4 (Gs.Below.tr b5 (Gs.Below.tr b6 (Gs.Below.tr b7 (Gs.Below.tr b8 b9))))))))) (hc.below (Gs.Below.tr b1 (Gs.Below.tr b2 (Gs.Below.tr b3 (Gs.Below.tr b4 (Gs.Below.tr b5 (Gs.Below.tr b6 (Gs.Below.tr b7 (Gs.Below.tr b8 b9))))))))) (by decide) (by decide)).mono ?_
    rintro e w10 ⟨r10, rfl, h10, b10⟩
    go_wp2_with fail
    refine (call_Add (h9.below b10).num h10.num (by decide) (by decide)).mono ?_
    rintro e w11 ⟨r11, rfl, h11, b11⟩
    go_wp2_with fail
    refine (call_Cmp (h8.below (Gs.Below.tr b9 (Gs.Below.tr b10 b11))).num h11.num (by decide) (by decide) (cmpI_eq (Nat.mul_add x y z))).mono ?_
    rintro e w12 ⟨rfl, b12⟩
    go_wp2_with fail
    refine (call_Mul (hb.below (Gs.Below.tr b1 (Gs.Below.tr b2 (Gs.Below.tr b3 (Gs.Below.tr b4 (Gs.Below.tr b5 (Gs.Below.tr b6 (Gs.Below.tr b7 (Gs.Below.tr b8 (Gs.Below.tr b9 (Gs.Below.tr b10 (Gs.Below.tr b11 b12)))))))))))) (hc.below (Gs.Below.tr b1 (Gs.Below.tr b2 (Gs.Below.tr b3 (Gs.Below.tr b4 (Gs.Below.tr b5 (Gs.Below.tr b6 (Gs.Below.tr b7 (Gs.Below.tr b8 (Gs.Below.tr b9 (Gs.Below.tr b10 (Gs.Below.tr b11 b12)))))))))))) (by decide) (by decide)).mono ?_
    rintro e w13 ⟨r13, rfl, h13, b13⟩
    go_wp2_with fail
    refine (call_Mul (ha.below (Gs.Below.tr b1 (Gs.Below.tr b2 (Gs.Below.tr b3 (Gs.Below.tr b4 (Gs.Below.tr b5 (Gs.Below.tr b6 (Gs.Below.tr b7 (Gs.Below.tr b8 (Gs.Below.tr b9 (Gs.Below.tr b10 (Gs.Below.tr b11 (Gs.Below.tr b12 b13))))))))))))) h13.num (by decide) (by decide)).mono ?_
    rintro e w14 ⟨r14, rfl, h14, b14⟩
    go_wp2_with fail
    refine (call_Mul (ha.below (Gs.Below.tr b1 (Gs.Below.tr b2 (Gs.Below.tr b3 (Gs.Below.tr b4 (Gs.Below.tr b5 (Gs.Below.tr b6 (Gs.Below.tr b7 (Gs.Below.tr b8 (Gs.Below.tr b9 (Gs.Below.tr b10 (Gs.Below.tr b11 (Gs.Below.tr b12 (Gs.Below.tr b13 b14)))))))))))))) (hb.below (Gs.Below.tr b1 (Gs.Below.tr b2 (Gs.Below.tr b3 (Gs.Below.tr b4 (Gs.Below.tr b5 (Gs.Below.tr b6 (Gs.Below.tr b7 (Gs.Below.tr b8 (Gs.Below.tr b9 (Gs.Below.tr b10 (Gs.Below.tr b11 (Gs.Below.tr b12 (Gs.Below.tr b13 b14)))))))))))))) (by decide) (by decide)).mono ?_
    rintro e w15 ⟨r15, rfl, h15, b15⟩
    go_wp2_with fail
    refine (call_Mul h15.num (hc.below (Gs.Below.tr b1 (Gs.Below.tr b2 (Gs.Below.tr b3 (Gs.Below.tr b4 (Gs.Below.tr b5 (Gs.Below.tr b6 (Gs.Below.tr b7 (Gs.Below.tr b8 (Gs.Below.tr b9 (Gs.Below.tr b10 (Gs.Below.tr b11 (Gs.Below.tr b12 (Gs.Below.tr b13 (Gs.Below.tr b14 b15))))))))))))))) (by decide) (by decide)).mono ?_
    rintro e w16 ⟨r16, rfl, h16, b16⟩
    go_wp2_with fail
    refine (call_Cmp (h14.below (Gs.Below.tr b15 b16)).num h16.num (by decide) (by decide) (cmpI_eq (Nat.mul_assoc x y z).symm)).mono ?_
    rintro e w17 ⟨rfl, b17⟩
    go_wp2_with fail
    refine (call_Gcd (ha.below (Gs.Below.tr b1 (Gs.Below.tr b2 (Gs.Below.tr b3 (Gs.Below.tr b4 (Gs.Below.tr b5 (Gs.Below.tr b6 (Gs.Below.tr b7 (Gs.Below.tr b8 (Gs.Below.tr b9 (Gs.Below.tr b10 (Gs.Below.tr b11 (Gs.Below.tr b12 (Gs.Below.tr b13 (Gs.Below.tr b14 (Gs.Below.tr b15 (Gs.Below.tr b16 b17))))))))))))))))) (hb.below (Gs.Below.tr b1 (Gs.Below.tr b2 (Gs.Below.tr b3 (Gs.Below.tr b4 (Gs.Below.tr b5 (Gs.Below.tr b6 (Gs.Below.tr b7 (Gs.Below.tr b8 (Gs.Below.tr b9 (Gs.Below.tr b10 (Gs.Below.tr b11 (Gs.Below.tr b12 (Gs.Below.tr b13 (Gs.Below.tr b14 (Gs.Below.tr b15 (Gs.Below.tr b16 b17))))))))))))))))) (by decide) (by decide)).mono ?_
    rintro e w18 ⟨r18, rfl, h18, b18⟩
    obtain ⟨d, hd⟩ : ∃ d, d = Nat.gcd x y := ⟨_, rfl⟩
    rw [← hd] at h18
    have hgN := h18.num
    obtain ⟨Ag, ng, cg, rfl, hg, _⟩ := h18
    have hgl := hg.rd.len
    simp only at hgl
    by_cases h0 : ng = 0
    · subst h0
      have hd0 : d = 0 := (limbs_len_zero B64 _).1 hgl
      have hx0 : x = 0 := Nat.eq_zero_of_gcd_eq_zero_left (hd.symm.trans hd0)
      have hy0 : y = 0 := Nat.eq_zero_of_gcd_eq_zero_right (hd.symm.trans hd0)
      have HX := Lib.hid hx0
      have HY := Lib.hid hy0
      clear hd hd0 hx0 hy0 hgl hg
      go_wp2_with fail
      refine (call_Cmp (ha.below (Gs.Below.tr b1 (Gs.Below.tr b2 (Gs.Below.tr b3 (Gs.Below.tr b4 (Gs.Below.tr b5 (Gs.Below.tr b6 (Gs.Below.tr b7 (Gs.Below.tr b8 (Gs.Below.tr b9 (Gs.Below.tr b10 (Gs.Below.tr b11 (Gs.Below.tr b12 (Gs.Below.tr b13 (Gs.Below.tr b14 (Gs.Below.tr b15 (Gs.Below.tr b16 (Gs.Below.tr b17 b18)))))))))))))))))) (Num.nil _) (by decide) (by decide) (cmpI_eq HX.out)).mono ?_
      rintro e w19 ⟨rfl, b19⟩
      go_wp2_with fail
      refine (call_Cmp (hb.below (Gs.Below.tr b1 (Gs.Below.tr b2 (Gs.Below.tr b3 (Gs.Below.tr b4 (Gs.Below.tr b5 (Gs.Below.tr b6 (Gs.Below.tr b7 (Gs.Below.tr b8 (Gs.Below.tr b9 (Gs.Below.tr b10 (Gs.Below.tr b11 (Gs.Below.tr b12 (Gs.Below.tr b13 (Gs.Below.tr b14 (Gs.Below.tr b15 (Gs.Below.tr b16 (Gs.Below.tr b17 (Gs.Below.tr b18 b19))))))))))))))))))) (Num.nil _) (by decide) (by decide) (cmpI_eq HY.out)).mono ?_
      rintro e w20 ⟨rfl, b20⟩
      go_wp2_with fail
      refine (law_wakes _).mono ?_
      rintro e w21 ⟨rfl, b21⟩
      go_wp2
      go_ret
      exact ⟨rfl, (Gs.Below.tr b1 (Gs.Below.tr b2 (Gs.Below.tr b3 (Gs.Below.tr b4 (Gs.Below.tr b5 (Gs.Below.tr b6 (Gs.Below.tr b7 (Gs.Below.tr b8 (Gs.Below.tr b9 (Gs.Below.tr b10 (Gs.Below.tr b11 (Gs.Below.tr b12 (Gs.Below.tr b13 (Gs.Below.tr b14 (Gs.Below.tr b15 (Gs.Below.tr b16 (Gs.Below.tr b17 (Gs.Below.tr b18 (Gs.Below.tr b19 (Gs.Below.tr b20 b21))))))))))))))))))))⟩
    · have hd0 : d ≠ 0 := fun e => h0 (by rw [← hgl, e]; rfl)
      have hxm : x % d = 0 := by rw [hd]; exact Nat.mod_eq_zero_of_dvd (Nat.gcd_dvd_left x y)
      have hym : y % d = 0 := by rw [hd]; exact Nat.mod_eq_zero_of_dvd (Nat.gcd_dvd_right x y)
      have hgg : Nat.gcd (x / d) (y / d) = 1 := by
        rw [hd, Nat.gcd_div (Nat.gcd_dvd_left x y) (Nat.gcd_dvd_right x y)]
        exact Nat.div_self (by rw [← hd]; omega)
      have t4 : ((ng : Int) == 0) = false := by rw [beq_eq_false_iff_ne]; omega
      have t5 : ¬ (ng : Int) = 0 := by omega
      have HD0 := Lib.hid hd0
      have HXM := Lib.hid hxm
      have HYM := Lib.hid hym
      have HGG := Lib.hid hgg
      clear hd0 hxm hym hgg hd hgl hg
      go_wp2_with fail
      refine (call_DivMod (ha.below (Gs.Below.tr b1 (Gs.Below.tr b2 (Gs.Below.tr b3 (Gs.Below.tr b4 (Gs.Below.tr b5 (Gs.Below.tr b6 (Gs.Below.tr b7 (Gs.Below.tr b8 (Gs.Below.tr b9 (Gs.Below.tr b10 (Gs.Below.tr b11 (Gs.Below.tr b12 (Gs.Below.tr b13 (Gs.Below.tr b14 (Gs.Below.tr b15 (Gs.Below.tr b16 (Gs.Below.tr b17 b18)))))))))))))))))) hgN (by decide) (by decide) HD0.out).mono ?_
      rintro e w19 ⟨q19, r19, rfl, hq19, hr19, b19⟩
      rw [HXM.out] at hr19
      obtain ⟨Ar, nr, cr, rfl, hr, _⟩ := hr19
      obtain rfl : nr = 0 := hr.rd.len.symm
      go_wp2_with fail
      refine (call_DivMod (hb.below (Gs.Below.tr b1 (Gs.Below.tr b2 (Gs.Below.tr b3 (Gs.Below.tr b4 (Gs.Below.tr b5 (Gs.Below.tr b6 (Gs.Below.tr b7 (Gs.Below.tr b8 (Gs.Below.tr b9 (Gs.Below.tr b10 (Gs.Below.tr b11 (Gs.Below.tr b12 (Gs.Below.tr b13 (Gs.Below.tr b14 (Gs.Below.tr b15 (Gs.Below.tr b16 (Gs.Below.tr b17 (Gs.Below.tr b18 b19))))))))))))))))))) (hgN.below b19) (by decide) (by decide) HD0.out).mono ?_
      rintro e w20 ⟨q20, r20, rfl, hq20, hr20, b20⟩
      rw [HYM.out] at hr20
      obtain ⟨Ar2, nr2, cr2, rfl, hr2, _⟩ := hr20
      obtain rfl : nr2 = 0 := hr2.rd.len.symm
      go_wp2_with fail
      refine (call_Gcd (hq19.below b20).num hq20.num (by decide) (by decide)).mono ?_
      rintro e w21 ⟨r21, rfl, h21, b21⟩
      go_wp2_with fail
      refine (call_Cmp (h21.num.alloc _) (Num.made' _ 29 [1] (lt_dec rfl) rfl (by decide) (by simp) rfl) (by decide) (by decide) (cmpI_eq HGG.out)).mono ?_
      rintro e w22 ⟨rfl, b22'⟩
      have b22 : Below w21.heap.size w21 w22 := (Gs.Below.un b22')
      clear b22'
      go_wp2_with fail
      refine (law_wakes _).mono ?_
      rintro e w23 ⟨rfl, b23⟩
      go_wp2
      go_ret
      exact ⟨rfl, (Gs.Below.tr b1 (Gs.Below.tr b2 (Gs.Below.tr b3 (Gs.Below.tr b4 (Gs.Below.tr b5 (Gs.Below.tr b6 (Gs.Below.tr b7 (Gs.Below.tr b8 (Gs.Below.tr b9 (Gs.Below.tr b10 (Gs.Below.tr b11 (Gs.Below.tr b12 (Gs.Below.tr b13 (Gs.Below.tr b14 (Gs.Below.tr b15 (Gs.Below.tr b16 (Gs.Below.tr b17 (Gs.Below.tr b18 (Gs.Below.tr b19 (Gs.Below.tr b20 (Gs.Below.tr b21 (Gs.Below.tr b22 b23))))))))))))))))))))))⟩
  · have h3 : ¬ n ≤ 20 ∨ (n ≤ 20 ∧ ¬ n' ≤ 20) ∨ (n ≤ 20 ∧ n' ≤ 20 ∧ ¬ n'' ≤ 20) := by omega
    rcases h3 with h3 | ⟨h3, h4⟩ | ⟨h3, h4, h5⟩
    · have t1 : (20 : Int) < (n : Int) := by omega
      go_enter Tryd.func3, Tryd.ntmps3
      go_wp2_with fail
      refine (law_wakes _).mono ?_
      rintro e w1 ⟨rfl, b1⟩
      go_wp2
      go_ret
      exact ⟨rfl, b1⟩
    · have t1 : ¬ (20 : Int) < (n : Int) := by omega
      have t2 : (20 : Int) < (n' : Int) := by omega
      go_enter Tryd.func3, Tryd.ntmps3
      go_wp2_with fail
      refine (law_wakes _).mono ?_
      rintro e w1 ⟨rfl, b1⟩
      go_wp2
      go_ret
      exact ⟨rfl, b1⟩
    · have t1 : ¬ (20 : Int) < (n : Int) := by omega
      have t2 : ¬ (20 : Int) < (n' : Int) := by omega
      have t3 : (20 : Int) < (n'' : Int) := by omega
      go_enter Tryd.func3, Tryd.ntmps3
      go_wp2_with fail
      refine (law_wakes _).mono ?_
      rintro e w1 ⟨rfl, b1⟩
      go_wp2
      go_ret
      exact ⟨rfl, b1⟩
end Go.Proofs.YtphiglbieffbjaaDoor
