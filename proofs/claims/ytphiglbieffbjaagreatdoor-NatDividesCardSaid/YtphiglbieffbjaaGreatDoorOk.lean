/- Contract: gessolaw01.NatDivides answers true, at any two numbers. -/
import Derived.Test.YtphiglbieffbjaaGreatDoorUl
namespace Go.Proofs.YtphiglbieffbjaaGreatDoor
open Go.RowKit Gs
set_option linter.unusedVariables false

set_option maxRecDepth 100000 in
set_option maxHeartbeats 4000000 in
theorem law_NatDivides {A n c A' n' c'} {l l' : List Nat} {P} {w : World} (ha0 : RdU w P ⟨A, n, c⟩ l) (hb0 : RdU w P ⟨A', n', c'⟩ l') :
    Calls Tryz.prog 4 #[.slice A n c, .slice A' n' c'] w fun e w' => e = .returned (.bool true) ∧ Below w.heap.size w w' := by
  by_cases hs : n ≤ 40 ∧ n' ≤ 40
  · have ha := Num.of ha0 hs.1
    have hb := Num.of hb0 hs.2
    have hn1 : n ≤ 40 := hs.1
    have hn2 : n' ≤ 40 := hs.2
    have HLL := Lib.hid (show l.length = n from ha0.rd.len)
    have HLL' := Lib.hid (show l'.length = n' from hb0.rd.len)
    have t1 : ¬ (40 : Int) < (n : Int) := by omega
    have t2 : ¬ (40 : Int) < (n' : Int) := by omega
    obtain ⟨x, hx⟩ : ∃ x, val 18446744073709551616 l = x := ⟨_, rfl⟩
    obtain ⟨y, hy⟩ : ∃ x, val 18446744073709551616 l' = x := ⟨_, rfl⟩
    rw [hx] at ha
    rw [hy] at hb
    have HX := Lib.hid hx
    have HY := Lib.hid hy
    clear hx hy hs
    by_cases h0 : y = 0
    · have HY0 := Lib.hid h0
      clear h0
      go_enter Tryz.func4, Tryz.ntmps4
      go_wp2_with fail
      refine (call_In ha (by decide)).mono ?_
      rintro e w1 ⟨r1, rfl, h1, b1⟩
      go_wp2_with fail
      refine (call_In (hb.below b1) (by decide)).mono ?_
      rintro e w2 ⟨y2, rfl, h2, b2⟩
      have hY2 := h2
      obtain ⟨Ay, ny, cy, rfl, hyr, hyn⟩ := h2
      obtain rfl : ny = 0 := by rw [HY0.out] at hyr; exact hyr.rd.len.symm
      clear hyr
      go_wp2_with fail
      refine (keep_Nat (ha0.below (Gs.Below.tr b1 b2)) (by omega)).mono ?_
      rintro e w3 ⟨r3, rfl, h3, b3⟩
      have hi3 : Num w3 r3 x 40 := h3.num' HX.out (by rw [HLL.out]; exact hn1)
      go_wp2_with fail
      refine (keep_Nat (hb0.below (Gs.Below.tr b1 (Gs.Below.tr b2 b3))) (by omega)).mono ?_
      rintro e w4 ⟨r4, rfl, h4, b4⟩
      have hi4 : Num w4 r4 y 40 := h4.num' HY.out (by rw [HLL'.out]; exact hn2)
      go_wp2_with fail
      refine (call_DivMod_zero (hi3.below b4) hi4 (by decide) (by decide) HY0.out).mono ?_
      rintro e w5 ⟨rfl, b5⟩
      go_wp2_with fail
      refine (keep_Nat (ha0.below (Gs.Below.tr b1 (Gs.Below.tr b2 (Gs.Below.tr b3 (Gs.Below.tr b4 b5))))) (by omega)).mono ?_
      rintro e w6 ⟨r6, rfl, h6, b6⟩
      have hi6 : Num w6 r6 x 40 := h6.num' HX.out (by rw [HLL.out]; exact hn1)
      go_wp2_with fail
      refine (keep_Nat (hb0.below (Gs.Below.tr b1 (Gs.Below.tr b2 (Gs.Below.tr b3 (Gs.Below.tr b4 (Gs.Below.tr b5 b6)))))) (by omega)).mono ?_
      rintro e w7 ⟨r7, rfl, h7, b7⟩
      have hi7 : Num w7 r7 y 40 := h7.num' HY.out (by rw [HLL'.out]; exact hn2)
      go_wp2_with fail
      refine (call_Gcd (hi6.below b7) hi7 (by decide) (by decide)).mono ?_
      rintro e w8 ⟨g8, rfl, h8, b8⟩
      go_wp2_with fail
      refine (ref_Gcd (h1.below (Gs.Below.tr b2 (Gs.Below.tr b3 (Gs.Below.tr b4 (Gs.Below.tr b5 (Gs.Below.tr b6 (Gs.Below.tr b7 b8))))))) (hY2.below (Gs.Below.tr b3 (Gs.Below.tr b4 (Gs.Below.tr b5 (Gs.Below.tr b6 (Gs.Below.tr b7 b8)))))) (by decide)).mono ?_
      rintro e w9 ⟨q9, rfl, h9, b9⟩
      go_wp2_with fail
      refine (call_same (D := true) (h8.below b9) h9 (by decide) (by simp)).mono ?_
      rintro e w10 ⟨rfl, b10⟩
      go_wp2_with fail
      refine (law_wakes _).mono ?_
      rintro e w11 ⟨rfl, b11⟩
      go_wp2
      go_ret
      exact ⟨rfl, (Gs.Below.tr b1 (Gs.Below.tr b2 (Gs.Below.tr b3 (Gs.Below.tr b4 (Gs.Below.tr b5 (Gs.Below.tr b6 (Gs.Below.tr b7 (Gs.Below.tr b8 (Gs.Below.tr b9 (Gs.Below.tr b10 b11))))))))))⟩
    · have HY0 := Lib.hid h0
      clear h0
      go_enter Tryz.func4, Tryz.ntmps4
      go_wp2_with fail
      refine (call_In ha (by decide)).mono ?_
      rintro e w1 ⟨r1, rfl, h1, b1⟩
      go_wp2_with fail
      refine (call_In (hb.below b1) (by decide)).mono ?_
      rintro e w2 ⟨y2, rfl, h2, b2⟩
      have hY2 := h2
      obtain ⟨Ay, ny, cy, rfl, hyr, hyn⟩ := h2
      have hny : ny ≠ 0 := fun e => HY0.out ((limbs_len_zero B32 _).1 (hyr.rd.len.trans e))
      have t5 : ((ny : Int) == 0) = false := by rw [beq_eq_false_iff_ne]; omega
      have t6 : ¬ (ny : Int) = 0 := by omega
      clear hny
      clear hyr
      go_wp2_with fail
      refine (keep_Nat (ha0.below (Gs.Below.tr b1 b2)) (by omega)).mono ?_
      rintro e w3 ⟨r3, rfl, h3, b3⟩
      have hi3 : Num w3 r3 x 40 := h3.num' HX.out (by rw [HLL.out]; exact hn1)
      go_wp2_with fail
      refine (keep_Nat (hb0.below (Gs.Below.tr b1 (Gs.Below.tr b2 b3))) (by omega)).mono ?_
      rintro e w4 ⟨r4, rfl, h4, b4⟩
      have hi4 : Num w4 r4 y 40 := h4.num' HY.out (by rw [HLL'.out]; exact hn2)
      go_wp2_with fail
      refine (call_DivMod (hi3.below b4) hi4 (by decide) (by decide) HY0.out).mono ?_
      rintro e w5 ⟨q5, r5, rfl, hq5, hr5, b5⟩
      go_wp2_with fail
      refine (call_RDivMod (h1.below (Gs.Below.tr b2 (Gs.Below.tr b3 (Gs.Below.tr b4 b5)))) (hY2.below (Gs.Below.tr b3 (Gs.Below.tr b4 b5))) (by decide) (by decide) (Nat.pos_of_ne_zero HY0.out)).mono ?_
      rintro e w6 ⟨rq6, rr6, rfl, hrq6, hrr6, b6⟩
      have hq06 := hrq6
      have hr06 := hrr6
      obtain ⟨Aq, nq, cq, rfl, hq1, hnq⟩ := hrq6
      obtain ⟨Ar, nr, cr, rfl, hr1, hnr⟩ := hrr6
      obtain ⟨Wt, hWt⟩ : ∃ Wt, Wt = w6.alloc (.cells #[.slice Aq nq cq, .slice Ar nr cr] 40) := ⟨_, rfl⟩
      have hal : Below w6.heap.size w6 Wt := by rw [hWt]; exact (Below.refl _ w6).alloc (Nat.le_refl _) _
      have hTb : Wt.heap[w6.heap.size]? = some (.cells #[.slice Aq nq cq, .slice Ar nr cr] 40 (0, 0)) := by rw [hWt]; exact heap_alloc_new w6 _
      have hTlt : w6.heap.size < Wt.heap.size := by rw [hWt]; simp
      obtain ⟨hc0, hc1⟩ := two_at hTb
      have HWT := Lib.hid hWt
      clear hWt hq1 hr1
      have b7 : Below w6.heap.size w6 Wt := hal
      obtain ⟨w7, hw7⟩ : ∃ w7, w7 = Wt := ⟨_, rfl⟩
      rw [← hw7] at b7 hc0 hc1 hTb hTlt HWT
      clear hw7 hal
      go_wp2_with fail
      rw [← HWT.out]
      refine (call_same (D := true) (hq5.below (Gs.Below.tr b6 b7)) (hq06.below b7) (by decide) (by simp)).mono ?_
      rintro e w8 ⟨rfl, b8⟩
      have hTb2 := (b8.block _ hTlt).trans hTb
      obtain ⟨hd0, hd1⟩ := two_at hTb2
      go_wp2_with fail
      refine (call_same (D := true) (hr5.below (Gs.Below.tr b6 (Gs.Below.tr b7 b8))) (hr06.below (Gs.Below.tr b7 b8)) (by decide) (by simp)).mono ?_
      rintro e w9 ⟨rfl, b9⟩
      go_wp2_with fail
      refine (keep_Nat (ha0.below (Gs.Below.tr b1 (Gs.Below.tr b2 (Gs.Below.tr b3 (Gs.Below.tr b4 (Gs.Below.tr b5 (Gs.Below.tr b6 (Gs.Below.tr b7 (Gs.Below.tr b8 b9))))))))) (by omega)).mono ?_
      rintro e w10 ⟨r10, rfl, h10, b10⟩
      have hi10 : Num w10 r10 x 40 := h10.num' HX.out (by rw [HLL.out]; exact hn1)
      go_wp2_with fail
      refine (keep_Nat (hb0.below (Gs.Below.tr b1 (Gs.Below.tr b2 (Gs.Below.tr b3 (Gs.Below.tr b4 (Gs.Below.tr b5 (Gs.Below.tr b6 (Gs.Below.tr b7 (Gs.Below.tr b8 (Gs.Below.tr b9 b10)))))))))) (by omega)).mono ?_
      rintro e w11 ⟨r11, rfl, h11, b11⟩
      have hi11 : Num w11 r11 y 40 := h11.num' HY.out (by rw [HLL'.out]; exact hn2)
      go_wp2_with fail
      refine (call_Gcd (hi10.below b11) hi11 (by decide) (by decide)).mono ?_
      rintro e w12 ⟨g12, rfl, h12, b12⟩
      go_wp2_with fail
      refine (ref_Gcd (h1.below (Gs.Below.tr b2 (Gs.Below.tr b3 (Gs.Below.tr b4 (Gs.Below.tr b5 (Gs.Below.tr b6 (Gs.Below.tr b7 (Gs.Below.tr b8 (Gs.Below.tr b9 (Gs.Below.tr b10 (Gs.Below.tr b11 b12))))))))))) (hY2.below (Gs.Below.tr b3 (Gs.Below.tr b4 (Gs.Below.tr b5 (Gs.Below.tr b6 (Gs.Below.tr b7 (Gs.Below.tr b8 (Gs.Below.tr b9 (Gs.Below.tr b10 (Gs.Below.tr b11 b12)))))))))) (by decide)).mono ?_
      rintro e w13 ⟨q13, rfl, h13, b13⟩
      go_wp2_with fail
      refine (call_same (D := true) (h12.below b13) h13 (by decide) (by simp)).mono ?_
      rintro e w14 ⟨rfl, b14⟩
      go_wp2_with fail
      refine (law_wakes _).mono ?_
      rintro e w15 ⟨rfl, b15⟩
      go_wp2
      go_ret
      exact ⟨rfl, (Gs.Below.tr b1 (Gs.Below.tr b2 (Gs.Below.tr b3 (Gs.Below.tr b4 (Gs.Below.tr b5 (Gs.Below.tr b6 (Gs.Below.tr b7 (Gs.Below.tr b8 (Gs.Below.tr b9 (Gs.Below.tr b10 (Gs.Below.tr b11 (Gs.Below.tr b12 (Gs.Below.tr b13 (Gs.Below.tr b14 b15))))))))))))))⟩
  · have h3 : ¬ n ≤ 40 ∨ (n ≤ 40 ∧ ¬ n' ≤ 40) := by omega
    rcases h3 with h3 | ⟨h3, h4⟩
    · have t1 : (40 : Int) < (n : Int) := by omega
      go_enter Tryz.func4, Tryz.ntmps4
      go_wp2_with fail
      refine (law_wakes _).mono ?_
      rintro e w1 ⟨rfl, b1⟩
      go_wp2
      go_ret
      exact ⟨rfl, b1⟩
    · have t1 : ¬ (40 : Int) < (n : Int) := by omega
      have t2 : (40 : Int) < (n' : Int) := by omega
      go_enter Tryz.func4, Tryz.ntmps4
      go_wp2_with fail
      refine (law_wakes _).mono ?_
      rintro e w1 ⟨rfl, b1⟩
      go_wp2
      go_ret
      exact ⟨rfl, b1⟩
end Go.Proofs.YtphiglbieffbjaaGreatDoor
