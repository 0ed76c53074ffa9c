/- Contract: gessolaw01.NatShifts answers true, at any number, any shift, any small number. -/
import Derived.Test.YtphiglbieffbjaaGreatDoorUe
namespace Go.Proofs.YtphiglbieffbjaaGreatDoor
open Go.RowKit Gs
set_option linter.unusedVariables false
section
variable {w : World} {a b : Value} {x y K K' : Nat}
theorem call_Shl_arg {kk : Int} {l : List Nat} (h : RawN w a l) (hk : kk < 0 ∨ 1048576 < kk) :
    Calls Tryz.prog 18 #[a, .int .i64 kk] w fun e w' => e = .returned (.tuple #[.slice none 0 0, .int .i64 1]) ∧ Below w.heap.size w w' := by
  obtain ⟨A, n, c, rfl, hr⟩ := h
  refine (nat_Shl_arg hk).mono ?_
  rintro e w' ⟨rfl, rfl⟩
  exact ⟨rfl, Below.refl _ _⟩
theorem call_Shr_arg {kk : Int} {l : List Nat} (h : RawN w a l) (hk : kk < 0 ∨ 1048576 < kk) :
    Calls Tryz.prog 19 #[a, .int .i64 kk] w fun e w' => e = .returned (.tuple #[.slice none 0 0, .int .i64 1]) ∧ Below w.heap.size w w' := by
  obtain ⟨A, n, c, rfl, hr⟩ := h
  refine (nat_Shr_arg hk).mono ?_
  rintro e w' ⟨rfl, rfl⟩
  exact ⟨rfl, Below.refl _ _⟩
theorem call_Of {v : Nat} (hv : v < 18446744073709551616) : Calls Tryz.prog 26 #[.int .u64 (v : Int)] w fun e w' => ∃ r, e = .returned r ∧ CanN w' r v 1 ∧ Below w.heap.size w w' := by
  refine (nat_Of v hv w).mono ?_
  rintro e w' ⟨A1, n1, c1, rfl, h1, hb⟩
  exact ⟨_, rfl, CanN.of h1 (by simpa using hv), hb⟩
end

set_option maxRecDepth 100000 in
set_option maxHeartbeats 4000000 in
theorem law_NatShifts {A n c} {l : List Nat} {P} {w : World} {k : Int} {v : Nat} (ha0 : RdU w P ⟨A, n, c⟩ l) (hkw : (Lit.int .i64 k).wf = true) (hv : v < 18446744073709551616) :
    Calls Tryz.prog 5 #[.slice A n c, .int .i64 k, .int .u64 (v : Int)] w fun e w' => e = .returned (.bool true) ∧ Below w.heap.size w w' := by
  clear hkw
  by_cases hs : n ≤ 40
  · have ha := Num.of ha0 hs
    have haR := RawN.of ha0
    have HLL := Lib.hid (show l.length = n from ha0.rd.len)
    have t1 : ¬ (40 : Int) < (n : Int) := by omega
    obtain ⟨x, hx⟩ : ∃ x, val 18446744073709551616 l = x := ⟨_, rfl⟩
    rw [hx] at ha
    have HX := Lib.hid hx
    obtain ⟨r, hr⟩ := root_exists x
    have HR := Lib.hid hr
    obtain ⟨B, hB⟩ : ∃ B : Int, ((blen x : Nat) : Int) = B := ⟨_, rfl⟩
    have HB := Lib.hid hB
    clear hx hr hB
    by_cases hk1 : 5000 < k ∧ k ≤ 1048576
    · have t2 : (5000 : Int) < k := hk1.1
      have t3 : k ≤ 1048576 := hk1.2
      go_enter Tryz.func5, Tryz.ntmps5
      go_wp2_with fail
      refine (law_wakes _).mono ?_
      rintro e w1 ⟨rfl, b1⟩
      go_wp2
      go_ret
      exact ⟨rfl, b1⟩
    · rcases (show k < 0 ∨ 1048576 < k ∨ (0 ≤ k ∧ k ≤ 5000) by omega) with hk2 | hk2 | hk2
      · have HA := Lib.hid (show k < 0 ∨ 1048576 < k from .inl hk2)
        have t2 : ¬ (5000 : Int) < k := by omega
        have t3 : k < 0 := hk2
        clear hk1
        go_enter Tryz.func5, Tryz.ntmps5
        go_wp2_with fail
        refine (call_In ha (by decide)).mono ?_
        rintro e w1 ⟨r1, rfl, h1, b1⟩
        go_wp2_with fail
        refine (keep_Nat (ha0.below b1) (by omega)).mono ?_
        rintro e w2 ⟨r2, rfl, h2, b2⟩
        have hi2 : Num w2 r2 x 40 := h2.num' HX.out (by rw [HLL.out]; exact hs)
        go_wp2_with fail
        refine (call_Shl_arg h2 HA.out).mono ?_
        rintro e w3 ⟨rfl, b3⟩
        go_wp2_with fail
        refine (keep_Nat (ha0.below (Gs.Below.tr b1 (Gs.Below.tr b2 b3))) (by omega)).mono ?_
        rintro e w4 ⟨r4, rfl, h4, b4⟩
        have hi4 : Num w4 r4 x 40 := h4.num' HX.out (by rw [HLL.out]; exact hs)
        go_wp2_with fail
        refine (call_Shr_arg h4 HA.out).mono ?_
        rintro e w5 ⟨rfl, b5⟩
        go_wp2_with fail
        refine (keep_Nat (ha0.below (Gs.Below.tr b1 (Gs.Below.tr b2 (Gs.Below.tr b3 (Gs.Below.tr b4 b5))))) (by omega)).mono ?_
        rintro e w6 ⟨r6, rfl, h6, b6⟩
        have hi6 : Num w6 r6 x 40 := h6.num' HX.out (by rw [HLL.out]; exact hs)
        go_wp2_with fail
        refine (call_Bits (z := B) hi6 (by decide) HB.out).mono ?_
        rintro e w7 ⟨rfl, b7⟩
        go_wp2_with fail
        refine (call_RBits (z := B) (h1.below (Gs.Below.tr b2 (Gs.Below.tr b3 (Gs.Below.tr b4 (Gs.Below.tr b5 (Gs.Below.tr b6 b7)))))) (by decide) HB.out).mono ?_
        rintro e w8 ⟨rfl, b8⟩
        go_wp2_with fail
        refine (keep_Nat (ha0.below (Gs.Below.tr b1 (Gs.Below.tr b2 (Gs.Below.tr b3 (Gs.Below.tr b4 (Gs.Below.tr b5 (Gs.Below.tr b6 (Gs.Below.tr b7 b8)))))))) (by omega)).mono ?_
        rintro e w9 ⟨r9, rfl, h9, b9⟩
        have hi9 : Num w9 r9 x 40 := h9.num' HX.out (by rw [HLL.out]; exact hs)
        go_wp2_with fail
        refine (call_Sqrt hi9 (by decide) HR.out).mono ?_
        rintro e w10 ⟨s10, rfl, h10, b10⟩
        go_wp2_with fail
        refine (ref_Sqrt (h1.below (Gs.Below.tr b2 (Gs.Below.tr b3 (Gs.Below.tr b4 (Gs.Below.tr b5 (Gs.Below.tr b6 (Gs.Below.tr b7 (Gs.Below.tr b8 (Gs.Below.tr b9 b10))))))))) (by decide) HR.out).mono ?_
        rintro e w11 ⟨s11, rfl, h11, b11⟩
        go_wp2_with fail
        refine (call_same (D := true) (h10.below b11) h11 (by decide) (by simp)).mono ?_
        rintro e w12 ⟨rfl, b12⟩
        go_wp2_with fail
        refine (call_Of hv).mono ?_
        rintro e w13 ⟨s13, rfl, h13, b13⟩
        go_wp2_with fail
        refine (ref_Of v hv _).mono ?_
        rintro e w14 ⟨s14, rfl, h14, b14⟩
        go_wp2_with fail
        refine (call_same (D := true) (h13.below b14) h14 (by decide) (by simp)).mono ?_
        rintro e w15 ⟨rfl, b15⟩
        go_wp2_with fail
        refine (law_wakes _).mono ?_
        rintro e w16 ⟨rfl, b16⟩
        go_wp2
        go_ret
        exact ⟨rfl, (Gs.Below.tr b1 (Gs.Below.tr b2 (Gs.Below.tr b3 (Gs.Below.tr b4 (Gs.Below.tr b5 (Gs.Below.tr b6 (Gs.Below.tr b7 (Gs.Below.tr b8 (Gs.Below.tr b9 (Gs.Below.tr b10 (Gs.Below.tr b11 (Gs.Below.tr b12 (Gs.Below.tr b13 (Gs.Below.tr b14 (Gs.Below.tr b15 b16)))))))))))))))⟩
      · have HA := Lib.hid (show k < 0 ∨ 1048576 < k from .inr hk2)
        have t2 : (5000 : Int) < k := by omega
        have t3 : ¬ k ≤ 1048576 := by omega
        have t4 : ¬ k < 0 := by omega
        have t5 : (1048576 : Int) < k := hk2
        clear hk1
        go_enter Tryz.func5, Tryz.ntmps5
        go_wp2_with fail
        refine (call_In ha (by decide)).mono ?_
        rintro e w1 ⟨r1, rfl, h1, b1⟩
        go_wp2_with fail
        refine (keep_Nat (ha0.below b1) (by omega)).mono ?_
        rintro e w2 ⟨r2, rfl, h2, b2⟩
        have hi2 : Num w2 r2 x 40 := h2.num' HX.out (by rw [HLL.out]; exact hs)
        go_wp2_with fail
        refine (call_Shl_arg h2 HA.out).mono ?_
        rintro e w3 ⟨rfl, b3⟩
        go_wp2_with fail
        refine (keep_Nat (ha0.below (Gs.Below.tr b1 (Gs.Below.tr b2 b3))) (by omega)).mono ?_
        rintro e w4 ⟨r4, rfl, h4, b4⟩
        have hi4 : Num w4 r4 x 40 := h4.num' HX.out (by rw [HLL.out]; exact hs)
        go_wp2_with fail
        refine (call_Shr_arg h4 HA.out).mono ?_
        rintro e w5 ⟨rfl, b5⟩
        go_wp2_with fail
        refine (keep_Nat (ha0.below (Gs.Below.tr b1 (Gs.Below.tr b2 (Gs.Below.tr b3 (Gs.Below.tr b4 b5))))) (by omega)).mono ?_
        rintro e w6 ⟨r6, rfl, h6, b6⟩
        have hi6 : Num w6 r6 x 40 := h6.num' HX.out (by rw [HLL.out]; exact hs)
        go_wp2_with fail
        refine (call_Bits (z := B) hi6 (by decide) HB.out).mono ?_
        rintro e w7 ⟨rfl, b7⟩
        go_wp2_with fail
        refine (call_RBits (z := B) (h1.below (Gs.Below.tr b2 (Gs.Below.tr b3 (Gs.Below.tr b4 (Gs.Below.tr b5 (Gs.Below.tr b6 b7)))))) (by decide) HB.out).mono ?_
        rintro e w8 ⟨rfl, b8⟩
        go_wp2_with fail
        refine (keep_Nat (ha0.below (Gs.Below.tr b1 (Gs.Below.tr b2 (Gs.Below.tr b3 (Gs.Below.tr b4 (Gs.Below.tr b5 (Gs.Below.tr b6 (Gs.Below.tr b7 b8)))))))) (by omega)).mono ?_
        rintro e w9 ⟨r9, rfl, h9, b9⟩
        have hi9 : Num w9 r9 x 40 := h9.num' HX.out (by rw [HLL.out]; exact hs)
        go_wp2_with fail
        refine (call_Sqrt hi9 (by decide) HR.out).mono ?_
        rintro e w10 ⟨s10, rfl, h10, b10⟩
        go_wp2_with fail
        refine (ref_Sqrt (h1.below (Gs.Below.tr b2 (Gs.Below.tr b3 (Gs.Below.tr b4 (Gs.Below.tr b5 (Gs.Below.tr b6 (Gs.Below.tr b7 (Gs.Below.tr b8 (Gs.Below.tr b9 b10))))))))) (by decide) HR.out).mono ?_
        rintro e w11 ⟨s11, rfl, h11, b11⟩
        go_wp2_with fail
        refine (call_same (D := true) (h10.below b11) h11 (by decide) (by simp)).mono ?_
        rintro e w12 ⟨rfl, b12⟩
        go_wp2_with fail
        refine (call_Of hv).mono ?_
        rintro e w13 ⟨s13, rfl, h13, b13⟩
        go_wp2_with fail
        refine (ref_Of v hv _).mono ?_
        rintro e w14 ⟨s14, rfl, h14, b14⟩
        go_wp2_with fail
        refine (call_same (D := true) (h13.below b14) h14 (by decide) (by simp)).mono ?_
        rintro e w15 ⟨rfl, b15⟩
        go_wp2_with fail
        refine (law_wakes _).mono ?_
        rintro e w16 ⟨rfl, b16⟩
        go_wp2
        go_ret
        exact ⟨rfl, (Gs.Below.tr b1 (Gs.Below.tr b2 (Gs.Below.tr b3 (Gs.Below.tr b4 (Gs.Below.tr b5 (Gs.Below.tr b6 (Gs.Below.tr b7 (Gs.Below.tr b8 (Gs.Below.tr b9 (Gs.Below.tr b10 (Gs.Below.tr b11 (Gs.Below.tr b12 (Gs.Below.tr b13 (Gs.Below.tr b14 (Gs.Below.tr b15 b16)))))))))))))))⟩
      · obtain ⟨m, rfl⟩ := Int.eq_ofNat_of_zero_le hk2.1
        have hm : m ≤ 5000 := by omega
        have t2 : ¬ (5000 : Int) < (m : Int) := by omega
        have t4 : ¬ (m : Int) < 0 := by omega
        have t5 : ¬ (1048576 : Int) < (m : Int) := by omega
        clear hk1 hk2
        go_enter Tryz.func5, Tryz.ntmps5
        go_wp2_with fail
        refine (call_In ha (by decide)).mono ?_
        rintro e w1 ⟨r1, rfl, h1, b1⟩
        go_wp2_with fail
        refine (keep_Nat (ha0.below b1) (by omega)).mono ?_
        rintro e w2 ⟨r2, rfl, h2, b2⟩
        have hi2 : Num w2 r2 x 40 := h2.num' HX.out (by rw [HLL.out]; exact hs)
        go_wp2_with fail
        refine (call_Shl m hi2 (by decide) (by omega) rfl).mono ?_
        rintro e w3 ⟨s3, rfl, h3, b3⟩
        go_wp2_with fail
        refine (keep_Nat (ha0.below (Gs.Below.tr b1 (Gs.Below.tr b2 b3))) (by omega)).mono ?_
        rintro e w4 ⟨r4, rfl, h4, b4⟩
        have hi4 : Num w4 r4 x 40 := h4.num' HX.out (by rw [HLL.out]; exact hs)
        go_wp2_with fail
        refine (call_Shr m hi4 (by decide) (by omega) rfl).mono ?_
        rintro e w5 ⟨s5, rfl, h5, b5⟩
        go_wp2_with fail
        refine (call_RShl m (h1.below (Gs.Below.tr b2 (Gs.Below.tr b3 (Gs.Below.tr b4 b5)))) (by decide) (by omega) rfl).mono ?_
        rintro e w6 ⟨s6, rfl, h6, b6⟩
        go_wp2_with fail
        refine (call_same (D := true) (h3.below (Gs.Below.tr b4 (Gs.Below.tr b5 b6))) h6 (by omega) (by simp)).mono ?_
        rintro e w7 ⟨rfl, b7⟩
        go_wp2_with fail
        refine (call_RShr m (h1.below (Gs.Below.tr b2 (Gs.Below.tr b3 (Gs.Below.tr b4 (Gs.Below.tr b5 (Gs.Below.tr b6 b7)))))) (by decide) (by omega) rfl).mono ?_
        rintro e w8 ⟨s8, rfl, h8, b8⟩
        go_wp2_with fail
        refine (call_same (D := true) (h5.below (Gs.Below.tr b6 (Gs.Below.tr b7 b8))) h8 (by decide) (by simp)).mono ?_
        rintro e w9 ⟨rfl, b9⟩
        go_wp2_with fail
        refine (keep_Nat (ha0.below (Gs.Below.tr b1 (Gs.Below.tr b2 (Gs.Below.tr b3 (Gs.Below.tr b4 (Gs.Below.tr b5 (Gs.Below.tr b6 (Gs.Below.tr b7 (Gs.Below.tr b8 b9))))))))) (by omega)).mono ?_
        rintro e w10 ⟨r10, rfl, h10, b10⟩
        have hi10 : Num w10 r10 x 40 := h10.num' HX.out (by rw [HLL.out]; exact hs)
        go_wp2_with fail
        refine (call_Bits (z := B) hi10 (by decide) HB.out).mono ?_
        rintro e w11 ⟨rfl, b11⟩
        go_wp2_with fail
        refine (call_RBits (z := B) (h1.below (Gs.Below.tr b2 (Gs.Below.tr b3 (Gs.Below.tr b4 (Gs.Below.tr b5 (Gs.Below.tr b6 (Gs.Below.tr b7 (Gs.Below.tr b8 (Gs.Below.tr b9 (Gs.Below.tr b10 b11)))))))))) (by decide) HB.out).mono ?_
        rintro e w12 ⟨rfl, b12⟩
        go_wp2_with fail
        refine (keep_Nat (ha0.below (Gs.Below.tr b1 (Gs.Below.tr b2 (Gs.Below.tr b3 (Gs.Below.tr b4 (Gs.Below.tr b5 (Gs.Below.tr b6 (Gs.Below.tr b7 (Gs.Below.tr b8 (Gs.Below.tr b9 (Gs.Below.tr b10 (Gs.Below.tr b11 b12)))))))))))) (by omega)).mono ?_
        rintro e w13 ⟨r13, rfl, h13, b13⟩
        have hi13 : Num w13 r13 x 40 := h13.num' HX.out (by rw [HLL.out]; exact hs)
        go_wp2_with fail
        refine (call_Sqrt hi13 (by decide) HR.out).mono ?_
        rintro e w14 ⟨s14, rfl, h14, b14⟩
        go_wp2_with fail
        refine (ref_Sqrt (h1.below (Gs.Below.tr b2 (Gs.Below.tr b3 (Gs.Below.tr b4 (Gs.Below.tr b5 (Gs.Below.tr b6 (Gs.Below.tr b7 (Gs.Below.tr b8 (Gs.Below.tr b9 (Gs.Below.tr b10 (Gs.Below.tr b11 (Gs.Below.tr b12 (Gs.Below.tr b13 b14))))))))))))) (by decide) HR.out).mono ?_
        rintro e w15 ⟨s15, rfl, h15, b15⟩
        go_wp2_with fail
        refine (call_same (D := true) (h14.below b15) h15 (by decide) (by simp)).mono ?_
        rintro e w16 ⟨rfl, b16⟩
        go_wp2_with fail
        refine (call_Of hv).mono ?_
        rintro e w17 ⟨s17, rfl, h17, b17⟩
        go_wp2_with fail
        refine (ref_Of v hv _).mono ?_
        rintro e w18 ⟨s18, rfl, h18, b18⟩
        go_wp2_with fail
        refine (call_same (D := true) (h17.below b18) h18 (by decide) (by simp)).mono ?_
        rintro e w19 ⟨rfl, b19⟩
        go_wp2_with fail
        refine (law_wakes _).mono ?_
        rintro e w20 ⟨rfl, b20⟩
        go_wp2
        go_ret
        exact ⟨rfl, (Gs.Below.tr b1 (Gs.Below.tr b2 (Gs.Below.tr b3 (Gs.Below.tr b4 (Gs.Below.tr b5 (Gs.Below.tr b6 (Gs.Below.tr b7 (Gs.Below.tr b8 (Gs.Below.tr b9 (Gs.Below.tr b10 (Gs.Below.tr b11 (Gs.Below.tr b12 (Gs.Below.tr b13 (Gs.Below.tr b14 (Gs.Below.tr b15 (Gs.Below.tr b16 (Gs.Below.tr b17 (Gs.Below.tr b18 (Gs.Below.tr b19 b20)))))))))))))))))))⟩
  · have t1 : (40 : Int) < (n : Int) := by omega
    go_enter Tryz.func5, Tryz.ntmps5
    go_wp2_with fail
    refine (law_wakes _).mono ?_
    rintro e w1 ⟨rfl, b1⟩
    go_wp2
    go_ret
    exact ⟨rfl, b1⟩
end Go.Proofs.YtphiglbieffbjaaGreatDoor
