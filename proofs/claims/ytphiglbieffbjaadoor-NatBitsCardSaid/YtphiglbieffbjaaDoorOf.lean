/- Contract: gessolaw01.NatBits answers true, at any number and any power. -/
import Derived.Test.YtphiglbieffbjaaDoorOe
namespace Go.Proofs.YtphiglbieffbjaaDoor
open Go.RowKit Gs
set_option linter.unusedVariables false

set_option maxRecDepth 100000 in
set_option maxHeartbeats 4000000 in
theorem law_NatBits {A n c} {l : List Nat} {P} {w : World} {k : Nat} (ha0 : RdU w P ⟨A, n, c⟩ l) (hk : k < 65536) :
    Calls Tryd.prog 5 #[.slice A n c, .int .u16 (k : Int)] w fun e w' => e = .returned (.bool true) ∧ Below w.heap.size w w' := by
  by_cases hs : n ≤ 40
  · have ha := Num.of ha0 hs
    have t1 : ¬ (40 : Int) < (n : Int) := by omega
    obtain ⟨x, hx⟩ : ∃ x, x = val 18446744073709551616 l := ⟨_, rfl⟩
    rw [← hx] at ha
    clear hx ha0 hs
    have hbl := blen_bound ha.lt
    have hdv := div_blen x
    have hdv1 := fun h => div_blen1 (x := x) h
    have hbp := fun h => blen_pos (n := x) h
    have hb0 : x = 0 → blen x = 0 := fun h => by rw [h, blen_zero]
    obtain ⟨B, hB⟩ : ∃ B, B = blen x := ⟨_, rfl⟩
    rw [← hB] at hbl hdv hdv1 hbp hb0
    have HB := Lib.hid hB
    have HDV := Lib.hid hdv
    have HDV1 := Lib.hid hdv1
    have t2 : ¬ (B : Int) < 0 := by omega
    have t3 : ¬ (2560 : Int) < (B : Int) := by omega
    have s2 : IntKind.i64.wrap ((k : Int) % 2000 + 1) = (k : Int) % 2000 + 1 := IntWalk.i64_in _ (by omega)
    clear hB hdv hdv1
    by_cases h0 : x = 0
    · have HX := Lib.hid h0
      have hB0 : B = 0 := hb0 h0
      subst hB0
      clear h0 hb0 hbp
      go_enter Tryd.func5, Tryd.ntmps5
      go_wp2_with fail
      refine (call_Bits ha (by decide) (by rw [← HB.out])).mono ?_
      rintro e w1 ⟨rfl, b1⟩
      go_wp2_with fail
      refine (call_Shr 0 (ha.below b1) (by decide) (by omega) (by omega)).mono ?_
      rintro e w2 ⟨s2, rfl, h2, b2⟩
      rw [show x / 2 ^ 0 = 0 from HDV.out] at h2
      obtain ⟨As, ns, cs, rfl, hs2, _⟩ := h2
      obtain rfl : ns = 0 := hs2.rd.len.symm
      go_wp2_with fail
      refine (call_Shl (k % 2000) (Num.made' _ 29 [1] (lt_dec rfl) rfl (by decide) (by simp) rfl) (by decide) (by omega) (by omega)).mono ?_
      rintro e w3 ⟨p3, rfl, h3, b3'⟩
      have b3 : Below w2.heap.size w2 w3 := (Gs.Below.un b3')
      clear b3'
      go_wp2_with fail
      refine (call_Cmp (ha.below (Gs.Below.tr b1 (Gs.Below.tr b2 b3))) (Num.nil _) (by decide) (by decide) (cmpI_eq HX.out)).mono ?_
      rintro e w4 ⟨rfl, b4⟩
      go_wp2_with fail
      refine (call_Bits (z := (k : Int) % 2000 + 1) (h3.below b4).num (by have h1 : ([1] : List Nat).length = 1 := rfl; omega) (by rw [show val 18446744073709551616 [1] * 2 ^ (k % 2000) = 1 * 2 ^ (k % 2000) from rfl, blen_pow]; omega)).mono ?_
      rintro e w5 ⟨rfl, b5⟩
      go_wp2_with fail
      refine (law_wakes _).mono ?_
      rintro e w6 ⟨rfl, b6⟩
      go_wp2
      go_ret
      exact ⟨rfl, (Gs.Below.tr b1 (Gs.Below.tr b2 (Gs.Below.tr b3 (Gs.Below.tr b4 (Gs.Below.tr b5 b6)))))⟩
    · have h1 : 0 < x := Nat.pos_of_ne_zero h0
      have hB1 : 0 < B := hbp h0
      have HD1 := Lib.hid (HDV1.out h0)
      have HX := Lib.hid h1
      have t4 : (0 : Int) < (B : Int) := by omega
      have s1 : IntKind.i64.wrap ((B : Int) - 1) = (B : Int) - 1 := IntWalk.i64_in _ (by omega)
      clear hb0 hbp h0 h1
      go_enter Tryd.func5, Tryd.ntmps5
      go_wp2_with fail
      refine (call_Bits ha (by decide) (by rw [← HB.out])).mono ?_
      rintro e w1 ⟨rfl, b1⟩
      go_wp2_with fail
      refine (call_Shr B (ha.below b1) (by decide) (by omega) (by omega)).mono ?_
      rintro e w2 ⟨s2, rfl, h2, b2⟩
      rw [HDV.out] at h2
      obtain ⟨As, ns, cs, rfl, hs2, _⟩ := h2
      obtain rfl : ns = 0 := hs2.rd.len.symm
      go_wp2_with fail
      refine (call_Shr (B - 1) (ha.below (Gs.Below.tr b1 b2)) (by decide) (by omega) (by omega)).mono ?_
      rintro e w3 ⟨t3, rfl, h3, b3⟩
      rw [HD1.out] at h3
      go_wp2_with fail
      refine (call_Nats (D := true) (h3.alloc _) (CanN.made' _ 29 [1] (lt_dec rfl) rfl (by decide) (by simp) rfl (by intro x hx; simp at hx; omega)) (by decide)).mono ?_
      rintro e w4 ⟨rfl, b4'⟩
      have b4 : Below w3.heap.size w3 w4 := (Gs.Below.un b4')
      clear b4'
      go_wp2_with fail
      refine (call_Shl (k % 2000) (Num.made' _ 29 [1] (lt_dec rfl) rfl (by decide) (by simp) rfl) (by decide) (by omega) (by omega)).mono ?_
      rintro e w5 ⟨p5, rfl, h5, b5'⟩
      have b5 : Below w4.heap.size w4 w5 := (Gs.Below.un b5')
      clear b5'
      go_wp2_with fail
      refine (call_Cmp (ha.below (Gs.Below.tr b1 (Gs.Below.tr b2 (Gs.Below.tr b3 (Gs.Below.tr b4 b5))))) (Num.nil _) (by decide) (by decide) (cmpI_gt HX.out)).mono ?_
      rintro e w6 ⟨rfl, b6⟩
      go_wp2_with fail
      refine (call_Bits (z := (k : Int) % 2000 + 1) (h5.below b6).num (by have h1 : ([1] : List Nat).length = 1 := rfl; omega) (by rw [show val 18446744073709551616 [1] * 2 ^ (k % 2000) = 1 * 2 ^ (k % 2000) from rfl, blen_pow]; omega)).mono ?_
      rintro e w7 ⟨rfl, b7⟩
      go_wp2_with fail
      refine (law_wakes _).mono ?_
      rintro e w8 ⟨rfl, b8⟩
      go_wp2
      go_ret
      exact ⟨rfl, (Gs.Below.tr b1 (Gs.Below.tr b2 (Gs.Below.tr b3 (Gs.Below.tr b4 (Gs.Below.tr b5 (Gs.Below.tr b6 (Gs.Below.tr b7 b8)))))))⟩
  · have t1 : (40 : Int) < (n : Int) := by omega
    go_enter Tryd.func5, Tryd.ntmps5
    go_wp2_with fail
    refine (law_wakes _).mono ?_
    rintro e w1 ⟨rfl, b1⟩
    go_wp2
    go_ret
    exact ⟨rfl, b1⟩
end Go.Proofs.YtphiglbieffbjaaDoor
