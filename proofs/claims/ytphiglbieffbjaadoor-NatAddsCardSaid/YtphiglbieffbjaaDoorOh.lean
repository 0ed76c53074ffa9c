/- Contract: gessolaw01.NatAdds answers true, at any two numbers. -/
import Derived.Test.YtphiglbieffbjaaDoorUd
import Derived.Test.YtphiglbieffbjaaDoorNs
namespace Go.Proofs.YtphiglbieffbjaaDoor
open Go.RowKit Gs
set_option linter.unusedVariables false
section
variable {w : World} {a b : Value} {x y K K' : Nat}
theorem call_Sub (h : Num w a x K) (h' : Num w b y K') (hK : K ≤ 1000000) (hK' : K' ≤ 1000000) (hle : y ≤ x) :
    Calls Tryd.prog 15 #[a, b] w fun e w' => ∃ r, e = .returned (.tuple #[r, .int .i64 0]) ∧ CanN w' r (x - y) K ∧ Below w.heap.size w w' := by
  have q := Nat.lt_of_le_of_lt (Nat.sub_le x y) h.lt
  obtain ⟨A, n, c, l, rfl, hr, hv, hn⟩ := h
  obtain ⟨A', n', c', l', rfl, hr', hv', hn'⟩ := h'
  refine (nat_Sub hr hr' (by omega) (by omega) (by rw [hv, hv']; exact hle)).mono ?_
  rintro e w' ⟨A1, n1, c1, rfl, h1, hb⟩
  rw [hv, hv'] at h1
  exact ⟨_, rfl, CanN.of h1 q, hb⟩
theorem call_Sub_below (h : Num w a x K) (h' : Num w b y K') (hK : K ≤ 1000000) (hK' : K' ≤ 1000000) (hlt : x < y) :
    Calls Tryd.prog 15 #[a, b] w fun e w' => e = .returned (.tuple #[.slice none 0 0, .int .i64 13]) ∧ Below w.heap.size w w' := by
  obtain ⟨A, n, c, l, rfl, hr, hv, hn⟩ := h
  obtain ⟨A', n', c', l', rfl, hr', hv', hn'⟩ := h'
  exact nat_Sub_below hr hr' (by omega) (by omega) (by rw [hv, hv']; exact hlt)
end

set_option maxRecDepth 100000 in
set_option maxHeartbeats 4000000 in
theorem law_NatAdds {A n c A' n' c'} {l l' : List Nat} {P} {w : World} (ha0 : RdU w P ⟨A, n, c⟩ l) (hb0 : RdU w P ⟨A', n', c'⟩ l') :
    Calls Tryd.prog 4 #[.slice A n c, .slice A' n' c'] w fun e w' => e = .returned (.bool true) ∧ Below w.heap.size w w' := by
  by_cases hs : n ≤ 40 ∧ n' ≤ 40
  · have ha := Num.of ha0 hs.1
    have hb := Num.of hb0 hs.2
    have haR := RawN.of ha0
    have hbR := RawN.of hb0
    have hn1 : n ≤ 40 := hs.1
    have hn2 : n' ≤ 40 := hs.2
    have hll : l.length = n := ha0.rd.len
    have hll' : l'.length = n' := hb0.rd.len
    have HLL := Lib.hid hll
    have HLL' := Lib.hid hll'
    have t1 : ¬ (40 : Int) < (n : Int) := by omega
    have t2 : ¬ (40 : Int) < (n' : Int) := by omega
    obtain ⟨x, hx⟩ : ∃ x, val 18446744073709551616 l = x := ⟨_, rfl⟩
    obtain ⟨y, hy⟩ : ∃ x, val 18446744073709551616 l' = x := ⟨_, rfl⟩
    rw [hx] at ha
    rw [hy] at hb
    have HX := Lib.hid hx
    have HY := Lib.hid hy
    obtain ⟨z, hz⟩ : ∃ z, cmpI (x : Nat) (y : Nat) = z := ⟨_, rfl⟩
    have HZ := Lib.hid hz
    have hgood : ∀ q, n = q + 1 → goodB l = ((gd l q : Int) != 0) := by
      intro q hq
      have hv : val 18446744073709551616 (l.take (q + 1)) = val 18446744073709551616 l := by rw [List.take_of_length_le (by omega)]
      unfold goodB
      by_cases hz0 : gd l q = 0
      · have h1 := trim_val_le ha0.lt (m := q) (by omega) ((take_getLast hz0 _).trans hv)
        rw [hz0, decide_eq_false (by omega)]
        rfl
      · have h1 := nl_of ha0.lt (m := q + 1) (by omega) hv (fun q' e => by (have e2 : q' = q := by omega); rw [e2]; exact hz0)
        rw [decide_eq_true (by omega)]
        symm
        rw [bne_iff_ne]
        omega
    clear hx hy hz hs hll hll'
    by_cases hxy : x < y
    · have HLT := Lib.hid hxy
      have hzz : z = -1 := by rw [← HZ.out, cmpI_lt hxy]
      subst hzz
      clear hxy
      cases n with
      | zero =>
        have HG := Lib.hid (show goodB l = true by rw [List.length_eq_zero_iff.1 HLL.out]; rfl)
        clear hgood
        go_enter Tryd.func4, Tryd.ntmps4
        go_wp2_with fail
        refine (call_In ha (by decide)).mono ?_
        rintro e w1 ⟨r1, rfl, h1, b1⟩
        go_wp2_with fail
        refine (call_In (hb.below b1) (by decide)).mono ?_
        rintro e w2 ⟨r2, rfl, h2, b2⟩
        go_wp2_with fail
        refine (keep_Nat (ha0.below (Gs.Below.tr b1 b2)) (by omega)).mono ?_
        rintro e w3 ⟨r3, rfl, h3, b3⟩
        have hi3 : Num w3 r3 x 40 := h3.num' HX.out (by rw [HLL.out]; exact hn1)
        go_wp2_with fail
        refine (keep_Nat (hb0.below (Gs.Below.tr b1 (Gs.Below.tr b2 b3))) (by omega)).mono ?_
        rintro e w4 ⟨r4, rfl, h4, b4⟩
        have hi4 : Num w4 r4 y 40 := h4.num' HY.out (by rw [HLL'.out]; exact hn2)
        go_wp2_with fail
        refine (call_Sub_below (hi3.below b4) hi4 (by decide) (by decide) HLT.out).mono ?_
        rintro e w5 ⟨rfl, b5⟩
        go_wp2_with fail
        refine (call_RCmp (h1.below (Gs.Below.tr b2 (Gs.Below.tr b3 (Gs.Below.tr b4 b5)))) (h2.below (Gs.Below.tr b3 (Gs.Below.tr b4 b5))) (by decide) (by decide) HZ.out).mono ?_
        rintro e w6 ⟨rfl, b6⟩
        go_wp2_with fail
        refine (call_Add (hi3.below (Gs.Below.tr b4 (Gs.Below.tr b5 b6))) (hi4.below (Gs.Below.tr b5 b6)) (by decide) (by decide)).mono ?_
        rintro e w7 ⟨p7, rfl, h7, b7⟩
        go_wp2_with fail
        refine (call_RAdd (h1.below (Gs.Below.tr b2 (Gs.Below.tr b3 (Gs.Below.tr b4 (Gs.Below.tr b5 (Gs.Below.tr b6 b7)))))) (h2.below (Gs.Below.tr b3 (Gs.Below.tr b4 (Gs.Below.tr b5 (Gs.Below.tr b6 b7))))) (by decide) (by decide)).mono ?_
        rintro e w8 ⟨q8, rfl, h8, b8⟩
        go_wp2_with fail
        refine (call_same (D := true) (h7.below b8) h8 (by decide) (by simp)).mono ?_
        rintro e w9 ⟨rfl, b9⟩
        go_wp2_with fail
        refine (call_Mul (hi3.below (Gs.Below.tr b4 (Gs.Below.tr b5 (Gs.Below.tr b6 (Gs.Below.tr b7 (Gs.Below.tr b8 b9)))))) (hi4.below (Gs.Below.tr b5 (Gs.Below.tr b6 (Gs.Below.tr b7 (Gs.Below.tr b8 b9))))) (by decide) (by decide)).mono ?_
        rintro e w10 ⟨p10, rfl, h10, b10⟩
        go_wp2_with fail
        refine (call_RMul (h1.below (Gs.Below.tr b2 (Gs.Below.tr b3 (Gs.Below.tr b4 (Gs.Below.tr b5 (Gs.Below.tr b6 (Gs.Below.tr b7 (Gs.Below.tr b8 (Gs.Below.tr b9 b10))))))))) (h2.below (Gs.Below.tr b3 (Gs.Below.tr b4 (Gs.Below.tr b5 (Gs.Below.tr b6 (Gs.Below.tr b7 (Gs.Below.tr b8 (Gs.Below.tr b9 b10)))))))) (by decide) (by decide)).mono ?_
        rintro e w11 ⟨q11, rfl, h11, b11⟩
        go_wp2_with fail
        refine (call_same (D := true) (h10.below b11) h11 (by decide) (by simp)).mono ?_
        rintro e w12 ⟨rfl, b12⟩
        go_wp2_with fail
        refine (call_Cmp (hi3.below (Gs.Below.tr b4 (Gs.Below.tr b5 (Gs.Below.tr b6 (Gs.Below.tr b7 (Gs.Below.tr b8 (Gs.Below.tr b9 (Gs.Below.tr b10 (Gs.Below.tr b11 b12))))))))) (hi4.below (Gs.Below.tr b5 (Gs.Below.tr b6 (Gs.Below.tr b7 (Gs.Below.tr b8 (Gs.Below.tr b9 (Gs.Below.tr b10 (Gs.Below.tr b11 b12)))))))) (by decide) (by decide) HZ.out).mono ?_
        rintro e w13 ⟨rfl, b13⟩
        go_wp2_with fail
        refine (call_RCmp (h1.below (Gs.Below.tr b2 (Gs.Below.tr b3 (Gs.Below.tr b4 (Gs.Below.tr b5 (Gs.Below.tr b6 (Gs.Below.tr b7 (Gs.Below.tr b8 (Gs.Below.tr b9 (Gs.Below.tr b10 (Gs.Below.tr b11 (Gs.Below.tr b12 b13)))))))))))) (h2.below (Gs.Below.tr b3 (Gs.Below.tr b4 (Gs.Below.tr b5 (Gs.Below.tr b6 (Gs.Below.tr b7 (Gs.Below.tr b8 (Gs.Below.tr b9 (Gs.Below.tr b10 (Gs.Below.tr b11 (Gs.Below.tr b12 b13))))))))))) (by decide) (by decide) HZ.out).mono ?_
        rintro e w14 ⟨rfl, b14⟩
        go_wp2_with fail
        refine (call_Good_raw (h3.below (Gs.Below.tr b4 (Gs.Below.tr b5 (Gs.Below.tr b6 (Gs.Below.tr b7 (Gs.Below.tr b8 (Gs.Below.tr b9 (Gs.Below.tr b10 (Gs.Below.tr b11 (Gs.Below.tr b12 (Gs.Below.tr b13 b14))))))))))) (by rw [HLL.out]; omega) HG.out).mono ?_
        rintro e w15 ⟨rfl, b15⟩
        go_wp2_with fail
        refine (call_Nats_raw (D := true) (h3.below (Gs.Below.tr b4 (Gs.Below.tr b5 (Gs.Below.tr b6 (Gs.Below.tr b7 (Gs.Below.tr b8 (Gs.Below.tr b9 (Gs.Below.tr b10 (Gs.Below.tr b11 (Gs.Below.tr b12 (Gs.Below.tr b13 (Gs.Below.tr b14 b15)))))))))))) (haR.below (Gs.Below.tr b1 (Gs.Below.tr b2 (Gs.Below.tr b3 (Gs.Below.tr b4 (Gs.Below.tr b5 (Gs.Below.tr b6 (Gs.Below.tr b7 (Gs.Below.tr b8 (Gs.Below.tr b9 (Gs.Below.tr b10 (Gs.Below.tr b11 (Gs.Below.tr b12 (Gs.Below.tr b13 (Gs.Below.tr b14 b15))))))))))))))) (by simp)).mono ?_
        rintro e w16 ⟨rfl, b16⟩
        go_wp2_with fail
        refine (call_Nats_raw (D := true) (h4.below (Gs.Below.tr b5 (Gs.Below.tr b6 (Gs.Below.tr b7 (Gs.Below.tr b8 (Gs.Below.tr b9 (Gs.Below.tr b10 (Gs.Below.tr b11 (Gs.Below.tr b12 (Gs.Below.tr b13 (Gs.Below.tr b14 (Gs.Below.tr b15 b16)))))))))))) (hbR.below (Gs.Below.tr b1 (Gs.Below.tr b2 (Gs.Below.tr b3 (Gs.Below.tr b4 (Gs.Below.tr b5 (Gs.Below.tr b6 (Gs.Below.tr b7 (Gs.Below.tr b8 (Gs.Below.tr b9 (Gs.Below.tr b10 (Gs.Below.tr b11 (Gs.Below.tr b12 (Gs.Below.tr b13 (Gs.Below.tr b14 (Gs.Below.tr b15 b16)))))))))))))))) (by simp)).mono ?_
        rintro e w17 ⟨rfl, b17⟩
        go_wp2_with fail
        refine (law_wakes _).mono ?_
        rintro e w18 ⟨rfl, b18⟩
        go_wp2
        go_ret
        exact ⟨rfl, (Gs.Below.tr b1 (Gs.Below.tr b2 (Gs.Below.tr b3 (Gs.Below.tr b4 (Gs.Below.tr b5 (Gs.Below.tr b6 (Gs.Below.tr b7 (Gs.Below.tr b8 (Gs.Below.tr b9 (Gs.Below.tr b10 (Gs.Below.tr b11 (Gs.Below.tr b12 (Gs.Below.tr b13 (Gs.Below.tr b14 (Gs.Below.tr b15 (Gs.Below.tr b16 (Gs.Below.tr b17 b18)))))))))))))))))⟩
      | succ q =>
        obtain ⟨ad, e, hc0⟩ := ha0.rd.at q (by show q < q + 1; omega)
        simp only at e
        subst e
        have hg := hgood q rfl
        obtain ⟨g0, hg0⟩ : ∃ g0, g0 = gd l q := ⟨_, rfl⟩
        rw [← hg0] at hg hc0
        obtain ⟨G2, hG2⟩ : ∃ G2, ((g0 : Int) != 0) = G2 := ⟨_, rfl⟩
        rw [hG2] at hg
        have HG := Lib.hid hg
        have s1 : IntKind.i64.wrap (((q + 1 : Nat) : Int) - 1) = (q : Int) := by rw [IntWalk.i64_in _ (by omega)]; omega
        have s2 : IntKind.i64.wrap ((q : Int) + 1 - 1) = (q : Int) := by rw [IntWalk.i64_in _ (by omega)]; omega
        have t3 : (((q + 1 : Nat) : Int) == 0) = false := by rw [beq_eq_false_iff_ne]; omega
        have t4 : ((q : Int) + 1 == 0) = false := by rw [beq_eq_false_iff_ne]; omega
        have t5 : ¬ (q : Int) + 1 = 0 := by omega
        clear hgood hg0 hg
        go_enter Tryd.func4, Tryd.ntmps4
        go_wp2_with fail
        refine (call_In ha (by decide)).mono ?_
        rintro e w1 ⟨r1, rfl, h1, b1⟩
        go_wp2_with fail
        refine (call_In (hb.below b1) (by decide)).mono ?_
        rintro e w2 ⟨r2, rfl, h2, b2⟩
        go_wp2_with fail
        refine (keep_Nat (ha0.below (Gs.Below.tr b1 b2)) (by omega)).mono ?_
        rintro e w3 ⟨r3, rfl, h3, b3⟩
        have hi3 : Num w3 r3 x 40 := h3.num' HX.out (by rw [HLL.out]; exact hn1)
        go_wp2_with fail
        refine (keep_Nat (hb0.below (Gs.Below.tr b1 (Gs.Below.tr b2 b3))) (by omega)).mono ?_
        rintro e w4 ⟨r4, rfl, h4, b4⟩
        have hi4 : Num w4 r4 y 40 := h4.num' HY.out (by rw [HLL'.out]; exact hn2)
        go_wp2_with fail
        refine (call_Sub_below (hi3.below b4) hi4 (by decide) (by decide) HLT.out).mono ?_
        rintro e w5 ⟨rfl, b5⟩
        go_wp2_with fail
        refine (call_RCmp (h1.below (Gs.Below.tr b2 (Gs.Below.tr b3 (Gs.Below.tr b4 b5)))) (h2.below (Gs.Below.tr b3 (Gs.Below.tr b4 b5))) (by decide) (by decide) HZ.out).mono ?_
        rintro e w6 ⟨rfl, b6⟩
        have hcq := cell_below (Gs.Below.tr b1 (Gs.Below.tr b2 (Gs.Below.tr b3 (Gs.Below.tr b4 (Gs.Below.tr b5 b6))))) hc0
        go_wp2_with fail
        refine (call_Add (hi3.below (Gs.Below.tr b4 (Gs.Below.tr b5 b6))) (hi4.below (Gs.Below.tr b5 b6)) (by decide) (by decide)).mono ?_
        rintro e w7 ⟨p7, rfl, h7, b7⟩
        go_wp2_with fail
        refine (call_RAdd (h1.below (Gs.Below.tr b2 (Gs.Below.tr b3 (Gs.Below.tr b4 (Gs.Below.tr b5 (Gs.Below.tr b6 b7)))))) (h2.below (Gs.Below.tr b3 (Gs.Below.tr b4 (Gs.Below.tr b5 (Gs.Below.tr b6 b7))))) (by decide) (by decide)).mono ?_
        rintro e w8 ⟨q8, rfl, h8, b8⟩
        go_wp2_with fail
        refine (call_same (D := true) (h7.below b8) h8 (by decide) (by simp)).mono ?_
        rintro e w9 ⟨rfl, b9⟩
        go_wp2_with fail
        refine (call_Mul (hi3.below (Gs.Below.tr b4 (Gs.Below.tr b5 (Gs.Below.tr b6 (Gs.Below.tr b7 (Gs.Below.tr b8 b9)))))) (hi4.below (Gs.Below.tr b5 (Gs.Below.tr b6 (Gs.Below.tr b7 (Gs.Below.tr b8 b9))))) (by decide) (by decide)).mono ?_
        rintro e w10 ⟨p10, rfl, h10, b10⟩
        go_wp2_with fail
        refine (call_RMul (h1.below (Gs.Below.tr b2 (Gs.Below.tr b3 (Gs.Below.tr b4 (Gs.Below.tr b5 (Gs.Below.tr b6 (Gs.Below.tr b7 (Gs.Below.tr b8 (Gs.Below.tr b9 b10))))))))) (h2.below (Gs.Below.tr b3 (Gs.Below.tr b4 (Gs.Below.tr b5 (Gs.Below.tr b6 (Gs.Below.tr b7 (Gs.Below.tr b8 (Gs.Below.tr b9 b10)))))))) (by decide) (by decide)).mono ?_
        rintro e w11 ⟨q11, rfl, h11, b11⟩
        go_wp2_with fail
        refine (call_same (D := true) (h10.below b11) h11 (by decide) (by simp)).mono ?_
        rintro e w12 ⟨rfl, b12⟩
        go_wp2_with fail
        refine (call_Cmp (hi3.below (Gs.Below.tr b4 (Gs.Below.tr b5 (Gs.Below.tr b6 (Gs.Below.tr b7 (Gs.Below.tr b8 (Gs.Below.tr b9 (Gs.Below.tr b10 (Gs.Below.tr b11 b12))))))))) (hi4.below (Gs.Below.tr b5 (Gs.Below.tr b6 (Gs.Below.tr b7 (Gs.Below.tr b8 (Gs.Below.tr b9 (Gs.Below.tr b10 (Gs.Below.tr b11 b12)))))))) (by decide) (by decide) HZ.out).mono ?_
        rintro e w13 ⟨rfl, b13⟩
        go_wp2_with fail
        refine (call_RCmp (h1.below (Gs.Below.tr b2 (Gs.Below.tr b3 (Gs.Below.tr b4 (Gs.Below.tr b5 (Gs.Below.tr b6 (Gs.Below.tr b7 (Gs.Below.tr b8 (Gs.Below.tr b9 (Gs.Below.tr b10 (Gs.Below.tr b11 (Gs.Below.tr b12 b13)))))))))))) (h2.below (Gs.Below.tr b3 (Gs.Below.tr b4 (Gs.Below.tr b5 (Gs.Below.tr b6 (Gs.Below.tr b7 (Gs.Below.tr b8 (Gs.Below.tr b9 (Gs.Below.tr b10 (Gs.Below.tr b11 (Gs.Below.tr b12 b13))))))))))) (by decide) (by decide) HZ.out).mono ?_
        rintro e w14 ⟨rfl, b14⟩
        go_wp2_with fail
        refine (call_Good_raw (h3.below (Gs.Below.tr b4 (Gs.Below.tr b5 (Gs.Below.tr b6 (Gs.Below.tr b7 (Gs.Below.tr b8 (Gs.Below.tr b9 (Gs.Below.tr b10 (Gs.Below.tr b11 (Gs.Below.tr b12 (Gs.Below.tr b13 b14))))))))))) (by rw [HLL.out]; omega) HG.out).mono ?_
        rintro e w15 ⟨rfl, b15⟩
        go_wp2_with fail
        refine (call_Nats_raw (D := true) (h3.below (Gs.Below.tr b4 (Gs.Below.tr b5 (Gs.Below.tr b6 (Gs.Below.tr b7 (Gs.Below.tr b8 (Gs.Below.tr b9 (Gs.Below.tr b10 (Gs.Below.tr b11 (Gs.Below.tr b12 (Gs.Below.tr b13 (Gs.Below.tr b14 b15)))))))))))) (haR.below (Gs.Below.tr b1 (Gs.Below.tr b2 (Gs.Below.tr b3 (Gs.Below.tr b4 (Gs.Below.tr b5 (Gs.Below.tr b6 (Gs.Below.tr b7 (Gs.Below.tr b8 (Gs.Below.tr b9 (Gs.Below.tr b10 (Gs.Below.tr b11 (Gs.Below.tr b12 (Gs.Below.tr b13 (Gs.Below.tr b14 b15))))))))))))))) (by simp)).mono ?_
        rintro e w16 ⟨rfl, b16⟩
        go_wp2_with fail
        refine (call_Nats_raw (D := true) (h4.below (Gs.Below.tr b5 (Gs.Below.tr b6 (Gs.Below.tr b7 (Gs.Below.tr b8 (Gs.Below.tr b9 (Gs.Below.tr b10 (Gs.Below.tr b11 (Gs.Below.tr b12 (Gs.Below.tr b13 (Gs.Below.tr b14 (Gs.Below.tr b15 b16)))))))))))) (hbR.below (Gs.Below.tr b1 (Gs.Below.tr b2 (Gs.Below.tr b3 (Gs.Below.tr b4 (Gs.Below.tr b5 (Gs.Below.tr b6 (Gs.Below.tr b7 (Gs.Below.tr b8 (Gs.Below.tr b9 (Gs.Below.tr b10 (Gs.Below.tr b11 (Gs.Below.tr b12 (Gs.Below.tr b13 (Gs.Below.tr b14 (Gs.Below.tr b15 b16)))))))))))))))) (by simp)).mono ?_
        rintro e w17 ⟨rfl, b17⟩
        go_wp2_with fail
        refine (law_wakes _).mono ?_
        rintro e w18 ⟨rfl, b18⟩
        go_wp2
        go_ret
        exact ⟨rfl, (Gs.Below.tr b1 (Gs.Below.tr b2 (Gs.Below.tr b3 (Gs.Below.tr b4 (Gs.Below.tr b5 (Gs.Below.tr b6 (Gs.Below.tr b7 (Gs.Below.tr b8 (Gs.Below.tr b9 (Gs.Below.tr b10 (Gs.Below.tr b11 (Gs.Below.tr b12 (Gs.Below.tr b13 (Gs.Below.tr b14 (Gs.Below.tr b15 (Gs.Below.tr b16 (Gs.Below.tr b17 b18)))))))))))))))))⟩
    
    · have HGE := Lib.hid (show y ≤ x by omega)
      have hzz : ¬ z < 0 := by
        rw [← HZ.out]
        unfold cmpI
        rw [if_neg (by omega)]
        split <;> omega
      clear hxy
      cases n with
      | zero =>
        have HG := Lib.hid (show goodB l = true by rw [List.length_eq_zero_iff.1 HLL.out]; rfl)
        clear hgood
        go_enter Tryd.func4, Tryd.ntmps4
        go_wp2_with fail
        refine (call_In ha (by decide)).mono ?_
        rintro e w1 ⟨r1, rfl, h1, b1⟩
        go_wp2_with fail
        refine (call_In (hb.below b1) (by decide)).mono ?_
        rintro e w2 ⟨r2, rfl, h2, b2⟩
        go_wp2_with fail
        refine (keep_Nat (ha0.below (Gs.Below.tr b1 b2)) (by omega)).mono ?_
        rintro e w3 ⟨r3, rfl, h3, b3⟩
        have hi3 : Num w3 r3 x 40 := h3.num' HX.out (by rw [HLL.out]; exact hn1)
        go_wp2_with fail
        refine (keep_Nat (hb0.below (Gs.Below.tr b1 (Gs.Below.tr b2 b3))) (by omega)).mono ?_
        rintro e w4 ⟨r4, rfl, h4, b4⟩
        have hi4 : Num w4 r4 y 40 := h4.num' HY.out (by rw [HLL'.out]; exact hn2)
        go_wp2_with fail
        refine (call_Sub (hi3.below b4) hi4 (by decide) (by decide) HGE.out).mono ?_
        rintro e w5 ⟨d5, rfl, h5, b5⟩
        go_wp2_with fail
        refine (call_RCmp (h1.below (Gs.Below.tr b2 (Gs.Below.tr b3 (Gs.Below.tr b4 b5)))) (h2.below (Gs.Below.tr b3 (Gs.Below.tr b4 b5))) (by decide) (by decide) HZ.out).mono ?_
        rintro e w6 ⟨rfl, b6⟩
        go_wp2_with fail
        refine (call_RSub (h1.below (Gs.Below.tr b2 (Gs.Below.tr b3 (Gs.Below.tr b4 (Gs.Below.tr b5 b6))))) (h2.below (Gs.Below.tr b3 (Gs.Below.tr b4 (Gs.Below.tr b5 b6)))) (by decide) HGE.out).mono ?_
        rintro e w7 ⟨s7, rfl, h7, b7⟩
        go_wp2_with fail
        refine (call_same (D := true) (h5.below (Gs.Below.tr b6 b7)) h7 (by decide) (by simp)).mono ?_
        rintro e w8 ⟨rfl, b8⟩
        go_wp2_with fail
        refine (call_Add (hi3.below (Gs.Below.tr b4 (Gs.Below.tr b5 (Gs.Below.tr b6 (Gs.Below.tr b7 b8))))) (hi4.below (Gs.Below.tr b5 (Gs.Below.tr b6 (Gs.Below.tr b7 b8)))) (by decide) (by decide)).mono ?_
        rintro e w9 ⟨p9, rfl, h9, b9⟩
        go_wp2_with fail
        refine (call_RAdd (h1.below (Gs.Below.tr b2 (Gs.Below.tr b3 (Gs.Below.tr b4 (Gs.Below.tr b5 (Gs.Below.tr b6 (Gs.Below.tr b7 (Gs.Below.tr b8 b9)))))))) (h2.below (Gs.Below.tr b3 (Gs.Below.tr b4 (Gs.Below.tr b5 (Gs.Below.tr b6 (Gs.Below.tr b7 (Gs.Below.tr b8 b9))))))) (by decide) (by decide)).mono ?_
        rintro e w10 ⟨q10, rfl, h10, b10⟩
        go_wp2_with fail
        refine (call_same (D := true) (h9.below b10) h10 (by decide) (by simp)).mono ?_
        rintro e w11 ⟨rfl, b11⟩
        go_wp2_with fail
        refine (call_Mul (hi3.below (Gs.Below.tr b4 (Gs.Below.tr b5 (Gs.Below.tr b6 (Gs.Below.tr b7 (Gs.Below.tr b8 (Gs.Below.tr b9 (Gs.Below.tr b10 b11)))))))) (hi4.below (Gs.Below.tr b5 (Gs.Below.tr b6 (Gs.Below.tr b7 (Gs.Below.tr b8 (Gs.Below.tr b9 (Gs.Below.tr b10 b11))))))) (by decide) (by decide)).mono ?_
        rintro e w12 ⟨p12, rfl, h12, b12⟩
        go_wp2_with fail
        refine (call_RMul (h1.below (Gs.Below.tr b2 (Gs.Below.tr b3 (Gs.Below.tr b4 (Gs.Below.tr b5 (Gs.Below.tr b6 (Gs.Below.tr b7 (Gs.Below.tr b8 (Gs.Below.tr b9 (Gs.Below.tr b10 (Gs.Below.tr b11 b12))))))))))) (h2.below (Gs.Below.tr b3 (Gs.Below.tr b4 (Gs.Below.tr b5 (Gs.Below.tr b6 (Gs.Below.tr b7 (Gs.Below.tr b8 (Gs.Below.tr b9 (Gs.Below.tr b10 (Gs.Below.tr b11 b12)))))))))) (by decide) (by decide)).mono ?_
        rintro e w13 ⟨q13, rfl, h13, b13⟩
        go_wp2_with fail
        refine (call_same (D := true) (h12.below b13) h13 (by decide) (by simp)).mono ?_
        rintro e w14 ⟨rfl, b14⟩
        go_wp2_with fail
        refine (call_Cmp (hi3.below (Gs.Below.tr b4 (Gs.Below.tr b5 (Gs.Below.tr b6 (Gs.Below.tr b7 (Gs.Below.tr b8 (Gs.Below.tr b9 (Gs.Below.tr b10 (Gs.Below.tr b11 (Gs.Below.tr b12 (Gs.Below.tr b13 b14))))))))))) (hi4.below (Gs.Below.tr b5 (Gs.Below.tr b6 (Gs.Below.tr b7 (Gs.Below.tr b8 (Gs.Below.tr b9 (Gs.Below.tr b10 (Gs.Below.tr b11 (Gs.Below.tr b12 (Gs.Below.tr b13 b14)))))))))) (by decide) (by decide) HZ.out).mono ?_
        rintro e w15 ⟨rfl, b15⟩
        go_wp2_with fail
        refine (call_RCmp (h1.below (Gs.Below.tr b2 (Gs.Below.tr b3 (Gs.Below.tr b4 (Gs.Below.tr b5 (Gs.Below.tr b6 (Gs.Below.tr b7 (Gs.Below.tr b8 (Gs.Below.tr b9 (Gs.Below.tr b10 (Gs.Below.tr b11 (Gs.Below.tr b12 (Gs.Below.tr b13 (Gs.Below.tr b14 b15)))))))))))))) (h2.below (Gs.Below.tr b3 (Gs.Below.tr b4 (Gs.Below.tr b5 (Gs.Below.tr b6 (Gs.Below.tr b7 (Gs.Below.tr b8 (Gs.Below.tr b9 (Gs.Below.tr b10 (Gs.Below.tr b11 (Gs.Below.tr b12 (Gs.Below.tr b13 (Gs.Below.tr b14 b15))))))))))))) (by decide) (by decide) HZ.out).mono ?_
        rintro e w16 ⟨rfl, b16⟩
        go_wp2_with fail
        refine (call_Good_raw (h3.below (Gs.Below.tr b4 (Gs.Below.tr b5 (Gs.Below.tr b6 (Gs.Below.tr b7 (Gs.Below.tr b8 (Gs.Below.tr b9 (Gs.Below.tr b10 (Gs.Below.tr b11 (Gs.Below.tr b12 (Gs.Below.tr b13 (Gs.Below.tr b14 (Gs.Below.tr b15 b16))))))))))))) (by rw [HLL.out]; omega) HG.out).mono ?_
        rintro e w17 ⟨rfl, b17⟩
        go_wp2_with fail
        refine (call_Nats_raw (D := true) (h3.below (Gs.Below.tr b4 (Gs.Below.tr b5 (Gs.Below.tr b6 (Gs.Below.tr b7 (Gs.Below.tr b8 (Gs.Below.tr b9 (Gs.Below.tr b10 (Gs.Below.tr b11 (Gs.Below.tr b12 (Gs.Below.tr b13 (Gs.Below.tr b14 (Gs.Below.tr b15 (Gs.Below.tr b16 b17)))))))))))))) (haR.below (Gs.Below.tr b1 (Gs.Below.tr b2 (Gs.Below.tr b3 (Gs.Below.tr b4 (Gs.Below.tr b5 (Gs.Below.tr b6 (Gs.Below.tr b7 (Gs.Below.tr b8 (Gs.Below.tr b9 (Gs.Below.tr b10 (Gs.Below.tr b11 (Gs.Below.tr b12 (Gs.Below.tr b13 (Gs.Below.tr b14 (Gs.Below.tr b15 (Gs.Below.tr b16 b17))))))))))))))))) (by simp)).mono ?_
        rintro e w18 ⟨rfl, b18⟩
        go_wp2_with fail
        refine (call_Nats_raw (D := true) (h4.below (Gs.Below.tr b5 (Gs.Below.tr b6 (Gs.Below.tr b7 (Gs.Below.tr b8 (Gs.Below.tr b9 (Gs.Below.tr b10 (Gs.Below.tr b11 (Gs.Below.tr b12 (Gs.Below.tr b13 (Gs.Below.tr b14 (Gs.Below.tr b15 (Gs.Below.tr b16 (Gs.Below.tr b17 b18)))))))))))))) (hbR.below (Gs.Below.tr b1 (Gs.Below.tr b2 (Gs.Below.tr b3 (Gs.Below.tr b4 (Gs.Below.tr b5 (Gs.Below.tr b6 (Gs.Below.tr b7 (Gs.Below.tr b8 (Gs.Below.tr b9 (Gs.Below.tr b10 (Gs.Below.tr b11 (Gs.Below.tr b12 (Gs.Below.tr b13 (Gs.Below.tr b14 (Gs.Below.tr b15 (Gs.Below.tr b16 (Gs.Below.tr b17 b18)))))))))))))))))) (by simp)).mono ?_
        rintro e w19 ⟨rfl, b19⟩
        go_wp2_with fail
        refine (law_wakes _).mono ?_
        rintro e w20 ⟨rfl, b20⟩
        go_wp2
        go_ret
        exact ⟨rfl, (Gs.Below.tr b1 (Gs.Below.tr b2 (Gs.Below.tr b3 (Gs.Below.tr b4 (Gs.Below.tr b5 (Gs.Below.tr b6 (Gs.Below.tr b7 (Gs.Below.tr b8 (Gs.Below.tr b9 (Gs.Below.tr b10 (Gs.Below.tr b11 (Gs.Below.tr b12 (Gs.Below.tr b13 (Gs.Below.tr b14 (Gs.Below.tr b15 (Gs.Below.tr b16 (Gs.Below.tr b17 (Gs.Below.tr b18 (Gs.Below.tr b19 b20)))))))))))))))))))⟩
      | succ q =>
        obtain ⟨ad, e, hc0⟩ := ha0.rd.at q (by show q < q + 1; omega)
        simp only at e
        subst e
        have hg := hgood q rfl
        obtain ⟨g0, hg0⟩ : ∃ g0, g0 = gd l q := ⟨_, rfl⟩
        rw [← hg0] at hg hc0
        obtain ⟨G2, hG2⟩ : ∃ G2, ((g0 : Int) != 0) = G2 := ⟨_, rfl⟩
        rw [hG2] at hg
        have HG := Lib.hid hg
        have s1 : IntKind.i64.wrap (((q + 1 : Nat) : Int) - 1) = (q : Int) := by rw [IntWalk.i64_in _ (by omega)]; omega
        have s2 : IntKind.i64.wrap ((q : Int) + 1 - 1) = (q : Int) := by rw [IntWalk.i64_in _ (by omega)]; omega
        have t3 : (((q + 1 : Nat) : Int) == 0) = false := by rw [beq_eq_false_iff_ne]; omega
        have t4 : ((q : Int) + 1 == 0) = false := by rw [beq_eq_false_iff_ne]; omega
        have t5 : ¬ (q : Int) + 1 = 0 := by omega
        clear hgood hg0 hg
        go_enter Tryd.func4, Tryd.ntmps4
        go_wp2_with fail
        refine (call_In ha (by decide)).mono ?_
        rintro e w1 ⟨r1, rfl, h1, b1⟩
        go_wp2_with fail
        refine (call_In (hb.below b1) (by decide)).mono ?_
        rintro e w2 ⟨r2, rfl, h2, b2⟩
        go_wp2_with fail
        refine (keep_Nat (ha0.below (Gs.Below.tr b1 b2)) (by omega)).mono ?_
        rintro e w3 ⟨r3, rfl, h3, b3⟩
        have hi3 : Num w3 r3 x 40 := h3.num' HX.out (by rw [HLL.out]; exact hn1)
        go_wp2_with fail
        refine (keep_Nat (hb0.below (Gs.Below.tr b1 (Gs.Below.tr b2 b3))) (by omega)).mono ?_
        rintro e w4 ⟨r4, rfl, h4, b4⟩
        have hi4 : Num w4 r4 y 40 := h4.num' HY.out (by rw [HLL'.out]; exact hn2)
        go_wp2_with fail
        refine (call_Sub (hi3.below b4) hi4 (by decide) (by decide) HGE.out).mono ?_
        rintro e w5 ⟨d5, rfl, h5, b5⟩
        go_wp2_with fail
        refine (call_RCmp (h1.below (Gs.Below.tr b2 (Gs.Below.tr b3 (Gs.Below.tr b4 b5)))) (h2.below (Gs.Below.tr b3 (Gs.Below.tr b4 b5))) (by decide) (by decide) HZ.out).mono ?_
        rintro e w6 ⟨rfl, b6⟩
        go_wp2_with fail
        refine (call_RSub (h1.below (Gs.Below.tr b2 (Gs.Below.tr b3 (Gs.Below.tr b4 (Gs.Below.tr b5 b6))))) (h2.below (Gs.Below.tr b3 (Gs.Below.tr b4 (Gs.Below.tr b5 b6)))) (by decide) HGE.out).mono ?_
        rintro e w7 ⟨s7, rfl, h7, b7⟩
        go_wp2_with fail
        refine (call_same (D := true) (h5.below (Gs.Below.tr b6 b7)) h7 (by decide) (by simp)).mono ?_
        rintro e w8 ⟨rfl, b8⟩
        have hcq := cell_below (Gs.Below.tr b1 (Gs.Below.tr b2 (Gs.Below.tr b3 (Gs.Below.tr b4 (Gs.Below.tr b5 (Gs.Below.tr b6 (Gs.Below.tr b7 b8))))))) hc0
        go_wp2_with fail
        refine (call_Add (hi3.below (Gs.Below.tr b4 (Gs.Below.tr b5 (Gs.Below.tr b6 (Gs.Below.tr b7 b8))))) (hi4.below (Gs.Below.tr b5 (Gs.Below.tr b6 (Gs.Below.tr b7 b8)))) (by decide) (by decide)).mono ?_
        rintro e w9 ⟨p9, rfl, h9, b9⟩
        go_wp2_with fail
        refine (call_RAdd (h1.below (Gs.Below.tr b2 (Gs.Below.tr b3 (Gs.Below.tr b4 (Gs.Below.tr b5 (Gs.Below.tr b6 (Gs.Below.tr b7 (Gs.Below.tr b8 b9)))))))) (h2.below (Gs.Below.tr b3 (Gs.Below.tr b4 (Gs.Below.tr b5 (Gs.Below.tr b6 (Gs.Below.tr b7 (Gs.Below.tr b8 b9))))))) (by decide) (by decide)).mono ?_
        rintro e w10 ⟨q10, rfl, h10, b10⟩
        go_wp2_with fail
        refine (call_same (D := true) (h9.below b10) h10 (by decide) (by simp)).mono ?_
        rintro e w11 ⟨rfl, b11⟩
        go_wp2_with fail
        refine (call_Mul (hi3.below (Gs.Below.tr b4 (Gs.Below.tr b5 (Gs.Below.tr b6 (Gs.Below.tr b7 (Gs.Below.tr b8 (Gs.Below.tr b9 (Gs.Below.tr b10 b11)))))))) (hi4.below (Gs.Below.tr b5 (Gs.Below.tr b6 (Gs.Below.tr b7 (Gs.Below.tr b8 (Gs.Below.tr b9 (Gs.Below.tr b10 b11))))))) (by decide) (by decide)).mono ?_
        rintro e w12 ⟨p12, rfl, h12, b12⟩
        go_wp2_with fail
        refine (call_RMul (h1.below (Gs.Below.tr b2 (Gs.Below.tr b3 (Gs.Below.tr b4 (Gs.Below.tr b5 (Gs.Below.tr b6 (Gs.Below.tr b7 (Gs.Below.tr b8 (Gs.Below.tr b9 (Gs.Below.tr b10 (Gs.Below.tr b11 b12))))))))))) (h2.below (Gs.Below.tr b3 (Gs.Below.tr b4 (Gs.Below.tr b5 (Gs.Below.tr b6 (Gs.Below.tr b7 (Gs.Below.tr b8 (Gs.Below.tr b9 (Gs.Below.tr b10 (Gs.Below.tr b11 b12)))))))))) (by decide) (by decide)).mono ?_
        rintro e w13 ⟨q13, rfl, h13, b13⟩
        go_wp2_with fail
        refine (call_same (D := true) (h12.below b13) h13 (by decide) (by simp)).mono ?_
        rintro e w14 ⟨rfl, b14⟩
        go_wp2_with fail
        refine (call_Cmp (hi3.below (Gs.Below.tr b4 (Gs.Below.tr b5 (Gs.Below.tr b6 (Gs.Below.tr b7 (Gs.Below.tr b8 (Gs.Below.tr b9 (Gs.Below.tr b10 (Gs.Below.tr b11 (Gs.Below.tr b12 (Gs.Below.tr b13 b14))))))))))) (hi4.below (Gs.Below.tr b5 (Gs.Below.tr b6 (Gs.Below.tr b7 (Gs.Below.tr b8 (Gs.Below.tr b9 (Gs.Below.tr b10 (Gs.Below.tr b11 (Gs.Below.tr b12 (Gs.Below.tr b13 b14)))))))))) (by decide) (by decide) HZ.out).mono ?_
        rintro e w15 ⟨rfl, b15⟩
        go_wp2_with fail
        refine (call_RCmp (h1.below (Gs.Below.tr b2 (Gs.Below.tr b3 (Gs.Below.tr b4 (Gs.Below.tr b5 (Gs.Below.tr b6 (Gs.Below.tr b7 (Gs.Below.tr b8 (Gs.Below.tr b9 (Gs.Below.tr b10 (Gs.Below.tr b11 (Gs.Below.tr b12 (Gs.Below.tr b13 (Gs.Below.tr b14 b15)))))))))))))) (h2.below (Gs.Below.tr b3 (Gs.Below.tr b4 (Gs.Below.tr b5 (Gs.Below.tr b6 (Gs.Below.tr b7 (Gs.Below.tr b8 (Gs.Below.tr b9 (Gs.Below.tr b10 (Gs.Below.tr b11 (Gs.Below.tr b12 (Gs.Below.tr b13 (Gs.Below.tr b14 b15))))))))))))) (by decide) (by decide) HZ.out).mono ?_
        rintro e w16 ⟨rfl, b16⟩
        go_wp2_with fail
        refine (call_Good_raw (h3.below (Gs.Below.tr b4 (Gs.Below.tr b5 (Gs.Below.tr b6 (Gs.Below.tr b7 (Gs.Below.tr b8 (Gs.Below.tr b9 (Gs.Below.tr b10 (Gs.Below.tr b11 (Gs.Below.tr b12 (Gs.Below.tr b13 (Gs.Below.tr b14 (Gs.Below.tr b15 b16))))))))))))) (by rw [HLL.out]; omega) HG.out).mono ?_
        rintro e w17 ⟨rfl, b17⟩
        go_wp2_with fail
        refine (call_Nats_raw (D := true) (h3.below (Gs.Below.tr b4 (Gs.Below.tr b5 (Gs.Below.tr b6 (Gs.Below.tr b7 (Gs.Below.tr b8 (Gs.Below.tr b9 (Gs.Below.tr b10 (Gs.Below.tr b11 (Gs.Below.tr b12 (Gs.Below.tr b13 (Gs.Below.tr b14 (Gs.Below.tr b15 (Gs.Below.tr b16 b17)))))))))))))) (haR.below (Gs.Below.tr b1 (Gs.Below.tr b2 (Gs.Below.tr b3 (Gs.Below.tr b4 (Gs.Below.tr b5 (Gs.Below.tr b6 (Gs.Below.tr b7 (Gs.Below.tr b8 (Gs.Below.tr b9 (Gs.Below.tr b10 (Gs.Below.tr b11 (Gs.Below.tr b12 (Gs.Below.tr b13 (Gs.Below.tr b14 (Gs.Below.tr b15 (Gs.Below.tr b16 b17))))))))))))))))) (by simp)).mono ?_
        rintro e w18 ⟨rfl, b18⟩
        go_wp2_with fail
        refine (call_Nats_raw (D := true) (h4.below (Gs.Below.tr b5 (Gs.Below.tr b6 (Gs.Below.tr b7 (Gs.Below.tr b8 (Gs.Below.tr b9 (Gs.Below.tr b10 (Gs.Below.tr b11 (Gs.Below.tr b12 (Gs.Below.tr b13 (Gs.Below.tr b14 (Gs.Below.tr b15 (Gs.Below.tr b16 (Gs.Below.tr b17 b18)))))))))))))) (hbR.below (Gs.Below.tr b1 (Gs.Below.tr b2 (Gs.Below.tr b3 (Gs.Below.tr b4 (Gs.Below.tr b5 (Gs.Below.tr b6 (Gs.Below.tr b7 (Gs.Below.tr b8 (Gs.Below.tr b9 (Gs.Below.tr b10 (Gs.Below.tr b11 (Gs.Below.tr b12 (Gs.Below.tr b13 (Gs.Below.tr b14 (Gs.Below.tr b15 (Gs.Below.tr b16 (Gs.Below.tr b17 b18)))))))))))))))))) (by simp)).mono ?_
        rintro e w19 ⟨rfl, b19⟩
        go_wp2_with fail
        refine (law_wakes _).mono ?_
        rintro e w20 ⟨rfl, b20⟩
        go_wp2
        go_ret
        exact ⟨rfl, (Gs.Below.tr b1 (Gs.Below.tr b2 (Gs.Below.tr b3 (Gs.Below.tr b4 (Gs.Below.tr b5 (Gs.Below.tr b6 (Gs.Below.tr b7 (Gs.Below.tr b8 (Gs.Below.tr b9 (Gs.Below.tr b10 (Gs.Below.tr b11 (Gs.Below.tr b12 (Gs.Below.tr b13 (Gs.Below.tr b14 (Gs.Below.tr b15 (Gs.Below.tr b16 (Gs.Below.tr b17 (Gs.Below.tr b18 (Gs.Below.tr b19 b20)))))))))))))))))))⟩
  · have h3 : ¬ n ≤ 40 ∨ (n ≤ 40 ∧ ¬ n' ≤ 40) := by omega
    rcases h3 with h3 | ⟨h3, h4⟩
    · have t1 : (40 : Int) < (n : Int) := by omega
      go_enter Tryd.func4, Tryd.ntmps4
      go_wp2_with fail
      refine (law_wakes _).mono ?_
      rintro e w1 ⟨rfl, b1⟩
      go_wp2
      go_ret
      exact ⟨rfl, b1⟩
    · have t1 : ¬ (40 : Int) < (n : Int) := by omega
      have t2 : (40 : Int) < (n' : Int) := by omega
      go_enter Tryd.func4, Tryd.ntmps4
      go_wp2_with fail
      refine (law_wakes _).mono ?_
      rintro e w1 ⟨rfl, b1⟩
      go_wp2
      go_ret
      exact ⟨rfl, b1⟩
end Go.Proofs.YtphiglbieffbjaaDoor
