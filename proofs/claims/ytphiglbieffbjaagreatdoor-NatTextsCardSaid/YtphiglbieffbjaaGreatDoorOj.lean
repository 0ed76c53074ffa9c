/- Contract: gessolaw01.NatTexts answers true, at any number and any text. -/
import Derived.Test.YtphiglbieffbjaaGreatDoorUh
namespace Go.Proofs.YtphiglbieffbjaaGreatDoor
open Go.RowKit Gs
set_option linter.unusedVariables false

theorem pow_ten_k {L K : Nat} (hL : L = 20 * K) : (18446744073709551616 : Nat) ^ K ≤ 10 ^ L := by
  rw [hL, Nat.pow_mul]
  exact Nat.pow_le_pow_left (by decide) K
/-- what both readings of a text tell -/
theorem both_Parse {s : ByteArray} (hs : s.size ≤ 800 ∨ 20000 < s.size) : ∃ (z : Int) (V M : Nat), M ≤ 1000 ∧
    (∀ w : World, Calls Tryz.prog 7 #[.string s] w fun e w' => ∃ r, e = .returned (.tuple #[r, .int .i64 z]) ∧ CanN w' r V M ∧ Below w.heap.size w w') ∧
    (∀ w : World, Calls Tryz.prog 8 #[.string s] w fun e w' => ∃ r, e = .returned (.tuple #[r, .int .i64 z]) ∧ CanR w' r V M ∧ Below w.heap.size w w') := by
  have cn : ∀ w : World, CanN w (.slice none 0 0) 0 0 := fun w => ⟨none, 0, 0, rfl, ⟨RdN.nil _ _ _ 0 (by omega) _, Lt.nil _⟩, Nat.le_refl _⟩
  rcases hs with hs | hs
  · by_cases h0 : s.size = 0
    · refine ⟨11, 0, 0, by omega, fun w => (nat_Parse_empty h0).mono ?_, fun w => (ref_Parse_empty h0).mono ?_⟩
      · rintro e w' ⟨rfl, rfl⟩
        exact ⟨_, rfl, cn _, Below.refl _ _⟩
      · rintro e w' ⟨rfl, rfl⟩
        exact ⟨_, rfl, CanR.nil _ _, Below.refl _ _⟩
    · by_cases hz : gd (byt s) 0 = 48 ∧ 1 < s.size
      · refine ⟨11, 0, 0, by omega, fun w => (nat_Parse_zero hz.2 (by omega) hz.1).mono ?_, fun w => (ref_Parse_zero hz.2 (by omega) hz.1).mono ?_⟩
        · rintro e w' ⟨rfl, rfl⟩
          exact ⟨_, rfl, cn _, Below.refl _ _⟩
        · rintro e w' ⟨rfl, rfl⟩
          exact ⟨_, rfl, CanR.nil _ _, Below.refl _ _⟩
      · have hz2 : gd (byt s) 0 = 48 → s.size = 1 := fun h => by
          rcases Nat.lt_or_ge 1 s.size with h1 | h1
          · exact absurd ⟨h, h1⟩ hz
          · omega
        refine ⟨parseE (byt s), if allDig (byt s) = true then dec (byt s) else 0, s.size, by omega, fun w => (nat_Parse_ok (by omega) (by omega) hz2).mono ?_, fun w => ref_Parse_ok (by omega) (Nat.le_refl _) (by omega) hz2⟩
        rintro e w' ⟨A1, n1, c1, rfl, h1, hb⟩
        refine ⟨_, rfl, ?_, hb⟩
        cases hd : allDig (byt s) with
        | true =>
          rw [(parse_good hd).1] at h1
          rw [if_pos rfl]
          refine CanN.of h1 (Nat.lt_of_lt_of_le (dec_lt hd) ?_)
          rw [byt_length]
          exact Nat.pow_le_pow_left (by omega) _
        | false =>
          rw [(parse_bad hd).1] at h1
          rw [if_neg (by decide)]
          exact CanN.of (x := 0) h1 (Nat.pow_pos (by omega))
  · refine ⟨2, 0, 0, by omega, fun w => (nat_Parse_long hs).mono ?_, fun w => (ref_Parse_long hs).mono ?_⟩
    · rintro e w' ⟨rfl, rfl⟩
      exact ⟨_, rfl, cn _, Below.refl _ _⟩
    · rintro e w' ⟨rfl, rfl⟩
      exact ⟨_, rfl, CanR.nil _ _, Below.refl _ _⟩
theorem call_RText {w : World} {a : Value} {x K L : Nat} (h : CanR w a x K) (hK : K ≤ 1000) (hL : x < 10 ^ L) (hL2 : L ≤ 100000) :
    Calls Tryz.prog 11 #[a] w fun e w' => ∃ s, e = .returned (.string s) ∧ IsText s x ∧ Below w.heap.size w w' := by
  by_cases h0 : x = 0
  · subst h0
    refine (ref_Text_zero h).mono ?_
    rintro e w' ⟨rfl, rfl⟩
    exact ⟨_, rfl, ⟨by decide, by decide, by decide, by decide⟩, Below.refl _ _⟩
  · exact ref_Text h hK h0 hL hL2

set_option maxRecDepth 100000 in
set_option maxHeartbeats 4000000 in
theorem law_NatTexts {A n c} {l : List Nat} {P} {w : World} {s : ByteArray} (ha0 : RdU w P ⟨A, n, c⟩ l) :
    Calls Tryz.prog 3 #[.slice A n c, .string s] w fun e w' => e = .returned (.bool true) ∧ Below w.heap.size w w' := by
  by_cases hs : n ≤ 40
  · have ha := Num.of ha0 hs
    have HLL := Lib.hid (show l.length = n from ha0.rd.len)
    have t1 : ¬ (40 : Int) < (n : Int) := by omega
    obtain ⟨x, hx⟩ : ∃ x, val 18446744073709551616 l = x := ⟨_, rfl⟩
    rw [hx] at ha
    have HX := Lib.hid hx
    obtain ⟨L, hL⟩ : ∃ L, L = 20 * 40 := ⟨_, rfl⟩
    have hx10 := Lib.hid (Nat.lt_of_lt_of_le ha.lt (pow_ten_k hL))
    have hL1 : L ≤ 1000 := by omega
    clear hx hL
    by_cases hk1 : 800 < s.size ∧ s.size ≤ 20000
    · have t2 : (800 : Int) < (s.size : Int) := by omega
      have t3 : (s.size : Int) ≤ 20000 := by omega
      go_enter Tryz.func3, Tryz.ntmps3
      go_wp2_with fail
      refine (law_wakes _).mono ?_
      rintro e w1 ⟨rfl, b1⟩
      go_wp2
      go_ret
      exact ⟨rfl, b1⟩
    · obtain ⟨z, V, M, hM, kn, kr⟩ := both_Parse (s := s) (by omega)
      have KN := Lib.hid kn
      have KR := Lib.hid kr
      have hcase : (¬ (800 : Int) < (s.size : Int)) ∨ ((800 : Int) < (s.size : Int) ∧ ¬ (s.size : Int) ≤ 20000) := by omega
      clear kn kr hk1
      rcases hcase with t2 | ⟨t2, t3⟩
      · go_enter Tryz.func3, Tryz.ntmps3
        go_wp2_with fail
        refine (KN.out _).mono ?_
        rintro e w1 ⟨p1, rfl, h1, b1⟩
        go_wp2_with fail
        refine (KR.out _).mono ?_
        rintro e w2 ⟨q2, rfl, h2, b2⟩
        go_wp2_with fail
        refine (keep_Nat (ha0.below (Gs.Below.tr b1 b2)) (by omega)).mono ?_
        rintro e w3 ⟨r3, rfl, h3, b3⟩
        have hi3 : Num w3 r3 x 40 := h3.num' HX.out (by rw [HLL.out]; exact hs)
        go_wp2_with fail
        refine (call_Text (L := L) hi3 (by decide) hx10.out (by omega)).mono ?_
        rintro e w4 ⟨s1, rfl, hs1, b4⟩
        go_wp2_with fail
        refine (call_In (ha.below (Gs.Below.tr b1 (Gs.Below.tr b2 (Gs.Below.tr b3 b4)))) (by decide)).mono ?_
        rintro e w5 ⟨r5, rfl, h5, b5⟩
        go_wp2_with fail
        refine (call_RText (L := L) h5 (by decide) hx10.out (by omega)).mono ?_
        rintro e w6 ⟨s2, rfl, hs2, b6⟩
        obtain rfl : s1 = s2 := hs1.unique hs2
        go_wp2_with fail
        refine (call_same (D := true) (h1.below (Gs.Below.tr b2 (Gs.Below.tr b3 (Gs.Below.tr b4 (Gs.Below.tr b5 b6))))) (h2.below (Gs.Below.tr b3 (Gs.Below.tr b4 (Gs.Below.tr b5 b6)))) (by omega) (by simp)).mono ?_
        rintro e w7 ⟨rfl, b7⟩
        go_wp2_with fail
        refine (law_wakes _).mono ?_
        rintro e w8 ⟨rfl, b8⟩
        go_wp2
        go_ret
        exact ⟨rfl, (Gs.Below.tr b1 (Gs.Below.tr b2 (Gs.Below.tr b3 (Gs.Below.tr b4 (Gs.Below.tr b5 (Gs.Below.tr b6 (Gs.Below.tr b7 b8)))))))⟩
      · go_enter Tryz.func3, Tryz.ntmps3
        go_wp2_with fail
        refine (KN.out _).mono ?_
        rintro e w1 ⟨p1, rfl, h1, b1⟩
        go_wp2_with fail
        refine (KR.out _).mono ?_
        rintro e w2 ⟨q2, rfl, h2, b2⟩
        go_wp2_with fail
        refine (keep_Nat (ha0.below (Gs.Below.tr b1 b2)) (by omega)).mono ?_
        rintro e w3 ⟨r3, rfl, h3, b3⟩
        have hi3 : Num w3 r3 x 40 := h3.num' HX.out (by rw [HLL.out]; exact hs)
        go_wp2_with fail
        refine (call_Text (L := L) hi3 (by decide) hx10.out (by omega)).mono ?_
        rintro e w4 ⟨s1, rfl, hs1, b4⟩
        go_wp2_with fail
        refine (call_In (ha.below (Gs.Below.tr b1 (Gs.Below.tr b2 (Gs.Below.tr b3 b4)))) (by decide)).mono ?_
        rintro e w5 ⟨r5, rfl, h5, b5⟩
        go_wp2_with fail
        refine (call_RText (L := L) h5 (by decide) hx10.out (by omega)).mono ?_
        rintro e w6 ⟨s2, rfl, hs2, b6⟩
        obtain rfl : s1 = s2 := hs1.unique hs2
        go_wp2_with fail
        refine (call_same (D := true) (h1.below (Gs.Below.tr b2 (Gs.Below.tr b3 (Gs.Below.tr b4 (Gs.Below.tr b5 b6))))) (h2.below (Gs.Below.tr b3 (Gs.Below.tr b4 (Gs.Below.tr b5 b6)))) (by omega) (by simp)).mono ?_
        rintro e w7 ⟨rfl, b7⟩
        go_wp2_with fail
        refine (law_wakes _).mono ?_
        rintro e w8 ⟨rfl, b8⟩
        go_wp2
        go_ret
        exact ⟨rfl, (Gs.Below.tr b1 (Gs.Below.tr b2 (Gs.Below.tr b3 (Gs.Below.tr b4 (Gs.Below.tr b5 (Gs.Below.tr b6 (Gs.Below.tr b7 b8)))))))⟩
  · have t1 : (40 : Int) < (n : Int) := by omega
    go_enter Tryz.func3, Tryz.ntmps3
    go_wp2_with fail
    refine (law_wakes _).mono ?_
    rintro e w1 ⟨rfl, b1⟩
    go_wp2
    go_ret
    exact ⟨rfl, b1⟩
end Go.Proofs.YtphiglbieffbjaaGreatDoor
