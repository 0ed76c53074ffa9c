/- Contracts: gessoref01's DivMod and Gcd, over numbers alone. -/
import Derived.Test.YtphiglbieffbjaaGreatDoorUk
namespace Go.Proofs.YtphiglbieffbjaaGreatDoor
open Go.RowKit Gs
set_option linter.unusedVariables false

theorem call_RDivMod {a b : Value} {x y K K' : Nat} {w : World} (h : CanR w a x K) (h' : CanR w b y K') (hK : K ≤ 1000) (hK' : K' ≤ 1000) (hy : 0 < y) :
    Calls Tryz.prog 15 #[a, b] w fun e w' => ∃ q r, e = .returned (.agg #[q, r]) ∧ CanR w' q (x / y) K ∧ CanR w' r (x % y) K' ∧ Below w.heap.size w w' := by
  have hyK := h'.lt
  have hmod : x % y < 4294967296 ^ K' := Nat.lt_trans (Nat.mod_lt x hy) hyK
  rcases Nat.lt_or_ge x y with hlt | hge
  · refine (ref_DivMod_less h h' (by omega) (by omega) hlt).mono ?_
    rintro e w' ⟨q, r, rfl, h1, h2, hb⟩
    exact ⟨q, r, rfl, h1, CanR.tight h2 hmod, hb⟩
  · have ha := h
    have hb := h'
    obtain ⟨A, n, c, rfl, hr, hn⟩ := h
    obtain ⟨A', n', c', rfl, hr', hn'⟩ := h'
    have hl' : (limbs 4294967296 y).length = n' := hr'.rd.len
    by_cases h1 : n' ≤ 1
    · have hy1 : y < 4294967296 ^ 1 := lt_of_limbs_len B32 (by omega)
      refine (ref_DivMod_one ha (CanR.tight hb hy1) (by omega) hy hge).mono ?_
      rintro e w' ⟨q, r, rfl, h1, h2, hb⟩
      exact ⟨q, r, rfl, h1, CanR.tight h2 hmod, hb⟩
    · refine (ref_DivMod_long (N := K') hr hr' (by omega) hn' (by omega) (by omega) hge).mono ?_
      rintro e w' ⟨q, r, rfl, h1, h2, hb⟩
      have hx := ha.lt
      exact ⟨q, r, rfl, CanR.tight h1 (Nat.lt_of_le_of_lt (Nat.div_le_self _ _) hx), h2, hb⟩

theorem two_field1 (Aq : Option Addr) (nq cq : Nat) (Ar : Option Addr) (nr cr : Nat) (W : World) : (Instr.field 40 (.agg #[.slice Aq nq cq, .slice Ar nr cr]) 1).run Tryz.prog W = .ok (.slice Ar nr cr) W := by kernel_rfl
set_option maxRecDepth 100000 in
set_option maxHeartbeats 2000000 in
theorem ref_Gcd {a b : Value} {x y K : Nat} {w : World} (h : CanR w a x K) (h' : CanR w b y K) (hK : K ≤ 1000) :
    Calls Tryz.prog 17 #[a, b] w fun e w' => ∃ r, e = .returned r ∧ CanR w' r (Nat.gcd x y) K ∧ Below w.heap.size w w' := by
  have kf := two_field1
  obtain ⟨G, hG⟩ : ∃ G, Nat.gcd x y = G := ⟨_, rfl⟩
  rw [hG]
  have HG := Lib.hid hG
  clear hG
  go_enter Tryz.func17, Tryz.ntmps17
  go_wp2
  go_loopg [0, 1] y (fun g va vb wr => ∃ (X : Nat), CanR wr va X K ∧ CanR wr vb g K ∧ Hid (Nat.gcd X g = G) ∧ Below w.heap.size w wr)
  case atStart => exact ⟨x, h, h', HG, Below.refl _ _⟩
  case round =>
    obtain ⟨X, ha, hb, hg, hbl⟩ := hrel
    by_cases h0 : gk = 0
    · subst h0
      have hgx := hg.out
      rw [Nat.gcd_zero_right] at hgx
      obtain ⟨B, nb, cb, rfl, hrb, hnb⟩ := hb
      obtain rfl : nb = 0 := hrb.rd.len.symm
      subst hgx
      go_wp2
      go_ret
      exact ⟨_, rfl, ha, hbl⟩
    · have hb2 := hb
      obtain ⟨B, nb, cb, rfl, hrb, hnb⟩ := hb
      have hnb0 : nb ≠ 0 := fun e => h0 ((limbs_len_zero B32 _).1 (hrb.rd.len.trans e))
      have hpos : (0 : Int) < (nb : Int) := by omega
      have kd := call_RDivMod ha hb2 hK hK (Nat.pos_of_ne_zero h0)
      have KD := Lib.hid kd
      have H0 := Lib.hid h0
      clear kd hrb hnb0 h0
      go_wp2_with fail
      refine KD.out.mono ?_
      rintro e w2 ⟨q, r, rfl, hq, hr, hb3⟩
      have hb4 := hb2.below hb3
      have hr2 := hr
      obtain ⟨Aq, nq, cq, rfl, hq1, hnq⟩ := hq
      obtain ⟨Ar, nr, cr, rfl, hr1, hnr⟩ := hr
      go_wp2
      refine Handed.intro (X % gk) (Nat.mod_lt _ (Nat.pos_of_ne_zero H0.out)) ?_
      rotate_left
      go_step
      repeat apply Exists.intro
      refine ⟨⟨gk, hb4, hr2, Lib.hid (by rw [← hg.out, Nat.gcd_comm X gk, Nat.gcd_rec gk X, Nat.gcd_comm]), Gs.Below.then hbl hbl.size hb3⟩, rfl⟩
end Go.Proofs.YtphiglbieffbjaaGreatDoor
