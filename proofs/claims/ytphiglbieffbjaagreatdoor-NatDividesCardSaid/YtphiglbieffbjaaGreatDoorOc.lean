/- Contract: gessolaw01.wakes. -/
import Derived.Test.YtphiglbieffbjaaGreatDoorOb
namespace Go.Proofs.YtphiglbieffbjaaGreatDoor
open Go.RowKit Gs
set_option linter.unusedVariables false

/-- the text of two to the 64 -/
abbrev litB : ByteArray := ⟨#[49, 56, 52, 52, 54, 55, 52, 52, 48, 55, 51, 55, 48, 57, 53, 53, 49, 54, 49, 54]⟩
theorem litB_text : IsText litB 18446744073709551616 := ⟨by decide, by decide, by decide, by decide⟩

set_option maxRecDepth 100000 in
set_option maxHeartbeats 4000000 in
theorem law_wakes (w : World) : Calls Tryz.prog 6 #[] w fun e w' => e = .returned (.bool true) ∧ Below w.heap.size w w' := by
  go_enter Tryz.func6, Tryz.ntmps6
  go_wp2_with fail
  refine (call_Mul (((Num.made' w 45 [18446744073709551615] (lt_dec rfl) rfl (by decide) rfl rfl)).alloc _) (Num.made' (w.alloc _) 45 [18446744073709551615] (lt_dec rfl) rfl (by decide) (by simp) rfl) (by decide) (by decide)).mono ?_
  rintro e w1 ⟨m, rfl, hm, hb1⟩
  have hB1 : Below w.heap.size w w1 := Gs.Below.un (Gs.Below.un hb1)
  clear hb1
  go_wp2_with fail
  refine (call_DivMod (((Num.made' w1 45 [0, 0, 1] (lt_dec rfl) rfl (by decide) rfl rfl)).alloc _) (Num.made' (w1.alloc _) 45 [3] (lt_dec rfl) rfl (by decide) (by simp) rfl) (by decide) (by decide) (by decide)).mono ?_
  rintro e w2 ⟨q, r, rfl, hq, hr, hb2⟩
  have hB2 : Below w1.heap.size w1 w2 := Gs.Below.un (Gs.Below.un hb2)
  have hm2 := hm.below hB2
  obtain ⟨Aq, nq, cq, rfl, hq2, _⟩ := hq
  have hnq : nq = 2 := by
    have h1 := hq2.rd.len
    simp only at h1
    have h2 : limbs 18446744073709551616 (val 18446744073709551616 [0, 0, 1] / val 18446744073709551616 [3]) = [6148914691236517205, 6148914691236517205] := limbs_eq B64 (lt_dec rfl) (by intro x hx; simp at hx; omega) rfl
    rw [← h1, h2]
    rfl
  subst hnq
  clear hb2 hm hq2
  go_wp2_with fail
  refine (call_DivMod_zero (Num.made' w2 45 [5] (lt_dec rfl) rfl (by decide) rfl rfl) (Num.nil _) (by decide) (by decide) rfl).mono ?_
  rintro e w3 ⟨rfl, hb3⟩
  have hB3 : Below w2.heap.size w2 w3 := Gs.Below.un hb3
  have hm3 := hm2.below hB3
  have hr3 := hr.below hB3
  clear hb3 hm2 hr
  go_wp2_with fail
  refine (call_Parse (s := litB) litB_text (by decide) (K := 2) (by decide)).mono ?_
  rintro e w4 ⟨p, rfl, hp, hB4⟩
  have hm4 := hm3.below hB4
  have hr4 := hr3.below hB4
  clear hm3 hr3
  go_wp2_with fail
  refine (call_Nats (D := true) (hm4.alloc _) (CanN.made' w4 45 [1, 18446744073709551614] (lt_dec rfl) rfl (by decide) rfl rfl (by intro x hx; simp at hx; omega)) (by decide)).mono ?_
  rintro e w5 ⟨rfl, hb5⟩
  have hB5 : Below w4.heap.size w4 w5 := Gs.Below.un hb5
  have hr5 := hr4.below hB5
  have hp5 := hp.below hB5
  clear hb5 hm4 hr4 hp
  go_wp2_with fail
  refine (call_Nats (D := true) (hr5.alloc _) (CanN.made' w5 45 [1] (lt_dec rfl) rfl (by decide) rfl rfl (by intro x hx; simp at hx; omega)) (by decide)).mono ?_
  rintro e w6 ⟨rfl, hb6⟩
  have hB6 : Below w5.heap.size w5 w6 := Gs.Below.un hb6
  have hp6 := hp5.below hB6
  clear hb6 hr5 hp5
  go_wp2_with fail
  refine (call_Nats (D := true) (hp6.alloc _) (CanN.made' w6 45 [0, 1] (lt_dec rfl) rfl (by decide) rfl rfl (by intro x hx; simp at hx; omega)) (by decide)).mono ?_
  rintro e w7 ⟨rfl, hb7⟩
  have hB7 : Below w6.heap.size w6 w7 := Gs.Below.un hb7
  have hp7 := hp6.below hB7
  clear hb7 hp6
  go_wp2_with fail
  refine (call_Text (L := 100) (Num.made' w7 45 [0, 1] (lt_dec rfl) rfl (by decide) rfl rfl) (by decide) (by decide) (by decide)).mono ?_
  rintro e w8 ⟨s, rfl, hs, hb8⟩
  obtain rfl : s = litB := hs.unique litB_text
  have hB8 : Below w7.heap.size w7 w8 := Gs.Below.un hb8
  have hp8 := hp7.below hB8
  clear hb8 hp7
  go_wp2_with fail
  refine (call_Good hp8 (by decide)).mono ?_
  rintro e w9 ⟨rfl, hB9⟩
  go_wp2
  go_ret
  exact ⟨rfl, Gs.Below.tr hB1 (Gs.Below.tr hB2 (Gs.Below.tr hB3 (Gs.Below.tr hB4 (Gs.Below.tr hB5 (Gs.Below.tr hB6 (Gs.Below.tr hB7 (Gs.Below.tr hB8 hB9)))))))⟩
end Go.Proofs.YtphiglbieffbjaaGreatDoor
