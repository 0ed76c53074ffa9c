/- Contract: gessoref01's guess. -/
import Derived.Test.YtphiglbieffbjaaGreatDoorUf
namespace Gs
open Go Go.RowKit
set_option linter.unusedVariables false

theorem guess_low {X Y d t u T : Nat} (hX : t * T ≤ X) (hY : Y < (u + 1) * T) (hd : d * (u + 1) ≤ t) : Y * d ≤ X := by
  have h1 : Y * d ≤ (u + 1) * T * d := Nat.mul_le_mul_right _ (Nat.le_of_lt hY)
  have h2 : (u + 1) * T * d = d * (u + 1) * T := by rw [Nat.mul_comm, ← Nat.mul_assoc]
  have h3 : d * (u + 1) * T ≤ t * T := Nat.mul_le_mul_right _ hd
  omega
theorem guess_end {X Y lo hi : Nat} (h1 : Y * lo ≤ X) (h2 : X < Y * hi) (h : hi ≤ lo + 1) : lo = X / Y := by
  have hY : 0 < Y := by
    rcases Nat.eq_zero_or_pos Y with h0 | h0
    · rw [h0] at h2; omega
    · exact h0
  symm
  refine Nat.div_eq_of_lt_le (by rw [Nat.mul_comm]; exact h1) (Nat.lt_of_lt_of_le h2 ?_)
  rw [Nat.mul_comm]
  exact Nat.mul_le_mul_right _ h
theorem guess_lt {X Y lo hi : Nat} (h1 : Y * lo ≤ X) (h2 : X < Y * hi) : lo < hi := by
  rcases Nat.lt_or_ge lo hi with h | h
  · exact h
  · have := Nat.mul_le_mul_left Y h; omega
theorem RShort.stepY {l o : List Nat} {b i r : Nat} (h : RShort l b (i + 1) r o) (hl : Lt 4294967296 l) (hi : i < l.length) :
    RShort l b i ((r * 4294967296 + gd l i) % b) (o.set i ((r * 4294967296 + gd l i) / b)) := by
  have h1 := hl.gd (by omega) i
  have hr := h.rl
  have hq : (r * 4294967296 + gd l i) / b < 4294967296 := by
    rw [Nat.div_lt_iff_lt_mul (by omega)]
    have : (r + 1) * 4294967296 ≤ b * 4294967296 := Nat.mul_le_mul_right _ hr
    rw [Nat.mul_comm 4294967296]
    omega
  refine ⟨by rw [List.length_set]; exact h.len, h.lt.set _ hq, Nat.mod_lt _ (by omega), ?_⟩
  rw [val_drop, drop_set_lt (Nat.lt_succ_self i), gd_set_self (by rw [h.len]; exact hi), val_drop 4294967296 l]
  have he := h.eq
  have hd := Nat.mod_add_div (r * 4294967296 + gd l i) b
  generalize val 4294967296 (o.drop (i + 1)) = O at *
  generalize val 4294967296 (l.drop (i + 1)) = L at *
  generalize (r * 4294967296 + gd l i) % b = m at *
  generalize (r * 4294967296 + gd l i) / b = q at *
  rw [← he]
  grind
theorem set_same {o : List Nat} {i : Nat} (hi : i < o.length) (h : gd o i = 0) : o.set i 0 = o := by
  apply List.ext_getElem (by simp)
  intro j h1 h2
  by_cases hj : i = j
  · subst hj
    rw [List.getElem_set_self, ← gd_lt h2, h]
  · rw [List.getElem_set_ne hj]
end Gs
namespace Go.Proofs.YtphiglbieffbjaaGreatDoor
open Go.RowKit Gs
set_option linter.unusedVariables false

set_option maxRecDepth 100000 in
set_option maxHeartbeats 4000000 in
theorem ref_guess {A n c A' n' c'} {x y : Nat} {P P'} {w : World} (h : R32 w P ⟨A, n, c⟩ (limbs 4294967296 x)) (h' : R32 w P' ⟨A', n', c'⟩ (limbs 4294967296 y)) (hn : n ≤ 10000) (hy : y ≤ x) (hxy : x < y * 4294967296) (hn2 : 1 ≤ n') :
    Calls Tryz.prog 54 #[.slice A n c, .slice A' n' c'] w fun e w' => e = .returned (.int .u32 ((x / y : Nat) : Int)) ∧ Below w.heap.size w w' := by
  obtain ⟨Q, hQ⟩ : ∃ Q, Q = x / y := ⟨_, rfl⟩
  rw [← hQ]
  have HQ := Lib.hid hQ
  clear hQ
  have hl : (limbs 4294967296 x).length = n := h.rd.len
  have hm : (limbs 4294967296 y).length = n' := h'.rd.len
  have hx := val_limbs B32 x
  have hyv := val_limbs B32 y
  have hnn : n' ≤ n := by rw [← hl, ← hm]; exact limbs_len_mono B32 hy
  have hnn2 : n ≤ n' + 1 := by
    rw [← hl]
    refine limbs_len_le B32 (Nat.lt_of_lt_of_le hxy ?_)
    rw [Nat.pow_succ]
    exact Nat.mul_le_mul_right _ (Nat.le_of_lt (by rw [← hyv]; have := val_lt (limbs_lt B32 y); rwa [hm] at this))
  have hA := (show CanR w (.slice A n c) x n from ⟨A, n, c, rfl, h.mono fun _ _ => trivial, Nat.le_refl _⟩)
  have hB := (show CanR w (.slice A' n' c') y n' from ⟨A', n', c', rfl, h'.mono fun _ _ => trivial, Nat.le_refl _⟩)
  obtain ⟨l, hl0⟩ : ∃ l, l = limbs 4294967296 x := ⟨_, rfl⟩
  obtain ⟨m, hm0⟩ : ∃ m, m = limbs 4294967296 y := ⟨_, rfl⟩
  rw [← hl0] at h hl hx
  rw [← hm0] at h' hm hyv
  obtain ⟨q', hq'⟩ : ∃ q', n' = q' + 1 := ⟨n' - 1, by omega⟩
  subst hq'
  obtain ⟨ad', e', hcb⟩ := h'.rd.at q' (by show q' < q' + 1; omega)
  simp only at e'
  subst e'
  have hub := h'.lt.gd (by omega) q'
  -- y lies below (u + 1) times the power
  have hY : y < (gd m q' + 1) * 4294967296 ^ q' := by
    have h1 := val_split 4294967296 m q' (by omega)
    rw [List.drop_eq_nil_of_le (by omega), val_nil, Nat.mul_zero, Nat.add_zero, hyv] at h1
    have h2 := val_lt (h'.lt.take q')
    rw [List.length_take, Nat.min_eq_left (by omega)] at h2
    rw [Nat.add_mul, Nat.one_mul, Nat.mul_comm (gd m q')]
    omega
  obtain ⟨u, hu⟩ : ∃ u, u = gd m q' := ⟨_, rfl⟩
  rw [← hu] at hcb hub hY
  have HXY := Lib.hid hxy
  -- the first digit told, whichever way
  have key : ∃ t, t * 4294967296 ^ q' ≤ x ∧ t < 18446744073709551616 ∧ ((n = q' + 1 ∧ t = gd l q') ∨ (n = q' + 2 ∧ t = gd l (q' + 1) * 4294967296 + gd l q')) := by
    have hxs := val_split 4294967296 l q' (by omega)
    rw [hx] at hxs
    have g1 := h.lt.gd (by omega) q'
    have g2 := h.lt.gd (by omega) (q' + 1)
    rcases (show n = q' + 1 ∨ n = q' + 2 by omega) with h1 | h1
    · refine ⟨gd l q', ?_, by omega, .inl ⟨h1, rfl⟩⟩
      rw [List.drop_eq_nil_of_le (by omega), val_nil, Nat.mul_zero, Nat.add_zero, Nat.mul_comm] at hxs
      omega
    · refine ⟨gd l (q' + 1) * 4294967296 + gd l q', ?_, by omega, .inr ⟨h1, rfl⟩⟩
      rw [val_drop 4294967296 l (q' + 1), List.drop_eq_nil_of_le (by omega), val_nil, Nat.mul_zero, Nat.add_zero] at hxs
      rw [Nat.mul_comm, Nat.add_comm (gd l (q' + 1) * 4294967296), Nat.mul_comm (gd l (q' + 1))]
      omega
  obtain ⟨t, ht1, ht2, htc⟩ := key
  obtain ⟨d, hd⟩ : ∃ d, d = t / (u + 1) := ⟨_, rfl⟩
  have hdY : y * d ≤ x := guess_low ht1 hY (by rw [hd]; exact Nat.div_mul_le_self t (u + 1))
  have hdlt : d < 4294967296 := guess_lt hdY hxy
  have HDY := Lib.hid hdY
  have hua : IntKind.u64.wrap (u : Int) = (u : Int) := by rw [IntKind.wrap_u64]; omega
  have hub1 : IntKind.u64.wrap ((u : Int) + 1) = (u : Int) + 1 := by rw [IntKind.wrap_u64]; omega
  have hdq : (t : Int) / ((u : Int) + 1) = (d : Int) := by rw [hd]; simp
  have tz : (((u : Int) + 1) == 0) = false := by rw [beq_eq_false_iff_ne]; omega
  have tz2 : ¬ (u : Int) + 1 = 0 := by omega
  have s1 : IntKind.i64.wrap (((q' + 1 : Nat) : Int) - 1) = (q' : Int) := by rw [IntWalk.i64_in _ (by omega)]; omega
  have s1' : IntKind.i64.wrap ((q' : Int) + 1 - 1) = (q' : Int) := by rw [IntWalk.i64_in _ (by omega)]; omega
  have htt : ∀ k, k < n → ∃ ad, A = some ad ∧ w.cell? (ad.add k) = some (.int .u32 (gd l k : Nat)) := fun k hk => h.rd.at k hk
  clear hl0 hm0 hx hyv hu hd ht1 hdY hxy hy
  rcases htc with ⟨rfl, htl⟩ | ⟨rfl, htl⟩
  · obtain ⟨ad, e, hca⟩ := htt q' (by omega)
    subst e
    rw [← htl] at hca
    have hta : IntKind.u64.wrap (t : Int) = (t : Int) := by rw [IntKind.wrap_u64]; omega
    clear htl htt hl hm
    go_enter Tryz.func54, Tryz.ntmps54
    go_wp2
    go_loopw [8, 9, 10] (fun lv hv sv wr => ∃ (lo hi st : Nat), lv = .int .u64 lo ∧ hv = .int .u64 hi ∧ sv = .int .u64 st ∧ 1 ≤ st ∧ st ≤ hi + 1 ∧ hi ≤ 8589934592 ∧ Hid (y * lo ≤ x) ∧ lo ≤ hi ∧ lo < 4294967296 ∧ Below w.heap.size w wr) (fun _ hv _ _ => 8589934600 - (intOf hv).toNat)
    case atStart => exact ⟨d, d, 1, rfl, rfl, rfl, by omega, by omega, by omega, HDY, Nat.le_refl _, hdlt, Below.refl _ _⟩
    case round =>
      obtain ⟨lo, hi, st, rfl, rfl, rfl, hst, hst2, hhi, hlo, hlh, hlo2, hb⟩ := hrel
      have hA1 := hA.below hb
      have hB1 := hB.below hb
      go_wp2_with fail
      refine (ref_Of hi (by omega) _).mono ?_
      rintro e w2 ⟨o1, rfl, ho1, hb2⟩
      have hA2 := hA1.below hb2
      have hB2 := hB1.below hb2
      go_wp2_with fail
      refine (call_RMul hB2 ho1 (by omega) (by decide)).mono ?_
      rintro e w3 ⟨o2, rfl, ho2, hb3⟩
      have hA3 := hA2.below hb3
      have hb30 : Below w.heap.size w w3 := Gs.Below.tr hb (Gs.Below.tr hb2 hb3)
      clear hA1 hA2 hB1 hB2 ho1 hb hb2 hb3
      by_cases hle : y * hi ≤ x
      · obtain ⟨z, hz⟩ : ∃ z, cmpI ((y * hi : Nat) : Int) (x : Nat) = z := ⟨_, rfl⟩
        have hz1 : z ≤ 0 := by
          rw [← hz]
          rcases Nat.lt_or_ge (y * hi) x with h1 | h1
          · rw [cmpI_lt h1]; decide
          · rw [cmpI_eq (Nat.le_antisymm hle h1)]; decide
        have HZ := Lib.hid hz
        have hhi2 : hi < 4294967296 := guess_lt hle HXY.out
        have HLE := Lib.hid hle
        have t7 : (hi : Int) < 4294967296 := by omega
        have w5 : IntKind.u64.wrap ((hi : Int) + (st : Int)) = (hi : Int) + (st : Int) := by rw [IntKind.wrap_u64]; omega
        have w6 : IntKind.u64.wrap ((st : Int) * 2) = (st : Int) * 2 := by rw [IntKind.wrap_u64]; omega
        clear hz hle
        go_wp2_with fail
        refine (call_RCmp ho2 hA3 (by omega) (by omega) HZ.out).mono ?_
        rintro e w4 ⟨rfl, hb4⟩
        have hb40 := Gs.Below.tr hb30 hb4
        go_wp2
        refine ⟨⟨hi, hi + st, st * 2, rfl, by go_num, by go_num, by omega, by omega, by omega, HLE, by omega, hhi2, hb40⟩, ?_⟩
        simp only [intOf]; omega
      · have HZ := Lib.hid (cmpI_gt (x := y * hi) (y := x) (by omega))
        obtain ⟨H, hH⟩ : ∃ H, H = min hi 4294967296 := ⟨_, rfl⟩
        have HGT := Lib.hid (show x < y * H by
          rw [hH, Nat.min_def]
          split
          · omega
          · exact HXY.out)
        have hm1 : (if (4294967296 : Int) < (hi : Int) then (4294967296 : Int) else (hi : Int)) = (H : Int) := by split <;> omega
        have hm2 : min (hi : Int) (4294967296 : Int) = (H : Int) := by omega
        have hm3 : (if (4294967296 : Nat) < hi then (4294967296 : Nat) else hi) = H := by split <;> omega
        have hH2 : H ≤ 4294967296 := by omega
        have hlH : lo < H := guess_lt hlo.out HGT.out
        clear hle hH
        go_wp2_with fail
        refine (call_RCmp ho2 hA3 (by omega) (by omega) HZ.out).mono ?_
        rintro e w4 ⟨rfl, hb4⟩
        have hb40 := Gs.Below.tr hb30 hb4
        go_wp2
        go_loopw [8, 9] (fun lv hv wr2 => ∃ (lo2 hi2 : Nat), lv = .int .u64 lo2 ∧ hv = .int .u64 hi2 ∧ Hid (y * lo2 ≤ x) ∧ Hid (x < y * hi2) ∧ lo2 < hi2 ∧ hi2 ≤ 4294967296 ∧ Below w.heap.size w wr2) (fun lv hv _ => (intOf hv - intOf lv).toNat)
        case atStart => exact ⟨lo, H, rfl, rfl, hlo, HGT, hlH, hH2, hb40⟩
        case round =>
          obtain ⟨lo2, hi2, rfl, rfl, hl2, hg2, hlh2, hhi3, hb5⟩ := hrel
          have w7 : IntKind.u64.wrap ((hi2 : Int) - (lo2 : Int)) = (hi2 : Int) - (lo2 : Int) := by rw [IntKind.wrap_u64]; omega
          by_cases hgo : 1 < hi2 - lo2
          · have t8 : (1 : Int) < (hi2 : Int) - (lo2 : Int) := by omega
            obtain ⟨mid, hmid⟩ : ∃ mid, mid = lo2 + (hi2 - lo2) / 2 := ⟨_, rfl⟩
            have w8 : IntKind.u64.wrap ((lo2 : Int) + ((hi2 : Int) - (lo2 : Int)) / 2) = (mid : Int) := by rw [IntKind.wrap_u64]; omega
            have hm1 : lo2 < mid := by omega
            have hm2 : mid < hi2 := by omega
            have hA1 := hA.below hb5
            have hB1 := hB.below hb5
            clear hmid
            go_wp2_with fail
            refine (ref_Of mid (by omega) _).mono ?_
            rintro e w6 ⟨o3, rfl, ho3, hb6⟩
            have hA2 := hA1.below hb6
            have hB2 := hB1.below hb6
            go_wp2_with fail
            refine (call_RMul hB2 ho3 (by omega) (by decide)).mono ?_
            rintro e w7 ⟨o4, rfl, ho4, hb7⟩
            have hA7 := hA2.below hb7
            have hb70 : Below w.heap.size w w7 := Gs.Below.tr hb5 (Gs.Below.tr hb6 hb7)
            clear hA1 hA2 hB1 hB2 ho3 hb5 hb6 hb7
            by_cases hle : y * mid ≤ x
            · obtain ⟨z, hz⟩ : ∃ z, cmpI ((y * mid : Nat) : Int) (x : Nat) = z := ⟨_, rfl⟩
              have hz1 : z ≤ 0 := by
                rw [← hz]
                rcases Nat.lt_or_ge (y * mid) x with h1 | h1
                · rw [cmpI_lt h1]; decide
                · rw [cmpI_eq (Nat.le_antisymm hle h1)]; decide
              have HZ2 := Lib.hid hz
              have HLE := Lib.hid hle
              clear hz hle
              go_wp2_with fail
              refine (call_RCmp ho4 hA7 (by omega) (by omega) HZ2.out).mono ?_
              rintro e w8 ⟨rfl, hb8⟩
              have hb80 := Gs.Below.tr hb70 hb8
              go_wp2
              refine ⟨⟨mid, hi2, rfl, rfl, HLE, hg2, hm2, hhi3, hb80⟩, ?_⟩
              simp only [intOf]; omega
            · have HZ2 := Lib.hid (cmpI_gt (x := y * mid) (y := x) (by omega))
              have HG := Lib.hid (show x < y * mid by omega)
              clear hle
              go_wp2_with fail
              refine (call_RCmp ho4 hA7 (by omega) (by omega) HZ2.out).mono ?_
              rintro e w8 ⟨rfl, hb8⟩
              have hb80 := Gs.Below.tr hb70 hb8
              go_wp2
              refine ⟨⟨lo2, mid, rfl, rfl, hl2, HG, hm1, by omega, hb80⟩, ?_⟩
              simp only [intOf]; omega
          · have hfin := guess_end hl2.out hg2.out (by omega)
            have t8 : ¬ (1 : Int) < (hi2 : Int) - (lo2 : Int) := by omega
            have w9 : IntKind.u32.wrap (lo2 : Int) = (lo2 : Int) := by rw [IntKind.wrap_u32]; omega
            have HF := Lib.hid (hfin.trans HQ.out.symm)
            clear hfin
            go_wp2
            go_ret
            exact ⟨by rw [← HF.out]; rfl, hb5⟩
  · obtain ⟨ad, e, hca⟩ := htt q' (by omega)
    obtain ⟨ad2, e2, hca2⟩ := htt (q' + 1) (by omega)
    subst e
    injection e2 with e2
    subst e2
    have g1 := h.lt.gd (by omega) q'
    have g2 := h.lt.gd (by omega) (q' + 1)
    obtain ⟨t0, ht0⟩ : ∃ t0, t0 = gd l q' := ⟨_, rfl⟩
    obtain ⟨t1, ht1⟩ : ∃ t1, t1 = gd l (q' + 1) := ⟨_, rfl⟩
    rw [← ht0] at hca g1 htl
    rw [← ht1] at hca2 g2 htl
    have hor := or_join (q := t1) (r := t0) (i := 32) (by omega) (by omega) (by omega)
    rw [show t1 * 2 ^ 32 + t0 = t by omega, show ((t1 * 2 ^ 32 : Nat) : Int) = (t1 : Int) * 4294967296 by omega] at hor
    have hw1 : IntKind.u64.wrap ((t1 : Int) * 4294967296) = (t1 : Int) * 4294967296 := by rw [IntKind.wrap_u64]; omega
    have hw2 : IntKind.u64.wrap (t1 : Int) = (t1 : Int) := by rw [IntKind.wrap_u64]; omega
    have hw3 : IntKind.u64.wrap (t0 : Int) = (t0 : Int) := by rw [IntKind.wrap_u64]; omega
    have s3 : IntKind.i64.wrap (((q' + 2 : Nat) : Int) - 1) = (q' : Int) + 1 := by rw [IntWalk.i64_in _ (by omega)]; omega
    have s3' : IntKind.i64.wrap ((q' : Int) + 2 - 1) = (q' : Int) + 1 := by rw [IntWalk.i64_in _ (by omega)]; omega
    have s4 : IntKind.i64.wrap (((q' + 2 : Nat) : Int) - 2) = (q' : Int) := by rw [IntWalk.i64_in _ (by omega)]; omega
    have s4' : IntKind.i64.wrap ((q' : Int) + 2 - 2) = (q' : Int) := by rw [IntWalk.i64_in _ (by omega)]; omega
    have hca3 : w.cell? ⟨ad.block, ad.off + (q' + 1), none⟩ = some (.int .u32 (t1 : Int)) := by rw [← hca2]; unfold Addr.add; rw [if_neg (by omega)]
    clear htl htt hl hm ht0 ht1
    go_enter Tryz.func54, Tryz.ntmps54
    go_wp2
    go_loopw [8, 9, 10] (fun lv hv sv wr => ∃ (lo hi st : Nat), lv = .int .u64 lo ∧ hv = .int .u64 hi ∧ sv = .int .u64 st ∧ 1 ≤ st ∧ st ≤ hi + 1 ∧ hi ≤ 8589934592 ∧ Hid (y * lo ≤ x) ∧ lo ≤ hi ∧ lo < 4294967296 ∧ Below w.heap.size w wr) (fun _ hv _ _ => 8589934600 - (intOf hv).toNat)
    case atStart => exact ⟨d, d, 1, rfl, rfl, rfl, by omega, by omega, by omega, HDY, Nat.le_refl _, hdlt, Below.refl _ _⟩
    case round =>
      obtain ⟨lo, hi, st, rfl, rfl, rfl, hst, hst2, hhi, hlo, hlh, hlo2, hb⟩ := hrel
      have hA1 := hA.below hb
      have hB1 := hB.below hb
      go_wp2_with fail
      refine (ref_Of hi (by omega) _).mono ?_
      rintro e w2 ⟨o1, rfl, ho1, hb2⟩
      have hA2 := hA1.below hb2
      have hB2 := hB1.below hb2
      go_wp2_with fail
      refine (call_RMul hB2 ho1 (by omega) (by decide)).mono ?_
      rintro e w3 ⟨o2, rfl, ho2, hb3⟩
      have hA3 := hA2.below hb3
      have hb30 : Below w.heap.size w w3 := Gs.Below.tr hb (Gs.Below.tr hb2 hb3)
      clear hA1 hA2 hB1 hB2 ho1 hb hb2 hb3
      by_cases hle : y * hi ≤ x
      · obtain ⟨z, hz⟩ : ∃ z, cmpI ((y * hi : Nat) : Int) (x : Nat) = z := ⟨_, rfl⟩
        have hz1 : z ≤ 0 := by
          rw [← hz]
          rcases Nat.lt_or_ge (y * hi) x with h1 | h1
          · rw [cmpI_lt h1]; decide
          · rw [cmpI_eq (Nat.le_antisymm hle h1)]; decide
        have HZ := Lib.hid hz
        have hhi2 : hi < 4294967296 := guess_lt hle HXY.out
        have HLE := Lib.hid hle
        have t7 : (hi : Int) < 4294967296 := by omega
        have w5 : IntKind.u64.wrap ((hi : Int) + (st : Int)) = (hi : Int) + (st : Int) := by rw [IntKind.wrap_u64]; omega
        have w6 : IntKind.u64.wrap ((st : Int) * 2) = (st : Int) * 2 := by rw [IntKind.wrap_u64]; omega
        clear hz hle
        go_wp2_with fail
        refine (call_RCmp ho2 hA3 (by omega) (by omega) HZ.out).mono ?_
        rintro e w4 ⟨rfl, hb4⟩
        have hb40 := Gs.Below.tr hb30 hb4
        go_wp2
        refine ⟨⟨hi, hi + st, st * 2, rfl, by go_num, by go_num, by omega, by omega, by omega, HLE, by omega, hhi2, hb40⟩, ?_⟩
        simp only [intOf]; omega
      · have HZ := Lib.hid (cmpI_gt (x := y * hi) (y := x) (by omega))
        obtain ⟨H, hH⟩ : ∃ H, H = min hi 4294967296 := ⟨_, rfl⟩
        have HGT := Lib.hid (show x < y * H by
          rw [hH, Nat.min_def]
          split
          · omega
          · exact HXY.out)
        have hm1 : (if (4294967296 : Int) < (hi : Int) then (4294967296 : Int) else (hi : Int)) = (H : Int) := by split <;> omega
        have hm2 : min (hi : Int) (4294967296 : Int) = (H : Int) := by omega
        have hm3 : (if (4294967296 : Nat) < hi then (4294967296 : Nat) else hi) = H := by split <;> omega
        have hH2 : H ≤ 4294967296 := by omega
        have hlH : lo < H := guess_lt hlo.out HGT.out
        clear hle hH
        go_wp2_with fail
        refine (call_RCmp ho2 hA3 (by omega) (by omega) HZ.out).mono ?_
        rintro e w4 ⟨rfl, hb4⟩
        have hb40 := Gs.Below.tr hb30 hb4
        go_wp2
        go_loopw [8, 9] (fun lv hv wr2 => ∃ (lo2 hi2 : Nat), lv = .int .u64 lo2 ∧ hv = .int .u64 hi2 ∧ Hid (y * lo2 ≤ x) ∧ Hid (x < y * hi2) ∧ lo2 < hi2 ∧ hi2 ≤ 4294967296 ∧ Below w.heap.size w wr2) (fun lv hv _ => (intOf hv - intOf lv).toNat)
        case atStart => exact ⟨lo, H, rfl, rfl, hlo, HGT, hlH, hH2, hb40⟩
        case round =>
          obtain ⟨lo2, hi2, rfl, rfl, hl2, hg2, hlh2, hhi3, hb5⟩ := hrel
          have w7 : IntKind.u64.wrap ((hi2 : Int) - (lo2 : Int)) = (hi2 : Int) - (lo2 : Int) := by rw [IntKind.wrap_u64]; omega
          by_cases hgo : 1 < hi2 - lo2
          · have t8 : (1 : Int) < (hi2 : Int) - (lo2 : Int) := by omega
            obtain ⟨mid, hmid⟩ : ∃ mid, mid = lo2 + (hi2 - lo2) / 2 := ⟨_, rfl⟩
            have w8 : IntKind.u64.wrap ((lo2 : Int) + ((hi2 : Int) - (lo2 : Int)) / 2) = (mid : Int) := by rw [IntKind.wrap_u64]; omega
            have hm1 : lo2 < mid := by omega
            have hm2 : mid < hi2 := by omega
            have hA1 := hA.below hb5
            have hB1 := hB.below hb5
            clear hmid
            go_wp2_with fail
            refine (ref_Of mid (by omega) _).mono ?_
            rintro e w6 ⟨o3, rfl, ho3, hb6⟩
            have hA2 := hA1.below hb6
            have hB2 := hB1.below hb6
            go_wp2_with fail
            refine (call_RMul hB2 ho3 (by omega) (by decide)).mono ?_
            rintro e w7 ⟨o4, rfl, ho4, hb7⟩
            have hA7 := hA2.below hb7
            have hb70 : Below w.heap.size w w7 := Gs.Below.tr hb5 (Gs.Below.tr hb6 hb7)
            clear hA1 hA2 hB1 hB2 ho3 hb5 hb6 hb7
            by_cases hle : y * mid ≤ x
            · obtain ⟨z, hz⟩ : ∃ z, cmpI ((y * mid : Nat) : Int) (x : Nat) = z := ⟨_, rfl⟩
              have hz1 : z ≤ 0 := by
                rw [← hz]
                rcases Nat.lt_or_ge (y * mid) x with h1 | h1
                · rw [cmpI_lt h1]; decide
                · rw [cmpI_eq (Nat.le_antisymm hle h1)]; decide
              have HZ2 := Lib.hid hz
              have HLE := Lib.hid hle
              clear hz hle
              go_wp2_with fail
              refine (call_RCmp ho4 hA7 (by omega) (by omega) HZ2.out).mono ?_
              rintro e w8 ⟨rfl, hb8⟩
              have hb80 := Gs.Below.tr hb70 hb8
              go_wp2
              refine ⟨⟨mid, hi2, rfl, rfl, HLE, hg2, hm2, hhi3, hb80⟩, ?_⟩
              simp only [intOf]; omega
            · have HZ2 := Lib.hid (cmpI_gt (x := y * mid) (y := x) (by omega))
              have HG := Lib.hid (show x < y * mid by omega)
              clear hle
              go_wp2_with fail
              refine (call_RCmp ho4 hA7 (by omega) (by omega) HZ2.out).mono ?_
              rintro e w8 ⟨rfl, hb8⟩
              have hb80 := Gs.Below.tr hb70 hb8
              go_wp2
              refine ⟨⟨lo2, mid, rfl, rfl, hl2, HG, hm1, by omega, hb80⟩, ?_⟩
              simp only [intOf]; omega
          · have hfin := guess_end hl2.out hg2.out (by omega)
            have t8 : ¬ (1 : Int) < (hi2 : Int) - (lo2 : Int) := by omega
            have w9 : IntKind.u32.wrap (lo2 : Int) = (lo2 : Int) := by rw [IntKind.wrap_u32]; omega
            have HF := Lib.hid (hfin.trans HQ.out.symm)
            clear hfin
            go_wp2
            go_ret
            exact ⟨by rw [← HF.out]; rfl, hb5⟩
end Go.Proofs.YtphiglbieffbjaaGreatDoor
