/- Contract: nat.Sqrt (Newton's way). -/
import Derived.Test.YtphiglbieffbjaaGreatDoorNk
namespace Gs
/-- the root, cut -/
def IsRoot (a r : Nat) : Prop := r * r ≤ a ∧ a < (r + 1) * (r + 1)
theorem IsRoot.unique {a r s : Nat} (h : IsRoot a r) (k : IsRoot a s) : r = s := by
  have h1 : r < s + 1 := by
    rcases Nat.lt_or_ge r (s + 1) with h1 | h1
    · exact h1
    · have := Nat.mul_le_mul h1 h1
      exact absurd (Nat.lt_of_le_of_lt (Nat.le_trans this h.1) k.2) (Nat.lt_irrefl _)
  have h2 : s < r + 1 := by
    rcases Nat.lt_or_ge s (r + 1) with h1 | h1
    · exact h1
    · have := Nat.mul_le_mul h1 h1
      exact absurd (Nat.lt_of_le_of_lt (Nat.le_trans this k.1) h.2) (Nat.lt_irrefl _)
  omega
theorem root_exists (a : Nat) : ∃ r, IsRoot a r := by
  induction a with
  | zero => exact ⟨0, by unfold IsRoot; omega⟩
  | succ a ih =>
    obtain ⟨r, h1, h2⟩ := ih
    by_cases h : a + 1 < (r + 1) * (r + 1)
    · exact ⟨r, by omega, h⟩
    · refine ⟨r + 1, by omega, ?_⟩
      have e : (r + 1 + 1) * (r + 1 + 1) = (r + 1) * (r + 1) + 2 * (r + 1) + 1 := by grind
      omega
/-- one step of Newton's does not fall below the root -/
theorem newton_ge {a r x : Nat} (h : IsRoot a r) (hx : 0 < x) : r ≤ (x + a / x) / 2 := by
  have h1 : r * r ≤ a := h.1
  have h2 := Nat.div_add_mod' a x
  have h3 := Nat.mod_lt a hx
  obtain ⟨q, hq⟩ : ∃ q, q = a / x := ⟨_, rfl⟩
  rw [← hq] at h2 ⊢
  rw [Nat.le_div_iff_mul_le (by omega)]
  rcases Nat.lt_or_ge (x + q) (r * 2) with h4 | h4
  · exfalso
    have h5 : a < (q + 1) * x := by rw [Nat.add_mul]; omega
    have h6 : r * r < (q + 1) * x := Nat.lt_of_le_of_lt h1 h5
    have h7 : q + 1 + x ≤ 2 * r := by omega
    -- (q+1) x ≤ r²
    obtain ⟨p, hp⟩ : ∃ p, p = q + 1 := ⟨_, rfl⟩
    rw [← hp] at h6 h7
    rcases Nat.le_total p r with h8 | h8
    · obtain ⟨d, rfl⟩ := Nat.exists_eq_add_of_le h8
      have : x ≤ p + 2 * d := by omega
      have := Nat.mul_le_mul_left p this
      have e : (p + d) * (p + d) = p * (p + 2 * d) + d * d := by grind
      have := Nat.zero_le (d * d)
      omega
    · obtain ⟨d, rfl⟩ := Nat.exists_eq_add_of_le h8
      have h9 : x + d ≤ r := by omega
      obtain ⟨c, rfl⟩ := Nat.exists_eq_add_of_le h9
      have e : (x + d + c) * (x + d + c) = (x + d + c + d) * x + (d + c) * (x + d + c) - d * x := by
        have : (x + d + c) * (x + d + c) + d * x = (x + d + c + d) * x + (d + c) * (x + d + c) := by grind
        omega
      have : d * x ≤ (d + c) * (x + d + c) := Nat.mul_le_mul (by omega) (by omega)
      omega
  · exact h4
/-- where the step does not fall, it is the root -/
theorem newton_stop {a r x : Nat} (h : IsRoot a r) (hx : 0 < x) (hr : r ≤ x) (hs : x ≤ (x + a / x) / 2) : x = r := by
  have h1 : x ≤ a / x := by omega
  have h2 : x * x ≤ a := (Nat.le_div_iff_mul_le hx).1 h1
  rcases Nat.lt_or_ge r x with h3 | h3
  · have := Nat.mul_le_mul h3 h3
    exact absurd (Nat.lt_of_lt_of_le h.2 (Nat.le_trans this h2)) (Nat.lt_irrefl _)
  · omega
theorem root_start {a r : Nat} (h : IsRoot a r) : r ≤ 2 ^ ((blen a + 1) / 2) := by
  have h1 := lt_blen a
  rcases Nat.lt_or_ge (2 ^ ((blen a + 1) / 2)) r with h2 | h2
  · have h3 := Nat.mul_le_mul (Nat.le_of_lt h2) (Nat.le_of_lt h2)
    rw [← Nat.pow_add] at h3
    have h4 : 2 ^ blen a ≤ 2 ^ ((blen a + 1) / 2 + (blen a + 1) / 2) := Nat.pow_le_pow_right (by omega) (by omega)
    have := h.1
    omega
  · exact h2
end Gs
namespace Go.Proofs.YtphiglbieffbjaaGreatDoor
open Go.RowKit Go.Shelf Gs
set_option linter.unusedVariables false

set_option maxRecDepth 100000 in
set_option maxHeartbeats 4000000 in
theorem nat_Sqrt {A n c} {l : List Nat} {P} {w : World} {r : Nat} (h : RdU w P ⟨A, n, c⟩ l) (hn : n ≤ 1073741824) (hroot : IsRoot (val 18446744073709551616 l) r) :
    Calls Tryz.prog 24 #[.slice A n c] w fun e w' => ∃ A1 n1 c1, e = .returned (.slice A1 n1 c1) ∧ RdU w' (fun b => w.heap.size ≤ b) ⟨A1, n1, c1⟩ (limbs 18446744073709551616 r) ∧ Below w.heap.size w w' := by
  have hN := h.nl_le
  have hr := h.trim
  have kt := nat_trim h (by omega)
  have hnl : nl l = (limbs 18446744073709551616 (val 18446744073709551616 l)).length := rfl
  obtain ⟨a, ha⟩ : ∃ a, a = val 18446744073709551616 l := ⟨_, rfl⟩
  obtain ⟨N, hNN⟩ : ∃ N, N = nl l := ⟨_, rfl⟩
  rw [← hNN] at hN hr kt hnl
  rw [← ha] at hr hnl hroot
  have KT := Lib.hid kt
  have HNL := Lib.hid hnl
  have HR := Lib.hid hroot
  clear kt hnl hNN ha hroot
  by_cases h0 : N = 0
  · subst h0
    have ha0 : a = 0 := (limbs_len_zero B64 a).1 HNL.out.symm
    have hr0 : r = 0 := by
      have := HR.out.1
      rw [ha0] at this
      rcases Nat.eq_zero_or_pos r with h | h
      · exact h
      · have := Nat.mul_le_mul h h; omega
    subst hr0
    clear ha0
    go_enter Tryz.func24, Tryz.ntmps24
    go_wp2_with fail
    refine KT.out.mono ?_
    rintro e w1 ⟨rfl, rfl⟩
    go_wp2
    go_ret
    exact ⟨none, 0, 0, rfl, ⟨RdN.nil _ _ _ 0 (by omega) _, Lt.nil _⟩, Below.refl _ _⟩
  · have hNb : (N == 0) = false := by simpa using h0
    have hNb2 : ((N : Int) == 0) = false := by rw [beq_eq_false_iff_ne]; omega
    have ha0 : a ≠ 0 := fun e => h0 (by rw [HNL.out, e]; rfl)
    have HA0 := Lib.hid ha0
    have H0 := Lib.hid h0
    have hbl : blen a ≤ 64 * N := by
      have h1 := lt_of_limbs_len B64 (Nat.le_of_eq HNL.out.symm)
      rw [show (18446744073709551616 : Nat) = 2 ^ 64 by rfl, ← Nat.pow_mul] at h1
      rcases Nat.lt_or_ge (64 * N) (blen a) with h2 | h2
      · have := blen_le ha0
        have : 2 ^ (64 * N) ≤ 2 ^ (blen a - 1) := Nat.pow_le_pow_right (by omega) (by omega)
        omega
      · exact h2
    have kb := fun W (hb : Below w.heap.size w W) => nat_Bits (hr.below hb) (by omega)
    rw [val_limbs B64] at kb
    obtain ⟨B, hB⟩ : ∃ B, B = blen a := ⟨_, rfl⟩
    simp only [← hB] at kb
    rw [← hB] at hbl
    have s1 : IntKind.i64.wrap ((B : Int) + 1) = (B : Int) + 1 := IntWalk.i64_in _ (by omega)
    have s2 : ((B : Int) + 1).tdiv 2 = (((B + 1) / 2 : Nat) : Int) := by rw [Int.tdiv_eq_ediv_of_nonneg (by omega)]; omega
    have KB := Lib.hid kb
    have HB := Lib.hid hB
    clear kb hB ha0 h0
    go_enter Tryz.func24, Tryz.ntmps24
    go_wp2_with fail
    refine KT.out.mono ?_
    rintro e w1 ⟨rfl, rfl⟩
    go_wp2_with fail
    refine (nat_Of 1 (by omega) w).mono ?_
    rintro e w1 ⟨A1, n1, c1, rfl, h1, hb1⟩
    go_wp2_with fail
    refine (KB.out w1 hb1).mono ?_
    rintro e w2 ⟨rfl, rfl⟩
    go_wp2_with fail
    have hn1 : n1 ≤ 1 := by have h2 := h1.rd.len; simp only at h2; rw [← h2]; exact limbs_len_le B64 (by omega)
    refine (nat_shl (kk := ((B : Int) + 1) / 2) h1 (by omega) (by omega) (by omega)).mono ?_
    rintro e w2 ⟨A2, n2, c2, rfl, h2, hb2⟩
    rw [val_limbs B64, Nat.one_mul, show (((B : Int) + 1) / 2).toNat = (B + 1) / 2 by omega] at h2
    have hB2 := Below.then hb1 hb1.size hb2
    have hsz1 := hb1.size
    have hg0 := root_start HR.out
    rw [← HB.out] at hg0
    have hn2 : n2 ≤ N + 1 := by
      have h3 := h2.rd.len
      simp only at h3
      rw [← h3]
      apply limbs_len_le B64
      rw [show (18446744073709551616 : Nat) = 2 ^ 64 by rfl, ← Nat.pow_mul]
      exact Nat.pow_lt_pow_right (by omega) (by omega)
    obtain ⟨g0, hgg⟩ : ∃ g0, g0 = 2 ^ ((B + 1) / 2) := ⟨_, rfl⟩
    rw [← hgg] at h2 hg0
    have hr1 : 1 ≤ r := by
      rcases Nat.eq_zero_or_pos r with h3 | h3
      · exfalso
        have := HR.out.2
        rw [h3] at this
        have := HA0.out
        omega
      · exact h3
    clear hgg s1 s2
    go_wp2
    go_loopg [3] g0 (fun g v wr => ∃ (X : Option Addr) (nx cx : Nat), v = .slice X nx cx ∧ nx ≤ 1073741825 ∧ RdU wr (fun b => w.heap.size ≤ b) ⟨X, nx, cx⟩ (limbs 18446744073709551616 g) ∧ r ≤ g ∧ Below w.heap.size w wr)
    case atStart => exact ⟨A2, n2, c2, rfl, by omega, h2.mono (fun b hb => by omega), hg0, hB2⟩
    case round =>
      obtain ⟨X, nx, cx, rfl, hnx, hx, hrg, hb⟩ := hrel
      have hgk : gk ≠ 0 := by omega
      have kd := nat_DivMod ((hr.below hb).mono (P' := fun b => P b ∨ w.heap.size ≤ b) (fun b hb => .inl hb)) (hx.mono (P' := fun b => P b ∨ w.heap.size ≤ b) (fun b hb => .inr hb)) (by omega) (by omega) (by rw [val_limbs B64]; exact hgk)
      rw [val_limbs B64, val_limbs B64] at kd
      have hge := newton_ge HR.out (Nat.pos_of_ne_zero hgk)
      have hst := newton_stop HR.out (Nat.pos_of_ne_zero hgk) hrg
      have KD := Lib.hid kd
      have HGE := Lib.hid hge
      have HST := Lib.hid hst
      have HL := Lib.hid hx.rd.len
      clear kd hge hst
      go_wp2_with fail
      refine KD.out.mono ?_
      rintro e w3 ⟨A3, n3, c3, A4, n4, c4, rfl, hq, hrm, hb3⟩
      have hb4 := Below.then hb hb.size hb3
      have hsz2 := hb.size
      have hsz3 := hb4.size
      have hn3 : n3 ≤ N := by
        have h3 := hq.rd.len
        simp only at h3
        have h4 := limbs_len_mono B64 (Nat.div_le_self a gk)
        have h5 := HNL.out
        omega
      have ka := nat_Add ((hx.below hb3)) (hq.mono (P' := fun b => w.heap.size ≤ b) (fun b hb => by omega)) (by omega) (by omega)
      rw [val_limbs B64, val_limbs B64] at ka
      go_wp2_with fail
      refine ka.mono ?_
      rintro e w4 ⟨A5, n5, c5, rfl, h5, hb5⟩
      have hb6 := Below.then hb4 hb4.size hb5
      have hsz4 := hb6.size
      have hn5 : n5 ≤ 68719476738 := by
        have h3 := h5.rd.len
        simp only at h3
        have h4 := hx.rd.len
        simp only at h4
        have h7 := lt_of_limbs_len B64 (Nat.le_of_eq h4)
        have h8 := lt_of_limbs_len B64 (Nat.le_of_eq HNL.out.symm)
        rw [← h3]
        refine Nat.le_trans (limbs_len_le B64 (k := nx + N + 1) ?_) (by omega)
        have h9 : a / gk ≤ a := Nat.div_le_self _ _
        have e1 : (18446744073709551616 : Nat) ^ nx ≤ 18446744073709551616 ^ (nx + N) := Nat.pow_le_pow_right (by omega) (by omega)
        have e2 : (18446744073709551616 : Nat) ^ N ≤ 18446744073709551616 ^ (nx + N) := Nat.pow_le_pow_right (by omega) (by omega)
        rw [Nat.pow_succ]
        generalize (18446744073709551616 : Nat) ^ (nx + N) = K at *
        omega
      have kr := nat_shr (kk := 1) h5 (by omega) (by omega) (by omega)
      rw [val_limbs B64, show (2 : Nat) ^ ((1 : Int).toNat) = 2 by rfl] at kr
      go_wp2_with fail
      refine kr.mono ?_
      rintro e w5 ⟨A6, n6, c6, rfl, h6, hb7⟩
      have hb8 := Below.then hb6 hb6.size hb7
      have hsz5 := hb8.size
      have hn6 : n6 ≤ n5 := by
        have h3 := h6.rd.len
        have h4 := h5.rd.len
        simp only at h3 h4
        rw [← h3, ← h4]
        exact limbs_len_mono B64 (Nat.div_le_self _ _)
      have kc := nat_Cmp (P := fun b => w.heap.size ≤ b) (h6.mono (fun b hb => by omega)) (((hx.below hb3).below hb5).below hb7) (by omega) (by omega)
      rw [val_limbs B64, val_limbs B64] at kc
      obtain ⟨y, hy⟩ : ∃ y, y = (gk + a / gk) / 2 := ⟨_, rfl⟩
      have hge := HGE.out
      have hst := HST.out
      rw [← hy] at kc hge hst h6
      go_wp2_with fail
      by_cases hyg : gk ≤ y
      · have hci : decide (0 ≤ cmpI (y : Int) (gk : Int)) = true := by
          unfold cmpI; rw [if_neg (by omega)]; split <;> rfl
        have hgr : gk = r := hst hyg
        obtain ⟨ci, hcc⟩ : ∃ ci, ci = cmpI (y : Int) (gk : Int) := ⟨_, rfl⟩
        rw [← hcc] at kc hci
        have HGR := Lib.hid hgr
        clear hgr hst hy hcc hyg hge
        refine kc.mono ?_
        rintro e w6 ⟨rfl, hb9⟩
        have hb10 := Below.then hb8 hb8.size hb9
        go_wp2
        go_ret
        exact ⟨_, _, _, rfl, by rw [← HGR.out]; exact (((hx.below hb3).below hb5).below hb7).below hb9, hb10⟩
      · rw [show cmpI (y : Int) (gk : Int) = -1 by unfold cmpI; rw [if_pos (by omega)]] at kc
        have HYG := Lib.hid (Nat.lt_of_not_le hyg)
        have HGE2 := Lib.hid hge
        clear hst hy hyg hge
        refine kc.mono ?_
        rintro e w6 ⟨rfl, hb9⟩
        have hb10 := Below.then hb8 hb8.size hb9
        go_wp2
        go_roundg y
        case rel =>
          refine ⟨A6, n6, c6, rfl, ?_, (h6.below hb9).mono (fun b hb => by omega), HGE2.out, hb10⟩
          have h3 := h6.rd.len
          have h4 := hx.rd.len
          simp only at h3 h4
          have := limbs_len_mono B64 (Nat.le_of_lt HYG.out)
          omega
        case measure => exact HYG.out
end Go.Proofs.YtphiglbieffbjaaGreatDoor
