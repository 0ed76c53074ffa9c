import Derived.Test.YtlpfbcilnfgaaaaGreatDoorGlz
import Derived.Test.YtlpfbcilnfgaaaaGreatDoorVoz
/- The laws of fix. -/
namespace Gv
open Go Go.RowKit Gs
set_option linter.unusedVariables false
theorem floor_uniq {x : Rat} {n : Int} (h1 : (n : Rat) ≤ x) (h2 : x < (n : Rat) + 1) : x.floor = n := by
  have h3 := floor_le x
  have h4 := lt_floor x
  have e1 : ((x.floor + 1 : Int) : Rat) = (x.floor : Rat) + 1 := by rw [Rat.intCast_add]; rfl
  have e2 : ((n + 1 : Int) : Rat) = (n : Rat) + 1 := by rw [Rat.intCast_add]; rfl
  rw [e1] at h4
  have h5 : (n : Rat) < ((x.floor + 1 : Int) : Rat) := by rw [e1]; grind
  have h6 : (x.floor : Rat) < ((n + 1 : Int) : Rat) := by rw [e2]; grind
  have := int_lt.1 h5
  have := int_lt.1 h6
  omega
theorem floor_mono {x y : Rat} (h : x ≤ y) : x.floor ≤ y.floor := by
  have h3 := floor_le x
  have h4 := lt_floor y
  have e1 : ((y.floor + 1 : Int) : Rat) = (y.floor : Rat) + 1 := by rw [Rat.intCast_add]; rfl
  have h5 : (x.floor : Rat) < ((y.floor + 1 : Int) : Rat) := by grind
  have := int_lt.1 h5
  omega
theorem floor_add (x : Rat) (n : Int) : (x + (n : Rat)).floor = x.floor + n := by
  have h3 := floor_le x
  have h4 := lt_floor x
  have e1 : ((x.floor + 1 : Int) : Rat) = (x.floor : Rat) + 1 := by rw [Rat.intCast_add]; rfl
  have e2 : ((x.floor + n : Int) : Rat) = (x.floor : Rat) + (n : Rat) := Rat.intCast_add _ _
  exact floor_uniq (by rw [e2]; grind) (by rw [e2]; grind)
theorem int_pos {u : Int} (h : 1 ≤ u) : 0 < (u : Rat) := by
  have := int_lt.2 (show (0 : Int) < u by omega)
  exact this
theorem to_of {a : Rat} {u : Int} (h : 1 ≤ u) : toQ a u = (a * (u : Rat) + 1 / 2).floor := if_neg (by omega)
theorem to_back {v u : Int} (h : 1 ≤ u) : toQ (fromQ v u) u = v := by
  have hu := int_pos h
  have e : fromQ v u * (u : Rat) = v := by unfold fromQ; rw [if_neg (by omega)]; grind
  rw [to_of h, e]
  exact floor_uniq (by grind) (by grind)
theorem to_mono {a b : Rat} {u : Int} (h : 1 ≤ u) (hab : a ≤ b) : toQ a u ≤ toQ b u := by
  have hu := int_pos h
  rw [to_of h, to_of h]
  refine floor_mono ?_
  have := Rat.mul_le_mul_of_nonneg_right hab (show 0 ≤ (u : Rat) by grind)
  grind
theorem to_more {a : Rat} {n u : Int} (h : 1 ≤ u) : toQ (a + fromQ n u) u = toQ a u + n := by
  have hu := int_pos h
  have e : (a + fromQ n u) * (u : Rat) + 1 / 2 = (a * (u : Rat) + 1 / 2) + (n : Rat) := by unfold fromQ; rw [if_neg (by omega)]; grind
  rw [to_of h, to_of h, e, floor_add]
theorem to_near {a : Rat} {u : Int} (h : 1 ≤ u) : ((toQ a u : Rat) / (u : Rat) - a) * ((2 * u : Int) : Rat) ≤ 1 ∧ -1 ≤ ((toQ a u : Rat) / (u : Rat) - a) * ((2 * u : Int) : Rat) := by
  have hu := int_pos h
  have h3 := floor_le (a * (u : Rat) + 1 / 2)
  have h4 := lt_floor (a * (u : Rat) + 1 / 2)
  rw [to_of h]
  generalize (a * (u : Rat) + 1 / 2).floor = n at *
  have e1 : ((n + 1 : Int) : Rat) = (n : Rat) + 1 := by rw [Rat.intCast_add]; rfl
  rw [e1] at h4
  have e2 : ((2 * u : Int) : Rat) = 2 * (u : Rat) := by rw [Rat.intCast_mul]; rfl
  have e3 : ((n : Rat) / (u : Rat) - a) * ((2 * u : Int) : Rat) = 2 * (n : Rat) - 2 * (a * (u : Rat)) := by rw [e2]; grind
  rw [e3]
  constructor <;> grind
theorem byte_mono {a b : Rat} (h : a ≤ b) : byteQ a ≤ byteQ b := by
  unfold byteQ
  by_cases h1 : a ≤ 0
  · rw [if_pos h1]
    split
    · decide
    · split
      · decide
      · exact (to_range (by grind) (by grind)).1
  · rw [if_neg h1, if_neg (show ¬ b ≤ 0 by grind)]
    by_cases h2 : 1 ≤ a
    · rw [if_pos h2, if_pos (show 1 ≤ b by grind)]
      exact Int.le_refl _
    · rw [if_neg h2]
      split
      · exact (to_range (by grind) (by grind)).2
      · exact to_mono (by decide) h
theorem byte_range (a : Rat) : 0 ≤ byteQ a ∧ byteQ a ≤ 255 := by
  unfold byteQ
  by_cases h1 : a ≤ 0
  · rw [if_pos h1]; decide
  · rw [if_neg h1]
    by_cases h2 : 1 ≤ a
    · rw [if_pos h2]; decide
    · rw [if_neg h2]; exact to_range (by grind) (by grind)
theorem byte_back {b : Int} (h : 0 ≤ b ∧ b ≤ 255) : byteQ (qd b 255) = b := by
  have e : qd b 255 = fromQ b 255 := by rw [qd_div (by decide)]; unfold fromQ; rw [if_neg (by decide)]
  have e0 : fromQ b 255 = (b : Rat) / 255 := by unfold fromQ; rw [if_neg (by decide)]; rfl
  have h1 : (0 : Rat) ≤ (b : Rat) := int_le.2 h.1
  have h2 : (b : Rat) ≤ 255 := int_le.2 h.2
  rw [e]
  unfold byteQ
  by_cases h3 : b = 0
  · subst h3
    rw [if_pos (by rw [e0]; grind)]
  · have h4 : (0 : Rat) < (b : Rat) := int_lt (x := 0).2 (by omega)
    rw [if_neg (by rw [e0]; grind)]
    by_cases h5 : b = 255
    · subst h5
      rw [if_pos (by rw [e0]; grind)]
    · have h6 : (b : Rat) < 255 := int_lt (y := 255).2 (by omega)
      rw [if_neg (by rw [e0]; grind)]
      exact to_back (by decide)
theorem small_of {m n : Int} (h : (decide ((m : Int) ≤ 12) && decide ((n : Int) ≤ 12)) = true) : m ≤ 12 ∧ n ≤ 12 := by simpa using h
theorem wf_u16 {k : Int} (hk : (Lit.int .u16 k).wf = true) : 0 ≤ k ∧ k ≤ 65535 := by
  simp only [Lit.wf, Bool.and_eq_true, decide_eq_true_eq] at hk
  exact ⟨hk.1, hk.2⟩
theorem b0' : Qb (0 : Rat) 1 := .one _ (z := 0) (d := 1) (by decide +kernel) (by decide) (by decide) (by decide)
theorem b_from {v u : Int} (hv : -9223372036854775808 ≤ v ∧ v ≤ 9223372036854775807) (hu : -9223372036854775808 ≤ u ∧ u ≤ 9223372036854775807) : Qb (fromQ v u) 1 := by
  unfold fromQ
  split
  · exact b0'
  · rw [← qd_div (by omega)]
    exact Qb.qd (zs_s (by omega)) (zs_s (by omega)) (by decide)
end Gv
namespace Go.Proofs.YtlpfbcilnfgaaaaGreatDoor
open Go.RowKit Gs Gv
set_option linter.unusedVariables false
theorem q1_text : qtxt (fromQ 96 64) = ⟨#[51, 47, 50]⟩ :=
  (qtxt_of (q := fromQ 96 64) (n := 3) (d := 2) (by decide +kernel) (by decide +kernel) (by decide) (A := ⟨#[51]⟩) (B := ⟨#[50]⟩) (by rw [ztxt_pos (by decide)]; exact str_txt ⟨by decide, by decide, by decide, by decide⟩) zt2).trans rfl
theorem q2_text : ztxt (toQ (qd 3 2) 64) = ⟨#[57, 54]⟩ := by
  have e : toQ (qd 3 2) 64 = 96 := by decide +kernel
  rw [e, ztxt_pos (by decide)]
  exact str_txt ⟨by decide, by decide, by decide, by decide⟩
set_option maxHeartbeats 4000000 in
theorem l5_wakes : Gv.Fn Tryz.prog 48 [] (.raw (.bool true)) := by
  have o1 := q_Of (a := 3) (b := 2) (by decide) (by decide) (by decide) (by decide)
  have o2 := q_Of (a := 1) (b := 2) (by decide) (by decide) (by decide) (by decide)
  have o3 := q_Of (a := -1) (b := 2) (by decide) (by decide) (by decide) (by decide)
  have o4 := q_Of (a := 7) (b := 2) (by decide) (by decide) (by decide) (by decide)
  have b1 : Qb (qd 3 2) 1 := Qb.qd (zs_s (by decide)) (zs_s (by decide)) (by decide)
  have b2 : Qb (qd 1 2) 1 := Qb.qd (zs_s (by decide)) (zs_s (by decide)) (by decide)
  have b3 : Qb (qd (-1) 2) 1 := Qb.qd (zs_s (by decide)) (zs_s (by decide)) (by decide)
  have b4 : Qb (qd 7 2) 1 := Qb.qd (zs_s (by decide)) (zs_s (by decide)) (by decide)
  have f1 := x_From (v := 96) (u := 64) (by decide) (by decide)
  have bf : Qb (fromQ 96 64) 1 := b_from (by decide) (by decide)
  have t1 := q_Text (IsQ.qc bf) (by decide)
  have t2 := x_To (u := 64) (IsQ.qc b1) (by decide) (by decide)
  have t3 := z_Text (IsZ.zc (b_to (u := 64) b1 (by decide) (by decide))) (by decide)
  have y2 := x_Byte (IsQ.qc b2) (by decide)
  have y3 := x_Byte (IsQ.qc b3) (by decide)
  have y4 := x_Byte (IsQ.qc b4) (by decide)
  have e2 : byteQ (qd 1 2) = 128 := by decide +kernel
  have e3 : byteQ (qd (-1) 2) = 0 := by decide +kernel
  have e4 : byteQ (qd 7 2) = 255 := by decide +kernel
  have s1 := q1_text
  have s2 := q2_text
  rw [e2] at y2
  rw [e3] at y3
  rw [e4] at y4
  generalize toQ (qd 3 2) 64 = n at *
  generalize fromQ 96 64 = a1 at *
  generalize qd 3 2 = a2 at *
  generalize qd 1 2 = a3 at *
  generalize qd (-1) 2 = a4 at *
  generalize qd 7 2 = a5 at *
  refine Fn.intro mixed vc_law05_wakes rfl ?_
  refine ok_call (f1) rfl rfl ?_
  try simp only [List.cons_append, List.nil_append]
  refine ok_call (t1) rfl rfl ?_
  try simp only [List.cons_append, List.nil_append]
  refine ok_seq rfl (s1) ?_
  try simp only [List.cons_append, List.nil_append]
  refine ok_true rfl ?_
  refine ok_call (o1) rfl rfl ?_
  try simp only [List.cons_append, List.nil_append]
  refine ok_call (t2) rfl rfl ?_
  try simp only [List.cons_append, List.nil_append]
  refine ok_call (t3) rfl rfl ?_
  try simp only [List.cons_append, List.nil_append]
  refine ok_seq rfl (s2) ?_
  try simp only [List.cons_append, List.nil_append]
  refine ok_true rfl ?_
  refine ok_call (o2) rfl rfl ?_
  try simp only [List.cons_append, List.nil_append]
  refine ok_call (y2) rfl rfl ?_
  try simp only [List.cons_append, List.nil_append]
  refine ok_eq rfl true (rfl) ?_
  try simp only [List.cons_append, List.nil_append]
  refine ok_true rfl ?_
  refine ok_call (o3) rfl rfl ?_
  try simp only [List.cons_append, List.nil_append]
  refine ok_call (y3) rfl rfl ?_
  try simp only [List.cons_append, List.nil_append]
  refine ok_eq rfl true (rfl) ?_
  try simp only [List.cons_append, List.nil_append]
  refine ok_true rfl ?_
  refine ok_call (o4) rfl rfl ?_
  try simp only [List.cons_append, List.nil_append]
  refine ok_call (y4) rfl rfl ?_
  try simp only [List.cons_append, List.nil_append]
  refine ok_eq rfl true (rfl) ?_
  try simp only [List.cons_append, List.nil_append]
  exact ok_ret rfl rfl
set_option maxHeartbeats 4000000 in
theorem law_FixTurns {v u : Int} {s : Bool} {l m : List Nat} (hv : (Lit.int .i64 v).wf = true) (hu : (Lit.int .i64 u).wf = true) (hl : Lt 18446744073709551616 l) (hm : Lt 18446744073709551616 m) :
    Gv.Fn Tryz.prog 9 [.raw (.int .i64 v), .raw (.int .i64 u), .agg [.raw (.bool s), u64s l, u64s m]] (.raw (.bool true)) := by
  have hv := wf_i64 hv
  have hu := wf_i64 hu
  refine Fn.intro mixed vc_law05_FixTurns rfl ?_
  refine ok_call (k_Small (s := s) (l := l) (m := m)) rfl rfl (ok_not rfl (ok_ite rfl (fun _ => ok_call l5_wakes rfl rfl (ok_ret rfl rfl)) (fun h1 => ?_)))
  try simp only [List.cons_append, List.nil_append]
  have h1 := large_no h1
  obtain ⟨a, ea⟩ : ∃ a, qv (sg s (val 18446744073709551616 l)) (val 18446744073709551616 m) = a := ⟨_, rfl⟩
  have ia : IsQ (.agg [.raw (.bool s), u64s l, u64s m]) a 12 := ⟨s, l, m, rfl, hl, hm, ea, h1.1, h1.2, by decide⟩
  have ba := ia.b
  have bz := b_to (u := u) ba hu.1 hu.2
  have bf := b_from hv hu
  have y1 := x_Byte ia (by decide)
  have y2 := h_Byte ba (by decide)
  have t1 := x_To ia (by decide) hu
  have t2 := h_To ba (by decide) hu
  have f1 := x_From hv hu
  have f2 := h_From hv hu
  generalize byteQ a = y at *
  generalize toQ a u = n at *
  generalize fromQ v u = q at *
  refine ok_call (g_In ia (by decide)) rfl rfl ?_
  try simp only [List.cons_append, List.nil_append]
  refine ok_call (f1) rfl rfl ?_
  try simp only [List.cons_append, List.nil_append]
  refine ok_call (f2) rfl rfl ?_
  try simp only [List.cons_append, List.nil_append]
  refine ok_call (l3_same bf (by decide)) rfl rfl ?_
  try simp only [List.cons_append, List.nil_append]
  refine ok_true rfl ?_
  refine ok_call (t1) rfl rfl ?_
  try simp only [List.cons_append, List.nil_append]
  refine ok_call (t2) rfl rfl ?_
  try simp only [List.cons_append, List.nil_append]
  refine ok_call (f_Out (z := n) (by omega)) rfl rfl ?_
  try simp only [List.cons_append, List.nil_append]
  refine ok_call (k_Ints_same n) rfl rfl ?_
  try simp only [List.cons_append, List.nil_append]
  refine ok_true rfl ?_
  refine ok_call (y1) rfl rfl ?_
  try simp only [List.cons_append, List.nil_append]
  refine ok_call (y2) rfl rfl ?_
  try simp only [List.cons_append, List.nil_append]
  refine ok_eq rfl true (beq_self_eq_true _) ?_
  try simp only [List.cons_append, List.nil_append]
  refine ok_true rfl ?_
  refine ok_call (l5_wakes) rfl rfl ?_
  try simp only [List.cons_append, List.nil_append]
  exact ok_ret rfl rfl
set_option maxHeartbeats 4000000 in
theorem law_FixBack {v z y : Int} {s : Bool} {l m : List Nat} (hv : (Lit.int .i64 v).wf = true) (hz : (Lit.int .u16 z).wf = true) (hy : (Lit.int .u16 y).wf = true) (hl : Lt 18446744073709551616 l) (hm : Lt 18446744073709551616 m) :
    Gv.Fn Tryz.prog 11 [.raw (.int .i64 v), .agg [.raw (.int .u16 z), .raw (.int .u16 y)], .agg [.raw (.bool s), u64s l, u64s m]] (.raw (.bool true)) := by
  have hv := wf_i64 hv
  have hz := wf_u16 hz
  have hy := wf_u16 hy
  refine Fn.intro mixed vc_law05_FixBack rfl ?_
  obtain ⟨b, hb⟩ : ∃ b, IntKind.u8.wrap y = b := ⟨_, rfl⟩
  have hbr : 0 ≤ b ∧ b ≤ 255 := by rw [← hb, IntKind.wrap_u8]; omega
  refine ok_cv rfl b hb ?_
  try simp only [List.cons_append, List.nil_append]
  refine ok_call (k_Small (s := s) (l := l) (m := m)) rfl rfl (ok_not rfl (ok_ite rfl (fun _ => ok_call l5_wakes rfl rfl (ok_ret rfl rfl)) (fun h1 => ?_)))
  try simp only [List.cons_append, List.nil_append]
  have h1 := large_no h1
  obtain ⟨a, ea⟩ : ∃ a, qv (sg s (val 18446744073709551616 l)) (val 18446744073709551616 m) = a := ⟨_, rfl⟩
  have ia : IsQ (.agg [.raw (.bool s), u64s l, u64s m]) a 12 := ⟨s, l, m, rfl, hl, hm, ea, h1.1, h1.2, by decide⟩
  have ba := ia.b
  obtain ⟨u, hu⟩ : ∃ u, z + 1 = u := ⟨_, rfl⟩
  have hu1 : 1 ≤ u := by omega
  have hu2 : -9223372036854775808 ≤ u ∧ u ≤ 9223372036854775807 := by omega
  have f1 := x_From hv hu2
  have bf := b_from hv hu2
  have t1 := x_To (IsQ.qc bf) (by decide) hu2
  rw [to_back hu1] at t1
  have sv := z_Small (IsZ.s (v := v) (by omega)) (by decide)
  obtain ⟨i1, i2⟩ := inS_of hv.1 hv.2
  rw [i1, i2] at sv
  have t2 := x_To ia (by decide) hu2
  have bz := b_to (u := u) ba hu2.1 hu2.2
  obtain ⟨n1, n2⟩ := to_near (a := a) hu1
  have mk := q_Make (IsZ.zc bz) (IsZ.s (v := u) (by omega)) (by omega) (by decide) (by decide)
  rw [qd_div (by omega)] at mk
  have bq : Qb ((toQ a u : Rat) / (u : Rat)) 16 := by rw [← qd_div (by omega)]; exact Qb.qd bz (Nat.le_trans (zs_s (by omega)) (by decide)) (by decide)
  have o2 := q_Of (a := 2 * u) (b := 1) (by omega) (by omega) (by decide) (by decide)
  have om := q_Of (a := -1) (b := 1) (by decide) (by decide) (by decide) (by decide)
  have o1 := q_Of (a := 1) (b := 1) (by decide) (by decide) (by decide) (by decide)
  rw [qd_one'] at o1 o2 om
  have b2 : Qb ((2 * u : Int) : Rat) 1 := b_i64 (by omega) (by omega)
  have b1 : Qb ((1 : Int) : Rat) 1 := b_i64 (by decide) (by decide)
  have bm : Qb ((-1 : Int) : Rat) 1 := b_i64 (by decide) (by decide)
  have ob := q_Of (a := b) (b := 255) (by omega) (by omega) (by decide) (by decide)
  have bb : Qb (qd b 255) 1 := Qb.qd (zs_s (by omega)) (zs_s (by decide)) (by decide)
  have yb := x_Byte (IsQ.qc bb) (by decide)
  rw [byte_back hbr] at yb
  have c1 : decide (qcmp (((toQ a u : Rat) / (u : Rat) - a) * ((2 * u : Int) : Rat)) ((1 : Int) : Rat) ≤ 0) = true := decide_eq_true (qcmp_le.2 n1)
  have c2 : decide (qcmp (((toQ a u : Rat) / (u : Rat) - a) * ((2 * u : Int) : Rat)) ((-1 : Int) : Rat) ≥ 0) = true := by
    refine decide_eq_true ?_
    have e1 : ((-1 : Int) : Rat) = -1 := rfl
    have h2 := @qcmp_lt (((toQ a u : Rat) / (u : Rat) - a) * ((2 * u : Int) : Rat)) ((-1 : Int) : Rat)
    rw [e1] at h2 ⊢
    refine Decidable.byContradiction fun h => ?_
    have h3 := h2.1 (by omega)
    grind
  generalize (toQ a u : Rat) / (u : Rat) = q at *
  generalize toQ a u = n at *
  generalize hO : ((1 : Int) : Rat) = O1 at *
  generalize hM : ((-1 : Int) : Rat) = M1 at *
  generalize hT : ((2 * u : Int) : Rat) = T2 at *
  have bd := bq.sub ba
  have bdd := bd.mul b2
  generalize fromQ v u = fq at *
  generalize qd b 255 = cb at *
  refine ok_cv rfl z (IntWalk.i64_in _ (by omega)) ?_
  try simp only [List.cons_append, List.nil_append]
  refine ok_add rfl u (by rw [IntWalk.i64_in _ (by omega)]; exact hu) ?_
  try simp only [List.cons_append, List.nil_append]
  refine ok_call (f1) rfl rfl ?_
  try simp only [List.cons_append, List.nil_append]
  refine ok_call (t1) rfl rfl ?_
  try simp only [List.cons_append, List.nil_append]
  refine ok_call (sv) rfl rfl ?_
  try simp only [List.cons_append, List.nil_append]
  refine ok_call (t2) rfl rfl ?_
  try simp only [List.cons_append, List.nil_append]
  refine ok_call (z_Of (v := u) (by omega) (by omega)) rfl rfl ?_
  try simp only [List.cons_append, List.nil_append]
  refine ok_call (mk) rfl rfl ?_
  try simp only [List.cons_append, List.nil_append]
  refine ok_call (q_Sub (IsQ.qc bq) ia (by decide)) rfl rfl ?_
  try simp only [List.cons_append, List.nil_append]
  refine ok_mul rfl (2 * u) (IntWalk.i64_in _ (by omega)) ?_
  try simp only [List.cons_append, List.nil_append]
  refine ok_call (o2) rfl rfl ?_
  try simp only [List.cons_append, List.nil_append]
  refine ok_call (q_Mul (IsQ.qc bd) (IsQ.qc b2) (by decide)) rfl rfl ?_
  try simp only [List.cons_append, List.nil_append]
  refine ok_true rfl ?_
  refine ok_eq rfl true (beq_self_eq_true _) ?_
  try simp only [List.cons_append, List.nil_append]
  refine ok_true rfl ?_
  refine ok_eq rfl true (rfl) ?_
  try simp only [List.cons_append, List.nil_append]
  refine ok_true rfl ?_
  refine ok_call (o1) rfl rfl ?_
  try simp only [List.cons_append, List.nil_append]
  refine ok_call (q_Cmp (IsQ.qc bdd) (IsQ.qc b1) (by decide)) rfl rfl ?_
  try simp only [List.cons_append, List.nil_append]
  refine ok_leq rfl true (c1) ?_
  try simp only [List.cons_append, List.nil_append]
  refine ok_true rfl ?_
  refine ok_call (om) rfl rfl ?_
  try simp only [List.cons_append, List.nil_append]
  refine ok_call (q_Cmp (IsQ.qc bdd) (IsQ.qc bm) (by decide)) rfl rfl ?_
  try simp only [List.cons_append, List.nil_append]
  refine ok_geq rfl true (c2) ?_
  try simp only [List.cons_append, List.nil_append]
  refine ok_true rfl ?_
  refine ok_cv rfl b (IntWalk.i64_in _ (by omega)) ?_
  try simp only [List.cons_append, List.nil_append]
  refine ok_call (ob) rfl rfl ?_
  try simp only [List.cons_append, List.nil_append]
  refine ok_call (yb) rfl rfl ?_
  try simp only [List.cons_append, List.nil_append]
  refine ok_eq rfl true (beq_self_eq_true _) ?_
  try simp only [List.cons_append, List.nil_append]
  refine ok_true rfl ?_
  refine ok_call (l5_wakes) rfl rfl ?_
  try simp only [List.cons_append, List.nil_append]
  exact ok_ret rfl rfl
set_option maxHeartbeats 4000000 in
theorem law_FixOrder {z y : Int} {s t : Bool} {l m l' m' : List Nat} (hl : Lt 18446744073709551616 l) (hm : Lt 18446744073709551616 m) (hl' : Lt 18446744073709551616 l') (hm' : Lt 18446744073709551616 m') (hz : (Lit.int .u16 z).wf = true) (hy : (Lit.int .u16 y).wf = true) :
    Gv.Fn Tryz.prog 10 [.agg [.raw (.bool s), u64s l, u64s m], .agg [.raw (.bool t), u64s l', u64s m'], .agg [.raw (.int .u16 z), .raw (.int .u16 y)]] (.raw (.bool true)) := by
  have hz := wf_u16 hz
  have hy := wf_u16 hy
  refine Fn.intro mixed vc_law05_FixOrder rfl ?_
  refine ok_call (k_Small (s := s) (l := l) (m := m)) rfl rfl (ok_not rfl (ok_ite rfl (fun _ => ok_call l5_wakes rfl rfl (ok_ret rfl rfl)) (fun h1 => ?_)))
  try simp only [List.cons_append, List.nil_append]
  have h1 := large_no h1
  refine ok_call (k_Small (s := t) (l := l') (m := m')) rfl rfl (ok_not rfl (ok_ite rfl (fun _ => ok_call l5_wakes rfl rfl (ok_ret rfl rfl)) (fun h2 => ?_)))
  try simp only [List.cons_append, List.nil_append]
  have h2 := large_no h2
  obtain ⟨a, ea⟩ : ∃ a, qv (sg s (val 18446744073709551616 l)) (val 18446744073709551616 m) = a := ⟨_, rfl⟩
  have ia : IsQ (.agg [.raw (.bool s), u64s l, u64s m]) a 12 := ⟨s, l, m, rfl, hl, hm, ea, h1.1, h1.2, by decide⟩
  have ba := ia.b
  obtain ⟨b, eb⟩ : ∃ b, qv (sg t (val 18446744073709551616 l')) (val 18446744073709551616 m') = b := ⟨_, rfl⟩
  have ib : IsQ (.agg [.raw (.bool t), u64s l', u64s m']) b 12 := ⟨t, l', m', rfl, hl', hm', eb, h2.1, h2.2, by decide⟩
  have bb := ib.b
  obtain ⟨u, hu⟩ : ∃ u, z + 1 = u := ⟨_, rfl⟩
  have hu1 : 1 ≤ u := by omega
  have hu2 : -9223372036854775808 ≤ u ∧ u ≤ 9223372036854775807 := by omega
  have hy2 : -9223372036854775808 ≤ y ∧ y ≤ 9223372036854775807 := by omega
  have f1 := x_From hy2 hu2
  have bf := b_from hy2 hu2
  have ya := x_Byte ia (by decide)
  have yb := x_Byte ib (by decide)
  have ta := x_To ia (by decide) hu2
  have tb := x_To ib (by decide) hu2
  have bza := b_to (u := u) ba hu2.1 hu2.2
  have bzb := b_to (u := u) bb hu2.1 hu2.2
  have sv := z_Small (IsZ.s (v := y) (by omega)) (by decide)
  obtain ⟨i1, i2⟩ := inS_of hy2.1 hy2.2
  rw [i1, i2] at sv
  refine ok_cv rfl z (IntWalk.i64_in _ (by omega)) ?_
  try simp only [List.cons_append, List.nil_append]
  refine ok_add rfl u (by rw [IntWalk.i64_in _ (by omega)]; exact hu) ?_
  try simp only [List.cons_append, List.nil_append]
  refine ok_cv rfl y (IntWalk.i64_in _ (by omega)) ?_
  try simp only [List.cons_append, List.nil_append]
  refine ok_call (q_Cmp ia ib (by decide)) rfl rfl ?_
  try simp only [List.cons_append, List.nil_append]
  refine ok_gtr rfl (decide (b < a)) (by rw [Bool.eq_iff_iff, decide_eq_true_iff, decide_eq_true_iff]; exact qcmp_gt) (ok_ite rfl (fun e0 => ?_) (fun e0 => ?_))
  · have hab : b ≤ a := by have := (of_decide_eq_true e0 : b < a); grind
    have bs := bb.add bf
    have tm := x_To (IsQ.qc bs) (by decide) hu2
    have bzm := b_to (u := u) bs hu2.1 hu2.2
    have em := to_more (a := b) (n := y) hu1
    have m1 := to_mono hu1 hab
    have m2 := byte_mono hab
    rw [em] at tm bzm
    have ca := q_Add ib (IsQ.qc bf) (by decide)
    generalize fromQ y u = fq at *
    generalize byteQ a = pa at *
    generalize byteQ b = pb at *
    generalize toQ a u = na at *
    generalize toQ b u = nb at *
    try simp only [List.cons_append, List.nil_append]
    refine ok_call (f1) rfl rfl ?_
    try simp only [List.cons_append, List.nil_append]
    refine ok_call (ca) rfl rfl ?_
    try simp only [List.cons_append, List.nil_append]
    refine ok_call (tm) rfl rfl ?_
    try simp only [List.cons_append, List.nil_append]
    refine ok_call (tb) rfl rfl ?_
    try simp only [List.cons_append, List.nil_append]
    refine ok_callR (z_Sub (x := nb + y) (y := nb) (IsZ.zc bzm) (IsZ.zc bzb) (by decide) (by decide)) (r' := zc y) (by rw [show nb + y - nb = y by omega]) rfl rfl ?_
    try simp only [List.cons_append, List.nil_append]
    refine ok_call (sv) rfl rfl ?_
    try simp only [List.cons_append, List.nil_append]
    refine ok_call (tb) rfl rfl ?_
    try simp only [List.cons_append, List.nil_append]
    refine ok_call (ta) rfl rfl ?_
    try simp only [List.cons_append, List.nil_append]
    refine ok_call (z_Cmp (IsZ.zc bzb) (IsZ.zc bza) (by decide) (by decide)) rfl rfl ?_
    try simp only [List.cons_append, List.nil_append]
    refine ok_leq rfl true (by (rw [sign_le]; exact decide_eq_true (by omega))) ?_
    try simp only [List.cons_append, List.nil_append]
    refine ok_true rfl ?_
    refine ok_call (yb) rfl rfl ?_
    try simp only [List.cons_append, List.nil_append]
    refine ok_call (ya) rfl rfl ?_
    try simp only [List.cons_append, List.nil_append]
    refine ok_leq rfl true (decide_eq_true m2) ?_
    try simp only [List.cons_append, List.nil_append]
    refine ok_true rfl ?_
    refine ok_true rfl ?_
    refine ok_eq rfl true (beq_self_eq_true _) ?_
    try simp only [List.cons_append, List.nil_append]
    refine ok_true rfl ?_
    refine ok_call (l5_wakes) rfl rfl ?_
    try simp only [List.cons_append, List.nil_append]
    exact ok_ret rfl rfl
  · have hab : a ≤ b := by have := (of_decide_eq_false e0 : ¬ b < a); grind
    have bs := ba.add bf
    have tm := x_To (IsQ.qc bs) (by decide) hu2
    have bzm := b_to (u := u) bs hu2.1 hu2.2
    have em := to_more (a := a) (n := y) hu1
    have m1 := to_mono hu1 hab
    have m2 := byte_mono hab
    rw [em] at tm bzm
    have ca := q_Add ia (IsQ.qc bf) (by decide)
    generalize fromQ y u = fq at *
    generalize byteQ a = pa at *
    generalize byteQ b = pb at *
    generalize toQ a u = na at *
    generalize toQ b u = nb at *
    try simp only [List.cons_append, List.nil_append]
    refine ok_call (f1) rfl rfl ?_
    try simp only [List.cons_append, List.nil_append]
    refine ok_call (ca) rfl rfl ?_
    try simp only [List.cons_append, List.nil_append]
    refine ok_call (tm) rfl rfl ?_
    try simp only [List.cons_append, List.nil_append]
    refine ok_call (ta) rfl rfl ?_
    try simp only [List.cons_append, List.nil_append]
    refine ok_callR (z_Sub (x := na + y) (y := na) (IsZ.zc bzm) (IsZ.zc bza) (by decide) (by decide)) (r' := zc y) (by rw [show na + y - na = y by omega]) rfl rfl ?_
    try simp only [List.cons_append, List.nil_append]
    refine ok_call (sv) rfl rfl ?_
    try simp only [List.cons_append, List.nil_append]
    refine ok_call (ta) rfl rfl ?_
    try simp only [List.cons_append, List.nil_append]
    refine ok_call (tb) rfl rfl ?_
    try simp only [List.cons_append, List.nil_append]
    refine ok_call (z_Cmp (IsZ.zc bza) (IsZ.zc bzb) (by decide) (by decide)) rfl rfl ?_
    try simp only [List.cons_append, List.nil_append]
    refine ok_leq rfl true (by (rw [sign_le]; exact decide_eq_true (by omega))) ?_
    try simp only [List.cons_append, List.nil_append]
    refine ok_true rfl ?_
    refine ok_call (ya) rfl rfl ?_
    try simp only [List.cons_append, List.nil_append]
    refine ok_call (yb) rfl rfl ?_
    try simp only [List.cons_append, List.nil_append]
    refine ok_leq rfl true (decide_eq_true m2) ?_
    try simp only [List.cons_append, List.nil_append]
    refine ok_true rfl ?_
    refine ok_true rfl ?_
    refine ok_eq rfl true (beq_self_eq_true _) ?_
    try simp only [List.cons_append, List.nil_append]
    refine ok_true rfl ?_
    refine ok_call (l5_wakes) rfl rfl ?_
    try simp only [List.cons_append, List.nil_append]
    exact ok_ret rfl rfl
end Go.Proofs.YtlpfbcilnfgaaaaGreatDoor


