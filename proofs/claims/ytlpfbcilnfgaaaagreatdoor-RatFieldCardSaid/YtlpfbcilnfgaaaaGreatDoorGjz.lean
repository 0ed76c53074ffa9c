import Derived.Test.YtlpfbcilnfgaaaaGreatDoorGiz
import Derived.Test.YtlpfbcilnfgaaaaGreatDoorVmz
/- The laws of rat, 2: RatMakes, RatTexts, RatField. -/
namespace Gv
open Go Go.RowKit Gs
set_option linter.unusedVariables false
theorem qE_bad {s : ByteArray} (h : qOk s = false) : (qE s != 0) = true ∧ qE s = (if 20000 < s.size then 2 else 11) := by
  unfold qE
  rw [h]
  split <;> exact ⟨rfl, rfl⟩
theorem qE_good {s : ByteArray} (h : qOk s = true) : qE s = 0 := by
  have h0 : s.size ≤ 20000 := by
    unfold qOk at h
    simp only [Bool.and_eq_true, decide_eq_true_eq] at h
    exact h.1
  rw [qE_of h0, h]
  rfl
end Gv
namespace Go.Proofs.YtlpfbcilnfgaaaaGreatDoor
open Go.RowKit Gs Gv
set_option linter.unusedVariables false
set_option maxHeartbeats 4000000 in
theorem law_RatMakes {s t : Bool} {l m : List Nat} {x y : Int} (hl : Lt 18446744073709551616 l) (hm : Lt 18446744073709551616 m) (hx : (Lit.int .i64 x).wf = true) (hy : (Lit.int .i64 y).wf = true) :
    Gv.Fn Tryz.prog 13 [.agg [.raw (.bool s), u64s l], .agg [.raw (.bool t), u64s m], .agg [.raw (.int .i64 x), .raw (.int .i64 y)]] (.raw (.bool true)) := by
  have hx := wf_i64 hx
  have hy := wf_i64 hy
  refine Fn.intro mixed vc_law03_RatMakes rfl ?_
  refine ok_prim (rowP_len _ _) (ok_gtr rfl (decide (12 < l.length)) (by rw [Bool.eq_iff_iff, decide_eq_true_iff, decide_eq_true_iff]; omega) (ok_ite rfl (fun _ => ok_call l3_wakes rfl rfl (ok_ret rfl rfl)) (fun h1 => ?_)))
  refine ok_prim (rowP_len _ _) (ok_gtr rfl (decide (12 < m.length)) (by rw [Bool.eq_iff_iff, decide_eq_true_iff, decide_eq_true_iff]; omega) (ok_ite rfl (fun _ => ok_call l3_wakes rfl rfl (ok_ret rfl rfl)) (fun h2 => ?_)))
  try simp only [List.cons_append, List.nil_append]
  have h1 : l.length ≤ 12 := by have : ¬ 12 < l.length := by simpa using h1
                                omega
  have h2 : m.length ≤ 12 := by have : ¬ 12 < m.length := by simpa using h2
                                omega
  obtain ⟨z, hz⟩ : ∃ z, sg s (val 18446744073709551616 l) = z := ⟨_, rfl⟩
  obtain ⟨w, hw⟩ : ∃ w, sg t (val 18446744073709551616 m) = w := ⟨_, rfl⟩
  have iz : IsZ (.agg [.raw (.bool s), u64s l]) z 12 := ⟨s, l, rfl, hl, hz, h1⟩
  have iw : IsZ (.agg [.raw (.bool t), u64s m]) w 12 := ⟨t, m, rfl, hm, hw, h2⟩
  have oq := q_Of hx.1 hx.2 hy.1 hy.2
  have og := g_Of hx.1 hx.2 hy.1 hy.2
  have os := l3_same (Qb.qd (k := 1) (zs_s (v := x) (by omega)) (zs_s (v := y) (by omega)) (by decide)) (by decide)
  by_cases h0 : w = 0
  · subst h0
    refine ok_call (q_Make_zero iw (by decide) rfl) rfl rfl ?_
    try simp only [List.cons_append, List.nil_append]
    refine ok_call (f_In iz (by decide)) rfl rfl ?_
    try simp only [List.cons_append, List.nil_append]
    refine ok_call (f_In iw (by decide)) rfl rfl ?_
    try simp only [List.cons_append, List.nil_append]
    refine ok_call (f_Sign 0) rfl rfl ?_
    try simp only [List.cons_append, List.nil_append]
    refine ok_eq rfl true (rfl) ?_
    try simp only [List.cons_append, List.nil_append]
    refine ok_true rfl ?_
    refine ok_neq rfl false (rfl) ?_
    try simp only [List.cons_append, List.nil_append]
    refine ok_false rfl ?_
    refine ok_prim (r := .raw (.int .i64 0)) rfl ?_
    try simp only [List.cons_append, List.nil_append]
    refine ok_neq rfl false (rfl) ?_
    try simp only [List.cons_append, List.nil_append]
    refine ok_false rfl ?_
    refine ok_call (oq) rfl rfl ?_
    try simp only [List.cons_append, List.nil_append]
    refine ok_call (og) rfl rfl ?_
    try simp only [List.cons_append, List.nil_append]
    refine ok_call (os) rfl rfl ?_
    try simp only [List.cons_append, List.nil_append]
    refine ok_true rfl ?_
    refine ok_call (l3_wakes) rfl rfl ?_
    try simp only [List.cons_append, List.nil_append]
    exact ok_ret rfl rfl
  · have bz : Qb (z : Rat) 12 := Qb.int iz.zs (by decide)
    have bw : Qb (w : Rat) 12 := Qb.int iw.zs (by decide)
    have hw0 : (w : Rat) ≠ 0 := by simpa using h0
    have bq := bz.div bw hw0
    have mk := q_Make iz iw h0 (by decide) (by decide)
    rw [qd_div h0] at mk
    have dv := g_Div bz bw (by decide) hw0
    generalize (z : Rat) / (w : Rat) = q at bq mk dv
    have f1 := q_floor_b bq
    have f2 := q_floor_b bq.neg
    have f3 := zs_neg f2
    refine ok_call (mk) rfl rfl ?_
    try simp only [List.cons_append, List.nil_append]
    refine ok_call (f_In iz (by decide)) rfl rfl ?_
    try simp only [List.cons_append, List.nil_append]
    refine ok_call (f_In iw (by decide)) rfl rfl ?_
    try simp only [List.cons_append, List.nil_append]
    refine ok_call (f_Sign w) rfl rfl ?_
    try simp only [List.cons_append, List.nil_append]
    refine ok_eq rfl false (by rw [beq_eq_false_iff_ne]; simpa using h0) ?_
    try simp only [List.cons_append, List.nil_append]
    refine ok_false rfl ?_
    refine ok_call (g_Whole z) rfl rfl ?_
    try simp only [List.cons_append, List.nil_append]
    refine ok_call (g_Whole w) rfl rfl ?_
    try simp only [List.cons_append, List.nil_append]
    refine ok_call (dv) rfl rfl ?_
    try simp only [List.cons_append, List.nil_append]
    refine ok_neq rfl false (rfl) ?_
    try simp only [List.cons_append, List.nil_append]
    refine ok_false rfl ?_
    refine ok_call (l3_same bq (by decide)) rfl rfl ?_
    try simp only [List.cons_append, List.nil_append]
    refine ok_not rfl ?_
    try simp only [List.cons_append, List.nil_append]
    refine ok_false rfl ?_
    refine ok_call (q_Floor (IsQ.qc bq) (by decide)) rfl rfl ?_
    try simp only [List.cons_append, List.nil_append]
    refine ok_call (g_Floor bq (by decide)) rfl rfl ?_
    try simp only [List.cons_append, List.nil_append]
    refine ok_call (f_Out (z := q.floor) (by omega)) rfl rfl ?_
    try simp only [List.cons_append, List.nil_append]
    refine ok_call (k_Ints_same q.floor) rfl rfl ?_
    try simp only [List.cons_append, List.nil_append]
    refine ok_not rfl ?_
    try simp only [List.cons_append, List.nil_append]
    refine ok_false rfl ?_
    refine ok_call (q_Ceil (IsQ.qc bq) (by decide)) rfl rfl ?_
    try simp only [List.cons_append, List.nil_append]
    refine ok_call (g_Ceil bq (by decide)) rfl rfl ?_
    try simp only [List.cons_append, List.nil_append]
    refine ok_call (f_Out (z := -(-q).floor) (by omega)) rfl rfl ?_
    try simp only [List.cons_append, List.nil_append]
    refine ok_call (k_Ints_same (-(-q).floor)) rfl rfl ?_
    try simp only [List.cons_append, List.nil_append]
    refine ok_not rfl ?_
    try simp only [List.cons_append, List.nil_append]
    refine ok_false rfl ?_
    refine ok_call (oq) rfl rfl ?_
    try simp only [List.cons_append, List.nil_append]
    refine ok_call (og) rfl rfl ?_
    try simp only [List.cons_append, List.nil_append]
    refine ok_call (os) rfl rfl ?_
    try simp only [List.cons_append, List.nil_append]
    refine ok_true rfl ?_
    refine ok_call (l3_wakes) rfl rfl ?_
    try simp only [List.cons_append, List.nil_append]
    exact ok_ret rfl rfl
set_option maxHeartbeats 4000000 in
theorem law_RatTexts {s : Bool} {l m : List Nat} {u : ByteArray} (hl : Lt 18446744073709551616 l) (hm : Lt 18446744073709551616 m) (hu : u.size ≤ 9223372036854775807) :
    Gv.Fn Tryz.prog 12 [.agg [.raw (.bool s), u64s l, u64s m], .raw (.string u)] (.raw (.bool true)) := by
  refine Fn.intro mixed vc_law03_RatTexts rfl ?_
  refine ok_call (l3_large) rfl rfl (ok_ite rfl (fun _ => ok_call l3_wakes rfl rfl (ok_ret rfl rfl)) (fun h1 => ?_))
  try simp only [List.cons_append, List.nil_append]
  have h1 := large_no h1
  obtain ⟨a, ea⟩ : ∃ a, qv (sg s (val 18446744073709551616 l)) (val 18446744073709551616 m) = a := ⟨_, rfl⟩
  have ia : IsQ (.agg [.raw (.bool s), u64s l, u64s m]) a 12 := ⟨s, l, m, rfl, hl, hm, ea, h1.1, h1.2, by decide⟩
  have ba := ia.b
  have p1 := q_Parse u hu
  refine ok_slen rfl (ok_gtr rfl (decide (500 < u.size)) (by rw [Bool.eq_iff_iff, decide_eq_true_iff, decide_eq_true_iff]; omega) (ok_ite rfl (fun e1 => ?_) (fun e1 => ?_)))
  · have e1 : 500 < u.size := by simpa using e1
    try simp only [List.cons_append, List.nil_append]
    refine ok_slen rfl (ok_leq rfl (decide (u.size ≤ 20000)) (by rw [Bool.eq_iff_iff, decide_eq_true_iff, decide_eq_true_iff]; omega) (ok_ite rfl (fun _ => ok_call l3_wakes rfl rfl (ok_ret rfl rfl)) (fun e2 => ?_)))
    have e2 : 20000 < u.size := by have : ¬ u.size ≤ 20000 := by simpa using e2
                                   omega
    have p2 := g_Parse (.inr e2) hu
    have hk := (qOk_long e2).1
    obtain ⟨k1, k2⟩ := qE_bad hk
    rw [hk] at p1 p2
    try simp only [List.cons_append, List.nil_append]
    refine ok_call (p1) rfl rfl ?_
    try simp only [List.cons_append, List.nil_append]
    refine ok_call (p2) rfl rfl ?_
    try simp only [List.cons_append, List.nil_append]
    refine ok_neq rfl true (k1) ?_
    try simp only [List.cons_append, List.nil_append]
    refine ok_true rfl ?_
    refine ok_neq rfl false (by simp) ?_
    try simp only [List.cons_append, List.nil_append]
    refine ok_false rfl ?_
    refine ok_prim (r := .raw (.int .i64 0)) rfl ?_
    try simp only [List.cons_append, List.nil_append]
    refine ok_neq rfl false (rfl) ?_
    try simp only [List.cons_append, List.nil_append]
    refine ok_false rfl ?_
    refine ok_call (q_Text ia (by decide)) rfl rfl ?_
    try simp only [List.cons_append, List.nil_append]
    refine ok_call (g_In ia (by decide)) rfl rfl ?_
    try simp only [List.cons_append, List.nil_append]
    refine ok_call (g_Text ba (by decide)) rfl rfl ?_
    try simp only [List.cons_append, List.nil_append]
    refine ok_seq rfl (rfl) ?_
    try simp only [List.cons_append, List.nil_append]
    refine ok_true rfl ?_
    refine ok_call (l3_wakes) rfl rfl ?_
    try simp only [List.cons_append, List.nil_append]
    exact ok_ret rfl rfl
  · have e1 : u.size ≤ 500 := by have : ¬ 500 < u.size := by simpa using e1
                                 omega
    have p2 := g_Parse (.inl e1) hu
    try simp only [List.cons_append, List.nil_append]
    cases hk : qOk u with
    | false =>
      obtain ⟨k1, k2⟩ := qE_bad hk
      rw [hk] at p1 p2
      refine ok_call (p1) rfl rfl ?_
      try simp only [List.cons_append, List.nil_append]
      refine ok_call (p2) rfl rfl ?_
      try simp only [List.cons_append, List.nil_append]
      refine ok_neq rfl true (k1) ?_
      try simp only [List.cons_append, List.nil_append]
      refine ok_true rfl ?_
      refine ok_neq rfl false (by simp) ?_
      try simp only [List.cons_append, List.nil_append]
      refine ok_false rfl ?_
      refine ok_prim (r := .raw (.int .i64 0)) rfl ?_
      try simp only [List.cons_append, List.nil_append]
      refine ok_neq rfl false (rfl) ?_
      try simp only [List.cons_append, List.nil_append]
      refine ok_false rfl ?_
      refine ok_call (q_Text ia (by decide)) rfl rfl ?_
      try simp only [List.cons_append, List.nil_append]
      refine ok_call (g_In ia (by decide)) rfl rfl ?_
      try simp only [List.cons_append, List.nil_append]
      refine ok_call (g_Text ba (by decide)) rfl rfl ?_
      try simp only [List.cons_append, List.nil_append]
      refine ok_seq rfl (rfl) ?_
      try simp only [List.cons_append, List.nil_append]
      refine ok_true rfl ?_
      refine ok_call (l3_wakes) rfl rfl ?_
      try simp only [List.cons_append, List.nil_append]
      exact ok_ret rfl rfl
    | true =>
      have k2 := qE_good hk
      rw [hk, k2, if_pos rfl] at p1 p2
      have sA : zs (zV (qA u)) ≤ 240 := Nat.le_trans (zV_sz (m := 32) (by have := qA_size u; omega)) (by omega)
      have bq : Qb (qV u) 240 := by
        have hd : qD u ≠ 0 ∧ sz (qD u) ≤ 240 := by
          have hk' := hk
          unfold qOk at hk'
          simp only [Bool.and_eq_true, Bool.or_eq_true, Bool.not_eq_true', decide_eq_true_eq] at hk'
          unfold qD
          split
          · rename_i ht
            rcases hk'.2.2 with h | h
            · rw [ht] at h; cases h
            · exact ⟨by omega, Nat.le_trans (pV_sz (m := 32) (by have := qB_size u; omega)) (by omega)⟩
          · exact ⟨by decide, Nat.le_trans (sz_small (by decide)) (by decide)⟩
        unfold qV
        rw [if_pos hk]
        exact .mk' hd.1 sA hd.2
      generalize qV u = q at p1 p2 bq
      refine ok_call (p1) rfl rfl ?_
      try simp only [List.cons_append, List.nil_append]
      refine ok_call (p2) rfl rfl ?_
      try simp only [List.cons_append, List.nil_append]
      refine ok_neq rfl false (rfl) ?_
      try simp only [List.cons_append, List.nil_append]
      refine ok_false rfl ?_
      refine ok_neq rfl false (rfl) ?_
      try simp only [List.cons_append, List.nil_append]
      refine ok_false rfl ?_
      refine ok_call (l3_same bq (by decide)) rfl rfl ?_
      try simp only [List.cons_append, List.nil_append]
      refine ok_not rfl ?_
      try simp only [List.cons_append, List.nil_append]
      refine ok_false rfl ?_
      refine ok_call (q_Text ia (by decide)) rfl rfl ?_
      try simp only [List.cons_append, List.nil_append]
      refine ok_call (g_In ia (by decide)) rfl rfl ?_
      try simp only [List.cons_append, List.nil_append]
      refine ok_call (g_Text ba (by decide)) rfl rfl ?_
      try simp only [List.cons_append, List.nil_append]
      refine ok_seq rfl (rfl) ?_
      try simp only [List.cons_append, List.nil_append]
      refine ok_true rfl ?_
      refine ok_call (l3_wakes) rfl rfl ?_
      try simp only [List.cons_append, List.nil_append]
      exact ok_ret rfl rfl
set_option maxHeartbeats 4000000 in
theorem law_RatField {s t u : Bool} {l m l' m' l2 m2 : List Nat} (hl : Lt 18446744073709551616 l) (hm : Lt 18446744073709551616 m) (hl' : Lt 18446744073709551616 l') (hm' : Lt 18446744073709551616 m') (hl2 : Lt 18446744073709551616 l2) (hm2 : Lt 18446744073709551616 m2) :
    Gv.Fn Tryz.prog 14 [.agg [.raw (.bool s), u64s l, u64s m], .agg [.raw (.bool t), u64s l', u64s m'], .agg [.raw (.bool u), u64s l2, u64s m2]] (.raw (.bool true)) := by
  refine Fn.intro mixed vc_law03_RatField rfl ?_
  refine ok_call (l3_large) rfl rfl (ok_ite rfl (fun _ => ok_call l3_wakes rfl rfl (ok_ret rfl rfl)) (fun h1 => ?_))
  try simp only [List.cons_append, List.nil_append]
  have h1 := large_no h1
  refine ok_call (l3_large) rfl rfl (ok_ite rfl (fun _ => ok_call l3_wakes rfl rfl (ok_ret rfl rfl)) (fun h2 => ?_))
  try simp only [List.cons_append, List.nil_append]
  have h2 := large_no h2
  refine ok_call (l3_large) rfl rfl (ok_ite rfl (fun _ => ok_call l3_wakes rfl rfl (ok_ret rfl rfl)) (fun h3 => ?_))
  try simp only [List.cons_append, List.nil_append]
  have h3 := large_no h3
  obtain ⟨a, ea⟩ : ∃ a, qv (sg s (val 18446744073709551616 l)) (val 18446744073709551616 m) = a := ⟨_, rfl⟩
  have ia : IsQ (.agg [.raw (.bool s), u64s l, u64s m]) a 12 := ⟨s, l, m, rfl, hl, hm, ea, h1.1, h1.2, by decide⟩
  have ba := ia.b
  obtain ⟨b, eb⟩ : ∃ b, qv (sg t (val 18446744073709551616 l')) (val 18446744073709551616 m') = b := ⟨_, rfl⟩
  have ib : IsQ (.agg [.raw (.bool t), u64s l', u64s m']) b 12 := ⟨t, l', m', rfl, hl', hm', eb, h2.1, h2.2, by decide⟩
  have bb := ib.b
  obtain ⟨c, ec⟩ : ∃ c, qv (sg u (val 18446744073709551616 l2)) (val 18446744073709551616 m2) = c := ⟨_, rfl⟩
  have ic : IsQ (.agg [.raw (.bool u), u64s l2, u64s m2]) c 12 := ⟨u, l2, m2, rfl, hl2, hm2, ec, h3.1, h3.2, by decide⟩
  have bc := ic.b
  have bab := ba.add bb
  have bba := bb.add ba
  have bbc := bb.add bc
  have ba_bc := ba.add bbc
  have bab_c := bab.add bc
  have mab := ba.mul bb
  have mac := ba.mul bc
  have mbc := bb.mul bc
  have ma_bc := ba.mul bbc
  have sm := mab.add mac
  have ma_mbc := ba.mul mbc
  have mab_c := mab.mul bc
  have saa := ba.sub ba
  have q1 : (qcmp (a + (b + c)) (a + b + c) != 0) = false := by rw [qcmp_eq (by grind)]; rfl
  have q2 : (qcmp (a * (b + c)) (a * b + a * c) != 0) = false := by rw [qcmp_eq (by grind)]; rfl
  have q3 : (qcmp (a * (b * c)) (a * b * c) != 0) = false := by rw [qcmp_eq (by grind)]; rfl
  have q4 : (qcmp (a + b) (b + a) == 0) = true := by rw [qcmp_eq (by grind)]; rfl
  have q5 : (qcmp (- -a) a == 0) = true := by rw [qcmp_eq (by grind)]; rfl
  have q6 : ((a - a).num.sign == 0) = true := by rw [sign0, decide_eq_true (by grind)]
  refine ok_call (q_Add ib ic (by decide)) rfl rfl ?_
  try simp only [List.cons_append, List.nil_append]
  refine ok_call (q_Add ia (IsQ.qc bbc) (by decide)) rfl rfl ?_
  try simp only [List.cons_append, List.nil_append]
  refine ok_call (q_Add ia ib (by decide)) rfl rfl ?_
  try simp only [List.cons_append, List.nil_append]
  refine ok_call (q_Add (IsQ.qc bab) ic (by decide)) rfl rfl ?_
  try simp only [List.cons_append, List.nil_append]
  refine ok_call (q_Cmp (IsQ.qc ba_bc) (IsQ.qc bab_c) (by decide)) rfl rfl ?_
  try simp only [List.cons_append, List.nil_append]
  refine ok_neq rfl false (q1) ?_
  try simp only [List.cons_append, List.nil_append]
  refine ok_false rfl ?_
  refine ok_call (q_Add ib ic (by decide)) rfl rfl ?_
  try simp only [List.cons_append, List.nil_append]
  refine ok_call (q_Mul ia (IsQ.qc bbc) (by decide)) rfl rfl ?_
  try simp only [List.cons_append, List.nil_append]
  refine ok_call (q_Mul ia ib (by decide)) rfl rfl ?_
  try simp only [List.cons_append, List.nil_append]
  refine ok_call (q_Mul ia ic (by decide)) rfl rfl ?_
  try simp only [List.cons_append, List.nil_append]
  refine ok_call (q_Add (IsQ.qc mab) (IsQ.qc mac) (by decide)) rfl rfl ?_
  try simp only [List.cons_append, List.nil_append]
  refine ok_call (q_Cmp (IsQ.qc ma_bc) (IsQ.qc sm) (by decide)) rfl rfl ?_
  try simp only [List.cons_append, List.nil_append]
  refine ok_neq rfl false (q2) ?_
  try simp only [List.cons_append, List.nil_append]
  refine ok_false rfl ?_
  refine ok_call (q_Mul ib ic (by decide)) rfl rfl ?_
  try simp only [List.cons_append, List.nil_append]
  refine ok_call (q_Mul ia (IsQ.qc mbc) (by decide)) rfl rfl ?_
  try simp only [List.cons_append, List.nil_append]
  refine ok_call (q_Mul ia ib (by decide)) rfl rfl ?_
  try simp only [List.cons_append, List.nil_append]
  refine ok_call (q_Mul (IsQ.qc mab) ic (by decide)) rfl rfl ?_
  try simp only [List.cons_append, List.nil_append]
  refine ok_call (q_Cmp (IsQ.qc ma_mbc) (IsQ.qc mab_c) (by decide)) rfl rfl ?_
  try simp only [List.cons_append, List.nil_append]
  refine ok_neq rfl false (q3) ?_
  try simp only [List.cons_append, List.nil_append]
  refine ok_false rfl ?_
  by_cases h0 : b = 0
  · subst h0
    refine ok_call (q_Div_zero ia ib (by decide)) rfl rfl ?_
    try simp only [List.cons_append, List.nil_append]
    refine ok_eq rfl false (rfl) ?_
    try simp only [List.cons_append, List.nil_append]
    refine ok_false rfl ?_
    refine ok_call (q_Sub ia ia (by decide)) rfl rfl ?_
    try simp only [List.cons_append, List.nil_append]
    refine ok_call (q_Sign (IsQ.qc saa) (by decide)) rfl rfl ?_
    try simp only [List.cons_append, List.nil_append]
    refine ok_eq rfl true (q6) ?_
    try simp only [List.cons_append, List.nil_append]
    refine ok_true rfl ?_
    refine ok_call (q_Add ia ib (by decide)) rfl rfl ?_
    try simp only [List.cons_append, List.nil_append]
    refine ok_call (q_Add ib ia (by decide)) rfl rfl ?_
    try simp only [List.cons_append, List.nil_append]
    refine ok_call (q_Cmp (IsQ.qc bab) (IsQ.qc bba) (by decide)) rfl rfl ?_
    try simp only [List.cons_append, List.nil_append]
    refine ok_eq rfl true (q4) ?_
    try simp only [List.cons_append, List.nil_append]
    refine ok_true rfl ?_
    refine ok_call (q_Neg ia (by decide)) rfl rfl ?_
    try simp only [List.cons_append, List.nil_append]
    refine ok_call (q_Neg (IsQ.qc ba.neg) (by decide)) rfl rfl ?_
    try simp only [List.cons_append, List.nil_append]
    refine ok_call (q_Cmp (IsQ.qc ba.neg.neg) ia (by decide)) rfl rfl ?_
    try simp only [List.cons_append, List.nil_append]
    refine ok_eq rfl true (q5) ?_
    try simp only [List.cons_append, List.nil_append]
    refine ok_true rfl ?_
    refine ok_call (l3_wakes) rfl rfl ?_
    try simp only [List.cons_append, List.nil_append]
    exact ok_ret rfl rfl
  · have bdiv := ba.div bb h0
    have bback := bdiv.mul bb
    have q7 : (qcmp (a / b * b) a != 0) = false := by rw [qcmp_eq (by grind)]; rfl
    refine ok_call (q_Div ia ib (by decide) h0) rfl rfl ?_
    try simp only [List.cons_append, List.nil_append]
    refine ok_eq rfl true (rfl) ?_
    try simp only [List.cons_append, List.nil_append]
    refine ok_true rfl ?_
    refine ok_call (q_Mul (IsQ.qc bdiv) ib (by decide)) rfl rfl ?_
    try simp only [List.cons_append, List.nil_append]
    refine ok_call (q_Cmp (IsQ.qc bback) ia (by decide)) rfl rfl ?_
    try simp only [List.cons_append, List.nil_append]
    refine ok_neq rfl false (q7) ?_
    try simp only [List.cons_append, List.nil_append]
    refine ok_false rfl ?_
    refine ok_call (q_Sub ia ia (by decide)) rfl rfl ?_
    try simp only [List.cons_append, List.nil_append]
    refine ok_call (q_Sign (IsQ.qc saa) (by decide)) rfl rfl ?_
    try simp only [List.cons_append, List.nil_append]
    refine ok_eq rfl true (q6) ?_
    try simp only [List.cons_append, List.nil_append]
    refine ok_true rfl ?_
    refine ok_call (q_Add ia ib (by decide)) rfl rfl ?_
    try simp only [List.cons_append, List.nil_append]
    refine ok_call (q_Add ib ia (by decide)) rfl rfl ?_
    try simp only [List.cons_append, List.nil_append]
    refine ok_call (q_Cmp (IsQ.qc bab) (IsQ.qc bba) (by decide)) rfl rfl ?_
    try simp only [List.cons_append, List.nil_append]
    refine ok_eq rfl true (q4) ?_
    try simp only [List.cons_append, List.nil_append]
    refine ok_true rfl ?_
    refine ok_call (q_Neg ia (by decide)) rfl rfl ?_
    try simp only [List.cons_append, List.nil_append]
    refine ok_call (q_Neg (IsQ.qc ba.neg) (by decide)) rfl rfl ?_
    try simp only [List.cons_append, List.nil_append]
    refine ok_call (q_Cmp (IsQ.qc ba.neg.neg) ia (by decide)) rfl rfl ?_
    try simp only [List.cons_append, List.nil_append]
    refine ok_eq rfl true (q5) ?_
    try simp only [List.cons_append, List.nil_append]
    refine ok_true rfl ?_
    refine ok_call (l3_wakes) rfl rfl ?_
    try simp only [List.cons_append, List.nil_append]
    exact ok_ret rfl rfl
end Go.Proofs.YtlpfbcilnfgaaaaGreatDoor


