import Derived.Test.YtlpfbcilnfgaaaaGreatDoorGiz
import Derived.Test.YtlpfbcilnfgaaaaGreatDoorVnz
/- The laws of rat, 3: RatOrder, RatLowest. -/
namespace Gv
open Go Go.RowKit Gs
set_option linter.unusedVariables false
theorem floor_le (a : Rat) : (a.floor : Rat) ≤ a := Rat.floor_le a
theorem lt_floor (a : Rat) : a < ((a.floor + 1 : Int) : Rat) := by
  have h : a - 1 < (a.floor : Rat) := Rat.lt_floor
  have e1 : ((a.floor + 1 : Int) : Rat) = (a.floor : Rat) + 1 := by rw [Rat.intCast_add]; rfl
  rw [e1]
  grind
theorem int_lt {x y : Int} : (x : Rat) < (y : Rat) ↔ x < y := Rat.intCast_lt_intCast
theorem int_le {x y : Int} : (x : Rat) ≤ (y : Rat) ↔ x ≤ y := Rat.intCast_le_intCast
theorem int_inj {x y : Int} (h : (x : Rat) = (y : Rat)) : x = y := Rat.intCast_inj.1 h
/-- the whole numbers next to a fraction differ by one at most -/
theorem ceil_floor (a : Rat) : ((-(-a).floor - a.floor : Int) = 0 ∨ (-(-a).floor - a.floor : Int) = 1) ∧ a ≤ ((-(-a).floor : Int) : Rat) := by
  have h1 := floor_le a
  have h2 := lt_floor a
  have h3 := floor_le (-a)
  have h4 := lt_floor (-a)
  have h5 : ((-(-a).floor : Int) : Rat) = -((-a).floor : Rat) := Rat.intCast_neg _
  have e1 : ((a.floor + 1 : Int) : Rat) = (a.floor : Rat) + 1 := by rw [Rat.intCast_add]; rfl
  have e2 : (((-a).floor + 1 : Int) : Rat) = ((-a).floor : Rat) + 1 := by rw [Rat.intCast_add]; rfl
  rw [e1] at h2
  rw [e2] at h4
  have h6 : a ≤ ((-(-a).floor : Int) : Rat) := by rw [h5]; grind
  refine ⟨?_, h6⟩
  have h7 : (a.floor : Rat) ≤ ((-(-a).floor : Int) : Rat) := by grind
  have h8 : ((-(-a).floor : Int) : Rat) < ((a.floor + 2 : Int) : Rat) := by
    rw [h5, Rat.intCast_add]
    have : ((2 : Int) : Rat) = 2 := rfl
    rw [this]
    grind
  have h9 := int_le.1 h7
  have h10 := int_lt.1 h8
  omega
theorem qd_one (z : Int) : qd z 1 = (z : Rat) := by unfold qd; rw [if_neg (by decide), if_neg (by decide)]; exact Rat.mkRat_one z
end Gv
namespace Go.Proofs.YtlpfbcilnfgaaaaGreatDoor
open Go.RowKit Gs Gv
set_option linter.unusedVariables false
set_option maxHeartbeats 4000000 in
theorem law_RatOrder {s t u : Bool} {l m l' m' l2 m2 : List Nat} (hl : Lt 18446744073709551616 l) (hm : Lt 18446744073709551616 m) (hl' : Lt 18446744073709551616 l') (hm' : Lt 18446744073709551616 m') (hl2 : Lt 18446744073709551616 l2) (hm2 : Lt 18446744073709551616 m2) :
    Gv.Fn Tryz.prog 15 [.agg [.raw (.bool s), u64s l, u64s m], .agg [.raw (.bool t), u64s l', u64s m'], .agg [.raw (.bool u), u64s l2, u64s m2]] (.raw (.bool true)) := by
  refine Fn.intro mixed vc_law03_RatOrder rfl ?_
  refine ok_call (l3_large) rfl rfl (ok_ite rfl (fun _ => ok_call l3_wakes rfl rfl (ok_ret rfl rfl)) (fun h1 => ?_))
  try simp only [List.cons_append, List.nil_append]
  have h1 := large_no h1
  refine ok_call (l3_large) rfl rfl (ok_ite rfl (fun _ => ok_call l3_wakes rfl rfl (ok_ret rfl rfl)) (fun h2 => ?_))
  try simp only [List.cons_append, List.nil_append]
  have h2 := large_no h2
  refine ok_call (l3_large) rfl rfl (ok_ite rfl (fun _ => ok_call l3_wakes rfl rfl (ok_ret rfl rfl)) (fun h3 => ?_))
  try simp only [List.cons_append, List.nil_append]
  have h3 := large_no h3
  obtain ⟨a, ea⟩ : ∃ a, qv (sg s (val 18446744073709551616 l)) (val 18446744073709551616 m) = a := ⟨_, rfl⟩
  have ia : IsQ (.agg [.raw (.bool s), u64s l, u64s m]) a 12 := ⟨s, l, m, rfl, hl, hm, ea, h1.1, h1.2, by decide⟩
  have ba := ia.b
  obtain ⟨b, eb⟩ : ∃ b, qv (sg t (val 18446744073709551616 l')) (val 18446744073709551616 m') = b := ⟨_, rfl⟩
  have ib : IsQ (.agg [.raw (.bool t), u64s l', u64s m']) b 12 := ⟨t, l', m', rfl, hl', hm', eb, h2.1, h2.2, by decide⟩
  have bb := ib.b
  obtain ⟨c, ec⟩ : ∃ c, qv (sg u (val 18446744073709551616 l2)) (val 18446744073709551616 m2) = c := ⟨_, rfl⟩
  have ic : IsQ (.agg [.raw (.bool u), u64s l2, u64s m2]) c 12 := ⟨u, l2, m2, rfl, hl2, hm2, ec, h3.1, h3.2, by decide⟩
  have bc := ic.b
  have bac := ba.add bc
  have bbc := bb.add bc
  have mac := ba.mul bc
  have mbc := bb.mul bc
  have kr : -1 ≤ qcmp b a ∧ qcmp b a ≤ 1 := qcmp_range b a
  have q1 : (qcmp a b != -qcmp b a) = false := by rw [qcmp_swap a b, Int.neg_neg]; simp
  have q2 : (qcmp a b != qcmp (a + c) (b + c)) = false := by rw [qcmp_iff (a := a) (b := b) (c := a + c) (d := b + c) (by grind) (by grind)]; simp
  have f1 := q_floor_b ba
  have f2 := q_floor_b ba.neg
  have f3 := zs_neg f2
  have fl := q_Floor ia (by decide)
  have ce := q_Ceil ia (by decide)
  obtain ⟨hd, hc⟩ := ceil_floor a
  have hf := floor_le a
  have one := q_Of (a := 1) (b := 1) (by decide) (by decide) (by decide) (by decide)
  rw [qd_one] at one
  have mf := q_Make (IsZ.zc f1) (IsZ.s (v := 1) (by decide)) (by decide) (by decide) (by decide)
  have mc := q_Make (IsZ.zc f3) (IsZ.s (v := 1) (by decide)) (by decide) (by decide) (by decide)
  rw [qd_one] at mf mc
  have bf : Qb (a.floor : Rat) 13 := Qb.int f1 (by decide)
  have bg : Qb ((-(-a).floor : Int) : Rat) 13 := Qb.int f3 (by decide)
  have b1 : Qb ((1 : Int) : Rat) 1 := Qb.int (zs_s (by decide)) (by decide)
  have bd := bg.sub bf
  have hd' : (((-(-a).floor : Int) : Rat) - (a.floor : Rat)) = ((-(-a).floor - a.floor : Int) : Rat) := (Rat.intCast_sub _ _).symm
  have c1 : decide (qcmp (a.floor : Rat) a ≤ 0) = true := decide_eq_true (qcmp_le.2 hf)
  have c2 : decide (qcmp a ((-(-a).floor : Int) : Rat) ≤ 0) = true := decide_eq_true (qcmp_le.2 hc)
  have c3 : ¬ ((((-(-a).floor : Int) : Rat) - (a.floor : Rat)).num.sign == 0) = true → (qcmp (((-(-a).floor : Int) : Rat) - (a.floor : Rat)) ((1 : Int) : Rat) == 0) = true := by
    rw [hd']
    intro h
    rcases hd with h2 | h2
    · rw [h2] at h; exact absurd rfl h
    · rw [h2]; rw [qcmp_refl]; rfl
  generalize hF : (a.floor : Rat) = F at *
  generalize hG : ((-(-a).floor : Int) : Rat) = G at *
  generalize hO : ((1 : Int) : Rat) = O at *
  have nx : -1 ≤ -qcmp b a := by omega
  refine ok_call (q_Cmp ia ib (by decide)) rfl rfl ?_
  try simp only [List.cons_append, List.nil_append]
  refine ok_call (q_Cmp ib ia (by decide)) rfl rfl ?_
  try simp only [List.cons_append, List.nil_append]
  refine ok_neg rfl (-qcmp b a) (by rw [IntWalk.i64_in _ (by omega)]; omega) ?_
  try simp only [List.cons_append, List.nil_append]
  refine ok_neq rfl false (q1) ?_
  try simp only [List.cons_append, List.nil_append]
  refine ok_false rfl ?_
  refine ok_call (q_Add ia ic (by decide)) rfl rfl ?_
  try simp only [List.cons_append, List.nil_append]
  refine ok_call (q_Add ib ic (by decide)) rfl rfl ?_
  try simp only [List.cons_append, List.nil_append]
  refine ok_call (q_Cmp (IsQ.qc bac) (IsQ.qc bbc) (by decide)) rfl rfl ?_
  try simp only [List.cons_append, List.nil_append]
  refine ok_neq rfl false (q2) ?_
  try simp only [List.cons_append, List.nil_append]
  refine ok_false rfl ?_
  refine ok_call (q_Sign ic (by decide)) rfl rfl ?_
  try simp only [List.cons_append, List.nil_append]
  refine ok_gtr rfl (decide (0 < c)) (by rw [Bool.eq_iff_iff, decide_eq_true_iff, decide_eq_true_iff]; exact ⟨fun h => (num_pos_iff c).1 (by simpa using h), fun h => by simpa using (num_pos_iff c).2 h⟩) (ok_ite rfl (fun e0 => ?_) (fun e0 => ?_))
  · have e0 : 0 < c := by simpa using e0
    try simp only [List.cons_append, List.nil_append]
    have q3 : (qcmp a b != qcmp (a * c) (b * c)) = false := by
      rw [qcmp_iff (a := a) (b := b) (c := a * c) (d := b * c) (Rat.mul_lt_mul_right e0).symm ⟨fun h => by rw [h], fun h => by grind⟩]; simp
    refine ok_call (q_Mul ia ic (by decide)) rfl rfl ?_
    try simp only [List.cons_append, List.nil_append]
    refine ok_call (q_Mul ib ic (by decide)) rfl rfl ?_
    try simp only [List.cons_append, List.nil_append]
    refine ok_call (q_Cmp (IsQ.qc mac) (IsQ.qc mbc) (by decide)) rfl rfl ?_
    try simp only [List.cons_append, List.nil_append]
    refine ok_neq rfl false (q3) ?_
    try simp only [List.cons_append, List.nil_append]
    refine ok_false rfl ?_
    refine ok_leq rfl (decide (a ≤ b)) (by rw [Bool.eq_iff_iff, decide_eq_true_iff, decide_eq_true_iff, qcmp_le]) (ok_ite rfl (fun e1 => ?_) (fun e1 => ?_))
    · have e1 : a ≤ b := by simpa using e1
      try simp only [List.cons_append, List.nil_append]
      refine ok_call (q_Cmp ib ic (by decide)) rfl rfl ?_
      try simp only [List.cons_append, List.nil_append]
      refine ok_leq rfl (decide (b ≤ c)) (by rw [Bool.eq_iff_iff, decide_eq_true_iff, decide_eq_true_iff, qcmp_le]) (ok_ite rfl (fun e2 => ?_) (fun e2 => ?_))
      · have e2 : b ≤ c := by simpa using e2
        try simp only [List.cons_append, List.nil_append]
        have q4 : decide (qcmp a c > 0) = false := decide_eq_false fun h => by have := qcmp_gt.1 h; grind
        refine ok_call (q_Cmp ia ic (by decide)) rfl rfl ?_
        try simp only [List.cons_append, List.nil_append]
        refine ok_gtr rfl false (q4) ?_
        try simp only [List.cons_append, List.nil_append]
        refine ok_false rfl ?_
        refine ok_call (fl) rfl rfl ?_
        try simp only [List.cons_append, List.nil_append]
        refine ok_call (z_Of (v := 1) (by decide) (by decide)) rfl rfl ?_
        try simp only [List.cons_append, List.nil_append]
        refine ok_call (mf) rfl rfl ?_
        try simp only [List.cons_append, List.nil_append]
        refine ok_call (ce) rfl rfl ?_
        try simp only [List.cons_append, List.nil_append]
        refine ok_call (z_Of (v := 1) (by decide) (by decide)) rfl rfl ?_
        try simp only [List.cons_append, List.nil_append]
        refine ok_call (mc) rfl rfl ?_
        try simp only [List.cons_append, List.nil_append]
        refine ok_call (q_Sub (IsQ.qc bg) (IsQ.qc bf) (by decide)) rfl rfl ?_
        try simp only [List.cons_append, List.nil_append]
        refine ok_eq rfl true (rfl) ?_
        try simp only [List.cons_append, List.nil_append]
        refine ok_true rfl ?_
        refine ok_eq rfl true (rfl) ?_
        try simp only [List.cons_append, List.nil_append]
        refine ok_true rfl ?_
        refine ok_call (q_Cmp (IsQ.qc bf) ia (by decide)) rfl rfl ?_
        try simp only [List.cons_append, List.nil_append]
        refine ok_leq rfl true (c1) ?_
        try simp only [List.cons_append, List.nil_append]
        refine ok_true rfl ?_
        refine ok_call (q_Cmp ia (IsQ.qc bg) (by decide)) rfl rfl ?_
        try simp only [List.cons_append, List.nil_append]
        refine ok_leq rfl true (c2) ?_
        try simp only [List.cons_append, List.nil_append]
        refine ok_true rfl ?_
        refine ok_call (q_Sign (IsQ.qc bd) (by decide)) rfl rfl ?_
        try simp only [List.cons_append, List.nil_append]
        refine ok_eq rfl _ rfl (ok_ite rfl (fun _ => ok_call l3_wakes rfl rfl (ok_ret rfl rfl)) (fun e => ?_))
        have e := c3 (by rw [e]; decide)
        try simp only [List.cons_append, List.nil_append]
        refine ok_call (one) rfl rfl ?_
        try simp only [List.cons_append, List.nil_append]
        refine ok_call (q_Cmp (IsQ.qc bd) (IsQ.qc b1) (by decide)) rfl rfl ?_
        try simp only [List.cons_append, List.nil_append]
        refine ok_eq rfl true (e) ?_
        try simp only [List.cons_append, List.nil_append]
        refine ok_true rfl ?_
        refine ok_call (l3_wakes) rfl rfl ?_
        try simp only [List.cons_append, List.nil_append]
        exact ok_ret rfl rfl
      · try simp only [List.cons_append, List.nil_append]
        refine ok_call (fl) rfl rfl ?_
        try simp only [List.cons_append, List.nil_append]
        refine ok_call (z_Of (v := 1) (by decide) (by decide)) rfl rfl ?_
        try simp only [List.cons_append, List.nil_append]
        refine ok_call (mf) rfl rfl ?_
        try simp only [List.cons_append, List.nil_append]
        refine ok_call (ce) rfl rfl ?_
        try simp only [List.cons_append, List.nil_append]
        refine ok_call (z_Of (v := 1) (by decide) (by decide)) rfl rfl ?_
        try simp only [List.cons_append, List.nil_append]
        refine ok_call (mc) rfl rfl ?_
        try simp only [List.cons_append, List.nil_append]
        refine ok_call (q_Sub (IsQ.qc bg) (IsQ.qc bf) (by decide)) rfl rfl ?_
        try simp only [List.cons_append, List.nil_append]
        refine ok_eq rfl true (rfl) ?_
        try simp only [List.cons_append, List.nil_append]
        refine ok_true rfl ?_
        refine ok_eq rfl true (rfl) ?_
        try simp only [List.cons_append, List.nil_append]
        refine ok_true rfl ?_
        refine ok_call (q_Cmp (IsQ.qc bf) ia (by decide)) rfl rfl ?_
        try simp only [List.cons_append, List.nil_append]
        refine ok_leq rfl true (c1) ?_
        try simp only [List.cons_append, List.nil_append]
        refine ok_true rfl ?_
        refine ok_call (q_Cmp ia (IsQ.qc bg) (by decide)) rfl rfl ?_
        try simp only [List.cons_append, List.nil_append]
        refine ok_leq rfl true (c2) ?_
        try simp only [List.cons_append, List.nil_append]
        refine ok_true rfl ?_
        refine ok_call (q_Sign (IsQ.qc bd) (by decide)) rfl rfl ?_
        try simp only [List.cons_append, List.nil_append]
        refine ok_eq rfl _ rfl (ok_ite rfl (fun _ => ok_call l3_wakes rfl rfl (ok_ret rfl rfl)) (fun e => ?_))
        have e := c3 (by rw [e]; decide)
        try simp only [List.cons_append, List.nil_append]
        refine ok_call (one) rfl rfl ?_
        try simp only [List.cons_append, List.nil_append]
        refine ok_call (q_Cmp (IsQ.qc bd) (IsQ.qc b1) (by decide)) rfl rfl ?_
        try simp only [List.cons_append, List.nil_append]
        refine ok_eq rfl true (e) ?_
        try simp only [List.cons_append, List.nil_append]
        refine ok_true rfl ?_
        refine ok_call (l3_wakes) rfl rfl ?_
        try simp only [List.cons_append, List.nil_append]
        exact ok_ret rfl rfl
    · try simp only [List.cons_append, List.nil_append]
      refine ok_call (fl) rfl rfl ?_
      try simp only [List.cons_append, List.nil_append]
      refine ok_call (z_Of (v := 1) (by decide) (by decide)) rfl rfl ?_
      try simp only [List.cons_append, List.nil_append]
      refine ok_call (mf) rfl rfl ?_
      try simp only [List.cons_append, List.nil_append]
      refine ok_call (ce) rfl rfl ?_
      try simp only [List.cons_append, List.nil_append]
      refine ok_call (z_Of (v := 1) (by decide) (by decide)) rfl rfl ?_
      try simp only [List.cons_append, List.nil_append]
      refine ok_call (mc) rfl rfl ?_
      try simp only [List.cons_append, List.nil_append]
      refine ok_call (q_Sub (IsQ.qc bg) (IsQ.qc bf) (by decide)) rfl rfl ?_
      try simp only [List.cons_append, List.nil_append]
      refine ok_eq rfl true (rfl) ?_
      try simp only [List.cons_append, List.nil_append]
      refine ok_true rfl ?_
      refine ok_eq rfl true (rfl) ?_
      try simp only [List.cons_append, List.nil_append]
      refine ok_true rfl ?_
      refine ok_call (q_Cmp (IsQ.qc bf) ia (by decide)) rfl rfl ?_
      try simp only [List.cons_append, List.nil_append]
      refine ok_leq rfl true (c1) ?_
      try simp only [List.cons_append, List.nil_append]
      refine ok_true rfl ?_
      refine ok_call (q_Cmp ia (IsQ.qc bg) (by decide)) rfl rfl ?_
      try simp only [List.cons_append, List.nil_append]
      refine ok_leq rfl true (c2) ?_
      try simp only [List.cons_append, List.nil_append]
      refine ok_true rfl ?_
      refine ok_call (q_Sign (IsQ.qc bd) (by decide)) rfl rfl ?_
      try simp only [List.cons_append, List.nil_append]
      refine ok_eq rfl _ rfl (ok_ite rfl (fun _ => ok_call l3_wakes rfl rfl (ok_ret rfl rfl)) (fun e => ?_))
      have e := c3 (by rw [e]; decide)
      try simp only [List.cons_append, List.nil_append]
      refine ok_call (one) rfl rfl ?_
      try simp only [List.cons_append, List.nil_append]
      refine ok_call (q_Cmp (IsQ.qc bd) (IsQ.qc b1) (by decide)) rfl rfl ?_
      try simp only [List.cons_append, List.nil_append]
      refine ok_eq rfl true (e) ?_
      try simp only [List.cons_append, List.nil_append]
      refine ok_true rfl ?_
      refine ok_call (l3_wakes) rfl rfl ?_
      try simp only [List.cons_append, List.nil_append]
      exact ok_ret rfl rfl
  · try simp only [List.cons_append, List.nil_append]
    refine ok_leq rfl (decide (a ≤ b)) (by rw [Bool.eq_iff_iff, decide_eq_true_iff, decide_eq_true_iff, qcmp_le]) (ok_ite rfl (fun e1 => ?_) (fun e1 => ?_))
    · have e1 : a ≤ b := by simpa using e1
      try simp only [List.cons_append, List.nil_append]
      refine ok_call (q_Cmp ib ic (by decide)) rfl rfl ?_
      try simp only [List.cons_append, List.nil_append]
      refine ok_leq rfl (decide (b ≤ c)) (by rw [Bool.eq_iff_iff, decide_eq_true_iff, decide_eq_true_iff, qcmp_le]) (ok_ite rfl (fun e2 => ?_) (fun e2 => ?_))
      · have e2 : b ≤ c := by simpa using e2
        try simp only [List.cons_append, List.nil_append]
        have q4 : decide (qcmp a c > 0) = false := decide_eq_false fun h => by have := qcmp_gt.1 h; grind
        refine ok_call (q_Cmp ia ic (by decide)) rfl rfl ?_
        try simp only [List.cons_append, List.nil_append]
        refine ok_gtr rfl false (q4) ?_
        try simp only [List.cons_append, List.nil_append]
        refine ok_false rfl ?_
        refine ok_call (fl) rfl rfl ?_
        try simp only [List.cons_append, List.nil_append]
        refine ok_call (z_Of (v := 1) (by decide) (by decide)) rfl rfl ?_
        try simp only [List.cons_append, List.nil_append]
        refine ok_call (mf) rfl rfl ?_
        try simp only [List.cons_append, List.nil_append]
        refine ok_call (ce) rfl rfl ?_
        try simp only [List.cons_append, List.nil_append]
        refine ok_call (z_Of (v := 1) (by decide) (by decide)) rfl rfl ?_
        try simp only [List.cons_append, List.nil_append]
        refine ok_call (mc) rfl rfl ?_
        try simp only [List.cons_append, List.nil_append]
        refine ok_call (q_Sub (IsQ.qc bg) (IsQ.qc bf) (by decide)) rfl rfl ?_
        try simp only [List.cons_append, List.nil_append]
        refine ok_eq rfl true (rfl) ?_
        try simp only [List.cons_append, List.nil_append]
        refine ok_true rfl ?_
        refine ok_eq rfl true (rfl) ?_
        try simp only [List.cons_append, List.nil_append]
        refine ok_true rfl ?_
        refine ok_call (q_Cmp (IsQ.qc bf) ia (by decide)) rfl rfl ?_
        try simp only [List.cons_append, List.nil_append]
        refine ok_leq rfl true (c1) ?_
        try simp only [List.cons_append, List.nil_append]
        refine ok_true rfl ?_
        refine ok_call (q_Cmp ia (IsQ.qc bg) (by decide)) rfl rfl ?_
        try simp only [List.cons_append, List.nil_append]
        refine ok_leq rfl true (c2) ?_
        try simp only [List.cons_append, List.nil_append]
        refine ok_true rfl ?_
        refine ok_call (q_Sign (IsQ.qc bd) (by decide)) rfl rfl ?_
        try simp only [List.cons_append, List.nil_append]
        refine ok_eq rfl _ rfl (ok_ite rfl (fun _ => ok_call l3_wakes rfl rfl (ok_ret rfl rfl)) (fun e => ?_))
        have e := c3 (by rw [e]; decide)
        try simp only [List.cons_append, List.nil_append]
        refine ok_call (one) rfl rfl ?_
        try simp only [List.cons_append, List.nil_append]
        refine ok_call (q_Cmp (IsQ.qc bd) (IsQ.qc b1) (by decide)) rfl rfl ?_
        try simp only [List.cons_append, List.nil_append]
        refine ok_eq rfl true (e) ?_
        try simp only [List.cons_append, List.nil_append]
        refine ok_true rfl ?_
        refine ok_call (l3_wakes) rfl rfl ?_
        try simp only [List.cons_append, List.nil_append]
        exact ok_ret rfl rfl
      · try simp only [List.cons_append, List.nil_append]
        refine ok_call (fl) rfl rfl ?_
        try simp only [List.cons_append, List.nil_append]
        refine ok_call (z_Of (v := 1) (by decide) (by decide)) rfl rfl ?_
        try simp only [List.cons_append, List.nil_append]
        refine ok_call (mf) rfl rfl ?_
        try simp only [List.cons_append, List.nil_append]
        refine ok_call (ce) rfl rfl ?_
        try simp only [List.cons_append, List.nil_append]
        refine ok_call (z_Of (v := 1) (by decide) (by decide)) rfl rfl ?_
        try simp only [List.cons_append, List.nil_append]
        refine ok_call (mc) rfl rfl ?_
        try simp only [List.cons_append, List.nil_append]
        refine ok_call (q_Sub (IsQ.qc bg) (IsQ.qc bf) (by decide)) rfl rfl ?_
        try simp only [List.cons_append, List.nil_append]
        refine ok_eq rfl true (rfl) ?_
        try simp only [List.cons_append, List.nil_append]
        refine ok_true rfl ?_
        refine ok_eq rfl true (rfl) ?_
        try simp only [List.cons_append, List.nil_append]
        refine ok_true rfl ?_
        refine ok_call (q_Cmp (IsQ.qc bf) ia (by decide)) rfl rfl ?_
        try simp only [List.cons_append, List.nil_append]
        refine ok_leq rfl true (c1) ?_
        try simp only [List.cons_append, List.nil_append]
        refine ok_true rfl ?_
        refine ok_call (q_Cmp ia (IsQ.qc bg) (by decide)) rfl rfl ?_
        try simp only [List.cons_append, List.nil_append]
        refine ok_leq rfl true (c2) ?_
        try simp only [List.cons_append, List.nil_append]
        refine ok_true rfl ?_
        refine ok_call (q_Sign (IsQ.qc bd) (by decide)) rfl rfl ?_
        try simp only [List.cons_append, List.nil_append]
        refine ok_eq rfl _ rfl (ok_ite rfl (fun _ => ok_call l3_wakes rfl rfl (ok_ret rfl rfl)) (fun e => ?_))
        have e := c3 (by rw [e]; decide)
        try simp only [List.cons_append, List.nil_append]
        refine ok_call (one) rfl rfl ?_
        try simp only [List.cons_append, List.nil_append]
        refine ok_call (q_Cmp (IsQ.qc bd) (IsQ.qc b1) (by decide)) rfl rfl ?_
        try simp only [List.cons_append, List.nil_append]
        refine ok_eq rfl true (e) ?_
        try simp only [List.cons_append, List.nil_append]
        refine ok_true rfl ?_
        refine ok_call (l3_wakes) rfl rfl ?_
        try simp only [List.cons_append, List.nil_append]
        exact ok_ret rfl rfl
    · try simp only [List.cons_append, List.nil_append]
      refine ok_call (fl) rfl rfl ?_
      try simp only [List.cons_append, List.nil_append]
      refine ok_call (z_Of (v := 1) (by decide) (by decide)) rfl rfl ?_
      try simp only [List.cons_append, List.nil_append]
      refine ok_call (mf) rfl rfl ?_
      try simp only [List.cons_append, List.nil_append]
      refine ok_call (ce) rfl rfl ?_
      try simp only [List.cons_append, List.nil_append]
      refine ok_call (z_Of (v := 1) (by decide) (by decide)) rfl rfl ?_
      try simp only [List.cons_append, List.nil_append]
      refine ok_call (mc) rfl rfl ?_
      try simp only [List.cons_append, List.nil_append]
      refine ok_call (q_Sub (IsQ.qc bg) (IsQ.qc bf) (by decide)) rfl rfl ?_
      try simp only [List.cons_append, List.nil_append]
      refine ok_eq rfl true (rfl) ?_
      try simp only [List.cons_append, List.nil_append]
      refine ok_true rfl ?_
      refine ok_eq rfl true (rfl) ?_
      try simp only [List.cons_append, List.nil_append]
      refine ok_true rfl ?_
      refine ok_call (q_Cmp (IsQ.qc bf) ia (by decide)) rfl rfl ?_
      try simp only [List.cons_append, List.nil_append]
      refine ok_leq rfl true (c1) ?_
      try simp only [List.cons_append, List.nil_append]
      refine ok_true rfl ?_
      refine ok_call (q_Cmp ia (IsQ.qc bg) (by decide)) rfl rfl ?_
      try simp only [List.cons_append, List.nil_append]
      refine ok_leq rfl true (c2) ?_
      try simp only [List.cons_append, List.nil_append]
      refine ok_true rfl ?_
      refine ok_call (q_Sign (IsQ.qc bd) (by decide)) rfl rfl ?_
      try simp only [List.cons_append, List.nil_append]
      refine ok_eq rfl _ rfl (ok_ite rfl (fun _ => ok_call l3_wakes rfl rfl (ok_ret rfl rfl)) (fun e => ?_))
      have e := c3 (by rw [e]; decide)
      try simp only [List.cons_append, List.nil_append]
      refine ok_call (one) rfl rfl ?_
      try simp only [List.cons_append, List.nil_append]
      refine ok_call (q_Cmp (IsQ.qc bd) (IsQ.qc b1) (by decide)) rfl rfl ?_
      try simp only [List.cons_append, List.nil_append]
      refine ok_eq rfl true (e) ?_
      try simp only [List.cons_append, List.nil_append]
      refine ok_true rfl ?_
      refine ok_call (l3_wakes) rfl rfl ?_
      try simp only [List.cons_append, List.nil_append]
      exact ok_ret rfl rfl
/-- a good fraction's cells -/
def qcs (q : Rat) : List PV := [.raw (.bool (decide (q.num < 0))), nat q.num.natAbs, nat q.den]
theorem ok_mk {P : Program} {R : PV → Prop} {ρ : List PV} {C : List (List PV → Prop)} {k : VC} {c n : Nat} {args : List SV} {es : List (List PV)} (h : chunk c n (pvs ρ args) = es) (hk : k.ok P R (ρ ++ [.sl es]) C) : (VC.mk c n args k).ok P R ρ C := by
  show k.ok P R (ρ ++ [.sl (chunk c n (pvs ρ args))]) C
  rw [h]
  exact hk
theorem idx_at {k n : Nat} {es : List (List PV)} {e : List PV} (h : es[n]? = some e) (hl : e.length = k) : Prim.ev (.idx k) [.sl es, .raw (.int .i64 (n : Int))] = some (.ref e) := by
  simp [Prim.ev, idxOf, h, hl]
theorem qd_same (q : Rat) {n : Int} (hn : 0 < n) : qd (q.num * n) ((q.den : Int) * n) = q := by
  have hd := q.den_nz
  have h1 : ((q.den : Int) * n) ≠ 0 := Int.mul_ne_zero (by omega) (by omega)
  rw [qd_div h1, Rat.intCast_mul, Rat.intCast_mul]
  have e := self_div q
  have h2 : ((q.den : Int) : Rat) ≠ 0 := by simpa using hd
  have h3 : (n : Rat) ≠ 0 := by
    have : n ≠ 0 := by omega
    simpa using this
  conv => rhs; rw [← e]
  grind
set_option maxHeartbeats 4000000 in
theorem law_RatLowest {s t : Bool} {l m l' m' : List Nat} {k : Int} (hl : Lt 18446744073709551616 l) (hm : Lt 18446744073709551616 m) (hl' : Lt 18446744073709551616 l') (hm' : Lt 18446744073709551616 m') (hk : (Lit.int .u16 k).wf = true) :
    Gv.Fn Tryz.prog 17 [.agg [.raw (.bool s), u64s l, u64s m], .agg [.raw (.bool t), u64s l', u64s m'], .raw (.int .u16 k)] (.raw (.bool true)) := by
  have hk : 0 ≤ k ∧ k ≤ 65535 := by
    simp only [Lit.wf, Bool.and_eq_true, decide_eq_true_eq] at hk
    exact ⟨hk.1, hk.2⟩
  refine Fn.intro mixed vc_law03_RatLowest rfl ?_
  refine ok_call (l3_large) rfl rfl (ok_ite rfl (fun _ => ok_call l3_wakes rfl rfl (ok_ret rfl rfl)) (fun h1 => ?_))
  try simp only [List.cons_append, List.nil_append]
  have h1 := large_no h1
  refine ok_call (l3_large) rfl rfl (ok_ite rfl (fun _ => ok_call l3_wakes rfl rfl (ok_ret rfl rfl)) (fun h2 => ?_))
  try simp only [List.cons_append, List.nil_append]
  have h2 := large_no h2
  obtain ⟨a, ea⟩ : ∃ a, qv (sg s (val 18446744073709551616 l)) (val 18446744073709551616 m) = a := ⟨_, rfl⟩
  have ia : IsQ (.agg [.raw (.bool s), u64s l, u64s m]) a 12 := ⟨s, l, m, rfl, hl, hm, ea, h1.1, h1.2, by decide⟩
  have ba := ia.b
  obtain ⟨b, eb⟩ : ∃ b, qv (sg t (val 18446744073709551616 l')) (val 18446744073709551616 m') = b := ⟨_, rfl⟩
  have ib : IsQ (.agg [.raw (.bool t), u64s l', u64s m']) b 12 := ⟨t, l', m', rfl, hl', hm', eb, h2.1, h2.2, by decide⟩
  have bb := ib.b
  have b1 := (ba.add bb).more (show 12 + 12 + 1 ≤ 25 by decide)
  have b2 := (ba.sub bb).more (show 12 + 12 + 1 ≤ 25 by decide)
  have b3 := (ba.mul bb).more (show 12 + 12 ≤ 25 by decide)
  have b4 := ba.neg.more (show 12 ≤ 25 by decide)
  have b5 : Qb (qabs a) 25 := by unfold qabs; split; exact b4; exact ba.more (by decide)
  have b6 : Qb (qd (k * 6) 4) 25 := Qb.qd (Nat.le_trans (zs_s (by omega)) (by decide)) (Nat.le_trans (zs_s (by decide)) (by decide)) (by decide)
  have oq := q_Of (a := k * 6) (b := 4) (by omega) (by omega) (by decide) (by decide)
  refine ok_cv rfl k (IntWalk.i64_in _ (by omega)) ?_
  try simp only [List.cons_append, List.nil_append]
  refine ok_add rfl (k + 1) (IntWalk.i64_in _ (by omega)) ?_
  try simp only [List.cons_append, List.nil_append]
  refine ok_call (q_Add ia ib (by decide)) rfl rfl ?_
  try simp only [List.cons_append, List.nil_append]
  refine ok_call (q_Sub ia ib (by decide)) rfl rfl ?_
  try simp only [List.cons_append, List.nil_append]
  refine ok_call (q_Mul ia ib (by decide)) rfl rfl ?_
  try simp only [List.cons_append, List.nil_append]
  refine ok_call (q_Neg ia (by decide)) rfl rfl ?_
  try simp only [List.cons_append, List.nil_append]
  refine ok_call (q_Abs ia (by decide)) rfl rfl ?_
  try simp only [List.cons_append, List.nil_append]
  refine ok_cv rfl k (IntWalk.i64_in _ (by omega)) ?_
  try simp only [List.cons_append, List.nil_append]
  refine ok_mul rfl (k * 6) (IntWalk.i64_in _ (by omega)) ?_
  try simp only [List.cons_append, List.nil_append]
  refine ok_call (oq) rfl rfl ?_
  try simp only [List.cons_append, List.nil_append]
  obtain ⟨ql, hql⟩ : ∃ ql, ql = [a + b, a - b, a * b, -a, qabs a, qd (k * 6) 4] := ⟨_, rfl⟩
  have hall : ∀ q ∈ ql, Qb q 25 := by
    intro q hq
    rw [hql] at hq
    simp only [List.mem_cons, List.mem_nil_iff, or_false] at hq
    rcases hq with rfl | rfl | rfl | rfl | rfl | rfl <;> assumption
  have hlen : ql.length = 6 := by rw [hql]; rfl
  refine ok_mk (es := ql.map qcs) (by rw [hql]; rfl) ?_
  try simp only [List.cons_append, List.nil_append]
  refine ⟨fun vs => ∃ i : Nat, vs = [.raw (.int .i64 (i : Int))] ∧ i ≤ 6, fun vs => match vs with
    | [.raw (.int _ i)] => 6 - i.toNat
    | _ => 0, ⟨0, rfl, by omega⟩, ?_⟩
  rintro vs hvl ⟨i, rfl, hi⟩
  try simp only [List.cons_append, List.nil_append]
  refine ok_prim (r := .raw (.int .i64 (6 : Int))) ?_ ?_
  · show some (PV.raw (.int .i64 (((ql.map qcs).length : Nat) : Int))) = _
    rw [List.length_map, hlen]
    rfl
  refine ok_lss rfl (decide (i < 6)) (by rw [Bool.eq_iff_iff, decide_eq_true_iff, decide_eq_true_iff]; omega) (ok_ite rfl (fun e => ?_) (fun _ => ok_call l3_wakes rfl rfl (ok_ret rfl rfl)))
  have hlt : i < 6 := by simpa using e
  obtain ⟨q, hq⟩ : ∃ q, ql[i]? = some q := ⟨ql[i]'(by omega), List.getElem?_eq_getElem _⟩
  have bq := hall q (List.mem_of_getElem? hq)
  have hat : (ql.map qcs)[i]? = some (qcs q) := by rw [List.getElem?_map, hq]; rfl
  have ix := idx_at (k := 3) hat rfl
  have hd := q.den_nz
  have bn := zs_s (v := k + 1) (by omega)
  have mm := q_Make (IsZ.zc (zs_mul bq.n bn)) (IsZ.zc (zs_mul (zs_nat bq.d) bn)) (Int.mul_ne_zero (by omega) (by omega)) (by decide) (by decide)
  rw [qd_same q (by omega)] at mm
  have m2 := z_Mul (IsZ.mkn bq.d) (IsZ.zc bn) (by decide) (by decide)
  try simp only [List.cons_append, List.nil_append]
  refine ok_prim ix ?_
  refine ok_prim (r := qc q) rfl ?_
  try simp only [List.cons_append, List.nil_append]
  refine ok_call (q_Good_is bq (by decide)) rfl rfl ?_
  try simp only [List.cons_append, List.nil_append]
  refine ok_not rfl ?_
  try simp only [List.cons_append, List.nil_append]
  refine ok_false rfl ?_
  refine ok_prim ix ?_
  refine ok_prim (r := .ref [nat q.den]) rfl ?_
  refine ok_prim (r := nat q.den) rfl ?_
  try simp only [List.cons_append, List.nil_append]
  refine ok_prim (nat_len q.den) ?_
  try simp only [List.cons_append, List.nil_append]
  refine ok_eq rfl false (by (have := @sz_eq0 q.den; rw [beq_eq_false_iff_ne]; omega)) ?_
  try simp only [List.cons_append, List.nil_append]
  refine ok_false rfl ?_
  refine ok_prim ix ?_
  refine ok_prim (r := .ref (qcs q)) rfl ?_
  refine ok_prim (r := zc q.num) rfl ?_
  try simp only [List.cons_append, List.nil_append]
  refine ok_call (z_Of (v := k + 1) (by omega) (by omega)) rfl rfl ?_
  try simp only [List.cons_append, List.nil_append]
  refine ok_call (z_Mul (IsZ.zc bq.n) (IsZ.zc bn) (by decide) (by decide)) rfl rfl ?_
  try simp only [List.cons_append, List.nil_append]
  refine ok_prim ix ?_
  refine ok_prim (r := .ref [nat q.den]) rfl ?_
  refine ok_prim (r := nat q.den) rfl ?_
  try simp only [List.cons_append, List.nil_append]
  refine ok_call (z_Of (v := k + 1) (by omega) (by omega)) rfl rfl ?_
  try simp only [List.cons_append, List.nil_append]
  refine ok_call (m2) rfl rfl ?_
  try simp only [List.cons_append, List.nil_append]
  refine ok_call (mm) rfl rfl ?_
  try simp only [List.cons_append, List.nil_append]
  refine ok_neq rfl false (rfl) ?_
  try simp only [List.cons_append, List.nil_append]
  refine ok_false rfl ?_
  refine ok_prim ix ?_
  refine ok_prim (r := qc q) rfl ?_
  try simp only [List.cons_append, List.nil_append]
  refine ok_call (k_Rats_same q) rfl rfl ?_
  try simp only [List.cons_append, List.nil_append]
  refine ok_not rfl ?_
  try simp only [List.cons_append, List.nil_append]
  refine ok_false rfl ?_
  refine ok_add rfl ((i + 1 : Nat) : Int) (by rw [IntWalk.i64_in _ (by omega)]; rfl) ?_
  refine ⟨⟨i + 1, rfl, by omega⟩, ?_⟩
  show 6 - ((i + 1 : Nat) : Int).toNat < 6 - (i : Int).toNat
  omega
end Go.Proofs.YtlpfbcilnfgaaaaGreatDoor


