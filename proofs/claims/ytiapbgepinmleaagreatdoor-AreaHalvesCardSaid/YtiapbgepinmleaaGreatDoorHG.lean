import Derived.Test.YtiapbgepinmleaaGreatDoorHA
import Derived.Test.YtiapbgepinmleaaGreatDoorVP
namespace Gv
open Go Go.RowKit Gs
set_option linter.unusedVariables false
def ip (x y : Int) : Pt2 := ((x : Rat), (y : Rat))
def sqr : List Pt2 := [ip 0 0, ip 2 0, ip 2 2, ip 0 2]
theorem sqr_half : phalf sqr (ip 0 0) (ip 2 2) = [ip 0 0, ip 2 2, ip 0 2] := by decide +kernel
theorem sqr_len : sqr.length = 4 := rfl
theorem sqr_lo : plo sqr 4 = ip 0 0 := by decide +kernel
theorem sqr_hi : phi sqr 4 = ip 2 2 := by decide +kernel
theorem sqr_area : parea sqr = ((4 : Int) : Rat) := by decide +kernel
theorem sqr_area2 : parea [ip 0 0, ip 2 2, ip 0 2] = ((2 : Int) : Rat) := by decide +kernel
theorem sqr_conv : pconvex sqr = true := by decide +kernel
theorem sqr_has1 : phas sqr (ip 1 1) = true := by decide +kernel
theorem sqr_has2 : phas sqr (ip 3 1) = false := by decide +kernel
theorem ip_b {x y : Int} (h1 : x.natAbs ≤ 9 := by decide) (h2 : y.natAbs ≤ 9 := by decide) : Pb (ip x y) 1 := ⟨.int (zs_s (by omega)) (by decide), .int (zs_s (by omega)) (by decide)⟩
theorem sqr_b : ∀ p ∈ sqr, Pb p 1 := by
  intro p hp
  simp only [sqr, List.mem_cons, List.not_mem_nil, or_false] at hp
  rcases hp with rfl | rfl | rfl | rfl <;> exact ip_b
theorem sqr2_b : ∀ p ∈ [ip 0 0, ip 2 2, ip 0 2], Pb p 1 := by
  intro p hp
  simp only [List.mem_cons, List.not_mem_nil, or_false] at hp
  rcases hp with rfl | rfl | rfl <;> exact ip_b
theorem ztxt4 : qtxt ((4 : Int) : Rat) = ⟨#[52]⟩ := by
  rw [qtxt_one]
  exact str_txt (s := ⟨#[52]⟩) ⟨by decide, by decide, by decide, by decide⟩
theorem ztxt2 : qtxt ((2 : Int) : Rat) = ⟨#[50]⟩ := by
  rw [qtxt_one]
  exact str_txt (s := ⟨#[50]⟩) ⟨by decide, by decide, by decide, by decide⟩
end Gv
namespace Go.Proofs.YtiapbgepinmleaaGreatDoor
open Go.RowKit Gs Gv
set_option linter.unusedVariables false
theorem l8_Fair {L : List RP} {n : Int} (hn : n ≤ 1000000) : Gv.Fn Tryz.prog 16 [rline L, .raw (.int .i64 n)] (.raw (.bool (decide ((L.length : Int) ≤ n) && L.all fun p => p.small 4))) := by
  refine Fn.intro mixed vc_law08_Fair rfl ?_
  refine ok_lenS (es := L.map RP.cs) rfl (L.length : Int) (by simp) ?_
  try simp only [nr]
  refine ok_leq rfl _ rfl ?_
  try simp only [nr]
  refine ok_ite rfl (fun h => ?_) (fun h => ?_)
  · have h' := of_decide_eq_true h
    refine ok_call (k_SmallLine (L := L) (n := 4) (by omega)) rfl rfl ?_
    try simp only [nr]
    refine ok_ret ?_ rfl
    rw [h, Bool.true_and]
    rfl
  · refine ok_ret ?_ rfl
    rw [h, Bool.false_and]
    rfl
set_option maxHeartbeats 4000000 in
theorem l8_wakes : Gv.Fn Tryz.prog 18 [] (.raw (.bool true)) := by
  have P : ∀ {x y : Int}, x.natAbs ≤ 9 → y.natAbs ≤ 9 → Gv.Fn Tryz.prog 77 [.raw (.int .i64 x), .raw (.int .i64 y)] (pc (ip x y)) := fun h1 h2 => l6_P (by omega) (by omega) (by omega) (by omega)
  have hL : IsL (plist sqr) sqr 1 := IsL.pl sqr_b
  have hL2 : IsL (plist [ip 0 0, ip 2 2, ip 0 2]) [ip 0 0, ip 2 2, ip 0 2] 1 := IsL.pl sqr2_b
  have cH := p_Half hL (IsP.pc (ip_b (x := 0) (y := 0))) (IsP.pc (ip_b (x := 2) (y := 2))) (by decide) (by decide)
  rw [sqr_half] at cH
  have cB := p_Box hL (by decide) (by decide)
  have eB : pbox sqr = .tup [pc (ip 0 0), pc (ip 2 2), .raw (.bool true)] := by
    unfold pbox
    rw [if_neg (by decide), sqr_len, sqr_lo, sqr_hi]
  rw [eB] at cB
  have cA := p_Area hL (by decide) (by decide)
  rw [sqr_area] at cA
  have cA2 := p_Area hL2 (by decide) (by decide)
  rw [sqr_area2] at cA2
  have cT := q_Text (IsQ.qc (Qb.int (z := 4) (k := 1) (zs_s (by decide)) (by decide))) (by decide)
  have cT2 := q_Text (IsQ.qc (Qb.int (z := 2) (k := 1) (zs_s (by decide)) (by decide))) (by decide)
  have e4 := ztxt4
  have e2 := ztxt2
  have cC := p_Convex hL (by decide) (by decide)
  rw [sqr_conv] at cC
  have cH1 := p_Has hL (IsP.pc (ip_b (x := 1) (y := 1))) (by decide) (by decide)
  rw [sqr_has1] at cH1
  have cH2 := p_Has hL (IsP.pc (ip_b (x := 3) (y := 1))) (by decide) (by decide)
  rw [sqr_has2] at cH2
  have cS0 := p_Same (IsP.pc (ip_b (x := 0) (y := 0))) (IsP.pc (ip_b (x := 0) (y := 0))) (by decide)
  have cS2 := p_Same (IsP.pc (ip_b (x := 2) (y := 2))) (IsP.pc (ip_b (x := 2) (y := 2))) (by decide)
  rw [decide_eq_true rfl] at cS0 cS2
  have P00 := P (x := 0) (y := 0) (by decide) (by decide)
  have P20 := P (x := 2) (y := 0) (by decide) (by decide)
  have P22 := P (x := 2) (y := 2) (by decide) (by decide)
  have P02 := P (x := 0) (y := 2) (by decide) (by decide)
  have P11 := P (x := 1) (y := 1) (by decide) (by decide)
  have P31 := P (x := 3) (y := 1) (by decide) (by decide)
  have eS : plist sqr = .sl [pcs (ip 0 0), pcs (ip 2 0), pcs (ip 2 2), pcs (ip 0 2)] := rfl
  have eS2 : plist [ip 0 0, ip 2 2, ip 0 2] = .sl [pcs (ip 0 0), pcs (ip 2 2), pcs (ip 0 2)] := rfl
  rw [eS] at cH cB cA cC cH1 cH2
  rw [eS2] at cH cA2
  clear hL hL2 eB eS eS2 P
  generalize ip 0 0 = p0 at *
  generalize ip 2 0 = p1 at *
  generalize ip 2 2 = p2 at *
  generalize ip 0 2 = p3 at *
  generalize ip 1 1 = p4 at *
  generalize ip 3 1 = p5 at *
  generalize ((4 : Int) : Rat) = q4 at *
  generalize ((2 : Int) : Rat) = q2 at *
  refine Fn.intro mixed vc_law08_wakes rfl ?_
  refine ok_call P00 rfl rfl ?_
  try simp only [nr]
  refine ok_call P20 rfl rfl ?_
  try simp only [nr]
  refine ok_call P22 rfl rfl ?_
  try simp only [nr]
  refine ok_call P02 rfl rfl ?_
  try simp only [nr]
  refine ok_mk (l := [pcs p0, pcs p1, pcs p2, pcs p3]) rfl ?_
  try simp only [nr]
  refine ok_call P00 rfl rfl ?_
  try simp only [nr]
  refine ok_call P22 rfl rfl ?_
  try simp only [nr]
  refine ok_call cH rfl rfl ?_
  try simp only [nr]
  refine ok_call cB rfl rfl ?_
  try simp only [nr]
  refine ok_call cA rfl rfl ?_
  try simp only [nr]
  refine ok_call cT rfl rfl ?_
  try simp only [nr]
  refine ok_seq rfl e4 ?_
  try simp only [nr]
  refine ok_true rfl ?_
  refine ok_call cC rfl rfl ?_
  try simp only [nr]
  refine ok_true rfl ?_
  refine ok_call cA2 rfl rfl ?_
  try simp only [nr]
  refine ok_call cT2 rfl rfl ?_
  try simp only [nr]
  refine ok_seq rfl e2 ?_
  try simp only [nr]
  refine ok_true rfl ?_
  refine ok_call P11 rfl rfl ?_
  try simp only [nr]
  refine ok_call cH1 rfl rfl ?_
  try simp only [nr]
  refine ok_true rfl ?_
  refine ok_call P31 rfl rfl ?_
  try simp only [nr]
  refine ok_call cH2 rfl rfl ?_
  try simp only [nr]
  refine ok_not rfl ?_
  try simp only [nr]
  refine ok_true rfl ?_
  refine ok_true rfl ?_
  refine ok_call P00 rfl rfl ?_
  try simp only [nr]
  refine ok_call cS0 rfl rfl ?_
  try simp only [nr]
  refine ok_true rfl ?_
  refine ok_call P22 rfl rfl ?_
  try simp only [nr]
  refine ok_call cS2 rfl rfl ?_
  try simp only [nr]
  exact ok_ret rfl rfl
theorem phalf_b {l : List Pt2} {a b : Pt2} {k : Nat} (hb : ∀ p ∈ l, Pb p k) (ha : Pb a k) (hbb : Pb b k) : ∀ p ∈ phalf l a b, Pb p (100 * k + 100) := by
  unfold phalf
  split
  · intro p hp; exact (hb p hp).more (by omega)
  · have : ∀ i, i ≤ l.length → ∀ p ∈ phalfs l a b i, Pb p (100 * k + 100) := by
      intro i
      induction i with
      | zero => intro _ p hp; simp [phalfs] at hp
      | succ i ih =>
        intro hi p hp
        have bp := hb _ (pa_mem (show i < l.length by omega))
        have bq := hb _ (List.mem_of_getElem? (at_pn (show i < l.length by omega)))
        simp only [phalfs, phalf1, List.mem_append] at hp
        rcases hp with hp | hp | hp
        · exact ih (by omega) p hp
        · split at hp
          · simp only [List.mem_singleton] at hp
            subst hp
            exact bp.more (by omega)
          · simp at hp
        · split at hp
          · rename_i h3'
            simp only [List.mem_singleton] at hp
            subst hp
            have hne : porient a b (pa l i) - porient a b (pn l i) ≠ 0 := by
              intro e
              have e' : porient a b (pa l i) = porient a b (pn l i) := by grind
              rw [e'] at h3'
              have := sq_nn (porient a b (pn l i))
              grind
            have b1 := Qb.orient ha hbb bp
            have b2 := Qb.orient ha hbb bq
            exact (bp.mix bq (b1.div (b1.sub b2) hne)).more (by omega)
          · simp at hp
    exact this _ (Nat.le_refl _)
theorem law_AreaHalves {L : List RP} {a b : RP} (hL : ∀ p ∈ L, p.wf) (ha : a.wf) (hb : b.wf) : Gv.Fn Tryz.prog 4 [rline L, .agg a.cs, .agg b.cs] (.raw (.bool true)) := by
  refine Fn.intro mixed vc_law08_AreaHalves rfl ?_
  refine ok_call (l8_Fair (L := L) (n := 12) (by decide)) rfl rfl ?_
  try simp only [nr]
  refine ok_not rfl ?_
  try simp only [nr]
  refine ok_ite rfl (fun h0 => ?_) (fun h0 => ?_)
  · refine ok_call l8_wakes rfl rfl ?_
    try simp only [nr]
    exact ok_ret rfl rfl
  refine ok_mk (l := [a.cs, b.cs]) rfl ?_
  try simp only [nr]
  refine ok_call (l6_Fair (L := [a, b]) (by show 2 < _; decide)) rfl rfl ?_
  try simp only [nr]
  refine ok_not rfl ?_
  try simp only [nr]
  refine ok_ite rfl (fun h1 => ?_) (fun h1 => ?_)
  · refine ok_call l8_wakes rfl rfl ?_
    try simp only [nr]
    exact ok_ret rfl rfl
  rw [Bool.not_eq_false', Bool.and_eq_true, decide_eq_true_iff] at h0
  rw [Bool.not_eq_false', List.all_eq_true] at h1
  have hlen : L.length ≤ 12 := by omega
  have hs := List.all_eq_true.1 h0.2
  have ha6 := RP.is ha (h1 a (by simp)) (k := 6) (by decide)
  have hb6 := RP.is hb (h1 b (by simp)) (k := 6) (by decide)
  have hl := IsL.of hL hs (by decide)
  have hlm : (L.map RP.p).length ≤ 12 := by rw [List.length_map]; exact hlen
  have hlb := hl.b
  have hl6 := fun q hq => (hlb q hq).more (show 4 ≤ 6 by decide)
  have cIns := g6_Ins hl (by decide) (by omega)
  have cLine := k_Line hL hs (by decide) (by omega)
  have cH := p_Half (hl.more (show 4 ≤ 6 by decide)) ha6 hb6 (by decide) (by omega)
  have cIa := g6_In ha6 (by decide)
  have cIb := g6_In hb6 (by decide)
  have cH' := g8_Half (k := 6) hl6 ha6.b hb6.b (by decide) (by omega)
  have bh := phalf_b (k := 6) hl6 ha6.b hb6.b
  have hhl : (phalf (L.map RP.p) a.p b.p).length ≤ 24 := by
    unfold phalf
    split
    · omega
    · have := phalfs_len (l := L.map RP.p) (a := a.p) (b := b.p) (L.map RP.p).length
      omega
  have cO := g6_Outs bh (by decide) (by omega)
  have cL1 := k_Lines_same (IsL.pl bh) (by omega)
  have cL2 := k_Lines_same hl (by omega)
  refine ok_call cLine rfl rfl ?_
  try simp only [nr]
  refine ok_call cH rfl rfl ?_
  try simp only [nr]
  refine ok_call cIns rfl rfl ?_
  try simp only [nr]
  refine ok_call cIa rfl rfl ?_
  try simp only [nr]
  refine ok_call cIb rfl rfl ?_
  try simp only [nr]
  refine ok_call cH' rfl rfl ?_
  try simp only [nr]
  refine ok_call cO rfl rfl ?_
  try simp only [nr]
  refine ok_call cL1 rfl rfl ?_
  try simp only [nr]
  refine ok_true rfl ?_
  refine ok_call cL2 rfl rfl ?_
  try simp only [nr]
  refine ok_true rfl ?_
  refine ok_call l8_wakes rfl rfl ?_
  try simp only [nr]
  exact ok_ret rfl rfl
end Go.Proofs.YtiapbgepinmleaaGreatDoor
