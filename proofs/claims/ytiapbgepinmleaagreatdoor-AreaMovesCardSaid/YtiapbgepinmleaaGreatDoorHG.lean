import Derived.Test.YtiapbgepinmleaaGreatDoorHA
import Derived.Test.YtiapbgepinmleaaGreatDoorVP
namespace Gv
open Go Go.RowKit Gs
set_option linter.unusedVariables false
def ip (x y : Int) : Pt2 := ((x : Rat), (y : Rat))
def sqr : List Pt2 := [ip 0 0, ip 2 0, ip 2 2, ip 0 2]
theorem sqr_half : phalf sqr (ip 0 0) (ip 2 2) = [ip 0 0, ip 2 2, ip 0 2] := by decide +kernel
theorem sqr_len : sqr.length = 4 := rfl
theorem sqr_lo : plo sqr 4 = ip 0 0 := by decide +kernel
theorem sqr_hi : phi sqr 4 = ip 2 2 := by decide +kernel
theorem sqr_area : parea sqr = ((4 : Int) : Rat) := by decide +kernel
theorem sqr_area2 : parea [ip 0 0, ip 2 2, ip 0 2] = ((2 : Int) : Rat) := by decide +kernel
theorem sqr_conv : pconvex sqr = true := by decide +kernel
theorem sqr_has1 : phas sqr (ip 1 1) = true := by decide +kernel
theorem sqr_has2 : phas sqr (ip 3 1) = false := by decide +kernel
theorem ip_b {x y : Int} (h1 : x.natAbs ≤ 9 := by decide) (h2 : y.natAbs ≤ 9 := by decide) : Pb (ip x y) 1 := ⟨.int (zs_s (by omega)) (by decide), .int (zs_s (by omega)) (by decide)⟩
theorem sqr_b : ∀ p ∈ sqr, Pb p 1 := by
  intro p hp
  simp only [sqr, List.mem_cons, List.not_mem_nil, or_false] at hp
  rcases hp with rfl | rfl | rfl | rfl <;> exact ip_b
theorem sqr2_b : ∀ p ∈ [ip 0 0, ip 2 2, ip 0 2], Pb p 1 := by
  intro p hp
  simp only [List.mem_cons, List.not_mem_nil, or_false] at hp
  rcases hp with rfl | rfl | rfl <;> exact ip_b
theorem ztxt4 : qtxt ((4 : Int) : Rat) = ⟨#[52]⟩ := by
  rw [qtxt_one]
  exact str_txt (s := ⟨#[52]⟩) ⟨by decide, by decide, by decide, by decide⟩
theorem ztxt2 : qtxt ((2 : Int) : Rat) = ⟨#[50]⟩ := by
  rw [qtxt_one]
  exact str_txt (s := ⟨#[50]⟩) ⟨by decide, by decide, by decide, by decide⟩
end Gv
namespace Go.Proofs.YtiapbgepinmleaaGreatDoor
open Go.RowKit Gs Gv
set_option linter.unusedVariables false
theorem l8_Fair {L : List RP} {n : Int} (hn : n ≤ 1000000) : Gv.Fn Tryz.prog 16 [rline L, .raw (.int .i64 n)] (.raw (.bool (decide ((L.length : Int) ≤ n) && L.all fun p => p.small 4))) := by
  refine Fn.intro mixed vc_law08_Fair rfl ?_
  refine ok_lenS (es := L.map RP.cs) rfl (L.length : Int) (by simp) ?_
  try simp only [nr]
  refine ok_leq rfl _ rfl ?_
  try simp only [nr]
  refine ok_ite rfl (fun h => ?_) (fun h => ?_)
  · have h' := of_decide_eq_true h
    refine ok_call (k_SmallLine (L := L) (n := 4) (by omega)) rfl rfl ?_
    try simp only [nr]
    refine ok_ret ?_ rfl
    rw [h, Bool.true_and]
    rfl
  · refine ok_ret ?_ rfl
    rw [h, Bool.false_and]
    rfl
set_option maxHeartbeats 4000000 in
theorem l8_wakes : Gv.Fn Tryz.prog 18 [] (.raw (.bool true)) := by
  have P : ∀ {x y : Int}, x.natAbs ≤ 9 → y.natAbs ≤ 9 → Gv.Fn Tryz.prog 77 [.raw (.int .i64 x), .raw (.int .i64 y)] (pc (ip x y)) := fun h1 h2 => l6_P (by omega) (by omega) (by omega) (by omega)
  have hL : IsL (plist sqr) sqr 1 := IsL.pl sqr_b
  have hL2 : IsL (plist [ip 0 0, ip 2 2, ip 0 2]) [ip 0 0, ip 2 2, ip 0 2] 1 := IsL.pl sqr2_b
  have cH := p_Half hL (IsP.pc (ip_b (x := 0) (y := 0))) (IsP.pc (ip_b (x := 2) (y := 2))) (by decide) (by decide)
  rw [sqr_half] at cH
  have cB := p_Box hL (by decide) (by decide)
  have eB : pbox sqr = .tup [pc (ip 0 0), pc (ip 2 2), .raw (.bool true)] := by
    unfold pbox
    rw [if_neg (by decide), sqr_len, sqr_lo, sqr_hi]
  rw [eB] at cB
  have cA := p_Area hL (by decide) (by decide)
  rw [sqr_area] at cA
  have cA2 := p_Area hL2 (by decide) (by decide)
  rw [sqr_area2] at cA2
  have cT := q_Text (IsQ.qc (Qb.int (z := 4) (k := 1) (zs_s (by decide)) (by decide))) (by decide)
  have cT2 := q_Text (IsQ.qc (Qb.int (z := 2) (k := 1) (zs_s (by decide)) (by decide))) (by decide)
  have e4 := ztxt4
  have e2 := ztxt2
  have cC := p_Convex hL (by decide) (by decide)
  rw [sqr_conv] at cC
  have cH1 := p_Has hL (IsP.pc (ip_b (x := 1) (y := 1))) (by decide) (by decide)
  rw [sqr_has1] at cH1
  have cH2 := p_Has hL (IsP.pc (ip_b (x := 3) (y := 1))) (by decide) (by decide)
  rw [sqr_has2] at cH2
  have cS0 := p_Same (IsP.pc (ip_b (x := 0) (y := 0))) (IsP.pc (ip_b (x := 0) (y := 0))) (by decide)
  have cS2 := p_Same (IsP.pc (ip_b (x := 2) (y := 2))) (IsP.pc (ip_b (x := 2) (y := 2))) (by decide)
  rw [decide_eq_true rfl] at cS0 cS2
  have P00 := P (x := 0) (y := 0) (by decide) (by decide)
  have P20 := P (x := 2) (y := 0) (by decide) (by decide)
  have P22 := P (x := 2) (y := 2) (by decide) (by decide)
  have P02 := P (x := 0) (y := 2) (by decide) (by decide)
  have P11 := P (x := 1) (y := 1) (by decide) (by decide)
  have P31 := P (x := 3) (y := 1) (by decide) (by decide)
  have eS : plist sqr = .sl [pcs (ip 0 0), pcs (ip 2 0), pcs (ip 2 2), pcs (ip 0 2)] := rfl
  have eS2 : plist [ip 0 0, ip 2 2, ip 0 2] = .sl [pcs (ip 0 0), pcs (ip 2 2), pcs (ip 0 2)] := rfl
  rw [eS] at cH cB cA cC cH1 cH2
  rw [eS2] at cH cA2
  clear hL hL2 eB eS eS2 P
  generalize ip 0 0 = p0 at *
  generalize ip 2 0 = p1 at *
  generalize ip 2 2 = p2 at *
  generalize ip 0 2 = p3 at *
  generalize ip 1 1 = p4 at *
  generalize ip 3 1 = p5 at *
  generalize ((4 : Int) : Rat) = q4 at *
  generalize ((2 : Int) : Rat) = q2 at *
  refine Fn.intro mixed vc_law08_wakes rfl ?_
  refine ok_call P00 rfl rfl ?_
  try simp only [nr]
  refine ok_call P20 rfl rfl ?_
  try simp only [nr]
  refine ok_call P22 rfl rfl ?_
  try simp only [nr]
  refine ok_call P02 rfl rfl ?_
  try simp only [nr]
  refine ok_mk (l := [pcs p0, pcs p1, pcs p2, pcs p3]) rfl ?_
  try simp only [nr]
  refine ok_call P00 rfl rfl ?_
  try simp only [nr]
  refine ok_call P22 rfl rfl ?_
  try simp only [nr]
  refine ok_call cH rfl rfl ?_
  try simp only [nr]
  refine ok_call cB rfl rfl ?_
  try simp only [nr]
  refine ok_call cA rfl rfl ?_
  try simp only [nr]
  refine ok_call cT rfl rfl ?_
  try simp only [nr]
  refine ok_seq rfl e4 ?_
  try simp only [nr]
  refine ok_true rfl ?_
  refine ok_call cC rfl rfl ?_
  try simp only [nr]
  refine ok_true rfl ?_
  refine ok_call cA2 rfl rfl ?_
  try simp only [nr]
  refine ok_call cT2 rfl rfl ?_
  try simp only [nr]
  refine ok_seq rfl e2 ?_
  try simp only [nr]
  refine ok_true rfl ?_
  refine ok_call P11 rfl rfl ?_
  try simp only [nr]
  refine ok_call cH1 rfl rfl ?_
  try simp only [nr]
  refine ok_true rfl ?_
  refine ok_call P31 rfl rfl ?_
  try simp only [nr]
  refine ok_call cH2 rfl rfl ?_
  try simp only [nr]
  refine ok_not rfl ?_
  try simp only [nr]
  refine ok_true rfl ?_
  refine ok_true rfl ?_
  refine ok_call P00 rfl rfl ?_
  try simp only [nr]
  refine ok_call cS0 rfl rfl ?_
  try simp only [nr]
  refine ok_true rfl ?_
  refine ok_call P22 rfl rfl ?_
  try simp only [nr]
  refine ok_call cS2 rfl rfl ?_
  try simp only [nr]
  exact ok_ret rfl rfl
end Go.Proofs.YtiapbgepinmleaaGreatDoor
namespace Gv
open Go Go.RowKit Gs
set_option linter.unusedVariables false
def qsum (h : Nat → Rat) : Nat → Rat
  | 0 => 0
  | n + 1 => qsum h n + h n
theorem qsum_congr {f g : Nat → Rat} : ∀ n, (∀ i, i < n → f i = g i) → qsum f n = qsum g n
  | 0, _ => rfl
  | n + 1, h => by
    show qsum f n + f n = qsum g n + g n
    rw [qsum_congr n fun i hi => h i (by omega), h n (by omega)]
theorem qsum_front {h : Nat → Rat} : ∀ n, qsum h (n + 1) = h 0 + qsum (fun i => h (i + 1)) n
  | 0 => by show (0 : Rat) + h 0 = h 0 + 0; grind
  | n + 1 => by
    show qsum h (n + 1) + h (n + 1) = h 0 + (qsum (fun i => h (i + 1)) n + h (n + 1))
    rw [qsum_front n]
    grind
theorem qsum_rev {h : Nat → Rat} : ∀ n, qsum (fun i => h (n - 1 - i)) n = qsum h n
  | 0 => rfl
  | n + 1 => by
    rw [qsum_front]
    show h (n + 1 - 1 - 0) + qsum (fun i => h (n + 1 - 1 - (i + 1))) n = qsum h n + h n
    rw [qsum_congr (f := fun i => h (n + 1 - 1 - (i + 1))) (g := fun i => h (n - 1 - i)) n fun i hi => by congr 1; omega, qsum_rev n]
    have : n + 1 - 1 - 0 = n := by omega
    rw [this]
    grind
theorem qsum_neg {h : Nat → Rat} : ∀ n, qsum (fun i => -h i) n = -qsum h n
  | 0 => by show (0 : Rat) = -0; grind
  | n + 1 => by
    show qsum (fun i => -h i) n + -h n = -(qsum h n + h n)
    rw [qsum_neg n]
    grind
theorem qsum_mul {h : Nat → Rat} {c : Rat} : ∀ n, qsum (fun i => h i * c) n = qsum h n * c
  | 0 => by show (0 : Rat) = 0 * c; grind
  | n + 1 => by
    show qsum (fun i => h i * c) n + h n * c = (qsum h n + h n) * c
    rw [qsum_mul n]
    grind
theorem qsum_tele {h f : Nat → Rat} : ∀ n, qsum (fun i => h i + (f (i + 1) - f i)) n = qsum h n + (f n - f 0)
  | 0 => by show (0 : Rat) = 0 + (f 0 - f 0); grind
  | n + 1 => by
    show qsum (fun i => h i + (f (i + 1) - f i)) n + (h n + (f (n + 1) - f n)) = qsum h n + h n + (f (n + 1) - f 0)
    rw [qsum_tele n]
    grind
theorem qsum_shift {h : Nat → Rat} {n : Nat} (hp : ∀ i, h (i + n) = h i) : ∀ k, qsum (fun i => h (i + k)) n = qsum h n
  | 0 => rfl
  | k + 1 => by
    rw [← qsum_shift hp k]
    have h1 : qsum (fun i => h (i + k)) (n + 1) = h (0 + k) + qsum (fun i => h (i + 1 + k)) n := qsum_front n
    have h2 : qsum (fun i => h (i + k)) (n + 1) = qsum (fun i => h (i + k)) n + h (n + k) := rfl
    have h3 : h (n + k) = h (0 + k) := by rw [Nat.add_comm n k, hp k, Nat.zero_add]
    have h4 : qsum (fun i => h (i + (k + 1))) n = qsum (fun i => h (i + 1 + k)) n := qsum_congr n fun i _ => by rw [Nat.add_assoc i 1 k, Nat.add_comm 1 k]
    rw [h4]
    grind
def pg (l : List Pt2) (i : Nat) : Pt2 := pa l (i % l.length)
theorem psum_qsum {l : List Pt2} : ∀ n, psum l n = qsum (fun j => pcross (pa l j) (pn l j)) n
  | 0 => rfl
  | n + 1 => by show psum l n + _ = qsum _ n + _; rw [psum_qsum n]
theorem psum_pg {l : List Pt2} : psum l l.length = qsum (fun j => pcross (pg l j) (pg l (j + 1))) l.length := by
  rw [psum_qsum]
  refine qsum_congr _ fun i hi => ?_
  show pcross (pa l i) (pa l ((i + 1) % l.length)) = pcross (pa l (i % l.length)) (pa l ((i + 1) % l.length))
  rw [Nat.mod_eq_of_lt hi]
theorem pg_n {l : List Pt2} (i : Nat) : pg l (i + l.length) = pg l i := by unfold pg; rw [Nat.add_mod_right]
theorem pg_lt {l : List Pt2} {i : Nat} (h : i < l.length) : pg l i = pa l i := by unfold pg; rw [Nat.mod_eq_of_lt h]
theorem pa_map {f : Pt2 → Pt2} {l : List Pt2} {i : Nat} (h : i < l.length) : pa (l.map f) i = f (pa l i) := pa_at (by rw [List.getElem?_map, at_pa h]; rfl)
theorem pg_map {f : Pt2 → Pt2} {l : List Pt2} (h : 0 < l.length) (i : Nat) : pg (l.map f) i = f (pg l i) := by
  unfold pg
  rw [List.length_map]
  exact pa_map (Nat.mod_lt _ h)
theorem psum_map {f : Pt2 → Pt2} {l : List Pt2} (h : 0 < l.length) : psum (l.map f) (l.map f).length = qsum (fun j => pcross (f (pg l j)) (f (pg l (j + 1)))) l.length := by
  rw [psum_pg, List.length_map]
  exact qsum_congr _ fun i _ => by rw [pg_map h, pg_map h]
theorem psum_move {l : List Pt2} (m : Pt2) (h : 0 < l.length) : psum (l.map (padd · m)) (l.map (padd · m)).length = psum l l.length := by
  rw [psum_map h, psum_pg]
  rw [qsum_congr (g := fun j => pcross (pg l j) (pg l (j + 1)) + (pcross m (pg l (j + 1)) - pcross m (pg l j))) _ fun i _ => by unfold pcross padd; grind]
  rw [qsum_tele (f := fun j => pcross m (pg l j))]
  have := pg_n (l := l) 0
  rw [Nat.zero_add] at this
  rw [this]
  grind
theorem psum_twice {l : List Pt2} (c : Rat) (h : 0 < l.length) : psum (l.map (pscale · c)) (l.map (pscale · c)).length = psum l l.length * (c * c) := by
  rw [psum_map h, psum_pg, ← qsum_mul]
  exact qsum_congr _ fun i _ => by unfold pcross pscale; grind
theorem psum_begun {l l' : List Pt2} {k : Nat} (hl : l'.length = l.length) (h : ∀ i, i < l.length → pa l' i = pg l (i + k)) (h0 : 0 < l.length) : psum l' l'.length = psum l l.length := by
  rw [psum_pg, psum_pg, hl]
  have hg : ∀ i, pg l' i = pg l (i + k) := fun i => by
    show pa l' (i % l'.length) = _
    rw [hl, h _ (Nat.mod_lt _ h0)]
    unfold pg
    rw [Nat.mod_add_mod]
  rw [qsum_congr (g := fun j => (fun i => pcross (pg l i) (pg l (i + 1))) (j + k)) _ fun i _ => by
    show pcross (pg l' i) (pg l' (i + 1)) = pcross (pg l (i + k)) (pg l (i + k + 1))
    rw [hg, hg, Nat.add_right_comm]]
  exact qsum_shift (h := fun i => pcross (pg l i) (pg l (i + 1))) (fun i => by
    show pcross (pg l (i + l.length)) (pg l (i + l.length + 1)) = _
    rw [pg_n, Nat.add_right_comm, pg_n]) k
theorem psum_turned {l l' : List Pt2} (hl : l'.length = l.length) (h : ∀ i, i < l.length → pa l' i = pa l (l.length - 1 - i)) (h0 : 0 < l.length) : psum l' l'.length = -psum l l.length := by
  rw [psum_pg, psum_pg, hl]
  obtain ⟨n, hn⟩ : ∃ n, l.length = n + 1 := ⟨l.length - 1, by omega⟩
  have hg : ∀ i, i < n + 1 → pg l' i = pg l (n - i) := fun i hi => by
    rw [pg_lt (by omega), h i (by omega), pg_lt (by omega)]
    congr 1
    omega
  have hg' : pg l' (n + 1) = pg l n := by
    have := pg_n (l := l') 0
    rw [hl, hn, Nat.zero_add] at this
    rw [this, hg 0 (by omega), Nat.sub_zero]
  have hz : pg l (n + 1) = pg l 0 := by
    have := pg_n (l := l) 0
    rw [hn, Nat.zero_add] at this
    exact this
  have hsw : ∀ p q : Pt2, pcross p q = -pcross q p := fun p q => by unfold pcross; grind
  rw [hn]
  show qsum (fun j => pcross (pg l' j) (pg l' (j + 1))) n + pcross (pg l' n) (pg l' (n + 1)) = -(qsum (fun j => pcross (pg l j) (pg l (j + 1))) n + pcross (pg l n) (pg l (n + 1)))
  rw [hg n (by omega), hg', Nat.sub_self, hz]
  rw [qsum_congr (g := fun j => -((fun i => pcross (pg l i) (pg l (i + 1))) (n - 1 - j))) _ fun i hi => by
    show pcross (pg l' i) (pg l' (i + 1)) = -pcross (pg l (n - 1 - i)) (pg l (n - 1 - i + 1))
    rw [hg i (by omega), hg (i + 1) (by omega), hsw]
    have e1 : n - (i + 1) = n - 1 - i := by omega
    have e2 : n - 1 - i + 1 = n - i := by omega
    rw [e1, e2]]
  rw [qsum_neg, qsum_rev (h := fun i => pcross (pg l i) (pg l (i + 1))), hsw (pg l 0)]
  grind
theorem sub_wrap {a b : Nat} (h : b ≤ a) (ha : a < 9223372036854775808) : IntKind.i64.wrap ((a : Int) - (b : Int)) = ((a - b : Nat) : Int) := by
  have : (a : Int) - (b : Int) = ((a - b : Nat) : Int) := by omega
  rw [this]
  exact wrap_nat (by omega)
theorem rot_get {α : Type} {L : List α} {k i : Nat} (hk : k < L.length) (hi : i < L.length) : (L.drop k ++ L.take k)[i]? = L[(i + k) % L.length]? := by
  by_cases h : i < L.length - k
  · rw [List.getElem?_append_left (by simp; omega), List.getElem?_drop, Nat.mod_eq_of_lt (by omega), Nat.add_comm]
  · rw [List.getElem?_append_right (by simp; omega), List.length_drop, List.getElem?_take_of_lt (by omega)]
    congr 1
    rw [show i + k = (i - (L.length - k)) + L.length by omega, Nat.add_mod_right, Nat.mod_eq_of_lt (by omega)]
end Gv
namespace Go.Proofs.YtiapbgepinmleaaGreatDoor
open Go.RowKit Gs Gv
set_option linter.unusedVariables false
set_option maxHeartbeats 1000000 in
theorem law_AreaMoves {L : List RP} {m : RP} {n : Int} (hL : ∀ p ∈ L, p.wf) (hm : m.wf) (hn : (Lit.int .u8 n).wf = true) : Gv.Fn Tryz.prog 7 [rline L, .agg m.cs, .raw (.int .u8 n)] (.raw (.bool true)) := by
  obtain ⟨n, rfl⟩ : ∃ n' : Nat, n = n' := ⟨n.toNat, by simp [Lit.wf, IntKind.min, IntKind.max, IntKind.signed, IntKind.bits] at hn; omega⟩
  have hn' : n < 256 := by simp [Lit.wf, IntKind.min, IntKind.max, IntKind.signed, IntKind.bits] at hn; omega
  refine Fn.intro mixed vc_law08_AreaMoves rfl ?_
  refine ok_call (l8_Fair (L := L) (n := 10) (by decide)) rfl rfl ?_
  try simp only [nr]
  refine ok_not rfl ?_
  try simp only [nr]
  refine ok_ite rfl (fun h0 => ?_) (fun h0 => ?_)
  · refine ok_call l8_wakes rfl rfl ?_
    try simp only [nr]
    exact ok_ret rfl rfl
  refine ok_mk (l := [m.cs]) rfl ?_
  try simp only [nr]
  refine ok_call (l6_Fair (L := [m]) (by show 1 < _; decide)) rfl rfl ?_
  try simp only [nr]
  refine ok_not rfl ?_
  try simp only [nr]
  refine ok_ite rfl (fun h1 => ?_) (fun h1 => ?_)
  · refine ok_call l8_wakes rfl rfl ?_
    try simp only [nr]
    exact ok_ret rfl rfl
  refine ok_lenS (es := L.map RP.cs) rfl (L.length : Int) (by simp) ?_
  try simp only [nr]
  refine ok_eq rfl (decide (L.length = 0)) (by rw [Bool.eq_iff_iff, beq_iff_eq, decide_eq_true_iff]; omega) ?_
  try simp only [nr]
  refine ok_ite rfl (fun h2 => ?_) (fun h2 => ?_)
  · refine ok_call l8_wakes rfl rfl ?_
    try simp only [nr]
    exact ok_ret rfl rfl
  rw [Bool.not_eq_false', Bool.and_eq_true, decide_eq_true_iff] at h0
  rw [Bool.not_eq_false', List.all_eq_true] at h1
  have hlen : L.length ≤ 10 := by omega
  have hl0 : 0 < L.length := by have := of_decide_eq_false h2; omega
  have hs := List.all_eq_true.1 h0.2
  have hm6 := RP.is hm (h1 m (by simp)) (k := 6) (by decide)
  have hl := IsL.of hL hs (by decide)
  have hlb := hl.b
  obtain ⟨k, hk⟩ : ∃ k, n % L.length = k := ⟨_, rfl⟩
  have hkl : k < L.length := by rw [← hk]; exact Nat.mod_lt _ hl0
  refine ok_cv rfl (n : Int) (wrap_nat (by omega)) ?_
  try simp only [nr]
  refine ok_lenS (es := L.map RP.cs) rfl (L.length : Int) (by simp) ?_
  try simp only [nr]
  refine ok_mod rfl (by omega) ?_
  try simp only [nr]
  rw [hk]
  refine ok_mk (l := []) rfl ?_
  try simp only [nr]
  refine ok_mk (l := []) rfl ?_
  try simp only [nr]
  refine ok_mk (l := []) rfl ?_
  try simp only [nr]
  refine ok_mk (l := []) rfl ?_
  try simp only [nr]
  have o2 := q_Of (a := 2) (b := 1) (by decide) (by decide) (by decide) (by decide)
  have o4 := q_Of (a := 4) (b := 1) (by decide) (by decide) (by decide) (by decide)
  rw [show qd 2 1 = ((2 : Int) : Rat) by decide +kernel] at o2
  rw [show qd 4 1 = ((4 : Int) : Rat) by decide +kernel] at o4
  have b2 : Qb ((2 : Int) : Rat) 1 := .int (zs_s (by decide)) (by decide)
  have b4 : Qb ((4 : Int) : Rat) 1 := .int (zs_s (by decide)) (by decide)
  have e4 : ((2 : Int) : Rat) * ((2 : Int) : Rat) = ((4 : Int) : Rat) := by decide +kernel
  have hml : (L.map RP.p).length = L.length := by simp
  have hml' : 0 < (L.map RP.p).length := by omega
  have hrev : ∀ r ∈ L.reverse, r ∈ L := fun r h => List.mem_reverse.1 h
  have hrot : ∀ r ∈ L.drop k ++ L.take k, r ∈ L := fun r h => by
    rcases List.mem_append.1 h with h | h
    · exact List.mem_of_mem_drop h
    · exact List.mem_of_mem_take h
  have m1 := psum_move (l := L.map RP.p) m.p hml'
  have m2 := psum_turned (l := L.map RP.p) (l' := L.reverse.map RP.p) (by simp) (fun i hi => by
    refine pa_at ?_
    rw [List.getElem?_map, List.getElem?_reverse (by omega), ← List.getElem?_map, hml]
    exact at_pa (by omega)) hml'
  have m3 := psum_twice (l := L.map RP.p) ((2 : Int) : Rat) hml'
  have m4 := psum_begun (l := L.map RP.p) (l' := (L.drop k ++ L.take k).map RP.p) (k := k) (by simp; omega) (fun i hi => by
    refine pa_at ?_
    rw [List.getElem?_map, rot_get hkl (by omega), ← List.getElem?_map]
    show _ = some (pa (L.map RP.p) ((i + k) % (L.map RP.p).length))
    rw [hml]
    exact at_pa (by rw [hml]; exact Nat.mod_lt _ hl0)) hml'
  have h2c : ((2 : Int) : Rat) = ((2 : Int) : Rat) := rfl
  generalize hc2 : ((2 : Int) : Rat) = c2 at *
  generalize ((4 : Int) : Rat) = c4 at *
  refine ok_for L.length (fun i us => us = [.raw (.int .i64 (i : Int)), .sl (((L.map RP.p).take i).map fun p => pcs (padd p m.p)), .sl ((L.reverse.take i).map RP.cs), .sl (((L.map RP.p).take i).map fun p => pcs (pscale p c2)), .sl (((L.drop k ++ L.take k).take i).map RP.cs)]) rfl (fun i us h => ⟨_, h⟩) ?_
  rintro i us D hi rfl hD
  try simp only [nr]
  refine ok_lenS (es := L.map RP.cs) rfl (L.length : Int) (by simp) ?_
  try simp only [nr]
  refine ok_lss rfl (decide (i < L.length)) (by simp) ?_
  try simp only [nr]
  refine ok_ite rfl (fun h3 => ?_) (fun h3 => ?_)
  · have hlt : i < L.length := of_decide_eq_true h3
    obtain ⟨r, hr⟩ : ∃ r, L[i]? = some r := ⟨L[i], List.getElem?_eq_getElem hlt⟩
    obtain ⟨r', hr'⟩ : ∃ r, L[L.length - 1 - i]? = some r := ⟨L[L.length - 1 - i], List.getElem?_eq_getElem (by omega)⟩
    have hlt2 : (i + k) % L.length < L.length := Nat.mod_lt _ hl0
    obtain ⟨r2, hr2⟩ : ∃ r, L[(i + k) % L.length]? = some r := ⟨L[(i + k) % L.length], List.getElem?_eq_getElem hlt2⟩
    have hP := RP.is (hL r (List.mem_of_getElem? hr)) (hs r (List.mem_of_getElem? hr)) (k := 4) (by decide)
    have hrp : (L.map RP.p)[i]? = some r.p := by rw [List.getElem?_map, hr]; rfl
    refine ok_idx (es := L.map RP.cs) (e := r.cs) rfl (by rw [List.getElem?_map, hr]; rfl) rfl ?_
    try simp only [nr]
    refine ok_ld (cs := r.cs) rfl rfl ?_
    try simp only [nr]
    refine ok_call (p_Add hP hm6 (by decide)) rfl rfl ?_
    try simp only [nr]
    refine ok_mk (l := [pcs (padd r.p m.p)]) rfl ?_
    try simp only [nr]
    refine ok_app rfl (by simp; omega) (by simp; omega) (fun x hx => by simp at hx; rw [hx]; rfl) ?_
    try simp only [nr]
    refine ok_lenS (es := L.map RP.cs) rfl (L.length : Int) (by simp) ?_
    try simp only [nr]
    refine ok_sub rfl ((L.length - 1 : Nat) : Int) (sub_wrap (b := 1) (by omega) (by omega)) ?_
    try simp only [nr]
    refine ok_sub rfl ((L.length - 1 - i : Nat) : Int) (sub_wrap (by omega) (by omega)) ?_
    try simp only [nr]
    refine ok_idx (es := L.map RP.cs) (e := r'.cs) rfl (by rw [List.getElem?_map, hr']; rfl) rfl ?_
    try simp only [nr]
    refine ok_ld (cs := r'.cs) rfl rfl ?_
    try simp only [nr]
    refine ok_mk (l := [r'.cs]) rfl ?_
    try simp only [nr]
    refine ok_app rfl (by simp; omega) (by simp; omega) (fun x hx => by simp at hx; rw [hx]; rfl) ?_
    try simp only [nr]
    refine ok_idx (es := L.map RP.cs) (e := r.cs) rfl (by rw [List.getElem?_map, hr]; rfl) rfl ?_
    try simp only [nr]
    refine ok_ld (cs := r.cs) rfl rfl ?_
    try simp only [nr]
    refine ok_call o2 rfl rfl ?_
    try simp only [nr]
    refine ok_call (p_Scale hP (IsQ.qc b2) (by decide)) rfl rfl ?_
    try simp only [nr]
    refine ok_mk (l := [pcs (pscale r.p c2)]) rfl ?_
    try simp only [nr]
    refine ok_app rfl (by simp; omega) (by simp; omega) (fun x hx => by simp at hx; rw [hx]; rfl) ?_
    try simp only [nr]
    refine ok_add rfl ((i + k : Nat) : Int) (wrap_nadd (by omega)) ?_
    try simp only [nr]
    refine ok_lenS (es := L.map RP.cs) rfl (L.length : Int) (by simp) ?_
    try simp only [nr]
    refine ok_mod rfl (by omega) ?_
    try simp only [nr]
    refine ok_idx (es := L.map RP.cs) (e := r2.cs) rfl (by rw [List.getElem?_map, hr2]; rfl) rfl ?_
    try simp only [nr]
    refine ok_ld (cs := r2.cs) rfl rfl ?_
    try simp only [nr]
    refine ok_mk (l := [r2.cs]) rfl ?_
    try simp only [nr]
    refine ok_app rfl (by simp; omega) (by simp; omega) (fun x hx => by simp at hx; rw [hx]; rfl) ?_
    try simp only [nr]
    refine ok_inc (n := i) rfl (by omega) ?_
    try simp only [nr]
    refine ok_again rfl (hD _ hlt ?_)
    have f1 : ((L.map RP.p).take i).map (fun p => pcs (padd p m.p)) ++ [pcs (padd r.p m.p)] = ((L.map RP.p).take (i + 1)).map (fun p => pcs (padd p m.p)) := map_take (f := fun p => pcs (padd p m.p)) hrp
    have f2 : (L.reverse.take i).map RP.cs ++ [r'.cs] = (L.reverse.take (i + 1)).map RP.cs := map_take (by rw [List.getElem?_reverse hlt]; exact hr')
    have f3 : ((L.map RP.p).take i).map (fun p => pcs (pscale p c2)) ++ [pcs (pscale r.p c2)] = ((L.map RP.p).take (i + 1)).map (fun p => pcs (pscale p c2)) := map_take (f := fun p => pcs (pscale p c2)) hrp
    have f4 : ((L.drop k ++ L.take k).take i).map RP.cs ++ [r2.cs] = ((L.drop k ++ L.take k).take (i + 1)).map RP.cs := map_take (by rw [rot_get hkl hlt]; exact hr2)
    rw [← f1, ← f2, ← f3, ← f4]
    rfl
  · have hge : i = L.length := by have := of_decide_eq_false h3; omega
    subst hge
    have t1 : ((L.map RP.p).take L.length).map (fun p => pcs (padd p m.p)) = ((L.map RP.p).map (padd · m.p)).map pcs := by rw [← hml, List.take_length, List.map_map (g := pcs)]; rfl
    have t2 : (L.reverse.take L.length).map RP.cs = L.reverse.map RP.cs := by rw [List.take_of_length_le (by simp)]
    have t3 : ((L.map RP.p).take L.length).map (fun p => pcs (pscale p c2)) = ((L.map RP.p).map (pscale · c2)).map pcs := by rw [← hml, List.take_length, List.map_map (g := pcs)]; rfl
    have t4 : ((L.drop k ++ L.take k).take L.length).map RP.cs = (L.drop k ++ L.take k).map RP.cs := by rw [List.take_of_length_le (by simp; omega)]
    rw [t1, t2, t3, t4]
    have hlm : (L.map RP.p).length ≤ 10 := by omega
    have bnd : ∀ {l : List Pt2} {k : Nat}, l.length ≤ 10 → k ≤ 20 → l.length * (4 * k + 2) + 4 * k + 10 ≤ 1000 := fun {l k} h1 h2 => by
      have : l.length * (4 * k + 2) ≤ 10 * 82 := Nat.mul_le_mul h1 (by omega)
      omega
    have bnd2 : ∀ {l : List Pt2} {k : Nat} {z : Rat}, l.length ≤ 10 → k ≤ 20 → Qb z (l.length * (4 * k + 2) + 2) → Qb z 1000 := fun {l k z} h1 h2 h3 => h3.more (by
      have : l.length * (4 * k + 2) ≤ 10 * 82 := Nat.mul_le_mul h1 (by omega)
      omega)
    have bm : ∀ p ∈ (L.map RP.p).map (padd · m.p), Pb p 11 := fun p hp => by
      obtain ⟨q, hq, rfl⟩ := List.mem_map.1 hp
      exact (hlb q hq).add hm6.b
    have bt : ∀ p ∈ (L.map RP.p).map (pscale · c2), Pb p 5 := fun p hp => by
      obtain ⟨q, hq, rfl⟩ := List.mem_map.1 hp
      exact (hlb q hq).scale b2
    have lr := IsL.of (L := L.reverse) (k := 4) (fun r h => hL r (hrev r h)) (fun r h => hs r (hrev r h)) (by decide)
    have lb := IsL.of (L := L.drop k ++ L.take k) (k := 4) (fun r h => hL r (hrot r h)) (fun r h => hs r (hrot r h)) (by decide)
    have l1 : ((L.map RP.p).map (padd · m.p)).length ≤ 10 := by simpa using hlen
    have l2 : (L.reverse.map RP.p).length ≤ 10 := by simpa using hlen
    have l3 : ((L.map RP.p).map (pscale · c2)).length ≤ 10 := by simpa using hlen
    have l4 : ((L.drop k ++ L.take k).map RP.p).length ≤ 10 := by simp; omega
    have a0 := p_Area hl (Nat.le_trans (bnd hlm (by decide)) (by decide)) (by omega)
    have a1 := p_Area (IsL.pl bm) (Nat.le_trans (bnd l1 (by decide)) (by decide)) (by omega)
    have a2 := p_Area lr (Nat.le_trans (bnd l2 (by decide)) (by decide)) (by omega)
    have a3 := p_Area (IsL.pl bt) (Nat.le_trans (bnd l3 (by decide)) (by decide)) (by omega)
    have a4 := p_Area lb (Nat.le_trans (bnd l4 (by decide)) (by decide)) (by omega)
    have q0 := bnd2 hlm (by decide) (Qb.parea hlb)
    have d1 : parea ((L.map RP.p).map (padd · m.p)) = parea (L.map RP.p) := by unfold parea; rw [m1]
    have d2 : parea (L.reverse.map RP.p) = -parea (L.map RP.p) := by unfold parea; rw [m2]; generalize (1 : Rat) / 2 = hf; grind
    have d3 : parea ((L.map RP.p).map (pscale · c2)) = parea (L.map RP.p) * c4 := by unfold parea; rw [m3, ← e4]; generalize (1 : Rat) / 2 = hf; grind
    have d4 : parea ((L.drop k ++ L.take k).map RP.p) = parea (L.map RP.p) := by unfold parea; rw [m4]
    rw [d1] at a1
    rw [d2] at a2
    rw [d3] at a3
    rw [d4] at a4
    clear m1 m2 m3 m4 d1 d2 d3 d4
    generalize parea (L.map RP.p) = ar at *
    have c1 := q_Cmp (IsQ.qc q0) (IsQ.qc q0) (by decide)
    have n1 := q_Neg (IsQ.qc q0) (by decide)
    have c2' := q_Cmp (IsQ.qc q0.neg) (IsQ.qc q0.neg) (by decide)
    have x1 := q_Mul (IsQ.qc q0) (IsQ.qc b4) (by decide)
    have c3 := q_Cmp (IsQ.qc (q0.mul b4)) (IsQ.qc (q0.mul b4)) (by decide)
    rw [qcmp_refl] at c1 c2' c3
    generalize -ar = na at *
    generalize ar * c4 = fa at *
    refine ok_call a0 rfl rfl ?_
    try simp only [nr]
    refine ok_call a1 rfl rfl ?_
    try simp only [nr]
    refine ok_call c1 rfl rfl ?_
    try simp only [nr]
    refine ok_eq rfl true rfl ?_
    try simp only [nr]
    refine ok_true rfl ?_
    refine ok_call a2 rfl rfl ?_
    try simp only [nr]
    refine ok_call n1 rfl rfl ?_
    try simp only [nr]
    refine ok_call c2' rfl rfl ?_
    try simp only [nr]
    refine ok_eq rfl true rfl ?_
    try simp only [nr]
    refine ok_true rfl ?_
    refine ok_call a3 rfl rfl ?_
    try simp only [nr]
    refine ok_call o4 rfl rfl ?_
    try simp only [nr]
    refine ok_call x1 rfl rfl ?_
    try simp only [nr]
    refine ok_call c3 rfl rfl ?_
    try simp only [nr]
    refine ok_eq rfl true rfl ?_
    try simp only [nr]
    refine ok_true rfl ?_
    refine ok_call a4 rfl rfl ?_
    try simp only [nr]
    refine ok_call c1 rfl rfl ?_
    try simp only [nr]
    refine ok_eq rfl true rfl ?_
    try simp only [nr]
    refine ok_true rfl ?_
    refine ok_call l8_wakes rfl rfl ?_
    try simp only [nr]
    exact ok_ret rfl rfl
end Go.Proofs.YtiapbgepinmleaaGreatDoor
