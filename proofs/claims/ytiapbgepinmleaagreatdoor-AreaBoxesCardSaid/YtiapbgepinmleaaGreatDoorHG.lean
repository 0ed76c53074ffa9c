import Derived.Test.YtiapbgepinmleaaGreatDoorHA
import Derived.Test.YtiapbgepinmleaaGreatDoorVP
namespace Gv
open Go Go.RowKit Gs
set_option linter.unusedVariables false
def ip (x y : Int) : Pt2 := ((x : Rat), (y : Rat))
def sqr : List Pt2 := [ip 0 0, ip 2 0, ip 2 2, ip 0 2]
theorem sqr_half : phalf sqr (ip 0 0) (ip 2 2) = [ip 0 0, ip 2 2, ip 0 2] := by decide +kernel
theorem sqr_len : sqr.length = 4 := rfl
theorem sqr_lo : plo sqr 4 = ip 0 0 := by decide +kernel
theorem sqr_hi : phi sqr 4 = ip 2 2 := by decide +kernel
theorem sqr_area : parea sqr = ((4 : Int) : Rat) := by decide +kernel
theorem sqr_area2 : parea [ip 0 0, ip 2 2, ip 0 2] = ((2 : Int) : Rat) := by decide +kernel
theorem sqr_conv : pconvex sqr = true := by decide +kernel
theorem sqr_has1 : phas sqr (ip 1 1) = true := by decide +kernel
theorem sqr_has2 : phas sqr (ip 3 1) = false := by decide +kernel
theorem ip_b {x y : Int} (h1 : x.natAbs ≤ 9 := by decide) (h2 : y.natAbs ≤ 9 := by decide) : Pb (ip x y) 1 := ⟨.int (zs_s (by omega)) (by decide), .int (zs_s (by omega)) (by decide)⟩
theorem sqr_b : ∀ p ∈ sqr, Pb p 1 := by
  intro p hp
  simp only [sqr, List.mem_cons, List.not_mem_nil, or_false] at hp
  rcases hp with rfl | rfl | rfl | rfl <;> exact ip_b
theorem sqr2_b : ∀ p ∈ [ip 0 0, ip 2 2, ip 0 2], Pb p 1 := by
  intro p hp
  simp only [List.mem_cons, List.not_mem_nil, or_false] at hp
  rcases hp with rfl | rfl | rfl <;> exact ip_b
theorem ztxt4 : qtxt ((4 : Int) : Rat) = ⟨#[52]⟩ := by
  rw [qtxt_one]
  exact str_txt (s := ⟨#[52]⟩) ⟨by decide, by decide, by decide, by decide⟩
theorem ztxt2 : qtxt ((2 : Int) : Rat) = ⟨#[50]⟩ := by
  rw [qtxt_one]
  exact str_txt (s := ⟨#[50]⟩) ⟨by decide, by decide, by decide, by decide⟩
end Gv
namespace Go.Proofs.YtiapbgepinmleaaGreatDoor
open Go.RowKit Gs Gv
set_option linter.unusedVariables false
theorem l8_Fair {L : List RP} {n : Int} (hn : n ≤ 1000000) : Gv.Fn Tryz.prog 16 [rline L, .raw (.int .i64 n)] (.raw (.bool (decide ((L.length : Int) ≤ n) && L.all fun p => p.small 4))) := by
  refine Fn.intro mixed vc_law08_Fair rfl ?_
  refine ok_lenS (es := L.map RP.cs) rfl (L.length : Int) (by simp) ?_
  try simp only [nr]
  refine ok_leq rfl _ rfl ?_
  try simp only [nr]
  refine ok_ite rfl (fun h => ?_) (fun h => ?_)
  · have h' := of_decide_eq_true h
    refine ok_call (k_SmallLine (L := L) (n := 4) (by omega)) rfl rfl ?_
    try simp only [nr]
    refine ok_ret ?_ rfl
    rw [h, Bool.true_and]
    rfl
  · refine ok_ret ?_ rfl
    rw [h, Bool.false_and]
    rfl
set_option maxHeartbeats 4000000 in
theorem l8_wakes : Gv.Fn Tryz.prog 18 [] (.raw (.bool true)) := by
  have P : ∀ {x y : Int}, x.natAbs ≤ 9 → y.natAbs ≤ 9 → Gv.Fn Tryz.prog 77 [.raw (.int .i64 x), .raw (.int .i64 y)] (pc (ip x y)) := fun h1 h2 => l6_P (by omega) (by omega) (by omega) (by omega)
  have hL : IsL (plist sqr) sqr 1 := IsL.pl sqr_b
  have hL2 : IsL (plist [ip 0 0, ip 2 2, ip 0 2]) [ip 0 0, ip 2 2, ip 0 2] 1 := IsL.pl sqr2_b
  have cH := p_Half hL (IsP.pc (ip_b (x := 0) (y := 0))) (IsP.pc (ip_b (x := 2) (y := 2))) (by decide) (by decide)
  rw [sqr_half] at cH
  have cB := p_Box hL (by decide) (by decide)
  have eB : pbox sqr = .tup [pc (ip 0 0), pc (ip 2 2), .raw (.bool true)] := by
    unfold pbox
    rw [if_neg (by decide), sqr_len, sqr_lo, sqr_hi]
  rw [eB] at cB
  have cA := p_Area hL (by decide) (by decide)
  rw [sqr_area] at cA
  have cA2 := p_Area hL2 (by decide) (by decide)
  rw [sqr_area2] at cA2
  have cT := q_Text (IsQ.qc (Qb.int (z := 4) (k := 1) (zs_s (by decide)) (by decide))) (by decide)
  have cT2 := q_Text (IsQ.qc (Qb.int (z := 2) (k := 1) (zs_s (by decide)) (by decide))) (by decide)
  have e4 := ztxt4
  have e2 := ztxt2
  have cC := p_Convex hL (by decide) (by decide)
  rw [sqr_conv] at cC
  have cH1 := p_Has hL (IsP.pc (ip_b (x := 1) (y := 1))) (by decide) (by decide)
  rw [sqr_has1] at cH1
  have cH2 := p_Has hL (IsP.pc (ip_b (x := 3) (y := 1))) (by decide) (by decide)
  rw [sqr_has2] at cH2
  have cS0 := p_Same (IsP.pc (ip_b (x := 0) (y := 0))) (IsP.pc (ip_b (x := 0) (y := 0))) (by decide)
  have cS2 := p_Same (IsP.pc (ip_b (x := 2) (y := 2))) (IsP.pc (ip_b (x := 2) (y := 2))) (by decide)
  rw [decide_eq_true rfl] at cS0 cS2
  have P00 := P (x := 0) (y := 0) (by decide) (by decide)
  have P20 := P (x := 2) (y := 0) (by decide) (by decide)
  have P22 := P (x := 2) (y := 2) (by decide) (by decide)
  have P02 := P (x := 0) (y := 2) (by decide) (by decide)
  have P11 := P (x := 1) (y := 1) (by decide) (by decide)
  have P31 := P (x := 3) (y := 1) (by decide) (by decide)
  have eS : plist sqr = .sl [pcs (ip 0 0), pcs (ip 2 0), pcs (ip 2 2), pcs (ip 0 2)] := rfl
  have eS2 : plist [ip 0 0, ip 2 2, ip 0 2] = .sl [pcs (ip 0 0), pcs (ip 2 2), pcs (ip 0 2)] := rfl
  rw [eS] at cH cB cA cC cH1 cH2
  rw [eS2] at cH cA2
  clear hL hL2 eB eS eS2 P
  generalize ip 0 0 = p0 at *
  generalize ip 2 0 = p1 at *
  generalize ip 2 2 = p2 at *
  generalize ip 0 2 = p3 at *
  generalize ip 1 1 = p4 at *
  generalize ip 3 1 = p5 at *
  generalize ((4 : Int) : Rat) = q4 at *
  generalize ((2 : Int) : Rat) = q2 at *
  refine Fn.intro mixed vc_law08_wakes rfl ?_
  refine ok_call P00 rfl rfl ?_
  try simp only [nr]
  refine ok_call P20 rfl rfl ?_
  try simp only [nr]
  refine ok_call P22 rfl rfl ?_
  try simp only [nr]
  refine ok_call P02 rfl rfl ?_
  try simp only [nr]
  refine ok_mk (l := [pcs p0, pcs p1, pcs p2, pcs p3]) rfl ?_
  try simp only [nr]
  refine ok_call P00 rfl rfl ?_
  try simp only [nr]
  refine ok_call P22 rfl rfl ?_
  try simp only [nr]
  refine ok_call cH rfl rfl ?_
  try simp only [nr]
  refine ok_call cB rfl rfl ?_
  try simp only [nr]
  refine ok_call cA rfl rfl ?_
  try simp only [nr]
  refine ok_call cT rfl rfl ?_
  try simp only [nr]
  refine ok_seq rfl e4 ?_
  try simp only [nr]
  refine ok_true rfl ?_
  refine ok_call cC rfl rfl ?_
  try simp only [nr]
  refine ok_true rfl ?_
  refine ok_call cA2 rfl rfl ?_
  try simp only [nr]
  refine ok_call cT2 rfl rfl ?_
  try simp only [nr]
  refine ok_seq rfl e2 ?_
  try simp only [nr]
  refine ok_true rfl ?_
  refine ok_call P11 rfl rfl ?_
  try simp only [nr]
  refine ok_call cH1 rfl rfl ?_
  try simp only [nr]
  refine ok_true rfl ?_
  refine ok_call P31 rfl rfl ?_
  try simp only [nr]
  refine ok_call cH2 rfl rfl ?_
  try simp only [nr]
  refine ok_not rfl ?_
  try simp only [nr]
  refine ok_true rfl ?_
  refine ok_true rfl ?_
  refine ok_call P00 rfl rfl ?_
  try simp only [nr]
  refine ok_call cS0 rfl rfl ?_
  try simp only [nr]
  refine ok_true rfl ?_
  refine ok_call P22 rfl rfl ?_
  try simp only [nr]
  refine ok_call cS2 rfl rfl ?_
  try simp only [nr]
  exact ok_ret rfl rfl
end Go.Proofs.YtiapbgepinmleaaGreatDoor
namespace Gv
open Go Go.RowKit Gs
set_option linter.unusedVariables false
def qsum (h : Nat → Rat) : Nat → Rat
  | 0 => 0
  | n + 1 => qsum h n + h n
theorem qsum_congr {f g : Nat → Rat} : ∀ n, (∀ i, i < n → f i = g i) → qsum f n = qsum g n
  | 0, _ => rfl
  | n + 1, h => by
    show qsum f n + f n = qsum g n + g n
    rw [qsum_congr n fun i hi => h i (by omega), h n (by omega)]
theorem qsum_mul {h : Nat → Rat} {c : Rat} : ∀ n, qsum (fun i => h i * c) n = qsum h n * c
  | 0 => by show (0 : Rat) = 0 * c; grind
  | n + 1 => by
    show qsum (fun i => h i * c) n + h n * c = (qsum h n + h n) * c
    rw [qsum_mul n]
    grind
theorem qsum_tele {h f : Nat → Rat} : ∀ n, qsum (fun i => h i + (f (i + 1) - f i)) n = qsum h n + (f n - f 0)
  | 0 => by show (0 : Rat) = 0 + (f 0 - f 0); grind
  | n + 1 => by
    show qsum (fun i => h i + (f (i + 1) - f i)) n + (h n + (f (n + 1) - f n)) = qsum h n + h n + (f (n + 1) - f 0)
    rw [qsum_tele n]
    grind
def pg (l : List Pt2) (i : Nat) : Pt2 := pa l (i % l.length)
theorem psum_qsum {l : List Pt2} : ∀ n, psum l n = qsum (fun j => pcross (pa l j) (pn l j)) n
  | 0 => rfl
  | n + 1 => by show psum l n + _ = qsum _ n + _; rw [psum_qsum n]
theorem psum_pg {l : List Pt2} : psum l l.length = qsum (fun j => pcross (pg l j) (pg l (j + 1))) l.length := by
  rw [psum_qsum]
  refine qsum_congr _ fun i hi => ?_
  show pcross (pa l i) (pa l ((i + 1) % l.length)) = pcross (pa l (i % l.length)) (pa l ((i + 1) % l.length))
  rw [Nat.mod_eq_of_lt hi]
theorem pg_n {l : List Pt2} (i : Nat) : pg l (i + l.length) = pg l i := by unfold pg; rw [Nat.add_mod_right]
theorem pg_lt {l : List Pt2} {i : Nat} (h : i < l.length) : pg l i = pa l i := by unfold pg; rw [Nat.mod_eq_of_lt h]
end Gv
namespace Go.Proofs.YtiapbgepinmleaaGreatDoor
open Go.RowKit Gs Gv
set_option linter.unusedVariables false
end Go.Proofs.YtiapbgepinmleaaGreatDoor
namespace Gv
open Go Go.RowKit Gs
set_option linter.unusedVariables false
theorem qz_mul {x y : Rat} (h : x * y = 0) (hx : x ≠ 0) : y = 0 := by
  rcases Rat.mul_eq_zero.1 h with h | h
  · exact absurd h hx
  · exact h
theorem qsum_nonneg {h : Nat → Rat} : ∀ n, (∀ i, i < n → 0 ≤ h i) → 0 ≤ qsum h n
  | 0, _ => by show (0 : Rat) ≤ 0; grind
  | n + 1, hh => by
    have h1 := qsum_nonneg n fun i hi => hh i (by omega)
    have h2 := hh n (by omega)
    show 0 ≤ qsum h n + h n
    grind
theorem qsum_pos {h : Nat → Rat} : ∀ n, (∀ i, i < n → 0 ≤ h i) → (∃ i, i < n ∧ 0 < h i) → 0 < qsum h n
  | 0, _, ⟨i, hi, _⟩ => by omega
  | n + 1, hh, ⟨i, hi, hp⟩ => by
    show 0 < qsum h n + h n
    have h2 := hh n (by omega)
    by_cases e : i = n
    · subst e
      have h1 := qsum_nonneg i fun j hj => hh j (by omega)
      grind
    · have h1 := qsum_pos n (fun j hj => hh j (by omega)) ⟨i, by omega, hp⟩
      grind
theorem qsum_le {f h : Nat → Rat} : ∀ n, (∀ i, i < n → f i ≤ h i) → qsum f n ≤ qsum h n
  | 0, _ => by show (0 : Rat) ≤ 0; grind
  | n + 1, hh => by
    have h1 := qsum_le n fun i hi => hh i (by omega)
    have h2 := hh n (by omega)
    show qsum f n + f n ≤ qsum h n + h n
    grind
structure Cvx (g : Nat → Pt2) (n : Nat) : Prop where
  pos : 3 ≤ n
  per : ∀ i, g (i + n) = g i
  or : ∀ i k, 0 ≤ porient (g i) (g (i + 1)) (g k)
  ne : ∀ i k, i < n → k < n → i ≠ k → g i ≠ g k
  ex : ∃ i, i < n ∧ ∃ k, k < n ∧ 0 < porient (g i) (g (i + 1)) (g k)
theorem cvx_of {l : List Pt2} (h : pconvex l = true) : Cvx (pg l) l.length := by
  obtain ⟨h3, hall, i, hi, k, hk, hp⟩ := pconvex_iff.1 h
  have hpn : ∀ i, i < l.length → pg l (i + 1) = pn l i := fun i hi => rfl
  refine ⟨h3, fun i => pg_n i, fun i k => ?_, fun i k hi hk hne => ?_, i, hi, k, hk, ?_⟩
  · have e : pg l (i + 1) = pn l (i % l.length) := by unfold pg pn; rw [Nat.mod_add_mod]
    rw [e]
    exact (hall _ (Nat.mod_lt _ (by omega)) _ (Nat.mod_lt _ (by omega))).2
  · rw [pg_lt hi, pg_lt hk]
    rcases (hall i hi k hk).1 with e | e
    · exact absurd e.symm hne
    · exact e
  · rw [hpn i hi, pg_lt hi, pg_lt hk]
    exact hp
theorem orient_sum {g : Nat → Pt2} {n : Nat} (hg : g n = g 0) (r : Pt2) : qsum (fun i => porient (g i) (g (i + 1)) r) n = qsum (fun i => pcross (g i) (g (i + 1))) n := by
  rw [qsum_congr (g := fun j => pcross (g j) (g (j + 1)) + (pcross (g (j + 1)) r - pcross (g j) r)) _ fun i _ => by unfold porient pcross psub; grind]
  rw [qsum_tele (f := fun j => pcross (g j) r), hg]
  grind
theorem Cvx.per0 {g : Nat → Pt2} {n : Nat} (C : Cvx g n) : g n = g 0 := by
  have := C.per 0
  rwa [Nat.zero_add] at this
theorem Cvx.sum_pos {g : Nat → Pt2} {n : Nat} (C : Cvx g n) : 0 < qsum (fun i => pcross (g i) (g (i + 1))) n := by
  obtain ⟨i, hi, k, hk, hp⟩ := C.ex
  rw [← orient_sum C.per0 (g k)]
  exact qsum_pos n (fun j _ => C.or j k) ⟨i, hi, hp⟩
theorem slopes {n : Nat} {a b : Nat → Rat} (hn : 0 < n) (ha : ∀ i, a (i + n) = a i) (hb : ∀ i, b (i + n) = b i) (hneg : ∀ i, a i < 0) (hc : ∀ i, 0 ≤ a i * b (i + 1) - b i * a (i + 1)) (i : Nat) : a i * b (i + 1) - b i * a (i + 1) = 0 := by
  have hnz : ∀ i, a i ≠ 0 := fun i e => by have := hneg i; grind
  have step : ∀ i, b i / a i ≤ b (i + 1) / a (i + 1) := fun i => by
    have h1 := hnz i
    have h2 := hnz (i + 1)
    have h3 : (b (i + 1) / a (i + 1) - b i / a i) * (a i * a (i + 1)) = a i * b (i + 1) - b i * a (i + 1) := by grind
    have h4 : 0 < a i * a (i + 1) := by
      have := Rat.mul_pos (show 0 < -a i by have := hneg i; grind) (show 0 < -a (i + 1) by have := hneg (i + 1); grind)
      grind
    by_cases h5 : b i / a i ≤ b (i + 1) / a (i + 1)
    · exact h5
    · have h6 := Rat.mul_pos (show 0 < b i / a i - b (i + 1) / a (i + 1) by grind) h4
      have := hc i
      grind
  have many : ∀ k i, b i / a i ≤ b (i + k) / a (i + k) := by
    intro k
    induction k with
    | zero => intro i; rw [Nat.add_zero]; grind
    | succ k ih => intro i; have h1 := ih i; have h2 := step (i + k); rw [← Nat.add_assoc]; grind
  have h1 := step i
  have h2 := many (n - 1) (i + 1)
  have e : i + 1 + (n - 1) = i + n := by omega
  rw [e, ha, hb] at h2
  have h3 : b i / a i = b (i + 1) / a (i + 1) := by grind
  have h4 := hnz i
  have h5 := hnz (i + 1)
  have h6 : (b (i + 1) / a (i + 1) - b i / a i) * (a i * a (i + 1)) = a i * b (i + 1) - b i * a (i + 1) := by grind
  rw [← h6, h3]
  grind
theorem Cvx.no_slopes {g : Nat → Pt2} {n : Nat} (C : Cvx g n) {p : Pt2} (hp : ∀ i, 0 ≤ porient (g i) (g (i + 1)) p) {a b : Pt2 → Rat} (hneg : ∀ i, a (g i) < 0) (he : ∀ u v : Pt2, porient u v p = a u * b v - b u * a v) : False := by
  have h := slopes (n := n) (a := fun i => a (g i)) (b := fun i => b (g i)) (by have := C.pos; omega) (fun i => by show a (g (i + n)) = _; rw [C.per]) (fun i => by show b (g (i + n)) = _; rw [C.per]) hneg (fun i => by rw [← he]; exact hp i)
  have h1 := C.sum_pos
  rw [← orient_sum C.per0 p, qsum_congr (g := fun _ => 0) n fun i _ => by rw [he]; exact h i] at h1
  have h2 : ∀ n, qsum (fun _ => 0) n = 0 := by
    intro n
    induction n with
    | zero => rfl
    | succ n ih => show qsum _ n + 0 = 0; rw [ih]; grind
  rw [h2] at h1
  grind
theorem Cvx.some_ge {g : Nat → Pt2} {n : Nat} (C : Cvx g n) {p : Pt2} (hp : ∀ i, 0 ≤ porient (g i) (g (i + 1)) p) : (∃ i, p.1 ≤ (g i).1) ∧ (∃ i, (g i).1 ≤ p.1) ∧ (∃ i, p.2 ≤ (g i).2) ∧ ∃ i, (g i).2 ≤ p.2 := by
  refine ⟨?_, ?_, ?_, ?_⟩
  · refine Classical.byContradiction fun hn => C.no_slopes hp (a := fun u => u.1 - p.1) (b := fun u => u.2 - p.2) (fun i => ?_) (fun u v => by unfold porient pcross psub; grind)
    have : ¬ p.1 ≤ (g i).1 := fun h => hn ⟨i, h⟩
    grind
  · refine Classical.byContradiction fun hn => C.no_slopes hp (a := fun u => p.1 - u.1) (b := fun u => p.2 - u.2) (fun i => ?_) (fun u v => by unfold porient pcross psub; grind)
    have : ¬ (g i).1 ≤ p.1 := fun h => hn ⟨i, h⟩
    grind
  · refine Classical.byContradiction fun hn => C.no_slopes hp (a := fun u => u.2 - p.2) (b := fun u => p.1 - u.1) (fun i => ?_) (fun u v => by unfold porient pcross psub; grind)
    have : ¬ p.2 ≤ (g i).2 := fun h => hn ⟨i, h⟩
    grind
  · refine Classical.byContradiction fun hn => C.no_slopes hp (a := fun u => p.2 - u.2) (b := fun u => u.1 - p.1) (fun i => ?_) (fun u v => by unfold porient pcross psub; grind)
    have : ¬ (g i).2 ≤ p.2 := fun h => hn ⟨i, h⟩
    grind
def cgt (x : Nat → Rat) (t : Rat) : Nat → Nat
  | 0 => 0
  | k + 1 => cgt x t k + if t < x k then 1 else 0
theorem cgt_mono {x : Nat → Rat} {t t' : Rat} (h : t < t') : ∀ n, cgt x t' n ≤ cgt x t n
  | 0 => Nat.le_refl _
  | n + 1 => by
    have := cgt_mono (x := x) h n
    simp only [cgt]
    by_cases h1 : t' < x n
    · rw [if_pos h1, if_pos (by grind)]; omega
    · rw [if_neg h1]; split <;> omega
theorem cgt_lt {x : Nat → Rat} {t : Rat} {i : Nat} (h : t < x i) : ∀ n, i < n → cgt x (x i) n < cgt x t n
  | 0, hi => by omega
  | n + 1, hi => by
    simp only [cgt]
    by_cases e : i = n
    · subst e
      have := cgt_mono (x := x) h i
      rw [if_pos h, if_neg (by grind)]
      omega
    · have := cgt_lt h n (by omega)
      by_cases h1 : x i < x n
      · rw [if_pos h1, if_pos (by grind)]; omega
      · rw [if_neg h1]; split <;> omega
theorem zero_of_sum {x y z : Rat} (hx : 0 ≤ x) (hy : 0 ≤ y) (hz : 0 ≤ z) (h : x + y = -z) : x = 0 ∧ y = 0 ∧ z = 0 := by
  refine ⟨by grind, by grind, by grind⟩
theorem zero2 {x y : Rat} (hx : 0 ≤ x) (hy : 0 ≤ y) (h : x + y = 0) : x = 0 := by grind
theorem Cvx.lap_step {g : Nat → Pt2} {n : Nat} (C : Cvx g n) {i i' j : Nat} (hi' : i' < n) (hs : g (i' + 1) = g i) (hne : g i' ≠ g i) (h1 : (g (i + 1)).1 < (g i).1) (h2 : (g (j + 1)).1 < (g j).1) (h3 : (g (j + 1)).1 < (g i).1)
    (h5 : (g i).1 < (g j).1) : (g i).1 < (g i').1 := by
  have o1 := C.or i j
  have o2 := C.or i (j + 1)
  have o3 := C.or j i
  have o5 := C.or i' j
  have o6 := C.or i' (j + 1)
  have ok1 : ∀ k, 0 ≤ porient (g i) (g (i + 1)) (g k) := fun k => C.or i k
  have ok2 : ∀ k, 0 ≤ porient (g i') (g i) (g k) := fun k => by have := C.or i' k; rwa [hs] at this
  rw [hs] at o5 o6
  obtain ⟨e0, he0, e1, he1, epos⟩ := C.ex
  generalize hA : g i = a at *
  generalize hB : g (i + 1) = b at *
  generalize hCC : g j = c at *
  generalize hDD : g (j + 1) = d at *
  generalize hPP : g i' = p at *
  have id1 : (a.1 - d.1) * porient a b c + (c.1 - a.1) * porient a b d = -((a.1 - b.1) * porient c d a) := by unfold porient pcross psub; grind
  obtain ⟨z1, z2, z3⟩ := zero_of_sum (Rat.mul_nonneg (by grind) o1) (Rat.mul_nonneg (by grind) o2) (Rat.mul_nonneg (by grind) o3) id1
  have y1 := qz_mul z1 (by grind)
  have y3 := qz_mul z3 (by grind)
  have id2 : (a.1 - d.1) * porient p a c + (c.1 - a.1) * porient p a d = (a.1 - p.1) * porient c d a := by unfold porient pcross psub; grind
  rw [y3] at id2
  have n5 := Rat.mul_nonneg (show 0 ≤ a.1 - d.1 by grind) o5
  have n6 := Rat.mul_nonneg (show 0 ≤ c.1 - a.1 by grind) o6
  rw [Rat.mul_zero] at id2
  have w1 := zero2 n5 n6 id2
  have y5 := qz_mul w1 (by grind)
  by_cases hlt : a.1 < p.1
  · exact hlt
  exfalso
  by_cases heq : p.1 = a.1
  · refine hne (Prod.ext heq ?_)
    have id3 : porient p a c = (p.2 - a.2) * (c.1 - a.1) := by unfold porient pcross psub; grind
    rw [y5] at id3
    have := qz_mul (x := c.1 - a.1) (y := p.2 - a.2) (by grind) (by grind)
    grind
  · have hlt' : p.1 < a.1 := by grind
    have id4 : (c.1 - a.1) * porient p a b = (b.1 - a.1) * porient p a c - (a.1 - p.1) * porient a b c := by unfold porient pcross psub; grind
    rw [y5, y1] at id4
    have y6 : porient p a b = 0 := qz_mul (x := c.1 - a.1) (by grind) (by grind)
    have all0 : ∀ k, porient a b (g k) = 0 := fun k => by
      have id5 : (b.1 - a.1) * porient p a (g k) - (a.1 - p.1) * porient a b (g k) = ((g k).1 - a.1) * porient p a b := by unfold porient pcross psub; grind
      rw [y6] at id5
      have q1 := Rat.mul_nonneg (show 0 ≤ a.1 - b.1 by grind) (ok2 k)
      have q2 := Rat.mul_nonneg (show 0 ≤ a.1 - p.1 by grind) (ok1 k)
      exact qz_mul (x := a.1 - p.1) (by grind) (by grind)
    have k0 := all0 e0
    have k1 := all0 (e0 + 1)
    have k2 := all0 e1
    generalize g e0 = u at *
    generalize g (e0 + 1) = v at *
    generalize g e1 = w at *
    have id6 : (b.1 - a.1) * porient u v w = (v.1 - u.1) * (porient a b w - porient a b u) - (w.1 - u.1) * (porient a b v - porient a b u) := by unfold porient pcross psub; grind
    rw [k0, k1, k2] at id6
    have := qz_mul (x := b.1 - a.1) (y := porient u v w) (by grind) (by grind)
    grind
theorem Cvx.no_lap {g : Nat → Pt2} {n : Nat} (C : Cvx g n) : ∀ m i j, i < n → j < n → i ≠ j → (g (i + 1)).1 < (g i).1 → (g (j + 1)).1 < (g j).1 → (g (j + 1)).1 < (g i).1 → (g (i + 1)).1 < (g j).1 → cgt (fun k => (g k).1) (g i).1 n + cgt (fun k => (g k).1) (g j).1 n ≤ m → False := by
  have hn := C.pos
  intro m
  induction m with
  | zero => 
    intro i j hi hj hne h1 h2 h3 h4 hm
    rcases (show (g i).1 < (g j).1 ∨ (g j).1 < (g i).1 ∨ (g i).1 = (g j).1 by grind) with h | h | h
    · have := cgt_lt (x := fun k => (g k).1) (t := (g i).1) (i := j) h n hj
      omega
    · have := cgt_lt (x := fun k => (g k).1) (t := (g j).1) (i := i) h n hi
      omega
    · have o1 := C.or i j
      have o3 := C.or j i
      refine C.ne i j hi hj hne (Prod.ext h ?_)
      have e1 : porient (g i) (g (i + 1)) (g j) = ((g (i + 1)).1 - (g i).1) * ((g j).2 - (g i).2) := by unfold porient pcross psub; grind
      have e2 : porient (g j) (g (j + 1)) (g i) = ((g (j + 1)).1 - (g j).1) * ((g i).2 - (g j).2) := by unfold porient pcross psub; grind
      rw [e1] at o1
      rw [e2] at o3
      rcases (show (g i).2 < (g j).2 ∨ (g j).2 < (g i).2 ∨ (g i).2 = (g j).2 by grind) with h' | h' | h'
      · have := Rat.mul_pos (show 0 < (g i).1 - (g (i + 1)).1 by grind) (show 0 < (g j).2 - (g i).2 by grind)
        grind
      · have := Rat.mul_pos (show 0 < (g j).1 - (g (j + 1)).1 by grind) (show 0 < (g i).2 - (g j).2 by grind)
        grind
      · exact h'
  | succ m ih =>
    have key : ∀ i j, i < n → j < n → i ≠ j → (g (i + 1)).1 < (g i).1 → (g (j + 1)).1 < (g j).1 → (g (j + 1)).1 < (g i).1 → (g i).1 < (g j).1 → cgt (fun k => (g k).1) (g i).1 n + cgt (fun k => (g k).1) (g j).1 n ≤ m + 1 → False := by
      intro i j hi hj hne h1 h2 h3 h5 hm
      obtain ⟨i', hi', hs, hii⟩ : ∃ i', i' < n ∧ g (i' + 1) = g i ∧ i' ≠ i := by
        by_cases h0 : i = 0
        · subst h0
          refine ⟨n - 1, by omega, ?_, by omega⟩
          rw [show n - 1 + 1 = 0 + n by omega, C.per]
        · exact ⟨i - 1, by omega, by rw [show i - 1 + 1 = i by omega], by omega⟩
      have h6 := C.lap_step hi' hs (C.ne _ _ hi' hi hii) h1 h2 h3 h5
      refine ih i' j hi' hj (fun e => ?_) (by rw [hs]; exact h6) h2 (by grind) (by rw [hs]; exact h5) ?_
      · subst e
        rw [hs] at h3
        grind
      · have := cgt_lt (x := fun k => (g k).1) (t := (g i).1) (i := i') h6 n hi'
        have e : (fun k => (g k).1) i' = (g i').1 := rfl
        omega
    intro i j hi hj hne h1 h2 h3 h4 hm
    rcases (show (g i).1 < (g j).1 ∨ (g j).1 < (g i).1 ∨ (g i).1 = (g j).1 by grind) with h | h | h
    · exact key i j hi hj hne h1 h2 h3 h hm
    · exact key j i hj hi (Ne.symm hne) h2 h1 h4 h (by omega)
    · have o1 := C.or i j
      have o3 := C.or j i
      refine C.ne i j hi hj hne (Prod.ext h ?_)
      have e1 : porient (g i) (g (i + 1)) (g j) = ((g (i + 1)).1 - (g i).1) * ((g j).2 - (g i).2) := by unfold porient pcross psub; grind
      have e2 : porient (g j) (g (j + 1)) (g i) = ((g (j + 1)).1 - (g j).1) * ((g i).2 - (g j).2) := by unfold porient pcross psub; grind
      rw [e1] at o1
      rw [e2] at o3
      rcases (show (g i).2 < (g j).2 ∨ (g j).2 < (g i).2 ∨ (g i).2 = (g j).2 by grind) with h' | h' | h'
      · have := Rat.mul_pos (show 0 < (g i).1 - (g (i + 1)).1 by grind) (show 0 < (g j).2 - (g i).2 by grind)
        grind
      · have := Rat.mul_pos (show 0 < (g j).1 - (g (j + 1)).1 by grind) (show 0 < (g i).2 - (g j).2 by grind)
        grind
      · exact h'
def lsum : List (Rat × Rat) → Rat
  | [] => 0
  | p :: t => (p.2 - p.1) + lsum t
theorem lsum_app : ∀ s t : List (Rat × Rat), lsum (s ++ t) = lsum s + lsum t
  | [], t => by show lsum t = 0 + lsum t; grind
  | p :: s, t => by show (p.2 - p.1) + lsum (s ++ t) = (p.2 - p.1) + lsum s + lsum t; rw [lsum_app s t]; grind
theorem lsum_split (f : Rat × Rat → Bool) : ∀ t : List (Rat × Rat), lsum t = lsum (t.filter f) + lsum (t.filter fun x => !f x)
  | [] => by show (0 : Rat) = 0 + 0; grind
  | p :: t => by
    have := lsum_split f t
    cases h : f p
    · rw [List.filter_cons_of_neg (by rw [h]; decide), List.filter_cons_of_pos (by rw [h]; rfl)]
      show (p.2 - p.1) + lsum t = lsum (t.filter f) + ((p.2 - p.1) + lsum (t.filter fun x => !f x))
      grind
    · rw [List.filter_cons_of_pos h, List.filter_cons_of_neg (by rw [h]; decide)]
      show (p.2 - p.1) + lsum t = (p.2 - p.1) + lsum (t.filter f) + lsum (t.filter fun x => !f x)
      grind
theorem lsum_le : ∀ m (t : List (Rat × Rat)) (A B : Rat), t.length ≤ m → A ≤ B → (∀ p ∈ t, A ≤ p.1 ∧ p.1 < p.2 ∧ p.2 ≤ B) → t.Pairwise (fun p q => p.2 ≤ q.1 ∨ q.2 ≤ p.1) → lsum t ≤ B - A := by
  intro m
  induction m with
  | zero =>
    intro t A B hm hAB _ _
    have : t = [] := List.eq_nil_of_length_eq_zero (by omega)
    subst this
    show (0 : Rat) ≤ B - A
    grind
  | succ m ih =>
    intro t A B hm hAB hin hpw
    match t with
    | [] => show (0 : Rat) ≤ B - A; grind
    | p :: t =>
      obtain ⟨hp, ht⟩ := List.pairwise_cons.1 hpw
      have hp0 := hin p (by simp)
      have l1 := ih (t.filter fun q => decide (q.2 ≤ p.1)) A p.1 (by have := List.length_filter_le (fun q : Rat × Rat => decide (q.2 ≤ p.1)) t; simp at hm; omega) hp0.1 (fun q hq => by
        obtain ⟨h1, h2⟩ := List.mem_filter.1 hq
        have := hin q (by simp [h1])
        exact ⟨this.1, this.2.1, of_decide_eq_true h2⟩) (ht.filter _)
      have l2 := ih (t.filter fun q => !decide (q.2 ≤ p.1)) p.2 B (by have := List.length_filter_le (fun q : Rat × Rat => !decide (q.2 ≤ p.1)) t; simp at hm; omega) hp0.2.2 (fun q hq => by
        obtain ⟨h1, h2⟩ := List.mem_filter.1 hq
        have h3 := hin q (by simp [h1])
        have h4 : ¬ q.2 ≤ p.1 := by simpa using h2
        rcases hp q h1 with h5 | h5
        · exact ⟨h5, h3.2.1, h3.2.2⟩
        · exact absurd h5 h4) (ht.filter _)
      have := lsum_split (fun q => decide (q.2 ≤ p.1)) t
      show (p.2 - p.1) + lsum t ≤ B - A
      grind
def wayL (x : Nat → Rat) (i : Nat) : Rat := if x (i + 1) < x i then x i - x (i + 1) else 0
theorem wayL_sum {x : Nat → Rat} : ∀ n, qsum (wayL x) n = lsum (((List.range n).filter fun i => decide (x (i + 1) < x i)).map fun i => (x (i + 1), x i))
  | 0 => rfl
  | n + 1 => by
    rw [List.range_succ, List.filter_append, List.map_append, lsum_app, ← wayL_sum n]
    show qsum (wayL x) n + wayL x n = _
    unfold wayL
    by_cases h : x (n + 1) < x n
    · rw [if_pos h, List.filter_cons_of_pos (by simpa using h)]
      show _ = _ + (x n - x (n + 1) + 0)
      grind
    · rw [if_neg h, List.filter_cons_of_neg (by simpa using h)]
      rfl
theorem Cvx.way_le {g : Nat → Pt2} {n : Nat} (C : Cvx g n) {A B : Rat} (hA : ∀ i, A ≤ (g i).1) (hB : ∀ i, (g i).1 ≤ B) : qsum (wayL fun i => (g i).1) n ≤ B - A := by
  rw [wayL_sum]
  refine lsum_le _ _ A B (Nat.le_refl _) (by have h1 := hA 0; have h2 := hB 0; grind) (fun p hp => ?_) ?_
  · obtain ⟨i, hi, rfl⟩ := List.mem_map.1 hp
    obtain ⟨_, h2⟩ := List.mem_filter.1 hi
    exact ⟨hA _, of_decide_eq_true h2, hB _⟩
  · rw [List.pairwise_map]
    refine List.Pairwise.imp_of_mem (R := fun a b => a < b) (fun {i j} hi hj hij => ?_) (List.Pairwise.filter _ List.pairwise_lt_range)
    obtain ⟨i1, i2⟩ := List.mem_filter.1 hi
    obtain ⟨j1, j2⟩ := List.mem_filter.1 hj
    have i2' : (g (i + 1)).1 < (g i).1 := of_decide_eq_true i2
    have j2' : (g (j + 1)).1 < (g j).1 := of_decide_eq_true j2
    show (g i).1 ≤ (g (j + 1)).1 ∨ (g j).1 ≤ (g (i + 1)).1
    by_cases h1 : (g i).1 ≤ (g (j + 1)).1
    · exact .inl h1
    · by_cases h2 : (g j).1 ≤ (g (i + 1)).1
      · exact .inr h2
      · exact (C.no_lap _ i j (List.mem_range.1 i1) (List.mem_range.1 j1) (by omega) i2' j2' (by grind) (by grind) (Nat.le_refl _)).elim
theorem Cvx.sum_le {g : Nat → Pt2} {n : Nat} (C : Cvx g n) {A B A' B' : Rat} (hA : ∀ i, A ≤ (g i).1) (hB : ∀ i, (g i).1 ≤ B) (hA' : ∀ i, A' ≤ (g i).2) (hB' : ∀ i, (g i).2 ≤ B') : qsum (fun i => pcross (g i) (g (i + 1))) n ≤ (B - A) * (B' - A') * 2 := by
  have h1 : qsum (fun i => pcross (g i) (g (i + 1))) n = qsum (fun i => ((g i).1 - (g (i + 1)).1) * ((g i).2 - A' + ((g (i + 1)).2 - A'))) n := by
    have := qsum_tele (h := fun i => pcross (g i) (g (i + 1))) (f := fun i => -((g i).1 * ((g i).2 - A' - A'))) n
    rw [C.per0] at this
    have e : qsum (fun i => ((g i).1 - (g (i + 1)).1) * ((g i).2 - A' + ((g (i + 1)).2 - A'))) n = qsum (fun i => pcross (g i) (g (i + 1)) + (-((g (i + 1)).1 * ((g (i + 1)).2 - A' - A')) - -((g i).1 * ((g i).2 - A' - A')))) n := qsum_congr n fun i _ => by unfold pcross; grind
    rw [e, this]
    grind
  rw [h1]
  have h2 : qsum (fun i => ((g i).1 - (g (i + 1)).1) * ((g i).2 - A' + ((g (i + 1)).2 - A'))) n ≤ qsum (fun i => wayL (fun i => (g i).1) i * ((B' - A') * 2)) n := qsum_le n fun i _ => by
    have a1 := hA' i
    have a2 := hA' (i + 1)
    have a3 := hB' i
    have a4 := hB' (i + 1)
    unfold wayL
    by_cases h : (g (i + 1)).1 < (g i).1
    · rw [if_pos h]
      have := Rat.mul_nonneg (show 0 ≤ (g i).1 - (g (i + 1)).1 by grind) (show 0 ≤ (B' - A') * 2 - ((g i).2 - A' + ((g (i + 1)).2 - A')) by grind)
      grind
    · rw [if_neg h]
      have := Rat.mul_nonneg (show 0 ≤ (g (i + 1)).1 - (g i).1 by grind) (show 0 ≤ (g i).2 - A' + ((g (i + 1)).2 - A') by grind)
      grind
  rw [qsum_mul] at h2
  have h3 := C.way_le hA hB
  have h4 := Rat.mul_nonneg (show 0 ≤ (B - A) - qsum (wayL fun i => (g i).1) n by grind) (show 0 ≤ (B' - A') * 2 by have a1 := hA' 0; have a2 := hB' 0; grind)
  grind
end Gv
namespace Gv
open Go Go.RowKit Gs
set_option linter.unusedVariables false
theorem geq_le {a b : Rat} : decide (qcmp a b ≥ 0) = decide (b ≤ a) := by
  have := lss_lt (a := a) (b := b)
  rw [Bool.eq_iff_iff, decide_eq_true_iff, decide_eq_true_iff] at this ⊢
  constructor
  · intro h
    have h1 : ¬ a < b := fun h2 => by have := this.2 h2; omega
    grind
  · intro h
    have h1 : ¬ qcmp a b < 0 := fun h2 => by have := this.1 h2; grind
    omega
theorem leq_le {a b : Rat} : decide (qcmp a b ≤ 0) = decide (a ≤ b) := by rw [Bool.eq_iff_iff, decide_eq_true_iff, decide_eq_true_iff, qcmp_le]
theorem qmin_le (a b : Rat) : qmin a b ≤ a ∧ qmin a b ≤ b := by unfold qmin; split <;> constructor <;> grind
theorem qmax_ge (a b : Rat) : a ≤ qmax a b ∧ b ≤ qmax a b := by unfold qmax; split <;> constructor <;> grind
theorem plo_le {l : List Pt2} : ∀ i j, j < i → (plo l i).1 ≤ (pa l j).1 ∧ (plo l i).2 ≤ (pa l j).2
  | 0, j, h => by omega
  | i + 1, j, h => by
    have h1 := qmin_le (plo l i).1 (pa l i).1
    have h2 := qmin_le (plo l i).2 (pa l i).2
    show qmin (plo l i).1 (pa l i).1 ≤ _ ∧ qmin (plo l i).2 (pa l i).2 ≤ _
    by_cases e : j = i
    · subst e; exact ⟨h1.2, h2.2⟩
    · have := plo_le (l := l) i j (by omega)
      exact ⟨by grind, by grind⟩
theorem phi_ge {l : List Pt2} : ∀ i j, j < i → (pa l j).1 ≤ (phi l i).1 ∧ (pa l j).2 ≤ (phi l i).2
  | 0, j, h => by omega
  | i + 1, j, h => by
    have h1 := qmax_ge (phi l i).1 (pa l i).1
    have h2 := qmax_ge (phi l i).2 (pa l i).2
    show _ ≤ qmax (phi l i).1 (pa l i).1 ∧ _ ≤ qmax (phi l i).2 (pa l i).2
    by_cases e : j = i
    · subst e; exact ⟨h1.2, h2.2⟩
    · have := phi_ge (l := l) i j (by omega)
      exact ⟨by grind, by grind⟩
theorem phas_iff {l : List Pt2} {p : Pt2} : phas l p = true ↔ (∀ i, i < l.length → 0 ≤ porient (pa l i) (pn l i) p) ∧ 3 ≤ l.length := by
  unfold phas
  simp only [Bool.and_eq_true, List.all_eq_true, List.mem_range, decide_eq_true_eq]
theorem parea_half {l : List Pt2} : parea l + parea l = psum l l.length := by
  unfold parea
  have : (1 : Rat) / 2 + 1 / 2 = 1 := by decide +kernel
  generalize (1 : Rat) / 2 = hf at *
  have e : psum l l.length * hf + psum l l.length * hf = psum l l.length * (hf + hf) := by grind
  rw [e, this]
  grind
theorem box_law {l : List Pt2} (h : pconvex l = true) : 0 < parea l ∧ parea l ≤ ((phi l l.length).1 - (plo l l.length).1) * ((phi l l.length).2 - (plo l l.length).2) ∧
    ∀ p, phas l p = true → (plo l l.length).1 ≤ p.1 ∧ p.1 ≤ (phi l l.length).1 ∧ (plo l l.length).2 ≤ p.2 ∧ p.2 ≤ (phi l l.length).2 := by
  have C := cvx_of h
  have h3 := C.pos
  have hlo := fun i => plo_le (l := l) l.length (i % l.length) (Nat.mod_lt _ (by omega))
  have hhi := fun i => phi_ge (l := l) l.length (i % l.length) (Nat.mod_lt _ (by omega))
  have hA := parea_half (l := l)
  have hs := psum_pg (l := l)
  have h1 := C.sum_pos
  have h2 := C.sum_le (A := (plo l l.length).1) (B := (phi l l.length).1) (A' := (plo l l.length).2) (B' := (phi l l.length).2) (fun i => (hlo i).1) (fun i => (hhi i).1) (fun i => (hlo i).2) (fun i => (hhi i).2)
  rw [← hs] at h1 h2
  refine ⟨by grind, by grind, fun p hp => ?_⟩
  obtain ⟨hp1, _⟩ := phas_iff.1 hp
  obtain ⟨⟨i1, e1⟩, ⟨i2, e2⟩, ⟨i3, e3⟩, ⟨i4, e4⟩⟩ := C.some_ge (p := p) (fun i => by
    have e : pg l (i + 1) = pn l (i % l.length) := by unfold pg pn; rw [Nat.mod_add_mod]
    rw [e]
    exact hp1 _ (Nat.mod_lt _ (by omega)))
  have a1 := (hhi i1).1
  have a2 := (hlo i2).1
  have a3 := (hhi i3).2
  have a4 := (hlo i4).2
  unfold pg at e1 e2 e3 e4
  exact ⟨by grind, by grind, by grind, by grind⟩
end Gv
namespace Go.Proofs.YtiapbgepinmleaaGreatDoor
open Go.RowKit Gs Gv
set_option linter.unusedVariables false
set_option maxHeartbeats 1000000 in
theorem law_AreaBoxes {L : List RP} {p : RP} (hL : ∀ p ∈ L, p.wf) (hp : p.wf) : Gv.Fn Tryz.prog 6 [rline L, .agg p.cs] (.raw (.bool true)) := by
  refine Fn.intro mixed vc_law08_AreaBoxes rfl ?_
  refine ok_call (l8_Fair (L := L) (n := 10) (by decide)) rfl rfl ?_
  try simp only [nr]
  refine ok_not rfl ?_
  try simp only [nr]
  refine ok_ite rfl (fun h0 => ?_) (fun h0 => ?_)
  · refine ok_call l8_wakes rfl rfl ?_
    try simp only [nr]
    exact ok_ret rfl rfl
  refine ok_mk (l := [p.cs]) rfl ?_
  try simp only [nr]
  refine ok_call (l6_Fair (L := [p]) (by show 1 < _; decide)) rfl rfl ?_
  try simp only [nr]
  refine ok_not rfl ?_
  try simp only [nr]
  refine ok_ite rfl (fun h1 => ?_) (fun h1 => ?_)
  · refine ok_call l8_wakes rfl rfl ?_
    try simp only [nr]
    exact ok_ret rfl rfl
  rw [Bool.not_eq_false', Bool.and_eq_true, decide_eq_true_iff] at h0
  rw [Bool.not_eq_false', List.all_eq_true] at h1
  have hlen : L.length ≤ 10 := by omega
  have hs := List.all_eq_true.1 h0.2
  have hp6 := RP.is hp (h1 p (by simp)) (k := 6) (by decide)
  have hl := IsL.of hL hs (by decide)
  have hlb := hl.b
  have hml : (L.map RP.p).length = L.length := by simp
  have cC := p_Convex hl (by decide) (by omega)
  refine ok_call cC rfl rfl ?_
  try simp only [nr]
  refine ok_not rfl ?_
  try simp only [nr]
  refine ok_ite rfl (fun h2 => ?_) (fun h2 => ?_)
  · refine ok_call l8_wakes rfl rfl ?_
    try simp only [nr]
    exact ok_ret rfl rfl
  rw [Bool.not_eq_false'] at h2
  have h3n : 3 ≤ (L.map RP.p).length := (pconvex_iff.1 h2).1
  have hvx := (pconvex_iff.1 h2).2.1
  obtain ⟨xA, xW, xH⟩ := box_law h2
  have cI : ∀ i, i < L.length → ∃ r : RP, (L.map RP.cs)[i]? = some r.cs ∧ Gv.Fn Tryz.prog 29 [rline L, .agg r.cs] (.raw (.bool true)) := fun i hi => by
    obtain ⟨r, hr⟩ : ∃ r, L[i]? = some r := ⟨L[i], List.getElem?_eq_getElem hi⟩
    have hP := RP.is (hL r (List.mem_of_getElem? hr)) (hs r (List.mem_of_getElem? hr)) (k := 4) (by decide)
    refine ⟨r, by rw [List.getElem?_map, hr]; rfl, ?_⟩
    have := p_Has hl hP (by decide) (by omega)
    have e : pa (L.map RP.p) i = r.p := pa_at (by rw [List.getElem?_map, hr]; rfl)
    have e2 : phas (L.map RP.p) r.p = true := by
      unfold phas
      rw [Bool.and_eq_true, decide_eq_true_iff, List.all_eq_true]
      refine ⟨fun j hj => ?_, h3n⟩
      rw [decide_eq_true_iff, ← e]
      exact (hvx j (List.mem_range.1 hj) i (by omega)).2
    rwa [e2] at this
  have cB := p_Box hl (by decide) (by omega)
  have eB : pbox (L.map RP.p) = .tup [pc (plo (L.map RP.p) (L.map RP.p).length), pc (phi (L.map RP.p) (L.map RP.p).length), .raw (.bool true)] := if_neg (by omega)
  rw [eB] at cB
  have blo := Pb.lo hlb (by omega) _ (Nat.le_refl _)
  have bhi := Pb.hi hlb (by omega) _ (Nat.le_refl _)
  have hmul : (L.map RP.p).length * (4 * 4 + 2) ≤ 10 * 18 := Nat.mul_le_mul (by omega) (Nat.le_refl _)
  have cA := p_Area hl (Nat.le_trans (Nat.add_le_add_right (Nat.add_le_add_right hmul _) _) (by decide)) (by omega)
  have bA : Qb (parea (L.map RP.p)) 200 := (Qb.parea hlb).more (Nat.le_trans (Nat.add_le_add_right hmul _) (by decide))
  have cP := p_Has (hl.more (show 4 ≤ 6 by decide)) hp6 (by decide) (by omega)
  have hin : phas (L.map RP.p) p.p = true → _ := fun h => xH p.p h
  clear hmul eB hvx
  generalize plo (L.map RP.p) (L.map RP.p).length = lo at *
  generalize phi (L.map RP.p) (L.map RP.p).length = hi' at *
  generalize parea (L.map RP.p) = ar at *
  generalize phas (L.map RP.p) p.p = ha at *
  have d1 := q_Sub (IsQ.qc bhi.x) (IsQ.qc blo.x) (by decide)
  have d2 := q_Sub (IsQ.qc bhi.y) (IsQ.qc blo.y) (by decide)
  have b1 := bhi.x.sub blo.x
  have b2 := bhi.y.sub blo.y
  have d3 := q_Mul (IsQ.qc b1) (IsQ.qc b2) (by decide)
  have b3 := b1.mul b2
  have cW := q_Cmp (IsQ.qc bA) (IsQ.qc b3) (by decide)
  have eW : decide (qcmp ar ((hi'.1 - lo.1) * (hi'.2 - lo.2)) ≤ 0) = true := by rw [decide_eq_true_iff, qcmp_le]; exact xW
  have cS := q_Sign (IsQ.qc bA) (by decide)
  have eS : decide (ar.num.sign > 0) = true := by rw [sign_gt0]; exact decide_eq_true xA
  generalize (hi'.1 - lo.1) * (hi'.2 - lo.2) = wh at *
  generalize hi'.1 - lo.1 = w1 at *
  generalize hi'.2 - lo.2 = w2 at *
  have pb := hp6.b
  have i1 := hp6
  obtain ⟨p0, p1, p2, p3, p4, p5, epc, j1, j2⟩ := i1
  injection epc with epc
  have f1 := q_Cmp j1 (IsQ.qc blo.x) (by decide)
  have f2 := q_Cmp j1 (IsQ.qc bhi.x) (by decide)
  have f3 := q_Cmp j2 (IsQ.qc blo.y) (by decide)
  have f4 := q_Cmp j2 (IsQ.qc bhi.y) (by decide)
  rw [epc] at cP
  rw [epc]
  refine ok_call cB rfl rfl ?_
  try simp only [nr]
  refine ok_not rfl ?_
  try simp only [nr]
  refine ok_false rfl ?_
  refine ok_call d1 rfl rfl ?_
  try simp only [nr]
  refine ok_call d2 rfl rfl ?_
  try simp only [nr]
  refine ok_call d3 rfl rfl ?_
  try simp only [nr]
  refine ok_call f1 rfl rfl ?_
  try simp only [nr]
  refine ok_geq rfl (decide (lo.1 ≤ p.p.1)) geq_le ?_
  try simp only [nr]
  refine ok_ite rfl (fun g1 => ?_) (fun g1 => ?_)
  · refine ok_call f2 rfl rfl ?_
    try simp only [nr]
    refine ok_leq rfl (decide (p.p.1 ≤ hi'.1)) leq_le ?_
    try simp only [nr]
    refine ok_ite rfl (fun g2 => ?_) (fun g2 => ?_)
    · refine ok_call f3 rfl rfl ?_
      try simp only [nr]
      refine ok_geq rfl (decide (lo.2 ≤ p.p.2)) geq_le ?_
      try simp only [nr]
      refine ok_ite rfl (fun g3 => ?_) (fun g3 => ?_)
      · refine ok_call f4 rfl rfl ?_
        try simp only [nr]
        refine ok_leq rfl (decide (p.p.2 ≤ hi'.2)) leq_le ?_
        try simp only [nr]
        refine ok_for L.length (fun i us => us = [.raw (.int .i64 (i : Int))]) rfl (fun i us h => ⟨_, h⟩) ?_
        rintro i us D hi rfl hD
        try simp only [nr]
        refine ok_lenS (es := L.map RP.cs) rfl (L.length : Int) (by simp) ?_
        try simp only [nr]
        refine ok_lss rfl (decide (i < L.length)) (by simp) ?_
        try simp only [nr]
        refine ok_ite rfl (fun h3 => ?_) (fun h3 => ?_)
        · have hlt : i < L.length := of_decide_eq_true h3
          obtain ⟨r, hr, hc⟩ := cI i hlt
          refine ok_idx (es := L.map RP.cs) (e := r.cs) rfl hr rfl ?_
          try simp only [nr]
          refine ok_ld (cs := r.cs) rfl rfl ?_
          try simp only [nr]
          refine ok_call hc rfl rfl ?_
          try simp only [nr]
          refine ok_not rfl ?_
          try simp only [nr]
          refine ok_false rfl ?_
          refine ok_inc (n := i) rfl (by omega) ?_
          try simp only [nr]
          exact ok_again rfl (hD _ hlt rfl)
        · refine ok_call cA rfl rfl ?_
          try simp only [nr]
          refine ok_call cW rfl rfl ?_
          try simp only [nr]
          refine ok_leq rfl true eW ?_
          try simp only [nr]
          refine ok_true rfl ?_
          refine ok_call cA rfl rfl ?_
          try simp only [nr]
          refine ok_call cS rfl rfl ?_
          try simp only [nr]
          refine ok_gtr rfl true eS ?_
          try simp only [nr]
          refine ok_true rfl ?_
          refine ok_call cP rfl rfl ?_
          try simp only [nr]
          refine ok_not rfl ?_
          try simp only [nr]
          refine ok_ite rfl (fun e => ?_) (fun e => ?_)
          · refine ok_call l8_wakes rfl rfl ?_
            try simp only [nr]
            exact ok_ret rfl rfl
          · have e' : ha = true := by simpa using e
            refine ok_ite rfl (fun e2 => ?_) (fun e2 => ?_)
            · refine ok_call l8_wakes rfl rfl ?_
              try simp only [nr]
              exact ok_ret rfl rfl
            · exact absurd (hin e').2.2.2 (of_decide_eq_false e2)
      · have eP : ha = false := by
          cases hx : ha
          · rfl
          · exact absurd (hin hx).2.2.1 (of_decide_eq_false g3)
        refine ok_for L.length (fun i us => us = [.raw (.int .i64 (i : Int))]) rfl (fun i us h => ⟨_, h⟩) ?_
        rintro i us D hi rfl hD
        try simp only [nr]
        refine ok_lenS (es := L.map RP.cs) rfl (L.length : Int) (by simp) ?_
        try simp only [nr]
        refine ok_lss rfl (decide (i < L.length)) (by simp) ?_
        try simp only [nr]
        refine ok_ite rfl (fun h3 => ?_) (fun h3 => ?_)
        · have hlt : i < L.length := of_decide_eq_true h3
          obtain ⟨r, hr, hc⟩ := cI i hlt
          refine ok_idx (es := L.map RP.cs) (e := r.cs) rfl hr rfl ?_
          try simp only [nr]
          refine ok_ld (cs := r.cs) rfl rfl ?_
          try simp only [nr]
          refine ok_call hc rfl rfl ?_
          try simp only [nr]
          refine ok_not rfl ?_
          try simp only [nr]
          refine ok_false rfl ?_
          refine ok_inc (n := i) rfl (by omega) ?_
          try simp only [nr]
          exact ok_again rfl (hD _ hlt rfl)
        · refine ok_call cA rfl rfl ?_
          try simp only [nr]
          refine ok_call cW rfl rfl ?_
          try simp only [nr]
          refine ok_leq rfl true eW ?_
          try simp only [nr]
          refine ok_true rfl ?_
          refine ok_call cA rfl rfl ?_
          try simp only [nr]
          refine ok_call cS rfl rfl ?_
          try simp only [nr]
          refine ok_gtr rfl true eS ?_
          try simp only [nr]
          refine ok_true rfl ?_
          refine ok_call cP rfl rfl ?_
          try simp only [nr]
          refine ok_not rfl ?_
          try simp only [nr]
          rw [eP]
          refine ok_true rfl ?_
          refine ok_call l8_wakes rfl rfl ?_
          try simp only [nr]
          exact ok_ret rfl rfl
    · have eP : ha = false := by
        cases hx : ha
        · rfl
        · exact absurd (hin hx).2.1 (of_decide_eq_false g2)
      refine ok_for L.length (fun i us => us = [.raw (.int .i64 (i : Int))]) rfl (fun i us h => ⟨_, h⟩) ?_
      rintro i us D hi rfl hD
      try simp only [nr]
      refine ok_lenS (es := L.map RP.cs) rfl (L.length : Int) (by simp) ?_
      try simp only [nr]
      refine ok_lss rfl (decide (i < L.length)) (by simp) ?_
      try simp only [nr]
      refine ok_ite rfl (fun h3 => ?_) (fun h3 => ?_)
      · have hlt : i < L.length := of_decide_eq_true h3
        obtain ⟨r, hr, hc⟩ := cI i hlt
        refine ok_idx (es := L.map RP.cs) (e := r.cs) rfl hr rfl ?_
        try simp only [nr]
        refine ok_ld (cs := r.cs) rfl rfl ?_
        try simp only [nr]
        refine ok_call hc rfl rfl ?_
        try simp only [nr]
        refine ok_not rfl ?_
        try simp only [nr]
        refine ok_false rfl ?_
        refine ok_inc (n := i) rfl (by omega) ?_
        try simp only [nr]
        exact ok_again rfl (hD _ hlt rfl)
      · refine ok_call cA rfl rfl ?_
        try simp only [nr]
        refine ok_call cW rfl rfl ?_
        try simp only [nr]
        refine ok_leq rfl true eW ?_
        try simp only [nr]
        refine ok_true rfl ?_
        refine ok_call cA rfl rfl ?_
        try simp only [nr]
        refine ok_call cS rfl rfl ?_
        try simp only [nr]
        refine ok_gtr rfl true eS ?_
        try simp only [nr]
        refine ok_true rfl ?_
        refine ok_call cP rfl rfl ?_
        try simp only [nr]
        refine ok_not rfl ?_
        try simp only [nr]
        rw [eP]
        refine ok_true rfl ?_
        refine ok_call l8_wakes rfl rfl ?_
        try simp only [nr]
        exact ok_ret rfl rfl
  · have eP : ha = false := by
      cases hx : ha
      · rfl
      · exact absurd (hin hx).1 (of_decide_eq_false g1)
    refine ok_for L.length (fun i us => us = [.raw (.int .i64 (i : Int))]) rfl (fun i us h => ⟨_, h⟩) ?_
    rintro i us D hi rfl hD
    try simp only [nr]
    refine ok_lenS (es := L.map RP.cs) rfl (L.length : Int) (by simp) ?_
    try simp only [nr]
    refine ok_lss rfl (decide (i < L.length)) (by simp) ?_
    try simp only [nr]
    refine ok_ite rfl (fun h3 => ?_) (fun h3 => ?_)
    · have hlt : i < L.length := of_decide_eq_true h3
      obtain ⟨r, hr, hc⟩ := cI i hlt
      refine ok_idx (es := L.map RP.cs) (e := r.cs) rfl hr rfl ?_
      try simp only [nr]
      refine ok_ld (cs := r.cs) rfl rfl ?_
      try simp only [nr]
      refine ok_call hc rfl rfl ?_
      try simp only [nr]
      refine ok_not rfl ?_
      try simp only [nr]
      refine ok_false rfl ?_
      refine ok_inc (n := i) rfl (by omega) ?_
      try simp only [nr]
      exact ok_again rfl (hD _ hlt rfl)
    · refine ok_call cA rfl rfl ?_
      try simp only [nr]
      refine ok_call cW rfl rfl ?_
      try simp only [nr]
      refine ok_leq rfl true eW ?_
      try simp only [nr]
      refine ok_true rfl ?_
      refine ok_call cA rfl rfl ?_
      try simp only [nr]
      refine ok_call cS rfl rfl ?_
      try simp only [nr]
      refine ok_gtr rfl true eS ?_
      try simp only [nr]
      refine ok_true rfl ?_
      refine ok_call cP rfl rfl ?_
      try simp only [nr]
      refine ok_not rfl ?_
      try simp only [nr]
      rw [eP]
      refine ok_true rfl ?_
      refine ok_call l8_wakes rfl rfl ?_
      try simp only [nr]
      exact ok_ret rfl rfl
end Go.Proofs.YtiapbgepinmleaaGreatDoor
