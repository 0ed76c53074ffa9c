import Derived.Test.YtcpgflbfjplheaaGreatDoorHA
import Derived.Test.YtcpgflbfjplheaaGreatDoorVP
namespace Gv
open Go Go.RowKit Gs
set_option linter.unusedVariables false
def ip (x y : Int) : Pt2 := ((x : Rat), (y : Rat))
def sqr : List Pt2 := [ip 0 0, ip 2 0, ip 2 2, ip 0 2]
theorem sqr_half : phalf sqr (ip 0 0) (ip 2 2) = [ip 0 0, ip 2 2, ip 0 2] := by decide +kernel
theorem sqr_len : sqr.length = 4 := rfl
theorem sqr_lo : plo sqr 4 = ip 0 0 := by decide +kernel
theorem sqr_hi : phi sqr 4 = ip 2 2 := by decide +kernel
theorem sqr_area : parea sqr = ((4 : Int) : Rat) := by decide +kernel
theorem sqr_area2 : parea [ip 0 0, ip 2 2, ip 0 2] = ((2 : Int) : Rat) := by decide +kernel
theorem sqr_conv : pconvex sqr = true := by decide +kernel
theorem sqr_has1 : phas sqr (ip 1 1) = true := by decide +kernel
theorem sqr_has2 : phas sqr (ip 3 1) = false := by decide +kernel
theorem ip_b {x y : Int} (h1 : x.natAbs ≤ 9 := by decide) (h2 : y.natAbs ≤ 9 := by decide) : Pb (ip x y) 1 := ⟨.int (zs_s (by omega)) (by decide), .int (zs_s (by omega)) (by decide)⟩
theorem sqr_b : ∀ p ∈ sqr, Pb p 1 := by
  intro p hp
  simp only [sqr, List.mem_cons, List.not_mem_nil, or_false] at hp
  rcases hp with rfl | rfl | rfl | rfl <;> exact ip_b
theorem sqr2_b : ∀ p ∈ [ip 0 0, ip 2 2, ip 0 2], Pb p 1 := by
  intro p hp
  simp only [List.mem_cons, List.not_mem_nil, or_false] at hp
  rcases hp with rfl | rfl | rfl <;> exact ip_b
theorem ztxt4 : qtxt ((4 : Int) : Rat) = ⟨#[52]⟩ := by
  rw [qtxt_one]
  exact str_txt (s := ⟨#[52]⟩) ⟨by decide, by decide, by decide, by decide⟩
theorem ztxt2 : qtxt ((2 : Int) : Rat) = ⟨#[50]⟩ := by
  rw [qtxt_one]
  exact str_txt (s := ⟨#[50]⟩) ⟨by decide, by decide, by decide, by decide⟩
end Gv
namespace Go.Proofs.YtcpgflbfjplheaaGreatDoor
open Go.RowKit Gs Gv
set_option linter.unusedVariables false
theorem l8_Fair {L : List RP} {n : Int} (hn : n ≤ 1000000) : Gv.Fn Tryz.prog 12 [rline L, .raw (.int .i64 n)] (.raw (.bool (decide ((L.length : Int) ≤ n) && L.all fun p => p.small 4))) := by
  refine Fn.intro mixed vc_law08_Fair rfl ?_
  refine ok_lenS (es := L.map RP.cs) rfl (L.length : Int) (by simp) ?_
  try simp only [nr]
  refine ok_leq rfl _ rfl ?_
  try simp only [nr]
  refine ok_ite rfl (fun h => ?_) (fun h => ?_)
  · have h' := of_decide_eq_true h
    refine ok_call (k_SmallLine (L := L) (n := 4) (by omega)) rfl rfl ?_
    try simp only [nr]
    refine ok_ret ?_ rfl
    rw [h, Bool.true_and]
    rfl
  · refine ok_ret ?_ rfl
    rw [h, Bool.false_and]
    rfl
set_option maxHeartbeats 4000000 in
theorem l8_wakes : Gv.Fn Tryz.prog 18 [] (.raw (.bool true)) := by
  have P : ∀ {x y : Int}, x.natAbs ≤ 9 → y.natAbs ≤ 9 → Gv.Fn Tryz.prog 61 [.raw (.int .i64 x), .raw (.int .i64 y)] (pc (ip x y)) := fun h1 h2 => l6_P (by omega) (by omega) (by omega) (by omega)
  have hL : IsL (plist sqr) sqr 1 := IsL.pl sqr_b
  have hL2 : IsL (plist [ip 0 0, ip 2 2, ip 0 2]) [ip 0 0, ip 2 2, ip 0 2] 1 := IsL.pl sqr2_b
  have cH := p_Half hL (IsP.pc (ip_b (x := 0) (y := 0))) (IsP.pc (ip_b (x := 2) (y := 2))) (by decide) (by decide)
  rw [sqr_half] at cH
  have cB := p_Box hL (by decide) (by decide)
  have eB : pbox sqr = .tup [pc (ip 0 0), pc (ip 2 2), .raw (.bool true)] := by
    unfold pbox
    rw [if_neg (by decide), sqr_len, sqr_lo, sqr_hi]
  rw [eB] at cB
  have cA := p_Area hL (by decide) (by decide)
  rw [sqr_area] at cA
  have cA2 := p_Area hL2 (by decide) (by decide)
  rw [sqr_area2] at cA2
  have cT := q_Text (IsQ.qc (Qb.int (z := 4) (k := 1) (zs_s (by decide)) (by decide))) (by decide)
  have cT2 := q_Text (IsQ.qc (Qb.int (z := 2) (k := 1) (zs_s (by decide)) (by decide))) (by decide)
  have e4 := ztxt4
  have e2 := ztxt2
  have cC := p_Convex hL (by decide) (by decide)
  rw [sqr_conv] at cC
  have cH1 := p_Has hL (IsP.pc (ip_b (x := 1) (y := 1))) (by decide) (by decide)
  rw [sqr_has1] at cH1
  have cH2 := p_Has hL (IsP.pc (ip_b (x := 3) (y := 1))) (by decide) (by decide)
  rw [sqr_has2] at cH2
  have cS0 := p_Same (IsP.pc (ip_b (x := 0) (y := 0))) (IsP.pc (ip_b (x := 0) (y := 0))) (by decide)
  have cS2 := p_Same (IsP.pc (ip_b (x := 2) (y := 2))) (IsP.pc (ip_b (x := 2) (y := 2))) (by decide)
  rw [decide_eq_true rfl] at cS0 cS2
  have P00 := P (x := 0) (y := 0) (by decide) (by decide)
  have P20 := P (x := 2) (y := 0) (by decide) (by decide)
  have P22 := P (x := 2) (y := 2) (by decide) (by decide)
  have P02 := P (x := 0) (y := 2) (by decide) (by decide)
  have P11 := P (x := 1) (y := 1) (by decide) (by decide)
  have P31 := P (x := 3) (y := 1) (by decide) (by decide)
  have eS : plist sqr = .sl [pcs (ip 0 0), pcs (ip 2 0), pcs (ip 2 2), pcs (ip 0 2)] := rfl
  have eS2 : plist [ip 0 0, ip 2 2, ip 0 2] = .sl [pcs (ip 0 0), pcs (ip 2 2), pcs (ip 0 2)] := rfl
  rw [eS] at cH cB cA cC cH1 cH2
  rw [eS2] at cH cA2
  clear hL hL2 eB eS eS2 P
  generalize ip 0 0 = p0 at *
  generalize ip 2 0 = p1 at *
  generalize ip 2 2 = p2 at *
  generalize ip 0 2 = p3 at *
  generalize ip 1 1 = p4 at *
  generalize ip 3 1 = p5 at *
  generalize ((4 : Int) : Rat) = q4 at *
  generalize ((2 : Int) : Rat) = q2 at *
  refine Fn.intro mixed vc_law08_wakes rfl ?_
  refine ok_call P00 rfl rfl ?_
  try simp only [nr]
  refine ok_call P20 rfl rfl ?_
  try simp only [nr]
  refine ok_call P22 rfl rfl ?_
  try simp only [nr]
  refine ok_call P02 rfl rfl ?_
  try simp only [nr]
  refine ok_mk (l := [pcs p0, pcs p1, pcs p2, pcs p3]) rfl ?_
  try simp only [nr]
  refine ok_call P00 rfl rfl ?_
  try simp only [nr]
  refine ok_call P22 rfl rfl ?_
  try simp only [nr]
  refine ok_call cH rfl rfl ?_
  try simp only [nr]
  refine ok_call cB rfl rfl ?_
  try simp only [nr]
  refine ok_call cA rfl rfl ?_
  try simp only [nr]
  refine ok_call cT rfl rfl ?_
  try simp only [nr]
  refine ok_seq rfl e4 ?_
  try simp only [nr]
  refine ok_true rfl ?_
  refine ok_call cC rfl rfl ?_
  try simp only [nr]
  refine ok_true rfl ?_
  refine ok_call cA2 rfl rfl ?_
  try simp only [nr]
  refine ok_call cT2 rfl rfl ?_
  try simp only [nr]
  refine ok_seq rfl e2 ?_
  try simp only [nr]
  refine ok_true rfl ?_
  refine ok_call P11 rfl rfl ?_
  try simp only [nr]
  refine ok_call cH1 rfl rfl ?_
  try simp only [nr]
  refine ok_true rfl ?_
  refine ok_call P31 rfl rfl ?_
  try simp only [nr]
  refine ok_call cH2 rfl rfl ?_
  try simp only [nr]
  refine ok_not rfl ?_
  try simp only [nr]
  refine ok_true rfl ?_
  refine ok_true rfl ?_
  refine ok_call P00 rfl rfl ?_
  try simp only [nr]
  refine ok_call cS0 rfl rfl ?_
  try simp only [nr]
  refine ok_true rfl ?_
  refine ok_call P22 rfl rfl ?_
  try simp only [nr]
  refine ok_call cS2 rfl rfl ?_
  try simp only [nr]
  exact ok_ret rfl rfl
theorem phalf_b {l : List Pt2} {a b : Pt2} {k : Nat} (hb : ∀ p ∈ l, Pb p k) (ha : Pb a k) (hbb : Pb b k) : ∀ p ∈ phalf l a b, Pb p (100 * k + 100) := by
  unfold phalf
  split
  · intro p hp; exact (hb p hp).more (by omega)
  · have : ∀ i, i ≤ l.length → ∀ p ∈ phalfs l a b i, Pb p (100 * k + 100) := by
      intro i
      induction i with
      | zero => intro _ p hp; simp [phalfs] at hp
      | succ i ih =>
        intro hi p hp
        have bp := hb _ (pa_mem (show i < l.length by omega))
        have bq := hb _ (List.mem_of_getElem? (at_pn (show i < l.length by omega)))
        simp only [phalfs, phalf1, List.mem_append] at hp
        rcases hp with hp | hp | hp
        · exact ih (by omega) p hp
        · split at hp
          · simp only [List.mem_singleton] at hp
            subst hp
            exact bp.more (by omega)
          · simp at hp
        · split at hp
          · rename_i h3'
            simp only [List.mem_singleton] at hp
            subst hp
            have hne : porient a b (pa l i) - porient a b (pn l i) ≠ 0 := by
              intro e
              have e' : porient a b (pa l i) = porient a b (pn l i) := by grind
              rw [e'] at h3'
              have := sq_nn (porient a b (pn l i))
              grind
            have b1 := Qb.orient ha hbb bp
            have b2 := Qb.orient ha hbb bq
            exact (bp.mix bq (b1.div (b1.sub b2) hne)).more (by omega)
          · simp at hp
    exact this _ (Nat.le_refl _)
end Go.Proofs.YtcpgflbfjplheaaGreatDoor
namespace Gv
open Go Go.RowKit Gs
set_option linter.unusedVariables false
def qsum (h : Nat → Rat) : Nat → Rat
  | 0 => 0
  | n + 1 => qsum h n + h n
theorem qsum_congr {f g : Nat → Rat} : ∀ n, (∀ i, i < n → f i = g i) → qsum f n = qsum g n
  | 0, _ => rfl
  | n + 1, h => by
    show qsum f n + f n = qsum g n + g n
    rw [qsum_congr n fun i hi => h i (by omega), h n (by omega)]
theorem qsum_mul {h : Nat → Rat} {c : Rat} : ∀ n, qsum (fun i => h i * c) n = qsum h n * c
  | 0 => by show (0 : Rat) = 0 * c; grind
  | n + 1 => by
    show qsum (fun i => h i * c) n + h n * c = (qsum h n + h n) * c
    rw [qsum_mul n]
    grind
theorem qsum_tele {h f : Nat → Rat} : ∀ n, qsum (fun i => h i + (f (i + 1) - f i)) n = qsum h n + (f n - f 0)
  | 0 => by show (0 : Rat) = 0 + (f 0 - f 0); grind
  | n + 1 => by
    show qsum (fun i => h i + (f (i + 1) - f i)) n + (h n + (f (n + 1) - f n)) = qsum h n + h n + (f (n + 1) - f 0)
    rw [qsum_tele n]
    grind
def pg (l : List Pt2) (i : Nat) : Pt2 := pa l (i % l.length)
theorem psum_qsum {l : List Pt2} : ∀ n, psum l n = qsum (fun j => pcross (pa l j) (pn l j)) n
  | 0 => rfl
  | n + 1 => by show psum l n + _ = qsum _ n + _; rw [psum_qsum n]
theorem psum_pg {l : List Pt2} : psum l l.length = qsum (fun j => pcross (pg l j) (pg l (j + 1))) l.length := by
  rw [psum_qsum]
  refine qsum_congr _ fun i hi => ?_
  show pcross (pa l i) (pa l ((i + 1) % l.length)) = pcross (pa l (i % l.length)) (pa l ((i + 1) % l.length))
  rw [Nat.mod_eq_of_lt hi]
theorem pg_n {l : List Pt2} (i : Nat) : pg l (i + l.length) = pg l i := by unfold pg; rw [Nat.add_mod_right]
theorem pg_lt {l : List Pt2} {i : Nat} (h : i < l.length) : pg l i = pa l i := by unfold pg; rw [Nat.mod_eq_of_lt h]
end Gv
namespace Go.Proofs.YtcpgflbfjplheaaGreatDoor
open Go.RowKit Gs Gv
set_option linter.unusedVariables false
end Go.Proofs.YtcpgflbfjplheaaGreatDoor
namespace Gv
open Go Go.RowKit Gs
set_option linter.unusedVariables false
theorem qz_mul {x y : Rat} (h : x * y = 0) (hx : x ≠ 0) : y = 0 := by
  rcases Rat.mul_eq_zero.1 h with h | h
  · exact absurd h hx
  · exact h
theorem qsum_nonneg {h : Nat → Rat} : ∀ n, (∀ i, i < n → 0 ≤ h i) → 0 ≤ qsum h n
  | 0, _ => by show (0 : Rat) ≤ 0; grind
  | n + 1, hh => by
    have h1 := qsum_nonneg n fun i hi => hh i (by omega)
    have h2 := hh n (by omega)
    show 0 ≤ qsum h n + h n
    grind
theorem qsum_pos {h : Nat → Rat} : ∀ n, (∀ i, i < n → 0 ≤ h i) → (∃ i, i < n ∧ 0 < h i) → 0 < qsum h n
  | 0, _, ⟨i, hi, _⟩ => by omega
  | n + 1, hh, ⟨i, hi, hp⟩ => by
    show 0 < qsum h n + h n
    have h2 := hh n (by omega)
    by_cases e : i = n
    · subst e
      have h1 := qsum_nonneg i fun j hj => hh j (by omega)
      grind
    · have h1 := qsum_pos n (fun j hj => hh j (by omega)) ⟨i, by omega, hp⟩
      grind
theorem qsum_le {f h : Nat → Rat} : ∀ n, (∀ i, i < n → f i ≤ h i) → qsum f n ≤ qsum h n
  | 0, _ => by show (0 : Rat) ≤ 0; grind
  | n + 1, hh => by
    have h1 := qsum_le n fun i hi => hh i (by omega)
    have h2 := hh n (by omega)
    show qsum f n + f n ≤ qsum h n + h n
    grind
structure Cvx (g : Nat → Pt2) (n : Nat) : Prop where
  pos : 3 ≤ n
  per : ∀ i, g (i + n) = g i
  or : ∀ i k, 0 ≤ porient (g i) (g (i + 1)) (g k)
  ne : ∀ i k, i < n → k < n → i ≠ k → g i ≠ g k
  ex : ∃ i, i < n ∧ ∃ k, k < n ∧ 0 < porient (g i) (g (i + 1)) (g k)
theorem cvx_of {l : List Pt2} (h : pconvex l = true) : Cvx (pg l) l.length := by
  obtain ⟨h3, hall, i, hi, k, hk, hp⟩ := pconvex_iff.1 h
  have hpn : ∀ i, i < l.length → pg l (i + 1) = pn l i := fun i hi => rfl
  refine ⟨h3, fun i => pg_n i, fun i k => ?_, fun i k hi hk hne => ?_, i, hi, k, hk, ?_⟩
  · have e : pg l (i + 1) = pn l (i % l.length) := by unfold pg pn; rw [Nat.mod_add_mod]
    rw [e]
    exact (hall _ (Nat.mod_lt _ (by omega)) _ (Nat.mod_lt _ (by omega))).2
  · rw [pg_lt hi, pg_lt hk]
    rcases (hall i hi k hk).1 with e | e
    · exact absurd e.symm hne
    · exact e
  · rw [hpn i hi, pg_lt hi, pg_lt hk]
    exact hp
theorem orient_sum {g : Nat → Pt2} {n : Nat} (hg : g n = g 0) (r : Pt2) : qsum (fun i => porient (g i) (g (i + 1)) r) n = qsum (fun i => pcross (g i) (g (i + 1))) n := by
  rw [qsum_congr (g := fun j => pcross (g j) (g (j + 1)) + (pcross (g (j + 1)) r - pcross (g j) r)) _ fun i _ => by unfold porient pcross psub; grind]
  rw [qsum_tele (f := fun j => pcross (g j) r), hg]
  grind
theorem Cvx.per0 {g : Nat → Pt2} {n : Nat} (C : Cvx g n) : g n = g 0 := by
  have := C.per 0
  rwa [Nat.zero_add] at this
theorem Cvx.sum_pos {g : Nat → Pt2} {n : Nat} (C : Cvx g n) : 0 < qsum (fun i => pcross (g i) (g (i + 1))) n := by
  obtain ⟨i, hi, k, hk, hp⟩ := C.ex
  rw [← orient_sum C.per0 (g k)]
  exact qsum_pos n (fun j _ => C.or j k) ⟨i, hi, hp⟩
theorem slopes {n : Nat} {a b : Nat → Rat} (hn : 0 < n) (ha : ∀ i, a (i + n) = a i) (hb : ∀ i, b (i + n) = b i) (hneg : ∀ i, a i < 0) (hc : ∀ i, 0 ≤ a i * b (i + 1) - b i * a (i + 1)) (i : Nat) : a i * b (i + 1) - b i * a (i + 1) = 0 := by
  have hnz : ∀ i, a i ≠ 0 := fun i e => by have := hneg i; grind
  have step : ∀ i, b i / a i ≤ b (i + 1) / a (i + 1) := fun i => by
    have h1 := hnz i
    have h2 := hnz (i + 1)
    have h3 : (b (i + 1) / a (i + 1) - b i / a i) * (a i * a (i + 1)) = a i * b (i + 1) - b i * a (i + 1) := by grind
    have h4 : 0 < a i * a (i + 1) := by
      have := Rat.mul_pos (show 0 < -a i by have := hneg i; grind) (show 0 < -a (i + 1) by have := hneg (i + 1); grind)
      grind
    by_cases h5 : b i / a i ≤ b (i + 1) / a (i + 1)
    · exact h5
    · have h6 := Rat.mul_pos (show 0 < b i / a i - b (i + 1) / a (i + 1) by grind) h4
      have := hc i
      grind
  have many : ∀ k i, b i / a i ≤ b (i + k) / a (i + k) := by
    intro k
    induction k with
    | zero => intro i; rw [Nat.add_zero]; grind
    | succ k ih => intro i; have h1 := ih i; have h2 := step (i + k); rw [← Nat.add_assoc]; grind
  have h1 := step i
  have h2 := many (n - 1) (i + 1)
  have e : i + 1 + (n - 1) = i + n := by omega
  rw [e, ha, hb] at h2
  have h3 : b i / a i = b (i + 1) / a (i + 1) := by grind
  have h4 := hnz i
  have h5 := hnz (i + 1)
  have h6 : (b (i + 1) / a (i + 1) - b i / a i) * (a i * a (i + 1)) = a i * b (i + 1) - b i * a (i + 1) := by grind
  rw [← h6, h3]
  grind
theorem Cvx.no_slopes {g : Nat → Pt2} {n : Nat} (C : Cvx g n) {p : Pt2} (hp : ∀ i, 0 ≤ porient (g i) (g (i + 1)) p) {a b : Pt2 → Rat} (hneg : ∀ i, a (g i) < 0) (he : ∀ u v : Pt2, porient u v p = a u * b v - b u * a v) : False := by
  have h := slopes (n := n) (a := fun i => a (g i)) (b := fun i => b (g i)) (by have := C.pos; omega) (fun i => by show a (g (i + n)) = _; rw [C.per]) (fun i => by show b (g (i + n)) = _; rw [C.per]) hneg (fun i => by rw [← he]; exact hp i)
  have h1 := C.sum_pos
  rw [← orient_sum C.per0 p, qsum_congr (g := fun _ => 0) n fun i _ => by rw [he]; exact h i] at h1
  have h2 : ∀ n, qsum (fun _ => 0) n = 0 := by
    intro n
    induction n with
    | zero => rfl
    | succ n ih => show qsum _ n + 0 = 0; rw [ih]; grind
  rw [h2] at h1
  grind
theorem Cvx.some_ge {g : Nat → Pt2} {n : Nat} (C : Cvx g n) {p : Pt2} (hp : ∀ i, 0 ≤ porient (g i) (g (i + 1)) p) : (∃ i, p.1 ≤ (g i).1) ∧ (∃ i, (g i).1 ≤ p.1) ∧ (∃ i, p.2 ≤ (g i).2) ∧ ∃ i, (g i).2 ≤ p.2 := by
  refine ⟨?_, ?_, ?_, ?_⟩
  · refine Classical.byContradiction fun hn => C.no_slopes hp (a := fun u => u.1 - p.1) (b := fun u => u.2 - p.2) (fun i => ?_) (fun u v => by unfold porient pcross psub; grind)
    have : ¬ p.1 ≤ (g i).1 := fun h => hn ⟨i, h⟩
    grind
  · refine Classical.byContradiction fun hn => C.no_slopes hp (a := fun u => p.1 - u.1) (b := fun u => p.2 - u.2) (fun i => ?_) (fun u v => by unfold porient pcross psub; grind)
    have : ¬ (g i).1 ≤ p.1 := fun h => hn ⟨i, h⟩
    grind
  · refine Classical.byContradiction fun hn => C.no_slopes hp (a := fun u => u.2 - p.2) (b := fun u => p.1 - u.1) (fun i => ?_) (fun u v => by unfold porient pcross psub; grind)
    have : ¬ p.2 ≤ (g i).2 := fun h => hn ⟨i, h⟩
    grind
  · refine Classical.byContradiction fun hn => C.no_slopes hp (a := fun u => p.2 - u.2) (b := fun u => u.1 - p.1) (fun i => ?_) (fun u v => by unfold porient pcross psub; grind)
    have : ¬ (g i).2 ≤ p.2 := fun h => hn ⟨i, h⟩
    grind
def cgt (x : Nat → Rat) (t : Rat) : Nat → Nat
  | 0 => 0
  | k + 1 => cgt x t k + if t < x k then 1 else 0
theorem cgt_mono {x : Nat → Rat} {t t' : Rat} (h : t < t') : ∀ n, cgt x t' n ≤ cgt x t n
  | 0 => Nat.le_refl _
  | n + 1 => by
    have := cgt_mono (x := x) h n
    simp only [cgt]
    by_cases h1 : t' < x n
    · rw [if_pos h1, if_pos (by grind)]; omega
    · rw [if_neg h1]; split <;> omega
theorem cgt_lt {x : Nat → Rat} {t : Rat} {i : Nat} (h : t < x i) : ∀ n, i < n → cgt x (x i) n < cgt x t n
  | 0, hi => by omega
  | n + 1, hi => by
    simp only [cgt]
    by_cases e : i = n
    · subst e
      have := cgt_mono (x := x) h i
      rw [if_pos h, if_neg (by grind)]
      omega
    · have := cgt_lt h n (by omega)
      by_cases h1 : x i < x n
      · rw [if_pos h1, if_pos (by grind)]; omega
      · rw [if_neg h1]; split <;> omega
theorem zero_of_sum {x y z : Rat} (hx : 0 ≤ x) (hy : 0 ≤ y) (hz : 0 ≤ z) (h : x + y = -z) : x = 0 ∧ y = 0 ∧ z = 0 := by
  refine ⟨by grind, by grind, by grind⟩
theorem zero2 {x y : Rat} (hx : 0 ≤ x) (hy : 0 ≤ y) (h : x + y = 0) : x = 0 := by grind
theorem Cvx.lap_step {g : Nat → Pt2} {n : Nat} (C : Cvx g n) {i i' j : Nat} (hi' : i' < n) (hs : g (i' + 1) = g i) (hne : g i' ≠ g i) (h1 : (g (i + 1)).1 < (g i).1) (h2 : (g (j + 1)).1 < (g j).1) (h3 : (g (j + 1)).1 < (g i).1)
    (h5 : (g i).1 < (g j).1) : (g i).1 < (g i').1 := by
  have o1 := C.or i j
  have o2 := C.or i (j + 1)
  have o3 := C.or j i
  have o5 := C.or i' j
  have o6 := C.or i' (j + 1)
  have ok1 : ∀ k, 0 ≤ porient (g i) (g (i + 1)) (g k) := fun k => C.or i k
  have ok2 : ∀ k, 0 ≤ porient (g i') (g i) (g k) := fun k => by have := C.or i' k; rwa [hs] at this
  rw [hs] at o5 o6
  obtain ⟨e0, he0, e1, he1, epos⟩ := C.ex
  generalize hA : g i = a at *
  generalize hB : g (i + 1) = b at *
  generalize hCC : g j = c at *
  generalize hDD : g (j + 1) = d at *
  generalize hPP : g i' = p at *
  have id1 : (a.1 - d.1) * porient a b c + (c.1 - a.1) * porient a b d = -((a.1 - b.1) * porient c d a) := by unfold porient pcross psub; grind
  obtain ⟨z1, z2, z3⟩ := zero_of_sum (Rat.mul_nonneg (by grind) o1) (Rat.mul_nonneg (by grind) o2) (Rat.mul_nonneg (by grind) o3) id1
  have y1 := qz_mul z1 (by grind)
  have y3 := qz_mul z3 (by grind)
  have id2 : (a.1 - d.1) * porient p a c + (c.1 - a.1) * porient p a d = (a.1 - p.1) * porient c d a := by unfold porient pcross psub; grind
  rw [y3] at id2
  have n5 := Rat.mul_nonneg (show 0 ≤ a.1 - d.1 by grind) o5
  have n6 := Rat.mul_nonneg (show 0 ≤ c.1 - a.1 by grind) o6
  rw [Rat.mul_zero] at id2
  have w1 := zero2 n5 n6 id2
  have y5 := qz_mul w1 (by grind)
  by_cases hlt : a.1 < p.1
  · exact hlt
  exfalso
  by_cases heq : p.1 = a.1
  · refine hne (Prod.ext heq ?_)
    have id3 : porient p a c = (p.2 - a.2) * (c.1 - a.1) := by unfold porient pcross psub; grind
    rw [y5] at id3
    have := qz_mul (x := c.1 - a.1) (y := p.2 - a.2) (by grind) (by grind)
    grind
  · have hlt' : p.1 < a.1 := by grind
    have id4 : (c.1 - a.1) * porient p a b = (b.1 - a.1) * porient p a c - (a.1 - p.1) * porient a b c := by unfold porient pcross psub; grind
    rw [y5, y1] at id4
    have y6 : porient p a b = 0 := qz_mul (x := c.1 - a.1) (by grind) (by grind)
    have all0 : ∀ k, porient a b (g k) = 0 := fun k => by
      have id5 : (b.1 - a.1) * porient p a (g k) - (a.1 - p.1) * porient a b (g k) = ((g k).1 - a.1) * porient p a b := by unfold porient pcross psub; grind
      rw [y6] at id5
      have q1 := Rat.mul_nonneg (show 0 ≤ a.1 - b.1 by grind) (ok2 k)
      have q2 := Rat.mul_nonneg (show 0 ≤ a.1 - p.1 by grind) (ok1 k)
      exact qz_mul (x := a.1 - p.1) (by grind) (by grind)
    have k0 := all0 e0
    have k1 := all0 (e0 + 1)
    have k2 := all0 e1
    generalize g e0 = u at *
    generalize g (e0 + 1) = v at *
    generalize g e1 = w at *
    have id6 : (b.1 - a.1) * porient u v w = (v.1 - u.1) * (porient a b w - porient a b u) - (w.1 - u.1) * (porient a b v - porient a b u) := by unfold porient pcross psub; grind
    rw [k0, k1, k2] at id6
    have := qz_mul (x := b.1 - a.1) (y := porient u v w) (by grind) (by grind)
    grind
theorem Cvx.no_lap {g : Nat → Pt2} {n : Nat} (C : Cvx g n) : ∀ m i j, i < n → j < n → i ≠ j → (g (i + 1)).1 < (g i).1 → (g (j + 1)).1 < (g j).1 → (g (j + 1)).1 < (g i).1 → (g (i + 1)).1 < (g j).1 → cgt (fun k => (g k).1) (g i).1 n + cgt (fun k => (g k).1) (g j).1 n ≤ m → False := by
  have hn := C.pos
  intro m
  induction m with
  | zero => 
    intro i j hi hj hne h1 h2 h3 h4 hm
    rcases (show (g i).1 < (g j).1 ∨ (g j).1 < (g i).1 ∨ (g i).1 = (g j).1 by grind) with h | h | h
    · have := cgt_lt (x := fun k => (g k).1) (t := (g i).1) (i := j) h n hj
      omega
    · have := cgt_lt (x := fun k => (g k).1) (t := (g j).1) (i := i) h n hi
      omega
    · have o1 := C.or i j
      have o3 := C.or j i
      refine C.ne i j hi hj hne (Prod.ext h ?_)
      have e1 : porient (g i) (g (i + 1)) (g j) = ((g (i + 1)).1 - (g i).1) * ((g j).2 - (g i).2) := by unfold porient pcross psub; grind
      have e2 : porient (g j) (g (j + 1)) (g i) = ((g (j + 1)).1 - (g j).1) * ((g i).2 - (g j).2) := by unfold porient pcross psub; grind
      rw [e1] at o1
      rw [e2] at o3
      rcases (show (g i).2 < (g j).2 ∨ (g j).2 < (g i).2 ∨ (g i).2 = (g j).2 by grind) with h' | h' | h'
      · have := Rat.mul_pos (show 0 < (g i).1 - (g (i + 1)).1 by grind) (show 0 < (g j).2 - (g i).2 by grind)
        grind
      · have := Rat.mul_pos (show 0 < (g j).1 - (g (j + 1)).1 by grind) (show 0 < (g i).2 - (g j).2 by grind)
        grind
      · exact h'
  | succ m ih =>
    have key : ∀ i j, i < n → j < n → i ≠ j → (g (i + 1)).1 < (g i).1 → (g (j + 1)).1 < (g j).1 → (g (j + 1)).1 < (g i).1 → (g i).1 < (g j).1 → cgt (fun k => (g k).1) (g i).1 n + cgt (fun k => (g k).1) (g j).1 n ≤ m + 1 → False := by
      intro i j hi hj hne h1 h2 h3 h5 hm
      obtain ⟨i', hi', hs, hii⟩ : ∃ i', i' < n ∧ g (i' + 1) = g i ∧ i' ≠ i := by
        by_cases h0 : i = 0
        · subst h0
          refine ⟨n - 1, by omega, ?_, by omega⟩
          rw [show n - 1 + 1 = 0 + n by omega, C.per]
        · exact ⟨i - 1, by omega, by rw [show i - 1 + 1 = i by omega], by omega⟩
      have h6 := C.lap_step hi' hs (C.ne _ _ hi' hi hii) h1 h2 h3 h5
      refine ih i' j hi' hj (fun e => ?_) (by rw [hs]; exact h6) h2 (by grind) (by rw [hs]; exact h5) ?_
      · subst e
        rw [hs] at h3
        grind
      · have := cgt_lt (x := fun k => (g k).1) (t := (g i).1) (i := i') h6 n hi'
        have e : (fun k => (g k).1) i' = (g i').1 := rfl
        omega
    intro i j hi hj hne h1 h2 h3 h4 hm
    rcases (show (g i).1 < (g j).1 ∨ (g j).1 < (g i).1 ∨ (g i).1 = (g j).1 by grind) with h | h | h
    · exact key i j hi hj hne h1 h2 h3 h hm
    · exact key j i hj hi (Ne.symm hne) h2 h1 h4 h (by omega)
    · have o1 := C.or i j
      have o3 := C.or j i
      refine C.ne i j hi hj hne (Prod.ext h ?_)
      have e1 : porient (g i) (g (i + 1)) (g j) = ((g (i + 1)).1 - (g i).1) * ((g j).2 - (g i).2) := by unfold porient pcross psub; grind
      have e2 : porient (g j) (g (j + 1)) (g i) = ((g (j + 1)).1 - (g j).1) * ((g i).2 - (g j).2) := by unfold porient pcross psub; grind
      rw [e1] at o1
      rw [e2] at o3
      rcases (show (g i).2 < (g j).2 ∨ (g j).2 < (g i).2 ∨ (g i).2 = (g j).2 by grind) with h' | h' | h'
      · have := Rat.mul_pos (show 0 < (g i).1 - (g (i + 1)).1 by grind) (show 0 < (g j).2 - (g i).2 by grind)
        grind
      · have := Rat.mul_pos (show 0 < (g j).1 - (g (j + 1)).1 by grind) (show 0 < (g i).2 - (g j).2 by grind)
        grind
      · exact h'
def lsum : List (Rat × Rat) → Rat
  | [] => 0
  | p :: t => (p.2 - p.1) + lsum t
theorem lsum_app : ∀ s t : List (Rat × Rat), lsum (s ++ t) = lsum s + lsum t
  | [], t => by show lsum t = 0 + lsum t; grind
  | p :: s, t => by show (p.2 - p.1) + lsum (s ++ t) = (p.2 - p.1) + lsum s + lsum t; rw [lsum_app s t]; grind
theorem lsum_split (f : Rat × Rat → Bool) : ∀ t : List (Rat × Rat), lsum t = lsum (t.filter f) + lsum (t.filter fun x => !f x)
  | [] => by show (0 : Rat) = 0 + 0; grind
  | p :: t => by
    have := lsum_split f t
    cases h : f p
    · rw [List.filter_cons_of_neg (by rw [h]; decide), List.filter_cons_of_pos (by rw [h]; rfl)]
      show (p.2 - p.1) + lsum t = lsum (t.filter f) + ((p.2 - p.1) + lsum (t.filter fun x => !f x))
      grind
    · rw [List.filter_cons_of_pos h, List.filter_cons_of_neg (by rw [h]; decide)]
      show (p.2 - p.1) + lsum t = (p.2 - p.1) + lsum (t.filter f) + lsum (t.filter fun x => !f x)
      grind
theorem lsum_le : ∀ m (t : List (Rat × Rat)) (A B : Rat), t.length ≤ m → A ≤ B → (∀ p ∈ t, A ≤ p.1 ∧ p.1 < p.2 ∧ p.2 ≤ B) → t.Pairwise (fun p q => p.2 ≤ q.1 ∨ q.2 ≤ p.1) → lsum t ≤ B - A := by
  intro m
  induction m with
  | zero =>
    intro t A B hm hAB _ _
    have : t = [] := List.eq_nil_of_length_eq_zero (by omega)
    subst this
    show (0 : Rat) ≤ B - A
    grind
  | succ m ih =>
    intro t A B hm hAB hin hpw
    match t with
    | [] => show (0 : Rat) ≤ B - A; grind
    | p :: t =>
      obtain ⟨hp, ht⟩ := List.pairwise_cons.1 hpw
      have hp0 := hin p (by simp)
      have l1 := ih (t.filter fun q => decide (q.2 ≤ p.1)) A p.1 (by have := List.length_filter_le (fun q : Rat × Rat => decide (q.2 ≤ p.1)) t; simp at hm; omega) hp0.1 (fun q hq => by
        obtain ⟨h1, h2⟩ := List.mem_filter.1 hq
        have := hin q (by simp [h1])
        exact ⟨this.1, this.2.1, of_decide_eq_true h2⟩) (ht.filter _)
      have l2 := ih (t.filter fun q => !decide (q.2 ≤ p.1)) p.2 B (by have := List.length_filter_le (fun q : Rat × Rat => !decide (q.2 ≤ p.1)) t; simp at hm; omega) hp0.2.2 (fun q hq => by
        obtain ⟨h1, h2⟩ := List.mem_filter.1 hq
        have h3 := hin q (by simp [h1])
        have h4 : ¬ q.2 ≤ p.1 := by simpa using h2
        rcases hp q h1 with h5 | h5
        · exact ⟨h5, h3.2.1, h3.2.2⟩
        · exact absurd h5 h4) (ht.filter _)
      have := lsum_split (fun q => decide (q.2 ≤ p.1)) t
      show (p.2 - p.1) + lsum t ≤ B - A
      grind
def wayL (x : Nat → Rat) (i : Nat) : Rat := if x (i + 1) < x i then x i - x (i + 1) else 0
theorem wayL_sum {x : Nat → Rat} : ∀ n, qsum (wayL x) n = lsum (((List.range n).filter fun i => decide (x (i + 1) < x i)).map fun i => (x (i + 1), x i))
  | 0 => rfl
  | n + 1 => by
    rw [List.range_succ, List.filter_append, List.map_append, lsum_app, ← wayL_sum n]
    show qsum (wayL x) n + wayL x n = _
    unfold wayL
    by_cases h : x (n + 1) < x n
    · rw [if_pos h, List.filter_cons_of_pos (by simpa using h)]
      show _ = _ + (x n - x (n + 1) + 0)
      grind
    · rw [if_neg h, List.filter_cons_of_neg (by simpa using h)]
      rfl
theorem Cvx.way_le {g : Nat → Pt2} {n : Nat} (C : Cvx g n) {A B : Rat} (hA : ∀ i, A ≤ (g i).1) (hB : ∀ i, (g i).1 ≤ B) : qsum (wayL fun i => (g i).1) n ≤ B - A := by
  rw [wayL_sum]
  refine lsum_le _ _ A B (Nat.le_refl _) (by have h1 := hA 0; have h2 := hB 0; grind) (fun p hp => ?_) ?_
  · obtain ⟨i, hi, rfl⟩ := List.mem_map.1 hp
    obtain ⟨_, h2⟩ := List.mem_filter.1 hi
    exact ⟨hA _, of_decide_eq_true h2, hB _⟩
  · rw [List.pairwise_map]
    refine List.Pairwise.imp_of_mem (R := fun a b => a < b) (fun {i j} hi hj hij => ?_) (List.Pairwise.filter _ List.pairwise_lt_range)
    obtain ⟨i1, i2⟩ := List.mem_filter.1 hi
    obtain ⟨j1, j2⟩ := List.mem_filter.1 hj
    have i2' : (g (i + 1)).1 < (g i).1 := of_decide_eq_true i2
    have j2' : (g (j + 1)).1 < (g j).1 := of_decide_eq_true j2
    show (g i).1 ≤ (g (j + 1)).1 ∨ (g j).1 ≤ (g (i + 1)).1
    by_cases h1 : (g i).1 ≤ (g (j + 1)).1
    · exact .inl h1
    · by_cases h2 : (g j).1 ≤ (g (i + 1)).1
      · exact .inr h2
      · exact (C.no_lap _ i j (List.mem_range.1 i1) (List.mem_range.1 j1) (by omega) i2' j2' (by grind) (by grind) (Nat.le_refl _)).elim
theorem Cvx.sum_le {g : Nat → Pt2} {n : Nat} (C : Cvx g n) {A B A' B' : Rat} (hA : ∀ i, A ≤ (g i).1) (hB : ∀ i, (g i).1 ≤ B) (hA' : ∀ i, A' ≤ (g i).2) (hB' : ∀ i, (g i).2 ≤ B') : qsum (fun i => pcross (g i) (g (i + 1))) n ≤ (B - A) * (B' - A') * 2 := by
  have h1 : qsum (fun i => pcross (g i) (g (i + 1))) n = qsum (fun i => ((g i).1 - (g (i + 1)).1) * ((g i).2 - A' + ((g (i + 1)).2 - A'))) n := by
    have := qsum_tele (h := fun i => pcross (g i) (g (i + 1))) (f := fun i => -((g i).1 * ((g i).2 - A' - A'))) n
    rw [C.per0] at this
    have e : qsum (fun i => ((g i).1 - (g (i + 1)).1) * ((g i).2 - A' + ((g (i + 1)).2 - A'))) n = qsum (fun i => pcross (g i) (g (i + 1)) + (-((g (i + 1)).1 * ((g (i + 1)).2 - A' - A')) - -((g i).1 * ((g i).2 - A' - A')))) n := qsum_congr n fun i _ => by unfold pcross; grind
    rw [e, this]
    grind
  rw [h1]
  have h2 : qsum (fun i => ((g i).1 - (g (i + 1)).1) * ((g i).2 - A' + ((g (i + 1)).2 - A'))) n ≤ qsum (fun i => wayL (fun i => (g i).1) i * ((B' - A') * 2)) n := qsum_le n fun i _ => by
    have a1 := hA' i
    have a2 := hA' (i + 1)
    have a3 := hB' i
    have a4 := hB' (i + 1)
    unfold wayL
    by_cases h : (g (i + 1)).1 < (g i).1
    · rw [if_pos h]
      have := Rat.mul_nonneg (show 0 ≤ (g i).1 - (g (i + 1)).1 by grind) (show 0 ≤ (B' - A') * 2 - ((g i).2 - A' + ((g (i + 1)).2 - A')) by grind)
      grind
    · rw [if_neg h]
      have := Rat.mul_nonneg (show 0 ≤ (g (i + 1)).1 - (g i).1 by grind) (show 0 ≤ (g i).2 - A' + ((g (i + 1)).2 - A') by grind)
      grind
  rw [qsum_mul] at h2
  have h3 := C.way_le hA hB
  have h4 := Rat.mul_nonneg (show 0 ≤ (B - A) - qsum (wayL fun i => (g i).1) n by grind) (show 0 ≤ (B' - A') * 2 by have a1 := hA' 0; have a2 := hB' 0; grind)
  grind
end Gv
namespace Gv
open Go Go.RowKit Gs
set_option linter.unusedVariables false
theorem qmin_le (a b : Rat) : qmin a b ≤ a ∧ qmin a b ≤ b := by unfold qmin; split <;> constructor <;> grind
theorem qmax_ge (a b : Rat) : a ≤ qmax a b ∧ b ≤ qmax a b := by unfold qmax; split <;> constructor <;> grind
theorem plo_le {l : List Pt2} : ∀ i j, j < i → (plo l i).1 ≤ (pa l j).1 ∧ (plo l i).2 ≤ (pa l j).2
  | 0, j, h => by omega
  | i + 1, j, h => by
    have h1 := qmin_le (plo l i).1 (pa l i).1
    have h2 := qmin_le (plo l i).2 (pa l i).2
    show qmin (plo l i).1 (pa l i).1 ≤ _ ∧ qmin (plo l i).2 (pa l i).2 ≤ _
    by_cases e : j = i
    · subst e; exact ⟨h1.2, h2.2⟩
    · have := plo_le (l := l) i j (by omega)
      exact ⟨by grind, by grind⟩
theorem phi_ge {l : List Pt2} : ∀ i j, j < i → (pa l j).1 ≤ (phi l i).1 ∧ (pa l j).2 ≤ (phi l i).2
  | 0, j, h => by omega
  | i + 1, j, h => by
    have h1 := qmax_ge (phi l i).1 (pa l i).1
    have h2 := qmax_ge (phi l i).2 (pa l i).2
    show _ ≤ qmax (phi l i).1 (pa l i).1 ∧ _ ≤ qmax (phi l i).2 (pa l i).2
    by_cases e : j = i
    · subst e; exact ⟨h1.2, h2.2⟩
    · have := phi_ge (l := l) i j (by omega)
      exact ⟨by grind, by grind⟩
theorem phas_iff {l : List Pt2} {p : Pt2} : phas l p = true ↔ (∀ i, i < l.length → 0 ≤ porient (pa l i) (pn l i) p) ∧ 3 ≤ l.length := by
  unfold phas
  simp only [Bool.and_eq_true, List.all_eq_true, List.mem_range, decide_eq_true_eq]
theorem parea_half {l : List Pt2} : parea l + parea l = psum l l.length := by
  unfold parea
  have : (1 : Rat) / 2 + 1 / 2 = 1 := by decide +kernel
  generalize (1 : Rat) / 2 = hf at *
  have e : psum l l.length * hf + psum l l.length * hf = psum l l.length * (hf + hf) := by grind
  rw [e, this]
  grind
theorem box_law {l : List Pt2} (h : pconvex l = true) : 0 < parea l ∧ parea l ≤ ((phi l l.length).1 - (plo l l.length).1) * ((phi l l.length).2 - (plo l l.length).2) ∧
    ∀ p, phas l p = true → (plo l l.length).1 ≤ p.1 ∧ p.1 ≤ (phi l l.length).1 ∧ (plo l l.length).2 ≤ p.2 ∧ p.2 ≤ (phi l l.length).2 := by
  have C := cvx_of h
  have h3 := C.pos
  have hlo := fun i => plo_le (l := l) l.length (i % l.length) (Nat.mod_lt _ (by omega))
  have hhi := fun i => phi_ge (l := l) l.length (i % l.length) (Nat.mod_lt _ (by omega))
  have hA := parea_half (l := l)
  have hs := psum_pg (l := l)
  have h1 := C.sum_pos
  have h2 := C.sum_le (A := (plo l l.length).1) (B := (phi l l.length).1) (A' := (plo l l.length).2) (B' := (phi l l.length).2) (fun i => (hlo i).1) (fun i => (hhi i).1) (fun i => (hlo i).2) (fun i => (hhi i).2)
  rw [← hs] at h1 h2
  refine ⟨by grind, by grind, fun p hp => ?_⟩
  obtain ⟨hp1, _⟩ := phas_iff.1 hp
  obtain ⟨⟨i1, e1⟩, ⟨i2, e2⟩, ⟨i3, e3⟩, ⟨i4, e4⟩⟩ := C.some_ge (p := p) (fun i => by
    have e : pg l (i + 1) = pn l (i % l.length) := by unfold pg pn; rw [Nat.mod_add_mod]
    rw [e]
    exact hp1 _ (Nat.mod_lt _ (by omega)))
  have a1 := (hhi i1).1
  have a2 := (hlo i2).1
  have a3 := (hhi i3).2
  have a4 := (hlo i4).2
  unfold pg at e1 e2 e3 e4
  exact ⟨by grind, by grind, by grind, by grind⟩
end Gv
namespace Go.Proofs.YtcpgflbfjplheaaGreatDoor
open Go.RowKit Gs Gv
set_option linter.unusedVariables false
end Go.Proofs.YtcpgflbfjplheaaGreatDoor
namespace Gv
open Go Go.RowKit Gs
set_option linter.unusedVariables false
def rot (d p : Pt2) : Pt2 := (-(p.1 * d.1 + p.2 * d.2), -(d.1 * p.2 - d.2 * p.1))
theorem rot_orient (d u v w : Pt2) : porient (rot d u) (rot d v) (rot d w) = (d.1 * d.1 + d.2 * d.2) * porient u v w := by
  unfold porient pcross psub rot
  grind
theorem dd_pos {d : Pt2} (h : ¬ (d.1 = 0 ∧ d.2 = 0)) : 0 < d.1 * d.1 + d.2 * d.2 := by
  have h1 := sq_nn d.1
  have h2 := sq_nn d.2
  by_cases e : d.1 = 0
  · have e2 : d.2 ≠ 0 := fun e2 => h ⟨e, e2⟩
    have : d.2 * d.2 ≠ 0 := fun e3 => e2 (qz_mul e3 e2)
    grind
  · have : d.1 * d.1 ≠ 0 := fun e3 => e (qz_mul e3 e)
    grind
theorem rot_inj {d u v : Pt2} (h : 0 < d.1 * d.1 + d.2 * d.2) (e : rot d u = rot d v) : u = v := by
  obtain ⟨e1, e2⟩ := Prod.ext_iff.1 e
  simp only [rot] at e1 e2
  have hz : d.1 * d.1 + d.2 * d.2 ≠ 0 := by grind
  have f1 : (d.1 * d.1 + d.2 * d.2) * (u.1 - v.1) = 0 := by grind
  have f2 : (d.1 * d.1 + d.2 * d.2) * (u.2 - v.2) = 0 := by grind
  have g1 := qz_mul f1 hz
  have g2 := qz_mul f2 hz
  exact Prod.ext (by grind) (by grind)
theorem Cvx.rot {g : Nat → Pt2} {n : Nat} (C : Cvx g n) {d : Pt2} (h : 0 < d.1 * d.1 + d.2 * d.2) : Cvx (fun i => Gv.rot d (g i)) n := by
  refine ⟨C.pos, fun i => by show Gv.rot d (g (i + n)) = _; rw [C.per], fun i k => ?_, fun i k hi hk hne e => C.ne i k hi hk hne (rot_inj h e), ?_⟩
  · show 0 ≤ porient (Gv.rot d (g i)) (Gv.rot d (g (i + 1))) (Gv.rot d (g k))
    rw [rot_orient]
    exact Rat.mul_nonneg (by grind) (C.or i k)
  · obtain ⟨i, hi, k, hk, hp⟩ := C.ex
    refine ⟨i, hi, k, hk, ?_⟩
    show 0 < porient (Gv.rot d (g i)) (Gv.rot d (g (i + 1))) (Gv.rot d (g k))
    rw [rot_orient]
    exact Rat.mul_pos h hp
theorem Cvx.ne1 {g : Nat → Pt2} {n : Nat} (C : Cvx g n) {k : Nat} (hk : k < n) : g k ≠ g (k + 1) := by
  have h3 := C.pos
  by_cases e : k + 1 < n
  · exact C.ne _ _ hk e (by omega)
  · have : k + 1 = n := by omega
    rw [this, C.per0]
    exact C.ne _ _ hk (by omega) (by omega)
theorem Cvx.flat_right {g : Nat → Pt2} {n : Nat} (C : Cvx g n) {Y : Rat} (hall : ∀ i, (g i).2 ≤ Y) {k : Nat} (h1 : (g k).2 = Y) (h2 : (g (k + 1)).2 = Y) (h3 : (g k).1 < (g (k + 1)).1) : False := by
  have all : ∀ i, (g i).2 = Y := fun i => by
    have o := C.or k i
    have e : porient (g k) (g (k + 1)) (g i) = ((g (k + 1)).1 - (g k).1) * ((g i).2 - Y) := by unfold porient pcross psub; grind
    rw [e] at o
    have h4 := hall i
    by_cases h5 : (g i).2 = Y
    · exact h5
    · have := Rat.mul_pos (show 0 < (g (k + 1)).1 - (g k).1 by grind) (show 0 < Y - (g i).2 by grind)
      grind
  obtain ⟨i, hi, j, hj, hp⟩ := C.ex
  have e : porient (g i) (g (i + 1)) (g j) = 0 := by
    have a1 := all i
    have a2 := all (i + 1)
    have a3 := all j
    unfold porient pcross psub
    grind
  grind
theorem Cvx.flat {g : Nat → Pt2} {n : Nat} (C : Cvx g n) {j k : Nat} (hj : j < n) (hk : k < n) (hne : k ≠ j) (hall : ∀ i, (g i).2 ≤ (g j).2) (hx : (g (j + 1)).1 < (g j).1) (y1 : (g k).2 = (g j).2) (y2 : (g (k + 1)).2 = (g j).2)
    (hov : (g (k + 1)).1 < (g k).1 → (g (j + 1)).1 < (g k).1 ∧ (g (k + 1)).1 < (g j).1) : False := by
  rcases (show (g k).1 < (g (k + 1)).1 ∨ (g (k + 1)).1 < (g k).1 ∨ (g k).1 = (g (k + 1)).1 by grind) with h | h | h
  · exact C.flat_right hall y1 y2 h
  · obtain ⟨o1, o2⟩ := hov h
    exact C.no_lap _ k j hk hj hne h hx o1 o2 (Nat.le_refl _)
  · exact C.ne1 hk (Prod.ext h (by rw [y1, y2]))
theorem Cvx.below {g : Nat → Pt2} {n : Nat} (C : Cvx g n) {j : Nat} (hy : (g (j + 1)).2 = (g j).2) (hx : (g (j + 1)).1 < (g j).1) (i : Nat) : (g i).2 ≤ (g j).2 := by
  have o := C.or j i
  have e : porient (g j) (g (j + 1)) (g i) = ((g (j + 1)).1 - (g j).1) * ((g i).2 - (g j).2) := by unfold porient pcross psub; grind
  rw [e] at o
  by_cases h5 : (g i).2 ≤ (g j).2
  · exact h5
  · have := Rat.mul_pos (show 0 < (g j).1 - (g (j + 1)).1 by grind) (show 0 < (g i).2 - (g j).2 by grind)
    grind
theorem Cvx.side {g : Nat → Pt2} {n : Nat} (C : Cvx g n) {j : Nat} (hj : j < n) : 0 < (psub (g (j + 1)) (g j)).1 * (psub (g (j + 1)) (g j)).1 + (psub (g (j + 1)) (g j)).2 * (psub (g (j + 1)) (g j)).2 :=
  dd_pos fun ⟨e1, e2⟩ => C.ne1 hj (Prod.ext (by simp only [psub] at e1; grind) (by simp only [psub] at e2; grind))
theorem rot_side (p q : Pt2) : (rot (psub q p) q).1 = (rot (psub q p) p).1 - ((psub q p).1 * (psub q p).1 + (psub q p).2 * (psub q p).2) ∧ (rot (psub q p) q).2 = (rot (psub q p) p).2 := by
  unfold rot psub
  exact ⟨by grind, by grind⟩
theorem rot_mix (d p q : Pt2) (t : Rat) : rot d (pmix p q t) = ((rot d p).1 + t * ((rot d q).1 - (rot d p).1), (rot d p).2 + t * ((rot d q).2 - (rot d p).2)) := by
  unfold rot pmix padd pscale psub
  exact Prod.ext (by grind) (by grind)
theorem Cvx.not_in {g : Nat → Pt2} {n : Nat} (C : Cvx g n) {j k : Nat} (hj : j < n) (hk : k < n) {t : Rat} (t0 : 0 < t) (t1 : t < 1) (h : g k = pmix (g j) (g (j + 1)) t) : False := by
  have hd := C.side hj
  have C' := C.rot hd
  obtain ⟨s1, s2⟩ := rot_side (g j) (g (j + 1))
  have hr := rot_mix (psub (g (j + 1)) (g j)) (g j) (g (j + 1)) t
  rw [← h] at hr
  obtain ⟨r1, r2⟩ := Prod.ext_iff.1 hr
  simp only [] at r1 r2
  have hx : (Gv.rot (psub (g (j + 1)) (g j)) (g (j + 1))).1 < (Gv.rot (psub (g (j + 1)) (g j)) (g j)).1 := by grind
  have hb := fun i => C'.below (j := j) s2 hx i
  have td := Rat.mul_pos t0 hd
  have td' := Rat.mul_pos (show 0 < 1 - t by grind) hd
  have o := C'.or k (j + 1)
  have hne : k ≠ j := fun e => by
    rw [e, s1] at r1
    grind
  have hbk := hb (k + 1)
  have hbb := fun i => hb i
  refine C'.flat hj hk hne hb hx (by show (Gv.rot _ (g k)).2 = (Gv.rot _ (g j)).2; rw [r2, s2]; grind) ?_ (fun h' => ?_)
  · show (Gv.rot _ (g (k + 1))).2 = (Gv.rot _ (g j)).2
    change (Gv.rot _ (g (k + 1))).2 ≤ (Gv.rot _ (g j)).2 at hbk
    change 0 ≤ porient (Gv.rot _ (g k)) (Gv.rot _ (g (k + 1))) (Gv.rot _ (g (j + 1))) at o
    generalize (psub (g (j + 1)) (g j)).1 * (psub (g (j + 1)) (g j)).1 + (psub (g (j + 1)) (g j)).2 * (psub (g (j + 1)) (g j)).2 = D at *
    generalize Gv.rot (psub (g (j + 1)) (g j)) (g j) = P at *
    generalize Gv.rot (psub (g (j + 1)) (g j)) (g (j + 1)) = Q at *
    generalize Gv.rot (psub (g (j + 1)) (g j)) (g k) = R at *
    generalize Gv.rot (psub (g (j + 1)) (g j)) (g (k + 1)) = S at *
    have e : porient R S Q = (S.2 - P.2) * ((1 - t) * D) := by unfold porient pcross psub; grind
    rw [e] at o
    by_cases h5 : S.2 = P.2
    · exact h5
    · have := Rat.mul_pos (show 0 < P.2 - S.2 by grind) td'
      grind
  · change (Gv.rot _ (g (k + 1))).1 < (Gv.rot _ (g k)).1 at h'
    show (Gv.rot _ (g (j + 1))).1 < (Gv.rot _ (g k)).1 ∧ (Gv.rot _ (g (k + 1))).1 < (Gv.rot _ (g j)).1
    generalize (psub (g (j + 1)) (g j)).1 * (psub (g (j + 1)) (g j)).1 + (psub (g (j + 1)) (g j)).2 * (psub (g (j + 1)) (g j)).2 = D at *
    generalize Gv.rot (psub (g (j + 1)) (g j)) (g j) = P at *
    generalize Gv.rot (psub (g (j + 1)) (g j)) (g (j + 1)) = Q at *
    generalize Gv.rot (psub (g (j + 1)) (g j)) (g k) = R at *
    have f1 : R.1 = P.1 - t * D := by rw [r1, s1]; grind
    have f2 : R.1 - Q.1 = (1 - t) * D := by rw [r1, s1]; grind
    clear r1
    constructor <;> grind
theorem Cvx.not_two {g : Nat → Pt2} {n : Nat} (C : Cvx g n) {i j : Nat} (hi : i < n) (hj : j < n) (hne : i ≠ j) {t u : Rat} (t0 : 0 < t) (t1 : t < 1) (u0 : 0 < u) (u1 : u < 1) (h : pmix (g i) (g (i + 1)) u = pmix (g j) (g (j + 1)) t) : False := by
  have hd := C.side hj
  have C' := C.rot hd
  obtain ⟨s1, s2⟩ := rot_side (g j) (g (j + 1))
  have hr := rot_mix (psub (g (j + 1)) (g j)) (g j) (g (j + 1)) t
  have hr' := rot_mix (psub (g (j + 1)) (g j)) (g i) (g (i + 1)) u
  rw [h, hr] at hr'
  obtain ⟨r1, r2⟩ := Prod.ext_iff.1 hr'
  simp only [] at r1 r2
  have hx : (Gv.rot (psub (g (j + 1)) (g j)) (g (j + 1))).1 < (Gv.rot (psub (g (j + 1)) (g j)) (g j)).1 := by grind
  have hb := fun i => C'.below (j := j) s2 hx i
  have td := Rat.mul_pos t0 hd
  have td' := Rat.mul_pos (show 0 < 1 - t by grind) hd
  have b1 := hb i
  have b2 := hb (i + 1)
  change (Gv.rot _ (g i)).2 ≤ (Gv.rot _ (g j)).2 at b1
  change (Gv.rot _ (g (i + 1))).2 ≤ (Gv.rot _ (g j)).2 at b2
  have z : (Gv.rot (psub (g (j + 1)) (g j)) (g i)).2 = (Gv.rot (psub (g (j + 1)) (g j)) (g j)).2 ∧ (Gv.rot (psub (g (j + 1)) (g j)) (g (i + 1))).2 = (Gv.rot (psub (g (j + 1)) (g j)) (g j)).2 := by
    generalize Gv.rot (psub (g (j + 1)) (g j)) (g j) = P at *
    generalize Gv.rot (psub (g (j + 1)) (g j)) (g (j + 1)) = Q at *
    generalize Gv.rot (psub (g (j + 1)) (g j)) (g i) = R at *
    generalize Gv.rot (psub (g (j + 1)) (g j)) (g (i + 1)) = S at *
    have z1 := Rat.mul_nonneg (show 0 ≤ 1 - u by grind) (show 0 ≤ P.2 - R.2 by grind)
    have z2 := Rat.mul_nonneg (show 0 ≤ u by grind) (show 0 ≤ P.2 - S.2 by grind)
    have z3 : (1 - u) * (P.2 - R.2) + u * (P.2 - S.2) = 0 := by grind
    have y1 := qz_mul (zero2 z1 z2 z3) (by grind)
    have y2 := qz_mul (zero2 z2 z1 (by grind)) (by grind)
    exact ⟨by grind, by grind⟩
  refine C'.flat hj hi hne hb hx z.1 z.2 (fun h' => ?_)
  change (Gv.rot _ (g (i + 1))).1 < (Gv.rot _ (g i)).1 at h'
  show (Gv.rot _ (g (j + 1))).1 < (Gv.rot _ (g i)).1 ∧ (Gv.rot _ (g (i + 1))).1 < (Gv.rot _ (g j)).1
  generalize (psub (g (j + 1)) (g j)).1 * (psub (g (j + 1)) (g j)).1 + (psub (g (j + 1)) (g j)).2 * (psub (g (j + 1)) (g j)).2 = D at *
  generalize Gv.rot (psub (g (j + 1)) (g j)) (g j) = P at *
  generalize Gv.rot (psub (g (j + 1)) (g j)) (g (j + 1)) = Q at *
  generalize Gv.rot (psub (g (j + 1)) (g j)) (g i) = R at *
  generalize Gv.rot (psub (g (j + 1)) (g j)) (g (i + 1)) = S at *
  have w1 := Rat.mul_pos u0 (show 0 < R.1 - S.1 by grind)
  have w2 := Rat.mul_pos (show 0 < 1 - u by grind) (show 0 < R.1 - S.1 by grind)
  have f1 : R.1 - (P.1 - t * D) = u * (R.1 - S.1) := by rw [s1] at r1; grind
  have f2 : (P.1 - t * D) - S.1 = (1 - u) * (R.1 - S.1) := by rw [s1] at r1; grind
  have f3 : (P.1 - t * D) - Q.1 = (1 - t) * D := by rw [s1]; grind
  clear r1
  constructor <;> grind
end Gv
namespace Gv
open Go Go.RowKit Gs
set_option linter.unusedVariables false
theorem pa_snoc_lt {X : List Pt2} {v : Pt2} {i : Nat} (h : i < X.length) : pa (X ++ [v]) i = pa X i := pa_at (by rw [List.getElem?_append_left h]; exact at_pa h)
theorem pa_snoc_eq {X : List Pt2} {v : Pt2} : pa (X ++ [v]) X.length = v := pa_at (by rw [List.getElem?_append_right (Nat.le_refl _), Nat.sub_self]; rfl)
def plast (X : List Pt2) : Pt2 := pa X (X.length - 1)
theorem plast_snoc {X : List Pt2} {v : Pt2} : plast (X ++ [v]) = v := by
  unfold plast
  rw [List.length_append, List.length_singleton, Nat.add_sub_cancel]
  exact pa_snoc_eq
def chn (o : Pt2) (X : List Pt2) : Rat := qsum (fun i => porient (pa X i) (pa X (i + 1)) o) (X.length - 1)
theorem chn_snoc {o v : Pt2} {X : List Pt2} : chn o (X ++ [v]) = chn o X + if X = [] then 0 else porient (plast X) v o := by
  by_cases h : X = []
  · subst h; rw [if_pos rfl]; show (0 : Rat) = 0 + 0; grind
  rw [if_neg h]
  have hl : 0 < X.length := List.length_pos_iff.2 h
  obtain ⟨m, hm⟩ : ∃ m, X.length = m + 1 := ⟨X.length - 1, by omega⟩
  unfold chn plast
  rw [List.length_append, List.length_singleton, Nat.add_sub_cancel, hm, Nat.add_sub_cancel]
  show qsum _ m + porient (pa (X ++ [v]) m) (pa (X ++ [v]) (m + 1)) o = _
  have e1 : pa (X ++ [v]) m = pa X m := pa_snoc_lt (by omega)
  have e2 : pa (X ++ [v]) (m + 1) = v := by rw [← hm]; exact pa_snoc_eq
  rw [e1, e2]
  congr 1
  refine qsum_congr m fun i hi => ?_
  rw [pa_snoc_lt (by omega), pa_snoc_lt (by omega)]
theorem psum_chn {o : Pt2} {X : List Pt2} (h : 0 < X.length) : psum X X.length = chn o X + porient (plast X) (pa X 0) o := by
  obtain ⟨m, hm⟩ : ∃ m, X.length = m + 1 := ⟨X.length - 1, by omega⟩
  rw [psum_pg, ← orient_sum (g := pg X) (n := X.length) (by have := pg_n (l := X) 0; rwa [Nat.zero_add] at this) o]
  unfold chn plast
  rw [hm, Nat.add_sub_cancel]
  show qsum _ m + porient (pg X m) (pg X (m + 1)) o = _
  have e1 : pg X m = pa X m := pg_lt (by omega)
  have e2 : pg X (m + 1) = pa X 0 := by unfold pg; rw [hm, Nat.mod_self]
  rw [e1, e2]
  congr 1
  refine qsum_congr m fun i hi => ?_
  rw [pg_lt (by omega), pg_lt (by omega)]
theorem orient_sw (a b r : Pt2) : porient b a r = -porient a b r := by unfold porient pcross psub; grind
theorem cut_t {p q a b : Pt2} (h : porient a b p * porient a b q < 0) : ∃ t, 0 < t ∧ t < 1 ∧ pcut p q a b = pmix p q t ∧ (1 - t) * porient a b p + t * porient a b q = 0 := by
  refine ⟨porient a b p / (porient a b p - porient a b q), ?_, ?_, rfl, ?_⟩
  all_goals
    generalize porient a b p = x at *
    generalize porient a b q = y at *
    have hxy : x - y ≠ 0 := fun e => by
      have : x = y := by grind
      subst this
      have := sq_nn x
      grind
    have ht : x / (x - y) * (x - y) = x := by grind
    have hx0 : x ≠ 0 := fun e => by rw [e] at h; grind
    have hy0 : y ≠ 0 := fun e => by rw [e] at h; grind
    generalize x / (x - y) = t at *
    by_cases hx : 0 < x
  · have hy : y < 0 := by
      by_cases hy : y < 0
      · exact hy
      · have := Rat.mul_nonneg (show 0 ≤ x by grind) (show 0 ≤ y by grind)
        grind
    by_cases h0 : 0 < t
    · exact h0
    · have := Rat.mul_nonneg (show 0 ≤ -t by grind) (show 0 ≤ x - y by grind)
      grind
  · have hy : 0 < y := by
      by_cases hy : 0 < y
      · exact hy
      · have := Rat.mul_nonneg (show 0 ≤ -x by grind) (show 0 ≤ -y by grind)
        grind
    by_cases h0 : 0 < t
    · exact h0
    · have := Rat.mul_nonneg (show 0 ≤ -t by grind) (show 0 ≤ y - x by grind)
      grind
  · have hy : y < 0 := by
      by_cases hy : y < 0
      · exact hy
      · have := Rat.mul_nonneg (show 0 ≤ x by grind) (show 0 ≤ y by grind)
        grind
    by_cases h0 : t < 1
    · exact h0
    · have := Rat.mul_nonneg (show 0 ≤ t - 1 by grind) (show 0 ≤ x - y by grind)
      grind
  · have hy : 0 < y := by
      by_cases hy : 0 < y
      · exact hy
      · have := Rat.mul_nonneg (show 0 ≤ -x by grind) (show 0 ≤ -y by grind)
        grind
    by_cases h0 : t < 1
    · exact h0
    · have := Rat.mul_nonneg (show 0 ≤ t - 1 by grind) (show 0 ≤ y - x by grind)
      grind
  · grind
  · grind
theorem mix_at (u v p q : Pt2) (t : Rat) : porient u v (pmix p q t) = (1 - t) * porient u v p + t * porient u v q := by unfold porient pcross psub pmix padd pscale psub; grind
theorem mix_to (p q r : Pt2) (t : Rat) : porient p (pmix p q t) r = t * porient p q r := by unfold porient pcross psub pmix padd pscale psub; grind
theorem mix_from (p q r : Pt2) (t : Rat) : porient (pmix p q t) q r = (1 - t) * porient p q r := by unfold porient pcross psub pmix padd pscale psub; grind
theorem cut_sw {p q a b : Pt2} (h : porient a b p * porient a b q < 0) : pcut p q b a = pcut p q a b := by
  unfold pcut
  congr 1
  rw [orient_sw a b p, orient_sw a b q]
  have hxy : porient a b p - porient a b q ≠ 0 := fun e => by
    have e' : porient a b p = porient a b q := by grind
    rw [e'] at h
    have := sq_nn (porient a b q)
    grind
  generalize porient a b p = x at *
  generalize porient a b q = y at *
  have : -x - -y ≠ 0 := by grind
  grind
def epart (a b o p q : Pt2) : Rat :=
  if 0 ≤ porient a b p then (if 0 ≤ porient a b q then porient p q o else if porient a b p = 0 then 0 else porient p (pcut p q a b) o)
  else if 0 < porient a b q then porient (pcut p q a b) q o else 0
theorem line0 {a b u v o : Pt2} (hab : ¬ a = b) (hu : porient a b u = 0) (hv : porient a b v = 0) (ho : porient a b o = 0) : porient u v o = 0 := by
  have h1 : (b.1 - a.1) * porient u v o = (v.1 - u.1) * (porient a b o - porient a b u) - (o.1 - u.1) * (porient a b v - porient a b u) := by unfold porient pcross psub; grind
  have h2 : (b.2 - a.2) * porient u v o = (v.2 - u.2) * (porient a b o - porient a b u) - (o.2 - u.2) * (porient a b v - porient a b u) := by unfold porient pcross psub; grind
  rw [hu, hv, ho] at h1 h2
  by_cases e : b.1 - a.1 = 0
  · by_cases e2 : b.2 - a.2 = 0
    · exact absurd (Prod.ext (by grind) (by grind)) hab
    · exact qz_mul (x := b.2 - a.2) (by grind) e2
  · exact qz_mul (x := b.1 - a.1) (by grind) e
theorem epart_add {a b o p q : Pt2} (hab : ¬ a = b) (ho : porient a b o = 0) : epart a b o p q + epart b a o p q = porient p q o := by
  have key : porient a b p * porient a b q < 0 → porient p (pcut p q a b) o + porient (pcut p q a b) q o = porient p q o := fun h => by
    obtain ⟨t, _, _, e, _⟩ := cut_t h
    rw [e, mix_to, mix_from]
    grind
  unfold epart
  rw [orient_sw a b p, orient_sw a b q]
  rcases (show porient a b p < 0 ∨ porient a b p = 0 ∨ 0 < porient a b p by grind) with hp | hp | hp <;>
  rcases (show porient a b q < 0 ∨ porient a b q = 0 ∨ 0 < porient a b q by grind) with hq | hq | hq
  · rw [if_neg (by grind), if_neg (by grind), if_pos (by grind), if_pos (by grind)]; grind
  · rw [if_neg (by grind), if_neg (by grind), if_pos (by grind), if_pos (by grind)]; grind
  · have hm : porient a b p * porient a b q < 0 := by have := Rat.mul_pos (show 0 < -porient a b p by grind) hq; grind
    rw [if_neg (by grind), if_pos (by grind), if_pos (by grind), if_neg (by grind), if_neg (by grind), cut_sw hm, ← key hm]
    grind
  · rw [if_pos (by grind), if_neg (by grind), if_pos (by grind), if_pos (by grind), if_pos (by grind)]; grind
  · rw [if_pos (by grind), if_pos (by grind), if_pos (by grind), if_pos (by grind), line0 hab hp hq ho]; grind
  · rw [if_pos (by grind), if_pos (by grind), if_pos (by grind), if_neg (by grind), if_pos (by grind)]; grind
  · have hm : porient a b p * porient a b q < 0 := by have := Rat.mul_pos hp (show 0 < -porient a b q by grind); grind
    rw [if_pos (by grind), if_neg (by grind), if_neg (by grind), if_neg (by grind), if_pos (by grind), cut_sw hm, ← key hm]
  · rw [if_pos (by grind), if_pos (by grind), if_neg (by grind), if_neg (by grind)]; grind
  · rw [if_pos (by grind), if_pos (by grind), if_neg (by grind), if_neg (by grind)]; grind
def esum (l : List Pt2) (a b o : Pt2) : Nat → Rat := qsum fun i => epart a b o (pg l i) (pg l (i + 1))
def hfirst (l : List Pt2) (a b : Pt2) (i : Nat) (X : List Pt2) : Prop :=
  (X = [] → i = 0 ∨ (porient a b (pg l 0) < 0 ∧ porient a b (pg l i) ≤ 0)) ∧ (X ≠ [] → (0 ≤ porient a b (pg l 0) → pa X 0 = pg l 0) ∧ (porient a b (pg l 0) < 0 → porient a b (pa X 0) = 0))
theorem phalfs_step {l : List Pt2} {a b : Pt2} {i : Nat} (hi : i < l.length) : phalfs l a b (i + 1) = phalfs l a b i ++ phalf1 a b (pg l i) (pg l (i + 1)) := by
  rw [pg_lt hi]
  rfl
theorem step_cases {a b p q : Pt2} {P : List Pt2 → Prop}
    (h1 : 0 ≤ porient a b p → 0 ≤ porient a b q → P [p]) (h2 : porient a b p = 0 → porient a b q < 0 → P [p])
    (h3 : 0 < porient a b p → porient a b q < 0 → porient a b p * porient a b q < 0 → P ([p] ++ [pcut p q a b]))
    (h4 : porient a b p < 0 → porient a b q ≤ 0 → P []) (h5 : porient a b p < 0 → 0 < porient a b q → porient a b p * porient a b q < 0 → P [pcut p q a b]) : P (phalf1 a b p q) := by
  unfold phalf1
  rcases (show porient a b p < 0 ∨ porient a b p = 0 ∨ 0 < porient a b p by grind) with hp | hp | hp <;>
  rcases (show porient a b q < 0 ∨ porient a b q = 0 ∨ 0 < porient a b q by grind) with hq | hq | hq
  · have := Rat.mul_pos (show 0 < -porient a b p by grind) (show 0 < -porient a b q by grind)
    rw [if_neg (by grind), if_neg (by grind)]; exact h4 hp (by grind)
  · rw [if_neg (by grind), if_neg (by rw [hq]; grind)]; exact h4 hp (by grind)
  · have hm : porient a b p * porient a b q < 0 := by have := Rat.mul_pos (show 0 < -porient a b p by grind) hq; grind
    rw [if_neg (by grind), if_pos hm]; exact h5 hp hq hm
  · rw [if_pos (by grind), if_neg (by rw [hp]; grind)]; exact h2 hp hq
  · rw [if_pos (by grind), if_neg (by rw [hp]; grind)]; exact h1 (by grind) (by grind)
  · rw [if_pos (by grind), if_neg (by rw [hp]; grind)]; exact h1 (by grind) (by grind)
  · have hm : porient a b p * porient a b q < 0 := by have := Rat.mul_pos hp (show 0 < -porient a b q by grind); grind
    rw [if_pos (by grind), if_pos hm]; exact h3 hp hq hm
  · rw [if_pos (by grind), if_neg (by rw [hq]; grind)]; exact h1 (by grind) (by grind)
  · have := Rat.mul_pos hp hq
    rw [if_pos (by grind), if_neg (by grind)]; exact h1 (by grind) (by grind)
theorem pa_first {X Y : List Pt2} (h : X ≠ []) : pa (X ++ Y) 0 = pa X 0 := by
  have hl : 0 < X.length := List.length_pos_iff.2 h
  exact pa_at (by rw [List.getElem?_append_left hl]; exact at_pa hl)
theorem cut_on {p q a b : Pt2} (h : porient a b p * porient a b q < 0) : porient a b (pcut p q a b) = 0 := by
  obtain ⟨t, _, _, e, e0⟩ := cut_t h
  rw [e, mix_at, e0]
theorem hfirst_step {l : List Pt2} {a b : Pt2} {i : Nat} (hi : i < l.length) (h : hfirst l a b i (phalfs l a b i)) : hfirst l a b (i + 1) (phalfs l a b (i + 1)) := by
  rw [phalfs_step hi]
  generalize phalfs l a b i = X at *
  obtain ⟨h1, h2⟩ := h
  have old : ∀ Y, X ≠ [] → hfirst l a b (i + 1) (X ++ Y) := fun Y hX => ⟨fun e => absurd (List.append_eq_nil_iff.1 e).1 hX, fun _ => by rw [pa_first hX]; exact h2 hX⟩
  by_cases hX : X = []
  · subst hX
    rw [List.nil_append]
    have hz := h1 rfl
    refine step_cases (P := fun Y => hfirst l a b (i + 1) Y) (fun p1 q1 => ?_) (fun p1 q1 => ?_) (fun p1 q1 m => ?_) (fun p1 q1 => ?_) (fun p1 q1 m => ?_)
    · refine ⟨fun e => (by cases e), fun _ => ⟨fun h0 => ?_, fun h0 => ?_⟩⟩
      · rcases hz with rfl | hz
        · rfl
        · grind
      · rcases hz with rfl | hz
        · grind
        · show porient a b (pg l i) = 0; grind
    · refine ⟨fun e => (by cases e), fun _ => ⟨fun h0 => ?_, fun h0 => p1⟩⟩
      rcases hz with rfl | hz
      · rfl
      · grind
    · refine ⟨fun e => (by cases e), fun _ => ⟨fun h0 => ?_, fun h0 => ?_⟩⟩
      · rcases hz with rfl | hz
        · rfl
        · grind
      · rcases hz with rfl | hz
        · grind
        · grind
    · refine ⟨fun _ => .inr ⟨?_, q1⟩, fun e => absurd rfl e⟩
      rcases hz with rfl | hz
      · exact p1
      · exact hz.1
    · refine ⟨fun e => (by cases e), fun _ => ⟨fun h0 => ?_, fun h0 => cut_on m⟩⟩
      rcases hz with rfl | hz
      · grind
      · grind
  · exact old _ hX
theorem hfirst_all {l : List Pt2} {a b : Pt2} : ∀ i, i ≤ l.length → hfirst l a b i (phalfs l a b i)
  | 0, _ => ⟨fun _ => .inl rfl, fun e => absurd rfl e⟩
  | i + 1, hi => hfirst_step (by omega) (hfirst_all i (by omega))
theorem half_chn {l : List Pt2} {a b o : Pt2} (hab : ¬ a = b) (ho : porient a b o = 0) : ∀ i, i ≤ l.length → (0 ≤ porient a b (pg l i) → chn o (phalfs l a b i ++ [pg l i]) = esum l a b o i) ∧
    (porient a b (pg l i) < 0 → chn o (phalfs l a b i) = esum l a b o i ∧ (phalfs l a b i ≠ [] → porient a b (plast (phalfs l a b i)) = 0))
  | 0, _ => ⟨fun _ => rfl, fun _ => ⟨rfl, fun e => absurd rfl e⟩⟩
  | i + 1, hi => by
    obtain ⟨h1, h2⟩ := half_chn (l := l) hab ho i (by omega)
    rw [phalfs_step (show i < l.length by omega)]
    have he : esum l a b o (i + 1) = esum l a b o i + epart a b o (pg l i) (pg l (i + 1)) := rfl
    rw [he]
    generalize phalfs l a b i = X at *
    generalize esum l a b o i = E at *
    generalize pg l i = p at *
    generalize pg l (i + 1) = q at *
    have ne1 : ∀ v : Pt2, X ++ [v] ≠ [] := fun v e => by have := (List.append_eq_nil_iff.1 e).2; cases this
    refine step_cases (P := fun Y => (0 ≤ porient a b q → chn o (X ++ Y ++ [q]) = E + epart a b o p q) ∧ (porient a b q < 0 → chn o (X ++ Y) = E + epart a b o p q ∧ (X ++ Y ≠ [] → porient a b (plast (X ++ Y)) = 0)))
      (fun p1 q1 => ?_) (fun p1 q1 => ?_) (fun p1 q1 m => ?_) (fun p1 q1 => ?_) (fun p1 q1 m => ?_)
    · have ep : epart a b o p q = porient p q o := by unfold epart; rw [if_pos p1, if_pos q1]
      refine ⟨fun _ => ?_, fun h => by grind⟩
      rw [chn_snoc, if_neg (ne1 p), plast_snoc, h1 p1, ep]
    · have ep : epart a b o p q = 0 := by unfold epart; rw [if_pos (by grind), if_neg (by grind), if_pos p1]
      refine ⟨fun h => by grind, fun _ => ⟨?_, fun _ => by rw [plast_snoc]; exact p1⟩⟩
      rw [h1 (by grind), ep]
      grind
    · have ep : epart a b o p q = porient p (pcut p q a b) o := by unfold epart; rw [if_pos (by grind), if_neg (by grind), if_neg (by grind)]
      refine ⟨fun h => by grind, fun _ => ⟨?_, fun _ => by rw [← List.append_assoc, plast_snoc]; exact cut_on m⟩⟩
      rw [← List.append_assoc, chn_snoc, if_neg (ne1 p), plast_snoc, h1 (by grind), ep]
    · have ep : epart a b o p q = 0 := by unfold epart; rw [if_neg (by grind), if_neg (by grind)]
      rw [List.append_nil, ep]
      obtain ⟨g1, g2⟩ := h2 p1
      refine ⟨fun h => ?_, fun h => ⟨by rw [g1]; grind, g2⟩⟩
      rw [chn_snoc, g1]
      by_cases hX : X = []
      · rw [if_pos hX]
      · rw [if_neg hX, line0 hab (g2 hX) (by grind) ho]
    · have ep : epart a b o p q = porient (pcut p q a b) q o := by unfold epart; rw [if_neg (by grind), if_pos q1]
      obtain ⟨g1, g2⟩ := h2 p1
      refine ⟨fun h => ?_, fun h => by grind⟩
      rw [chn_snoc, if_neg (ne1 _), plast_snoc, chn_snoc, g1, ep]
      by_cases hX : X = []
      · rw [if_pos hX]; grind
      · rw [if_neg hX, line0 hab (g2 hX) (cut_on m) ho]; grind
theorem half_sum {l : List Pt2} {a b o : Pt2} (hab : ¬ a = b) (ho : porient a b o = 0) (h0 : 0 < l.length) : psum (phalfs l a b l.length) (phalfs l a b l.length).length = esum l a b o l.length := by
  have hn := pg_n (l := l) 0
  rw [Nat.zero_add] at hn
  obtain ⟨h1, h2⟩ := half_chn hab ho (l := l) l.length (Nat.le_refl _)
  obtain ⟨f1, f2⟩ := hfirst_all (l := l) (a := a) (b := b) l.length (Nat.le_refl _)
  rw [hn] at h1 h2
  generalize phalfs l a b l.length = X at *
  by_cases hX : X = []
  · have hz := f1 hX
    rcases hz with hz | ⟨hz, _⟩
    · omega
    · rw [← (h2 hz).1, hX]; rfl
  · have hl : 0 < X.length := List.length_pos_iff.2 hX
    obtain ⟨e1, e2⟩ := f2 hX
    rw [psum_chn (o := o) hl]
    by_cases hz : 0 ≤ porient a b (pg l 0)
    · rw [e1 hz, ← h1 hz, chn_snoc, if_neg hX]
    · have hz' : porient a b (pg l 0) < 0 := by grind
      obtain ⟨g1, g2⟩ := h2 hz'
      rw [g1, line0 hab (g2 hX) (e2 hz') ho]
      grind
theorem qsum_add {f h : Nat → Rat} : ∀ n, qsum (fun i => f i + h i) n = qsum f n + qsum h n
  | 0 => by show (0 : Rat) = 0 + 0; grind
  | n + 1 => by show qsum (fun i => f i + h i) n + (f n + h n) = qsum f n + f n + (qsum h n + h n); rw [qsum_add n]; grind
theorem halves_add {l : List Pt2} {a b : Pt2} (hab : ¬ a = b) (h0 : 0 < l.length) : parea (phalf l a b) + parea (phalf l b a) = parea l := by
  have e1 : phalf l a b = phalfs l a b l.length := if_neg hab
  have e2 : phalf l b a = phalfs l b a l.length := if_neg fun e => hab e.symm
  have ha : porient a b a = 0 := by unfold porient pcross psub; grind
  have hn := pg_n (l := l) 0
  rw [Nat.zero_add] at hn
  rw [e1, e2]
  unfold parea
  rw [half_sum hab ha h0, half_sum (fun e => hab e.symm) (by rw [orient_sw, ha]; grind) h0, psum_pg, ← orient_sum (g := pg l) hn a]
  have : qsum (fun i => porient (pg l i) (pg l (i + 1)) a) l.length = esum l a b a l.length + esum l b a a l.length := by
    unfold esum
    rw [← qsum_add]
    exact qsum_congr _ fun i _ => (epart_add hab ha).symm
  rw [this]
  generalize (1 : Rat) / 2 = hf
  grind
end Gv
namespace Gv
open Go Go.RowKit Gs
set_option linter.unusedVariables false
def Inn (l : List Pt2) (r : Pt2) : Prop := ∀ i, 0 ≤ porient (pg l i) (pg l (i + 1)) r
def Rg (l : List Pt2) (a b u v : Pt2) : Prop := ∀ r, Inn l r → 0 ≤ porient a b r → 0 ≤ porient u v r
def Exi (l : List Pt2) (a b u : Pt2) : Prop := porient a b u = 0 ∧ ∃ w, porient a b w < 0 ∧ ∀ r, Inn l r → 0 ≤ porient u w r
theorem pluck (a b u v w r : Pt2) : porient u v r * (porient a b w - porient a b u) = -((porient a b v - porient a b u) * porient u r w) - porient u w v * (porient a b r - porient a b u) := by unfold porient pcross psub; grind
theorem exi_rg {l : List Pt2} {a b u v : Pt2} (h : Exi l a b u) (hv : Inn l v) (hv0 : porient a b v = 0) : Rg l a b u v := by
  obtain ⟨hu, w, hw, hall⟩ := h
  intro r hr hr0
  have e := pluck a b u v w r
  rw [hu, hv0] at e
  have h1 := Rat.mul_nonneg (hall v hv) hr0
  by_cases h2 : 0 ≤ porient u v r
  · exact h2
  · have := Rat.mul_pos (show 0 < -porient u v r by grind) (show 0 < -porient a b w by grind)
    grind
theorem adj_snoc {R : Pt2 → Pt2 → Prop} {X : List Pt2} {v : Pt2} (h : ∀ j, j + 1 < X.length → R (pa X j) (pa X (j + 1))) (hv : X ≠ [] → R (plast X) v) : ∀ j, j + 1 < (X ++ [v]).length → R (pa (X ++ [v]) j) (pa (X ++ [v]) (j + 1)) := by
  intro j hj
  rw [List.length_append, List.length_singleton] at hj
  rw [pa_snoc_lt (show j < X.length by omega)]
  by_cases e : j + 1 = X.length
  · rw [e, pa_snoc_eq]
    have := hv (fun e => by subst e; simp at hj)
    unfold plast at this
    rwa [← e, Nat.add_sub_cancel] at this
  · rw [pa_snoc_lt (by omega)]
    exact h j (by omega)
theorem inn_mix {l : List Pt2} {p q : Pt2} {t : Rat} (hp : Inn l p) (hq : Inn l q) (t0 : 0 ≤ t) (t1 : t ≤ 1) : Inn l (pmix p q t) := fun i => by
  rw [mix_at]
  have h1 := Rat.mul_nonneg (show 0 ≤ 1 - t by grind) (hp i)
  have h2 := Rat.mul_nonneg t0 (hq i)
  grind
structure HalfB (l : List Pt2) (a b : Pt2) (i : Nat) (X : List Pt2) : Prop where
  adj : ∀ j, j + 1 < X.length → Rg l a b (pa X j) (pa X (j + 1))
  last : X ≠ [] → (0 ≤ porient a b (pg l i) → Rg l a b (plast X) (pg l i)) ∧ (porient a b (pg l i) < 0 → Exi l a b (plast X))
  mem : ∀ u ∈ X, Inn l u ∧ 0 ≤ porient a b u
  nd : X.Pairwise (· ≠ ·)
  from_ : ∀ u ∈ X, (∃ j, j < i ∧ u = pg l j) ∨ ∃ j, j < i ∧ ∃ t, 0 < t ∧ t < 1 ∧ u = pmix (pg l j) (pg l (j + 1)) t
theorem nd_snoc {X : List Pt2} {v : Pt2} (h : X.Pairwise (· ≠ ·)) (hv : ∀ u ∈ X, u ≠ v) : (X ++ [v]).Pairwise (· ≠ ·) :=
  List.pairwise_append.2 ⟨h, List.pairwise_singleton _ _, fun u hu w hw => by rw [List.mem_singleton.1 hw]; exact hv u hu⟩
theorem hb_step {l : List Pt2} {a b : Pt2} {i : Nat} (C : Cvx (pg l) l.length) (hi : i < l.length) (H : HalfB l a b i (phalfs l a b i)) : HalfB l a b (i + 1) (phalfs l a b (i + 1)) := by
  rw [phalfs_step hi]
  generalize phalfs l a b i = X at *
  obtain ⟨h1, h2, h3, h4, h5⟩ := H
  have inp : Inn l (pg l i) := fun k => C.or k i
  have inq : Inn l (pg l (i + 1)) := fun k => C.or k (i + 1)
  have o1 : ∀ r, Inn l r → 0 ≤ porient (pg l i) (pg l (i + 1)) r := fun r hr => hr i
  have old : ∀ u ∈ X, (∃ j, j < i + 1 ∧ u = pg l j) ∨ ∃ j, j < i + 1 ∧ ∃ t, 0 < t ∧ t < 1 ∧ u = pmix (pg l j) (pg l (j + 1)) t := fun u hu => by
    rcases h5 u hu with ⟨j, hj, e⟩ | ⟨j, hj, e⟩
    · exact .inl ⟨j, by omega, e⟩
    · exact .inr ⟨j, by omega, e⟩
  have ndp : ∀ u ∈ X, u ≠ pg l i := fun u hu e => by
    rcases h5 u hu with ⟨j, hj, e'⟩ | ⟨j, hj, t, t0, t1, e'⟩
    · exact C.ne j i (by omega) hi (by omega) (by rw [← e', e])
    · exact C.not_in (j := j) (k := i) (by omega) hi t0 t1 (by rw [← e, e'])
  have ndc : ∀ {t : Rat}, 0 < t → t < 1 → ∀ u ∈ X, u ≠ pmix (pg l i) (pg l (i + 1)) t := fun {t} t0 t1 u hu e => by
    rcases h5 u hu with ⟨j, hj, e'⟩ | ⟨j, hj, t', t0', t1', e'⟩
    · exact C.not_in (j := i) (k := j) hi (by omega) t0 t1 (by rw [← e', e])
    · exact C.not_two (i := j) (j := i) (by omega) hi (by omega) t0 t1 t0' t1' (by rw [← e', e])
  have ndpc : ∀ {t : Rat}, 0 < t → t < 1 → pg l i ≠ pmix (pg l i) (pg l (i + 1)) t := fun {t} t0 t1 e => C.not_in (j := i) (k := i) hi hi t0 t1 e
  -- the point itself
  have addp : 0 ≤ porient a b (pg l i) → (∀ j, j + 1 < (X ++ [pg l i]).length → Rg l a b (pa (X ++ [pg l i]) j) (pa (X ++ [pg l i]) (j + 1))) ∧ (∀ u ∈ X ++ [pg l i], Inn l u ∧ 0 ≤ porient a b u) ∧ (X ++ [pg l i]).Pairwise (· ≠ ·) ∧
      ∀ u ∈ X ++ [pg l i], (∃ j, j < i + 1 ∧ u = pg l j) ∨ ∃ j, j < i + 1 ∧ ∃ t, 0 < t ∧ t < 1 ∧ u = pmix (pg l j) (pg l (j + 1)) t := fun hp => by
    refine ⟨adj_snoc h1 fun hX => (h2 hX).1 hp, fun u hu => ?_, nd_snoc h4 ndp, fun u hu => ?_⟩
    · rcases List.mem_append.1 hu with hu | hu
      · exact h3 u hu
      · rw [List.mem_singleton.1 hu]; exact ⟨inp, hp⟩
    · rcases List.mem_append.1 hu with hu | hu
      · exact old u hu
      · exact .inl ⟨i, by omega, List.mem_singleton.1 hu⟩
  refine step_cases (P := fun Y => HalfB l a b (i + 1) (X ++ Y)) (fun p1 q1 => ?_) (fun p1 q1 => ?_) (fun p1 q1 m => ?_) (fun p1 q1 => ?_) (fun p1 q1 m => ?_)
  · obtain ⟨a1, a2, a3, a4⟩ := addp p1
    exact ⟨a1, fun _ => ⟨fun _ => by rw [plast_snoc]; exact fun r hr _ => o1 r hr, fun h => by grind⟩, a2, a3, a4⟩
  · obtain ⟨a1, a2, a3, a4⟩ := addp (by grind)
    exact ⟨a1, fun _ => ⟨fun h => by grind, fun _ => by rw [plast_snoc]; exact ⟨p1, _, q1, o1⟩⟩, a2, a3, a4⟩
  · obtain ⟨a1, a2, a3, a4⟩ := addp (by grind)
    obtain ⟨t, t0, t1, e, e0⟩ := cut_t m
    have on := cut_on m
    rw [e] at on ⊢
    have inc : Inn l (pmix (pg l i) (pg l (i + 1)) t) := inn_mix inp inq (by grind) (by grind)
    rw [← List.append_assoc]
    refine ⟨adj_snoc a1 fun _ => ?_, fun _ => ⟨fun h => by grind, fun _ => ?_⟩, fun u hu => ?_, nd_snoc a3 fun u hu => ?_, fun u hu => ?_⟩
    · rw [plast_snoc]
      intro r hr _
      rw [mix_to]
      exact Rat.mul_nonneg (by grind) (o1 r hr)
    · rw [plast_snoc]
      refine ⟨on, _, q1, fun r hr => ?_⟩
      rw [mix_from]
      exact Rat.mul_nonneg (by grind) (o1 r hr)
    · rcases List.mem_append.1 hu with hu | hu
      · exact a2 u hu
      · rw [List.mem_singleton.1 hu]; exact ⟨inc, by grind⟩
    · rcases List.mem_append.1 hu with hu | hu
      · exact ndc t0 t1 u hu
      · rw [List.mem_singleton.1 hu]; exact ndpc t0 t1
    · rcases List.mem_append.1 hu with hu | hu
      · exact a4 u hu
      · exact .inr ⟨i, by omega, t, t0, t1, List.mem_singleton.1 hu⟩
  · rw [List.append_nil]
    refine ⟨h1, fun hX => ⟨fun h => exi_rg ((h2 hX).2 p1) inq (by grind), fun _ => (h2 hX).2 p1⟩, h3, h4, old⟩
  · obtain ⟨t, t0, t1, e, e0⟩ := cut_t m
    have on := cut_on m
    rw [e] at on ⊢
    have inc : Inn l (pmix (pg l i) (pg l (i + 1)) t) := inn_mix inp inq (by grind) (by grind)
    refine ⟨adj_snoc h1 fun hX => exi_rg ((h2 hX).2 p1) inc on, fun _ => ⟨fun _ => ?_, fun h => by grind⟩, fun u hu => ?_, nd_snoc h4 fun u hu => ndc t0 t1 u hu, fun u hu => ?_⟩
    · rw [plast_snoc]
      intro r hr _
      rw [mix_from]
      exact Rat.mul_nonneg (by grind) (o1 r hr)
    · rcases List.mem_append.1 hu with hu | hu
      · exact h3 u hu
      · rw [List.mem_singleton.1 hu]; exact ⟨inc, by grind⟩
    · rcases List.mem_append.1 hu with hu | hu
      · exact old u hu
      · exact .inr ⟨i, by omega, t, t0, t1, List.mem_singleton.1 hu⟩
theorem hb_all {l : List Pt2} {a b : Pt2} (C : Cvx (pg l) l.length) : ∀ i, i ≤ l.length → HalfB l a b i (phalfs l a b i)
  | 0, _ => ⟨fun j hj => by simp [phalfs] at hj, fun e => absurd rfl e, fun u hu => by simp [phalfs] at hu, List.Pairwise.nil, fun u hu => by simp [phalfs] at hu⟩
  | i + 1, hi => hb_step C (by omega) (hb_all C i (by omega))
theorem half_sides {l : List Pt2} {a b : Pt2} (C : Cvx (pg l) l.length) {i : Nat} (hi : i < (phalfs l a b l.length).length) : Rg l a b (pa (phalfs l a b l.length) i) (pn (phalfs l a b l.length) i) := by
  have H := hb_all (a := a) (b := b) C l.length (Nat.le_refl _)
  have F := hfirst_all (l := l) (a := a) (b := b) l.length (Nat.le_refl _)
  have hn := C.per0
  generalize phalfs l a b l.length = X at *
  obtain ⟨h1, h2, h3, _, _⟩ := H
  have hX : X ≠ [] := fun e => by subst e; simp at hi
  by_cases e : i + 1 < X.length
  · have : pn X i = pa X (i + 1) := by unfold pn; rw [Nat.mod_eq_of_lt e]
    rw [this]
    exact h1 i e
  · have e' : i + 1 = X.length := by omega
    have e1 : pn X i = pa X 0 := by unfold pn; rw [e', Nat.mod_self]
    have e2 : pa X i = plast X := by unfold plast; rw [← e', Nat.add_sub_cancel]
    rw [e1, e2]
    obtain ⟨f1, f2⟩ := F.2 hX
    obtain ⟨g1, g2⟩ := h2 hX
    rw [hn] at g1 g2
    by_cases hz : 0 ≤ porient a b (pg l 0)
    · rw [f1 hz]; exact g1 hz
    · have hz' : porient a b (pg l 0) < 0 := by grind
      exact exi_rg (g2 hz') (h3 _ (pa_mem (by omega))).1 (f2 hz')
theorem psum_small {X : List Pt2} (h : X.length < 3) : psum X X.length = 0 := by
  rcases (show X.length = 0 ∨ X.length = 1 ∨ X.length = 2 by omega) with e | e | e
  · rw [e]; rfl
  · have e1 : pn X 0 = pa X 0 := by unfold pn; rw [e]
    rw [e]
    show (0 : Rat) + pcross (pa X 0) (pn X 0) = 0
    rw [e1]
    unfold pcross
    grind
  · have e1 : pn X 0 = pa X 1 := by unfold pn; rw [e]
    have e2 : pn X 1 = pa X 0 := by unfold pn; rw [e]
    rw [e]
    show (0 : Rat) + pcross (pa X 0) (pn X 0) + pcross (pa X 1) (pn X 1) = 0
    rw [e1, e2]
    unfold pcross
    grind
theorem parea_small {X : List Pt2} (h : X.length < 3) : parea X = 0 := by
  unfold parea
  rw [psum_small h]
  grind
theorem half_convex {l : List Pt2} {a b : Pt2} (h : pconvex l = true) (hp : parea (phalfs l a b l.length) ≠ 0) : pconvex (phalfs l a b l.length) = true := by
  have C := cvx_of h
  have H := hb_all (a := a) (b := b) C l.length (Nat.le_refl _)
  have S := fun i hi => half_sides (a := a) (b := b) C (i := i) hi
  generalize phalfs l a b l.length = X at *
  have h3 : 3 ≤ X.length := by
    by_cases h3 : 3 ≤ X.length
    · exact h3
    · exact absurd (parea_small (by omega)) hp
  have hall : ∀ i, i < X.length → ∀ k, k < X.length → 0 ≤ porient (pa X i) (pn X i) (pa X k) := fun i hi k hk => S i hi _ (H.mem _ (pa_mem hk)).1 (H.mem _ (pa_mem hk)).2
  refine pconvex_iff.2 ⟨h3, fun i hi k hk => ⟨?_, hall i hi k hk⟩, ?_⟩
  · by_cases e : k = i
    · exact .inl e
    · refine .inr fun e' => ?_
      have nd := List.pairwise_iff_getElem.1 H.nd
      have gi : pa X i = X[i] := by have := at_pa hi; rw [List.getElem?_eq_getElem hi] at this; exact (Option.some.inj this).symm
      have gk : pa X k = X[k] := by have := at_pa hk; rw [List.getElem?_eq_getElem hk] at this; exact (Option.some.inj this).symm
      rcases Nat.lt_or_gt_of_ne e with hlt | hlt
      · exact nd k i hk hi hlt (by rw [← gi, ← gk, e'])
      · exact nd i k hi hk hlt (by rw [← gi, ← gk, e'])
  · refine Classical.byContradiction fun hno => hp ?_
    have hn := pg_n (l := X) 0
    rw [Nat.zero_add] at hn
    have hz : ∀ i, i < X.length → porient (pg X i) (pg X (i + 1)) (pa X 0) = 0 := fun i hi => by
      have e : pg X (i + 1) = pn X i := rfl
      rw [pg_lt hi, e]
      have h1 := hall i hi 0 (by omega)
      have h2 : ¬ 0 < porient (pa X i) (pn X i) (pa X 0) := fun h => hno ⟨i, hi, 0, by omega, h⟩
      grind
    unfold parea
    rw [psum_pg, ← orient_sum (g := pg X) hn (pa X 0), qsum_congr (g := fun _ => 0) _ hz]
    have h2 : ∀ n, qsum (fun _ => 0) n = 0 := by
      intro n
      induction n with
      | zero => rfl
      | succ n ih => show qsum _ n + 0 = 0; rw [ih]; grind
    rw [h2]
    grind
theorem half_has {l : List Pt2} {a b p : Pt2} (h : pconvex l = true) (hp : parea (phalfs l a b l.length) ≠ 0) (hh : phas l p = true) (hs : 0 ≤ porient a b p) : phas (phalfs l a b l.length) p = true := by
  have C := cvx_of h
  have S := fun i hi => half_sides (a := a) (b := b) C (i := i) hi
  have hin : Inn l p := fun i => by
    have e : pg l (i + 1) = pn l (i % l.length) := by unfold pg pn; rw [Nat.mod_add_mod]
    rw [e]
    exact (phas_iff.1 hh).1 _ (Nat.mod_lt _ (by have := C.pos; omega))
  refine phas_iff.2 ⟨fun i hi => S i hi p hin hs, ?_⟩
  by_cases h3 : 3 ≤ (phalfs l a b l.length).length
  · exact h3
  · exact absurd (parea_small (by omega)) hp
theorem epart_nonneg {a b o p q : Pt2} (h : 0 ≤ porient p q o) : 0 ≤ epart a b o p q := by
  unfold epart
  by_cases hp : 0 ≤ porient a b p
  · rw [if_pos hp]
    by_cases hq : 0 ≤ porient a b q
    · rw [if_pos hq]; exact h
    · rw [if_neg hq]
      by_cases h0 : porient a b p = 0
      · rw [if_pos h0]; grind
      · rw [if_neg h0]
        have m : porient a b p * porient a b q < 0 := by have := Rat.mul_pos (show 0 < porient a b p by grind) (show 0 < -porient a b q by grind); grind
        obtain ⟨t, t0, t1, e, _⟩ := cut_t m
        rw [e, mix_to]
        exact Rat.mul_nonneg (by grind) h
  · rw [if_neg hp]
    by_cases hq : 0 < porient a b q
    · rw [if_pos hq]
      have m : porient a b p * porient a b q < 0 := by have := Rat.mul_pos (show 0 < -porient a b p by grind) hq; grind
      obtain ⟨t, t0, t1, e, _⟩ := cut_t m
      rw [e, mix_from]
      exact Rat.mul_nonneg (by grind) h
    · rw [if_neg hq]; grind
theorem half_none {l : List Pt2} {a b : Pt2} (h : ∀ i, porient a b (pg l i) < 0) : ∀ i, i ≤ l.length → phalfs l a b i = []
  | 0, _ => rfl
  | i + 1, hi => by
    rw [phalfs_step (by omega), half_none h i (by omega), List.nil_append]
    have h1 := h i
    have h2 := h (i + 1)
    exact step_cases (P := fun Y => Y = []) (fun p1 q1 => by grind) (fun p1 q1 => by grind) (fun p1 q1 m => by grind) (fun p1 q1 => rfl) (fun p1 q1 m => by grind)
theorem half_nonneg {l : List Pt2} {a b : Pt2} (hab : ¬ a = b) (h : pconvex l = true) : 0 ≤ parea (phalfs l a b l.length) := by
  have C := cvx_of h
  have h3 := C.pos
  have half0 : (0 : Rat) ≤ 1 / 2 := by decide +kernel
  by_cases h1 : ∀ i, porient a b (pg l i) < 0
  · rw [half_none h1 _ (Nat.le_refl _), parea_small (by show 0 < 3; decide)]
    grind
  by_cases h2 : ∀ i, 0 < porient a b (pg l i)
  · have e := halves_add (l := l) hab (by omega)
    have e1 : phalf l a b = phalfs l a b l.length := if_neg hab
    have e2 : phalf l b a = phalfs l b a l.length := if_neg fun e => hab e.symm
    rw [e1, e2, half_none (a := b) (b := a) (fun i => by rw [orient_sw]; have := h2 i; grind) _ (Nat.le_refl _), parea_small (X := []) (by show 0 < 3; decide)] at e
    have := (box_law h).1
    grind
  · obtain ⟨i, hi⟩ : ∃ i, 0 ≤ porient a b (pg l i) := Classical.byContradiction fun hn => h1 fun i => by
      have : ¬ 0 ≤ porient a b (pg l i) := fun h => hn ⟨i, h⟩
      grind
    obtain ⟨j, hj⟩ : ∃ j, porient a b (pg l j) ≤ 0 := Classical.byContradiction fun hn => h2 fun j => by
      have : ¬ porient a b (pg l j) ≤ 0 := fun h => hn ⟨j, h⟩
      grind
    obtain ⟨o, ho, hin⟩ : ∃ o, porient a b o = 0 ∧ Inn l o := by
      by_cases e : porient a b (pg l i) = 0
      · exact ⟨_, e, fun k => C.or k i⟩
      by_cases e' : porient a b (pg l j) = 0
      · exact ⟨_, e', fun k => C.or k j⟩
      have m : porient a b (pg l i) * porient a b (pg l j) < 0 := by have := Rat.mul_pos (show 0 < porient a b (pg l i) by grind) (show 0 < -porient a b (pg l j) by grind); grind
      obtain ⟨t, t0, t1, e1, e2⟩ := cut_t m
      exact ⟨pmix (pg l i) (pg l j) t, by rw [mix_at]; exact e2, inn_mix (fun k => C.or k i) (fun k => C.or k j) (by grind) (by grind)⟩
    unfold parea
    rw [half_sum hab ho (by omega)]
    exact Rat.mul_nonneg (qsum_nonneg _ fun k _ => epart_nonneg (hin k)) half0
end Gv
namespace Gv
open Go Go.RowKit Gs
set_option linter.unusedVariables false
theorem sign_eq0 {x : Rat} : (x.num.sign == 0) = decide (x = 0) := by
  rw [Bool.eq_iff_iff, beq_iff_eq, decide_eq_true_iff, Int.sign_eq_zero_iff_zero]
  exact num_zero_iff x
end Gv
namespace Go.Proofs.YtcpgflbfjplheaaGreatDoor
open Go.RowKit Gs Gv
set_option linter.unusedVariables false
set_option maxHeartbeats 2000000 in
theorem law_AreaCuts {L : List RP} {w0 w1 w2 : RP} (hL : ∀ p ∈ L, p.wf) (h0w : w0.wf) (h1w : w1.wf) (h2w : w2.wf) : Gv.Fn Tryz.prog 3 [rline L, .agg (w0.cs ++ w1.cs ++ w2.cs)] (.raw (.bool true)) := by
  refine Fn.intro mixed vc_law08_AreaCuts rfl ?_
  refine ok_call (l8_Fair (L := L) (n := 8) (by decide)) rfl rfl ?_
  try simp only [nr]
  refine ok_not rfl ?_
  try simp only [nr]
  refine ok_ite rfl (fun h0 => ?_) (fun h0 => ?_)
  · refine ok_call l8_wakes rfl rfl ?_
    try simp only [nr]
    exact ok_ret rfl rfl
  refine ok_mk (l := [w0.cs, w1.cs, w2.cs]) rfl ?_
  try simp only [nr]
  refine ok_call (l6_Fair (L := [w0, w1, w2]) (by show 3 < _; decide)) rfl rfl ?_
  try simp only [nr]
  refine ok_not rfl ?_
  try simp only [nr]
  refine ok_ite rfl (fun h1 => ?_) (fun h1 => ?_)
  · refine ok_call l8_wakes rfl rfl ?_
    try simp only [nr]
    exact ok_ret rfl rfl
  rw [Bool.not_eq_false', Bool.and_eq_true, decide_eq_true_iff] at h0
  rw [Bool.not_eq_false', List.all_eq_true] at h1
  have hlen : L.length ≤ 8 := by omega
  have hs := List.all_eq_true.1 h0.2
  have i0 := RP.is h0w (h1 w0 (by simp)) (k := 6) (by decide)
  have i1 := RP.is h1w (h1 w1 (by simp)) (k := 6) (by decide)
  have i2 := RP.is h2w (h1 w2 (by simp)) (k := 6) (by decide)
  have hl := IsL.of hL hs (by decide)
  have hlb := hl.b
  have hml : (L.map RP.p).length ≤ 8 := by simpa using hlen
  refine ok_call (g6_Ins hl (by decide) (by omega)) rfl rfl ?_
  try simp only [nr]
  refine ok_call (g8_Convex hlb (by decide) (by omega)) rfl rfl ?_
  try simp only [nr]
  refine ok_not rfl ?_
  try simp only [nr]
  refine ok_ite rfl (fun h2 => ?_) (fun h2 => ?_)
  · refine ok_call l8_wakes rfl rfl ?_
    try simp only [nr]
    exact ok_ret rfl rfl
  rw [Bool.not_eq_false'] at h2
  refine ok_call (g6_In i0 (by decide)) rfl rfl ?_
  try simp only [nr]
  refine ok_call (g6_In i1 (by decide)) rfl rfl ?_
  try simp only [nr]
  refine ok_call (g6_Same i0.b i1.b (by decide)) rfl rfl ?_
  try simp only [nr]
  refine ok_ite rfl (fun h3 => ?_) (fun h3 => ?_)
  · refine ok_call l8_wakes rfl rfl ?_
    try simp only [nr]
    exact ok_ret rfl rfl
  have hab : ¬ w0.p = w1.p := of_decide_eq_false h3
  have hba : ¬ w1.p = w0.p := fun e => hab e.symm
  have h3n : 3 ≤ (L.map RP.p).length := (pconvex_iff.1 h2).1
  have hl6 := fun q hq => (hlb q hq).more (show 4 ≤ 6 by decide)
  have kX := p_Half (hl.more (show 4 ≤ 6 by decide)) i0 i1 (by decide) (by omega)
  have kY := p_Half (hl.more (show 4 ≤ 6 by decide)) i1 i0 (by decide) (by omega)
  have bX := phalf_b (k := 6) hl6 i0.b i1.b
  have bY := phalf_b (k := 6) hl6 i1.b i0.b
  have eX : phalf (L.map RP.p) w0.p w1.p = phalfs (L.map RP.p) w0.p w1.p (L.map RP.p).length := if_neg hab
  have eY : phalf (L.map RP.p) w1.p w0.p = phalfs (L.map RP.p) w1.p w0.p (L.map RP.p).length := if_neg hba
  have eA := halves_add (l := L.map RP.p) hab (by omega)
  have nX := half_nonneg hab h2
  have nY := half_nonneg hba h2
  have vX := half_convex (a := w0.p) (b := w1.p) h2
  have vY := half_convex (a := w1.p) (b := w0.p) h2
  have vH := half_has (a := w0.p) (b := w1.p) (p := w2.p) h2
  have lX := phalfs_len (l := L.map RP.p) (a := w0.p) (b := w1.p) (L.map RP.p).length
  have lY := phalfs_len (l := L.map RP.p) (a := w1.p) (b := w0.p) (L.map RP.p).length
  rw [← eX] at nX vX vH lX
  rw [← eY] at nY vY lY
  have mX : (phalf (L.map RP.p) w0.p w1.p).length * (4 * (100 * 6 + 100) + 2) ≤ 16 * 2802 := Nat.mul_le_mul (by omega) (Nat.le_refl _)
  have mY : (phalf (L.map RP.p) w1.p w0.p).length * (4 * (100 * 6 + 100) + 2) ≤ 16 * 2802 := Nat.mul_le_mul (by omega) (Nat.le_refl _)
  have mL : (L.map RP.p).length * (4 * 4 + 2) ≤ 8 * 18 := Nat.mul_le_mul hml (Nat.le_refl _)
  have cX := p_Area (IsL.pl bX) (Nat.le_trans (Nat.add_le_add_right (Nat.add_le_add_right mX _) _) (by decide)) (by omega)
  have cY := p_Area (IsL.pl bY) (Nat.le_trans (Nat.add_le_add_right (Nat.add_le_add_right mY _) _) (by decide)) (by omega)
  have cL := p_Area hl (Nat.le_trans (Nat.add_le_add_right (Nat.add_le_add_right mL _) _) (by decide)) (by omega)
  have qX : Qb (parea (phalf (L.map RP.p) w0.p w1.p)) 45000 := (Qb.parea bX).more (Nat.le_trans (Nat.add_le_add_right mX _) (by decide))
  have qY : Qb (parea (phalf (L.map RP.p) w1.p w0.p)) 45000 := (Qb.parea bY).more (Nat.le_trans (Nat.add_le_add_right mY _) (by decide))
  have qL : Qb (parea (L.map RP.p)) 200 := (Qb.parea hlb).more (Nat.le_trans (Nat.add_le_add_right mL _) (by decide))
  have cCx := p_Convex (IsL.pl bX) (by decide) (by omega)
  have cCy := p_Convex (IsL.pl bY) (by decide) (by omega)
  have cHl := p_Has (hl.more (show 4 ≤ 6 by decide)) i2 (by decide) (by omega)
  have cHx := p_Has (IsL.pl bX) (i2.more (show 6 ≤ 100 * 6 + 100 by decide)) (by decide) (by omega)
  have cO := p_Orient i0 i1 i2 (by decide)
  clear eX eY mX mY mL bX bY lX lY
  generalize parea (phalf (L.map RP.p) w0.p w1.p) = aX at *
  generalize parea (phalf (L.map RP.p) w1.p w0.p) = aY at *
  generalize parea (L.map RP.p) = aL at *
  generalize phalf (L.map RP.p) w0.p w1.p = X at *
  generalize phalf (L.map RP.p) w1.p w0.p = Y at *
  generalize porient w0.p w1.p w2.p = so at *
  have cS := q_Add (IsQ.qc qX) (IsQ.qc qY) (by decide)
  rw [eA] at cS
  have cW := q_Cmp (IsQ.qc qL) (IsQ.qc qL) (by decide)
  rw [qcmp_refl] at cW
  have sX := q_Sign (IsQ.qc qX) (by decide)
  have sY := q_Sign (IsQ.qc qY) (by decide)
  have hCx : 0 < aX → pconvex X = true := fun h => vX (by grind)
  have hCy : 0 < aY → pconvex Y = true := fun h => vY (by grind)
  have hHas : phas (L.map RP.p) w2.p = true → 0 ≤ so → aX ≠ 0 → phas X w2.p = true := fun u1 u2 u3 => vH u3 u1 u2
  generalize phas (L.map RP.p) w2.p = hal at *
  generalize phas X w2.p = hax at *
  generalize pconvex X = cox at *
  generalize pconvex Y = coy at *
  refine ok_call kX rfl rfl ?_
  try simp only [nr]
  refine ok_call kY rfl rfl ?_
  try simp only [nr]
  refine ok_call cX rfl rfl ?_
  try simp only [nr]
  refine ok_call cY rfl rfl ?_
  try simp only [nr]
  refine ok_call cS rfl rfl ?_
  try simp only [nr]
  refine ok_call cL rfl rfl ?_
  try simp only [nr]
  refine ok_call cW rfl rfl ?_
  try simp only [nr]
  refine ok_neq rfl false rfl ?_
  try simp only [nr]
  refine ok_false rfl ?_
  refine ok_call cX rfl rfl ?_
  try simp only [nr]
  refine ok_call sX rfl rfl ?_
  try simp only [nr]
  refine ok_lss rfl false (by rw [sign_lt0]; exact decide_eq_false (by grind)) ?_
  try simp only [nr]
  refine ok_false rfl ?_
  refine ok_call cY rfl rfl ?_
  try simp only [nr]
  refine ok_call sY rfl rfl ?_
  try simp only [nr]
  refine ok_lss rfl false (by rw [sign_lt0]; exact decide_eq_false (by grind)) ?_
  try simp only [nr]
  refine ok_false rfl ?_
  refine ok_call cX rfl rfl ?_
  try simp only [nr]
  refine ok_call sX rfl rfl ?_
  try simp only [nr]
  refine ok_gtr rfl (decide (0 < aX)) (sign_gt0 _) ?_
  try simp only [nr]
  refine ok_ite rfl (fun x1 => ?_) (fun x1 => ?_)
  · refine ok_call cCx rfl rfl ?_
    try simp only [nr]
    rw [hCx (of_decide_eq_true x1)]
    refine ok_not rfl ?_
    try simp only [nr]
    refine ok_false rfl ?_
    refine ok_call cY rfl rfl ?_
    try simp only [nr]
    refine ok_call sY rfl rfl ?_
    try simp only [nr]
    refine ok_gtr rfl (decide (0 < aY)) (sign_gt0 _) ?_
    try simp only [nr]
    refine ok_ite rfl (fun y1 => ?_) (fun y1 => ?_)
    · refine ok_call cCy rfl rfl ?_
      try simp only [nr]
      rw [hCy (of_decide_eq_true y1)]
      refine ok_not rfl ?_
      try simp only [nr]
      refine ok_false rfl ?_
      refine ok_call cHl rfl rfl ?_
      try simp only [nr]
      refine ok_not rfl ?_
      try simp only [nr]
      refine ok_ite rfl (fun t1 => ?_) (fun t1 => ?_)
      · refine ok_call l8_wakes rfl rfl ?_
        try simp only [nr]
        exact ok_ret rfl rfl
      refine ok_call cO rfl rfl ?_
      try simp only [nr]
      refine ok_geq rfl (decide (0 ≤ so)) (sign_ge0 _) ?_
      try simp only [nr]
      refine ok_not rfl ?_
      try simp only [nr]
      refine ok_ite rfl (fun t2 => ?_) (fun t2 => ?_)
      · refine ok_call l8_wakes rfl rfl ?_
        try simp only [nr]
        exact ok_ret rfl rfl
      refine ok_call cX rfl rfl ?_
      try simp only [nr]
      refine ok_call sX rfl rfl ?_
      try simp only [nr]
      refine ok_eq rfl (decide (aX = 0)) sign_eq0 ?_
      try simp only [nr]
      refine ok_ite rfl (fun t3 => ?_) (fun t3 => ?_)
      · refine ok_call l8_wakes rfl rfl ?_
        try simp only [nr]
        exact ok_ret rfl rfl
      refine ok_call cHx rfl rfl ?_
      try simp only [nr]
      rw [hHas (by simpa using t1) (by simpa using t2) (by simpa using t3)]
      refine ok_true rfl ?_
      refine ok_call l8_wakes rfl rfl ?_
      try simp only [nr]
      exact ok_ret rfl rfl
    · refine ok_call cHl rfl rfl ?_
      try simp only [nr]
      refine ok_not rfl ?_
      try simp only [nr]
      refine ok_ite rfl (fun t1 => ?_) (fun t1 => ?_)
      · refine ok_call l8_wakes rfl rfl ?_
        try simp only [nr]
        exact ok_ret rfl rfl
      refine ok_call cO rfl rfl ?_
      try simp only [nr]
      refine ok_geq rfl (decide (0 ≤ so)) (sign_ge0 _) ?_
      try simp only [nr]
      refine ok_not rfl ?_
      try simp only [nr]
      refine ok_ite rfl (fun t2 => ?_) (fun t2 => ?_)
      · refine ok_call l8_wakes rfl rfl ?_
        try simp only [nr]
        exact ok_ret rfl rfl
      refine ok_call cX rfl rfl ?_
      try simp only [nr]
      refine ok_call sX rfl rfl ?_
      try simp only [nr]
      refine ok_eq rfl (decide (aX = 0)) sign_eq0 ?_
      try simp only [nr]
      refine ok_ite rfl (fun t3 => ?_) (fun t3 => ?_)
      · refine ok_call l8_wakes rfl rfl ?_
        try simp only [nr]
        exact ok_ret rfl rfl
      refine ok_call cHx rfl rfl ?_
      try simp only [nr]
      rw [hHas (by simpa using t1) (by simpa using t2) (by simpa using t3)]
      refine ok_true rfl ?_
      refine ok_call l8_wakes rfl rfl ?_
      try simp only [nr]
      exact ok_ret rfl rfl
  · refine ok_call cY rfl rfl ?_
    try simp only [nr]
    refine ok_call sY rfl rfl ?_
    try simp only [nr]
    refine ok_gtr rfl (decide (0 < aY)) (sign_gt0 _) ?_
    try simp only [nr]
    refine ok_ite rfl (fun y1 => ?_) (fun y1 => ?_)
    · refine ok_call cCy rfl rfl ?_
      try simp only [nr]
      rw [hCy (of_decide_eq_true y1)]
      refine ok_not rfl ?_
      try simp only [nr]
      refine ok_false rfl ?_
      refine ok_call cHl rfl rfl ?_
      try simp only [nr]
      refine ok_not rfl ?_
      try simp only [nr]
      refine ok_ite rfl (fun t1 => ?_) (fun t1 => ?_)
      · refine ok_call l8_wakes rfl rfl ?_
        try simp only [nr]
        exact ok_ret rfl rfl
      refine ok_call cO rfl rfl ?_
      try simp only [nr]
      refine ok_geq rfl (decide (0 ≤ so)) (sign_ge0 _) ?_
      try simp only [nr]
      refine ok_not rfl ?_
      try simp only [nr]
      refine ok_ite rfl (fun t2 => ?_) (fun t2 => ?_)
      · refine ok_call l8_wakes rfl rfl ?_
        try simp only [nr]
        exact ok_ret rfl rfl
      refine ok_call cX rfl rfl ?_
      try simp only [nr]
      refine ok_call sX rfl rfl ?_
      try simp only [nr]
      refine ok_eq rfl (decide (aX = 0)) sign_eq0 ?_
      try simp only [nr]
      refine ok_ite rfl (fun t3 => ?_) (fun t3 => ?_)
      · refine ok_call l8_wakes rfl rfl ?_
        try simp only [nr]
        exact ok_ret rfl rfl
      refine ok_call cHx rfl rfl ?_
      try simp only [nr]
      rw [hHas (by simpa using t1) (by simpa using t2) (by simpa using t3)]
      refine ok_true rfl ?_
      refine ok_call l8_wakes rfl rfl ?_
      try simp only [nr]
      exact ok_ret rfl rfl
    · refine ok_call cHl rfl rfl ?_
      try simp only [nr]
      refine ok_not rfl ?_
      try simp only [nr]
      refine ok_ite rfl (fun t1 => ?_) (fun t1 => ?_)
      · refine ok_call l8_wakes rfl rfl ?_
        try simp only [nr]
        exact ok_ret rfl rfl
      refine ok_call cO rfl rfl ?_
      try simp only [nr]
      refine ok_geq rfl (decide (0 ≤ so)) (sign_ge0 _) ?_
      try simp only [nr]
      refine ok_not rfl ?_
      try simp only [nr]
      refine ok_ite rfl (fun t2 => ?_) (fun t2 => ?_)
      · refine ok_call l8_wakes rfl rfl ?_
        try simp only [nr]
        exact ok_ret rfl rfl
      refine ok_call cX rfl rfl ?_
      try simp only [nr]
      refine ok_call sX rfl rfl ?_
      try simp only [nr]
      refine ok_eq rfl (decide (aX = 0)) sign_eq0 ?_
      try simp only [nr]
      refine ok_ite rfl (fun t3 => ?_) (fun t3 => ?_)
      · refine ok_call l8_wakes rfl rfl ?_
        try simp only [nr]
        exact ok_ret rfl rfl
      refine ok_call cHx rfl rfl ?_
      try simp only [nr]
      rw [hHas (by simpa using t1) (by simpa using t2) (by simpa using t3)]
      refine ok_true rfl ?_
      refine ok_call l8_wakes rfl rfl ?_
      try simp only [nr]
      exact ok_ret rfl rfl
end Go.Proofs.YtcpgflbfjplheaaGreatDoor
