import Derived.Test.YtcpgflbfjplheaaGreatDoorGA
import Derived.Test.YtcpgflbfjplheaaGreatDoorVP
import Derived.Test.YtcpgflbfjplheaaGreatDoorQB
import Derived.Deep.Slices
import Derived.OpenShut
namespace Gv
open Go Go.RowKit Gs
set_option linter.unusedVariables false
theorem nr : (∀ (a : PV) (x y : List PV), (a :: x) ++ y = a :: (x ++ y)) ∧ ∀ x : List PV, [] ++ x = x := ⟨fun _ _ _ => rfl, fun _ => rfl⟩
abbrev Pt2 := Rat × Rat
def padd (p q : Pt2) : Pt2 := (p.1 + q.1, p.2 + q.2)
def psub (p q : Pt2) : Pt2 := (p.1 - q.1, p.2 - q.2)
def pscale (p : Pt2) (k : Rat) : Pt2 := (p.1 * k, p.2 * k)
def pmix (p q : Pt2) (t : Rat) : Pt2 := padd p (pscale (psub q p) t)
def pcross (p q : Pt2) : Rat := p.1 * q.2 - p.2 * q.1
def porient (a b c : Pt2) : Rat := pcross (psub b a) (psub c a)
theorem qcmp_refl (a : Rat) : qcmp a a = 0 := by unfold qcmp; rw [if_neg (by grind), if_pos rfl]
theorem qcmp_zero {a b : Rat} : qcmp a b = 0 ↔ a = b := by
  unfold qcmp
  constructor
  · intro h
    split at h
    · cases h
    · split at h
      · assumption
      · cases h
  · intro h; rw [if_neg (by grind), if_pos h]
theorem qcmp_lt {a b : Rat} : qcmp a b < 0 ↔ a < b := by
  unfold qcmp
  split
  · exact ⟨fun _ => by assumption, fun _ => by decide⟩
  · split
    · exact ⟨fun h => absurd h (by decide), fun h => by grind⟩
    · exact ⟨fun h => absurd h (by decide), fun h => by grind⟩
theorem qcmp_gt {a b : Rat} : 0 < qcmp a b ↔ b < a := by
  unfold qcmp
  split
  · exact ⟨fun h => absurd h (by decide), fun h => by grind⟩
  · split
    · exact ⟨fun h => absurd h (by decide), fun h => by grind⟩
    · exact ⟨fun _ => by grind, fun _ => by decide⟩
theorem Qb.one (a : Rat) {z : Int} {d : Nat} (h : a = mkRat z d) (hd : d ≠ 0) (h1 : z.natAbs < 18446744073709551616) (h2 : d < 18446744073709551616) : Qb a 1 := by
  rw [h]; exact .mk' hd (sz_le (by simpa using h1)) (sz_le (by simpa using h2))
theorem str_txt {x : Nat} {s : ByteArray} (h : IsText s x) : txt x = s := (txt_eq h).symm
structure Pb (p : Pt2) (k : Nat) : Prop where
  x : Qb p.1 k
  y : Qb p.2 k
theorem Pb.more {p : Pt2} {k k' : Nat} (h : Pb p k) (hk : k ≤ k') : Pb p k' := ⟨h.x.more hk, h.y.more hk⟩
theorem Pb.add {p q : Pt2} {k k' : Nat} (h : Pb p k) (h' : Pb q k') : Pb (padd p q) (k + k' + 1) := ⟨h.x.add h'.x, h.y.add h'.y⟩
theorem Pb.sub {p q : Pt2} {k k' : Nat} (h : Pb p k) (h' : Pb q k') : Pb (psub p q) (k + k' + 1) := ⟨h.x.sub h'.x, h.y.sub h'.y⟩
theorem Pb.scale {p : Pt2} {t : Rat} {k k' : Nat} (h : Pb p k) (h' : Qb t k') : Pb (pscale p t) (k + k') := ⟨h.x.mul h', h.y.mul h'⟩
theorem Pb.mix {p q : Pt2} {t : Rat} {k k' j : Nat} (h : Pb p k) (h' : Pb q k') (ht : Qb t j) : Pb (pmix p q t) (k + (k' + k + 1 + j) + 1) := h.add ((h'.sub h).scale ht)
theorem Qb.cross {p q : Pt2} {k k' : Nat} (h : Pb p k) (h' : Pb q k') : Qb (pcross p q) (k + k' + (k + k') + 1) := (h.x.mul h'.y).sub (h.y.mul h'.x)
theorem Qb.orient {a b c : Pt2} {k : Nat} (ha : Pb a k) (hb : Pb b k) (hc : Pb c k) : Qb (porient a b c) (8 * k + 5) := (Qb.cross (hb.sub ha) (hc.sub ha)).more (by omega)
def pcs (p : Pt2) : List PV := [.raw (.bool (decide (p.1.num < 0))), nat p.1.num.natAbs, nat p.1.den, .raw (.bool (decide (p.2.num < 0))), nat p.2.num.natAbs, nat p.2.den]
def pc (p : Pt2) : PV := .agg (pcs p)
def pfs (p : Pt2) : List PV := [.raw (.bool (decide (p.1.num < 0))), r32 p.1.num.natAbs, r32 p.1.den, .raw (.bool (decide (p.2.num < 0))), r32 p.2.num.natAbs, r32 p.2.den]
def pf (p : Pt2) : PV := .agg (pfs p)
def IsP (v : PV) (p : Pt2) (k : Nat) : Prop := ∃ a b c d e f, v = .agg [a, b, c, d, e, f] ∧ IsQ (.agg [a, b, c]) p.1 k ∧ IsQ (.agg [d, e, f]) p.2 k
theorem IsP.pc {p : Pt2} {k : Nat} (h : Pb p k) : IsP (pc p) p k := ⟨_, _, _, _, _, _, rfl, IsQ.qc h.x, IsQ.qc h.y⟩
theorem IsP.b {v : PV} {p : Pt2} {k : Nat} (h : IsP v p k) : Pb p k := by
  obtain ⟨a, b, c, d, e, f, _, h1, h2⟩ := h
  exact ⟨h1.b, h2.b⟩
theorem IsQ.more {v : PV} {q : Rat} {k k' : Nat} (h : IsQ v q k) (hk : k ≤ k') : IsQ v q k' := by
  obtain ⟨s, l, m, h1, h2, h3, h4, h5, h6, h7⟩ := h
  exact ⟨s, l, m, h1, h2, h3, h4, by omega, by omega, by omega⟩
theorem IsP.more {v : PV} {p : Pt2} {k k' : Nat} (h : IsP v p k) (hk : k ≤ k') : IsP v p k' := by
  obtain ⟨a, b, c, d, e, f, h0, h1, h2⟩ := h
  exact ⟨a, b, c, d, e, f, h0, h1.more hk, h2.more hk⟩
section
variable {P : Program} {R : PV → Prop} {ρ : List PV} {C : List (List PV → Prop)} {k : VC} {args : List SV}
theorem ok_callv {fv : SV} {args : List SV} {sh : RSh} {v : PV} {ps : List PV} {r : PV} (h : FnV P v ps r) (hv : pv ρ fv = v) (hp : pvs ρ args = ps) (hf : fitsR sh r = true) (hk : k.ok P R (ρ ++ [r]) C) : (VC.callv fv args sh k).ok P R ρ C := ⟨r, by rw [hp, hv]; exact h, hf, hk⟩
theorem ok_ld {n : Nat} {cs : List PV} (hp : pvs ρ args = [.ref cs]) (hn : cs.length = n) (hk : k.ok P R (ρ ++ [.agg cs]) C) : (VC.prim (.ld (some n)) args k).ok P R ρ C := by
  subst hn
  refine ⟨.agg cs, ?_, hk⟩
  rw [hp]
  simp [Prim.ev]
theorem ok_idx {n m : Nat} {es : List (List PV)} {e : List PV} {kk : IntKind} (hp : pvs ρ args = [.sl es, .raw (.int kk (m : Int))]) (he : es[m]? = some e) (hn : e.length = n) (hk : k.ok P R (ρ ++ [.ref e]) C) : (VC.prim (.idx n) args k).ok P R ρ C := by
  refine ⟨.ref e, ?_, hk⟩
  rw [hp]
  simp [Prim.ev, idxOf, he, hn]
theorem ok_lenS {es : List (List PV)} (hp : pvs ρ args = [.sl es]) (n : Int) (h : (es.length : Int) = n) (hk : k.ok P R (ρ ++ [.raw (.int .i64 n)]) C) : (VC.prim .len args k).ok P R ρ C := by
  subst h
  refine ⟨_, ?_, hk⟩
  rw [hp]
  rfl
theorem ok_app {n bytes : Nat} {es xs : List (List PV)} (hp : pvs ρ args = [.sl es, .sl xs]) (h1 : (es.length + xs.length) * bytes ≤ 140737488355328) (h2 : es.length + xs.length ≤ 140737488355328) (h3 : ∀ x ∈ xs, x.length = n) (hk : k.ok P R (ρ ++ [.sl (es ++ xs)]) C) : (VC.prim (.app n bytes) args k).ok P R ρ C := by
  refine ⟨_, ?_, hk⟩
  rw [hp]
  simp only [Prim.ev]
  rw [if_pos ⟨h1, h2, List.all_eq_true.2 fun x hx => by simpa using h3 x hx⟩]
end
end Gv
namespace Go.Proofs.YtcpgflbfjplheaaGreatDoor
open Go.RowKit Gs Gv
set_option linter.unusedVariables false
theorem p_both {u v fv : PV} {p q : Pt2} {k k' : Nat} {x y : Rat} (hu : IsP u p k) (hv : IsP v q k') (h1 : ∀ {a b : PV}, IsQ a p.1 k → IsQ b q.1 k' → FnV Tryz.prog fv [a, b] (qc x)) (h2 : ∀ {a b : PV}, IsQ a p.2 k → IsQ b q.2 k' → FnV Tryz.prog fv [a, b] (qc y)) (hfl : fv.flat = true) :
    Gv.Fn Tryz.prog 144 [u, v, fv] (pc (x, y)) := by
  obtain ⟨a, b, c, d, e, f, rfl, i1, i2⟩ := hu
  obtain ⟨a', b', c', d', e', f', rfl, j1, j2⟩ := hv
  refine Fn.intro mixed vc_pt_both (by simp [fitsAll, fits, hfl]) ?_
  refine ok_callv (h1 i1 j1) rfl rfl rfl ?_
  try simp only [nr]
  refine ok_callv (h2 i2 j2) rfl rfl rfl ?_
  try simp only [nr]
  exact ok_ret rfl rfl
theorem p_Add {u v : PV} {p q : Pt2} {k k' : Nat} (hu : IsP u p k) (hv : IsP v q k') (hk : k + k' ≤ 100000) : Gv.Fn Tryz.prog 125 [u, v] (pc (padd p q)) := by
  have hb := p_both hu hv (fv := .clo (.func 21) [] []) (fun ha hb => q_Add ha hb hk) (fun ha hb => q_Add ha hb hk) rfl
  obtain ⟨a, b, c, d, e, f, rfl, i1, i2⟩ := hu
  obtain ⟨a', b', c', d', e', f', rfl, j1, j2⟩ := hv
  refine Fn.intro mixed vc_pt_Add rfl ?_
  refine ok_call hb rfl rfl ?_
  try simp only [nr]
  exact ok_ret rfl rfl
theorem p_Sub {u v : PV} {p q : Pt2} {k k' : Nat} (hu : IsP u p k) (hv : IsP v q k') (hk : k + k' ≤ 100000) : Gv.Fn Tryz.prog 76 [u, v] (pc (psub p q)) := by
  have hb := p_both hu hv (fv := .clo (.func 131) [] []) (fun ha hb => q_Sub ha hb hk) (fun ha hb => q_Sub ha hb hk) rfl
  obtain ⟨a, b, c, d, e, f, rfl, i1, i2⟩ := hu
  obtain ⟨a', b', c', d', e', f', rfl, j1, j2⟩ := hv
  refine Fn.intro mixed vc_pt_Sub rfl ?_
  refine ok_call hb rfl rfl ?_
  try simp only [nr]
  exact ok_ret rfl rfl
theorem p_scale1 {a b c0 c1 c2 : PV} {x t : Rat} {k k' : Nat} {y : PV} (ha : IsQ a x k) (ht : IsQ (.agg [c0, c1, c2]) t k') (hk : k + k' ≤ 100000) (hb : ∃ b0 b1 b2, b = .agg [b0, b1, b2]) : Gv.Fn Tryz.prog 209 [a, b, .ref [c0, c1, c2]] (qc (x * t)) := by
  have hm := q_Mul ha ht hk
  obtain ⟨s, l, m, rfl, _⟩ := ha
  obtain ⟨b0, b1, b2, rfl⟩ := hb
  refine Fn.introC mixed vc_pt_Scale_1 rfl ?_
  refine ok_ld (cs := [c0, c1, c2]) rfl rfl ?_
  try simp only [nr]
  refine ok_call hm rfl rfl ?_
  try simp only [nr]
  exact ok_ret rfl rfl
theorem p_Scale {u v : PV} {p : Pt2} {t : Rat} {k k' : Nat} (hu : IsP u p k) (ht : IsQ v t k') (hk : k + k' ≤ 100000) : Gv.Fn Tryz.prog 164 [u, v] (pc (pscale p t)) := by
  obtain ⟨s, l, m, hv, _⟩ := id ht
  subst hv
  have hb := p_both hu hu (fv := .clo (.func 209) [] [.ref [.raw (.bool s), u64s l, u64s m]]) (x := p.1 * t) (y := p.2 * t)
    (fun ha hb => p_scale1 (y := u) ha ht hk (by obtain ⟨_, _, _, rfl, _⟩ := hb; exact ⟨_, _, _, rfl⟩)) (fun ha hb => p_scale1 (y := u) ha ht hk (by obtain ⟨_, _, _, rfl, _⟩ := hb; exact ⟨_, _, _, rfl⟩)) rfl
  obtain ⟨a, b, c, d, e, f, rfl, i1, i2⟩ := hu
  refine Fn.intro mixed vc_pt_Scale rfl ?_
  refine ok_call hb rfl rfl ?_
  try simp only [nr]
  exact ok_ret rfl rfl
theorem p_Mix {u v w : PV} {p q : Pt2} {t : Rat} {k k' j : Nat} (hu : IsP u p k) (hv : IsP v q k') (ht : IsQ w t j) (hk : 3 * k + k' + j + 3 ≤ 100000) : Gv.Fn Tryz.prog 97 [u, v, w] (pc (pmix p q t)) := by
  have c1 := p_Sub hv hu (by omega)
  have c2 := p_Scale (IsP.pc (hv.b.sub hu.b)) ht (by omega)
  have c3 := p_Add hu (IsP.pc ((hv.b.sub hu.b).scale ht.b)) (by omega)
  obtain ⟨a, b, c, d, e, f, rfl, i1, i2⟩ := hu
  obtain ⟨a', b', c', d', e', f', rfl, j1, j2⟩ := hv
  obtain ⟨s, l, m, rfl, _⟩ := ht
  refine Fn.intro mixed vc_pt_Mix rfl ?_
  refine ok_call c1 rfl rfl ?_
  try simp only [nr]
  refine ok_call c2 rfl rfl ?_
  try simp only [nr]
  refine ok_call c3 rfl rfl ?_
  try simp only [nr]
  exact ok_ret rfl rfl
theorem p_Cross {u v : PV} {p q : Pt2} {k k' : Nat} (hu : IsP u p k) (hv : IsP v q k') (hk : 2 * (k + k') ≤ 100000) : Gv.Fn Tryz.prog 73 [u, v] (qc (pcross p q)) := by
  obtain ⟨a, b, c, d, e, f, rfl, i1, i2⟩ := hu
  obtain ⟨a', b', c', d', e', f', rfl, j1, j2⟩ := hv
  have c1 := q_Mul i1 j2 (by omega)
  have c2 := q_Mul i2 j1 (by omega)
  have c3 := q_Sub (IsQ.qc (i1.b.mul j2.b)) (IsQ.qc (i2.b.mul j1.b)) (by omega)
  refine Fn.intro mixed vc_pt_Cross rfl ?_
  refine ok_call c1 rfl rfl ?_
  try simp only [nr]
  refine ok_call c2 rfl rfl ?_
  try simp only [nr]
  refine ok_call c3 rfl rfl ?_
  try simp only [nr]
  exact ok_ret rfl rfl
theorem p_Orient {u v w : PV} {p q r : Pt2} {k : Nat} (hu : IsP u p k) (hv : IsP v q k) (hw : IsP w r k) (hk : k ≤ 10000) : Gv.Fn Tryz.prog 26 [u, v, w] (.raw (.int .i64 (porient p q r).num.sign)) := by
  have c1 := p_Sub hv hu (by omega)
  have c2 := p_Sub hw hu (by omega)
  have c3 := p_Cross (IsP.pc (hv.b.sub hu.b)) (IsP.pc (hw.b.sub hu.b)) (by omega)
  have c4 := q_Sign (IsQ.qc (Qb.cross (hv.b.sub hu.b) (hw.b.sub hu.b))) (by omega)
  obtain ⟨a, b, c, d, e, f, rfl, i1, i2⟩ := hu
  obtain ⟨a', b', c', d', e', f', rfl, j1, j2⟩ := hv
  obtain ⟨a2, b2, c2', d2, e2, f2, rfl, k1, k2⟩ := hw
  refine Fn.intro mixed vc_pt_Orient rfl ?_
  refine ok_call c1 rfl rfl ?_
  try simp only [nr]
  refine ok_call c2 rfl rfl ?_
  try simp only [nr]
  refine ok_call c3 rfl rfl ?_
  try simp only [nr]
  refine ok_call c4 rfl rfl ?_
  try simp only [nr]
  exact ok_ret rfl rfl
theorem p_Same {u v : PV} {p q : Pt2} {k k' : Nat} (hu : IsP u p k) (hv : IsP v q k') (hk : k + k' ≤ 100000) : Gv.Fn Tryz.prog 64 [u, v] (.raw (.bool (decide (p = q)))) := by
  obtain ⟨a, b, c, d, e, f, rfl, i1, i2⟩ := hu
  obtain ⟨a', b', c', d', e', f', rfl, j1, j2⟩ := hv
  have c1 := q_Cmp i1 j1 hk
  have c2 := q_Cmp i2 j2 hk
  refine Fn.intro mixed vc_pt_Same rfl ?_
  refine ok_call c1 rfl rfl ?_
  try simp only [nr]
  refine ok_eq rfl _ rfl ?_
  try simp only [nr]
  refine ok_ite rfl (fun h => ?_) (fun h => ?_)
  · have h1 := Gv.qcmp_zero.1 (by simpa using h)
    refine ok_call c2 rfl rfl ?_
    try simp only [nr]
    refine ok_eq rfl (decide (p = q)) ?_ (by (try simp only [nr]); exact ok_ret rfl rfl)
    rw [Bool.eq_iff_iff, beq_iff_eq, Gv.qcmp_zero, decide_eq_true_iff, Prod.ext_iff]
    exact ⟨fun h2 => ⟨h1, h2⟩, fun h2 => h2.2⟩
  · have h1 : ¬ p.1 = q.1 := fun e => by rw [Gv.qcmp_zero.2 e] at h; cases h
    have e : decide (p = q) = false := by simp [Prod.ext_iff, h1]
    rw [e]
    exact ok_ret rfl rfl
end Go.Proofs.YtcpgflbfjplheaaGreatDoor
namespace Gv
open Go Go.RowKit Gs
set_option linter.unusedVariables false
structure RQ where
  s : Bool
  l : List Nat
  m : List Nat
def RQ.cs (r : RQ) : List PV := [.raw (.bool r.s), u64s r.l, u64s r.m]
def RQ.wf (r : RQ) : Prop := Lt 18446744073709551616 r.l ∧ Lt 18446744073709551616 r.m
def RQ.q (r : RQ) : Rat := qv (sg r.s (val 18446744073709551616 r.l)) (val 18446744073709551616 r.m)
def RQ.small (r : RQ) (k : Int) : Bool := decide ((r.l.length : Int) ≤ k) && decide ((r.m.length : Int) ≤ k)
theorem RQ.is {r : RQ} {k : Nat} (h : r.wf) (hs : r.small k = true) (hk : 1 ≤ k) : IsQ (.agg r.cs) r.q k := by
  simp only [RQ.small, Bool.and_eq_true, decide_eq_true_eq] at hs
  exact ⟨r.s, r.l, r.m, rfl, h.1, h.2, rfl, by omega, by omega, hk⟩
structure RP where
  x : RQ
  y : RQ
def RP.cs (p : RP) : List PV := [.raw (.bool p.x.s), u64s p.x.l, u64s p.x.m, .raw (.bool p.y.s), u64s p.y.l, u64s p.y.m]
def RP.wf (p : RP) : Prop := p.x.wf ∧ p.y.wf
def RP.p (p : RP) : Pt2 := (p.x.q, p.y.q)
def RP.small (p : RP) (k : Int) : Bool := p.x.small k && p.y.small k
theorem RP.is {p : RP} {k : Nat} (h : p.wf) (hs : p.small k = true) (hk : 1 ≤ k) : IsP (.agg p.cs) p.p k := by
  simp only [RP.small, Bool.and_eq_true] at hs
  exact ⟨_, _, _, _, _, _, rfl, RQ.is h.1 hs.1 hk, RQ.is h.2 hs.2 hk⟩
def rline (L : List RP) : PV := .sl (L.map RP.cs)
def IsL (v : PV) (l : List Pt2) (k : Nat) : Prop := ∃ es : List (List PV), v = .sl es ∧ es.length = l.length ∧ ∀ (i : Nat) (e : List PV) (p : Pt2), es[i]? = some e → l[i]? = some p → IsP (.agg e) p k
theorem IsL.at {es : List (List PV)} {l : List Pt2} {k m : Nat} {p : Pt2} (h : IsL (.sl es) l k) (hp : l[m]? = some p) : ∃ a b c d e f, es[m]? = some [a, b, c, d, e, f] ∧ IsP (.agg [a, b, c, d, e, f]) p k := by
  obtain ⟨es', h1, h2, h3⟩ := h
  cases h1
  have hlt := (List.getElem?_eq_some_iff.1 hp).1
  have he : es[m]? = some (es[m]'(by omega)) := List.getElem?_eq_getElem _
  have h4 := h3 m _ p he hp
  obtain ⟨a, b, c, d, e, f, h5, h6, h7⟩ := id h4
  injection h5 with h5
  rw [h5] at h4 he
  exact ⟨a, b, c, d, e, f, he, h4⟩
theorem IsL.len {es : List (List PV)} {l : List Pt2} {k : Nat} (h : IsL (.sl es) l k) : es.length = l.length := by
  obtain ⟨es', h1, h2, h3⟩ := h
  cases h1
  exact h2
theorem IsL.of {L : List RP} {k : Nat} (h : ∀ p ∈ L, p.wf) (hs : ∀ p ∈ L, p.small k = true) (hk : 1 ≤ k) : IsL (rline L) (L.map RP.p) k := by
  refine ⟨L.map RP.cs, rfl, by simp, fun i e p he hp => ?_⟩
  rw [List.getElem?_map, Option.map_eq_some_iff] at he hp
  obtain ⟨r, hr, rfl⟩ := he
  obtain ⟨r', hr', rfl⟩ := hp
  rw [hr] at hr'
  cases hr'
  have hm := List.mem_of_getElem? hr
  exact RP.is (h r hm) (hs r hm) hk
def plist (l : List Pt2) : PV := .sl (l.map pcs)
def pflist (l : List Pt2) : PV := .sl (l.map pfs)
theorem IsL.pl {l : List Pt2} {k : Nat} (h : ∀ p ∈ l, Pb p k) : IsL (plist l) l k := by
  refine ⟨l.map pcs, rfl, by simp, fun i e p he hp => ?_⟩
  rw [List.getElem?_map, hp] at he
  cases he
  exact IsP.pc (h p (List.mem_of_getElem? hp))
theorem IsL.more {v : PV} {l : List Pt2} {k k' : Nat} (h : IsL v l k) (hk : k ≤ k') : IsL v l k' := by
  obtain ⟨es, h1, h2, h3⟩ := h
  exact ⟨es, h1, h2, fun i e p he hp => (h3 i e p he hp).more hk⟩
theorem IsL.b {v : PV} {l : List Pt2} {k : Nat} (h : IsL v l k) : ∀ p ∈ l, Pb p k := by
  intro p hp
  obtain ⟨es, rfl, h2, h3⟩ := id h
  obtain ⟨i, hi⟩ := List.mem_iff_getElem?.1 hp
  obtain ⟨_, _, _, _, _, _, _, h4⟩ := h.at hi
  exact h4.b
section
variable {P : Program} {R : PV → Prop} {ρ : List PV} {C : List (List PV → Prop)} {k : VC}
theorem ok_for {vars : List SV} (N : Nat) (J : Nat → List PV → Prop) (h0 : J 0 (pvs ρ vars)) (hJ : ∀ i us, J i us → ∃ t, us = .raw (.int .i64 (i : Int)) :: t)
    (hs : ∀ (i : Nat) (us : List PV) (D : List PV → Prop), i ≤ N → J i us → (∀ us', i < N → J (i + 1) us' → D us') → k.ok P R (ρ ++ us) (D :: C)) : (VC.loop vars k).ok P R ρ C := by
  refine ⟨fun us => ∃ i, i ≤ N ∧ J i us, fun us => match us with
    | .raw (.int _ i) :: _ => N - i.toNat
    | _ => 0, ⟨0, Nat.zero_le _, h0⟩, ?_⟩
  rintro us _ ⟨i, hi, h⟩
  refine hs i us _ hi h fun us' hlt h' => ⟨⟨i + 1, hlt, h'⟩, ?_⟩
  obtain ⟨t, rfl⟩ := hJ _ _ h
  obtain ⟨t', rfl⟩ := hJ _ _ h'
  simp only [Int.toNat_natCast]
  omega
theorem ok_again {d : Nat} {vars : List SV} {D : List PV → Prop} (hd : C[d]? = some D) (h : D (pvs ρ vars)) : (VC.again d vars).ok P R ρ C := by
  show (match C[d]? with
    | some J => J (pvs ρ vars)
    | none => False)
  rw [hd]
  exact h
theorem wrap_nat {n : Nat} (h : n < 9223372036854775808) : IntKind.i64.wrap (n : Int) = (n : Int) := by
  simp [IntKind.wrap, IntKind.bits, IntKind.signed]; omega
theorem ok_inc {args : List SV} {n : Nat} (hp : pvs ρ args = [.raw (.int .i64 (n : Int)), .raw (.int .i64 1)]) (hn : n + 1 < 9223372036854775808) (hk : k.ok P R (ρ ++ [.raw (.int .i64 ((n + 1 : Nat) : Int))]) C) : (VC.prim (.op2 .add false) args k).ok P R ρ C :=
  ok_add hp _ (by have := wrap_nat hn; rw [← this]; rfl) hk
theorem ok_mk {c n : Nat} {args : List SV} {l : List (List PV)} (h : chunk c n (pvs ρ args) = l) (hk : k.ok P R (ρ ++ [.sl l]) C) : (VC.mk c n args k).ok P R ρ C := by
  show k.ok P R (ρ ++ [.sl (chunk c n (pvs ρ args))]) C
  rw [h]
  exact hk
end
def qmin (a b : Rat) : Rat := if b < a then b else a
def qmax (a b : Rat) : Rat := if a < b then b else a
theorem Qb.min {a b : Rat} {k : Nat} (h : Qb a k) (h' : Qb b k) : Qb (qmin a b) k := by unfold qmin; split <;> assumption
theorem Qb.max {a b : Rat} {k : Nat} (h : Qb a k) (h' : Qb b k) : Qb (qmax a b) k := by unfold qmax; split <;> assumption
end Gv
namespace Go.Proofs.YtcpgflbfjplheaaGreatDoor
open Go.RowKit Gs Gv
set_option linter.unusedVariables false
theorem g6_In {v : PV} {p : Pt2} {k : Nat} (h : IsP v p k) (hk : k ≤ 500) : Gv.Fn Tryz.prog 17 [v] (pf p) := by
  obtain ⟨a, b, c, d, e, f, rfl, i1, i2⟩ := h
  refine Fn.intro mixed vc_ref06_In rfl ?_
  refine ok_call (g_In i1 hk) rfl rfl ?_
  try simp only [nr]
  refine ok_call (g_In i2 hk) rfl rfl ?_
  try simp only [nr]
  exact ok_ret rfl rfl
theorem g6_Out {p : Pt2} {k : Nat} (h : Pb p k) (hk : k ≤ 400000) : Gv.Fn Tryz.prog 92 [pf p] (pc p) := by
  refine Fn.intro mixed vc_ref06_Out rfl ?_
  refine ok_call (g_Out h.x hk) rfl rfl ?_
  try simp only [nr]
  refine ok_call (g_Out h.y hk) rfl rfl ?_
  try simp only [nr]
  exact ok_ret rfl rfl
theorem g6_Same {p q : Pt2} {k k' : Nat} (h : Pb p k) (h' : Pb q k') (hk : k + k' ≤ 100000) : Gv.Fn Tryz.prog 16 [pf p, pf q] (.raw (.bool (decide (p = q)))) := by
  refine Fn.intro mixed vc_ref06_Same rfl ?_
  refine ok_call (g_Cmp h.x h'.x hk) rfl rfl ?_
  try simp only [nr]
  refine ok_eq rfl _ rfl ?_
  try simp only [nr]
  refine ok_ite rfl (fun e => ?_) (fun e => ?_)
  · have h1 := Gv.qcmp_zero.1 (by simpa using e)
    refine ok_call (g_Cmp h.y h'.y hk) rfl rfl ?_
    try simp only [nr]
    refine ok_eq rfl (decide (p = q)) ?_ (by (try simp only [nr]); exact ok_ret rfl rfl)
    rw [Bool.eq_iff_iff, beq_iff_eq, Gv.qcmp_zero, decide_eq_true_iff, Prod.ext_iff]
    exact ⟨fun h2 => ⟨h1, h2⟩, fun h2 => h2.2⟩
  · have h1 : ¬ p.1 = q.1 := fun e' => by rw [Gv.qcmp_zero.2 e'] at e; cases e
    have e : decide (p = q) = false := by simp [Prod.ext_iff, h1]
    rw [e]
    exact ok_ret rfl rfl
theorem g6_Sub {p q : Pt2} {k k' : Nat} (h : Pb p k) (h' : Pb q k') (hk : k + k' ≤ 490) : Gv.Fn Tryz.prog 119 [pf p, pf q] (pf (psub p q)) := by
  refine Fn.intro mixed vc_ref06_Sub rfl ?_
  refine ok_call (g_Sub h.x h'.x hk) rfl rfl ?_
  try simp only [nr]
  refine ok_call (g_Sub h.y h'.y hk) rfl rfl ?_
  try simp only [nr]
  exact ok_ret rfl rfl
theorem g6_Cross {p q : Pt2} {k k' : Nat} (h : Pb p k) (h' : Pb q k') (hk : 2 * (k + k') ≤ 490) : Gv.Fn Tryz.prog 118 [pf p, pf q] (qf (pcross p q)) := by
  refine Fn.intro mixed vc_ref06_Cross rfl ?_
  refine ok_call (g_Mul h.x h'.y (by omega)) rfl rfl ?_
  try simp only [nr]
  refine ok_call (g_Mul h.y h'.x (by omega)) rfl rfl ?_
  try simp only [nr]
  refine ok_call (g_Sub (h.x.mul h'.y) (h.y.mul h'.x) (by omega)) rfl rfl ?_
  try simp only [nr]
  exact ok_ret rfl rfl
theorem g6_Orient {p q r : Pt2} {k : Nat} (h : Pb p k) (h' : Pb q k) (h2 : Pb r k) (hk : k ≤ 60) : Gv.Fn Tryz.prog 59 [pf p, pf q, pf r] (.raw (.int .i64 (porient p q r).num.sign)) := by
  refine Fn.intro mixed vc_ref06_Orient rfl ?_
  refine ok_call (g6_Sub h' h (by omega)) rfl rfl ?_
  try simp only [nr]
  refine ok_call (g6_Sub h2 h (by omega)) rfl rfl ?_
  try simp only [nr]
  refine ok_call (g6_Cross (h'.sub h) (h2.sub h) (by omega)) rfl rfl ?_
  try simp only [nr]
  refine ok_call (g_Sign _) rfl rfl ?_
  try simp only [nr]
  exact ok_ret rfl rfl
theorem g6_Of {x y : Int} (h1 : -9223372036854775808 ≤ x) (h2 : x ≤ 9223372036854775807) (h3 : -9223372036854775808 ≤ y) (h4 : y ≤ 9223372036854775807) : Gv.Fn Tryz.prog 124 [.raw (.int .i64 x), .raw (.int .i64 y)] (pf ((x : Rat), (y : Rat))) := by
  have e : ∀ z : Int, qd z 1 = (z : Rat) := fun z => by rw [qd_div (by decide)]; show (z : Rat) / ((1 : Int) : Rat) = z; rw [show ((1 : Int) : Rat) = 1 from rfl]; grind
  have c1 := g_Of h1 h2 (b := 1) (by decide) (by decide)
  have c2 := g_Of h3 h4 (b := 1) (by decide) (by decide)
  rw [e] at c1 c2
  refine Fn.intro mixed vc_ref06_Of rfl ?_
  refine ok_call c1 rfl rfl ?_
  try simp only [nr]
  refine ok_call c2 rfl rfl ?_
  try simp only [nr]
  exact ok_ret rfl rfl
theorem pb_int {x y : Int} (h1 : -9223372036854775808 ≤ x) (h2 : x ≤ 9223372036854775807) (h3 : -9223372036854775808 ≤ y) (h4 : y ≤ 9223372036854775807) : Pb ((x : Rat), (y : Rat)) 1 :=
  ⟨.int (zs_s (by omega)) (by decide), .int (zs_s (by omega)) (by decide)⟩
theorem l6_P {x y : Int} (h1 : -9223372036854775808 ≤ x) (h2 : x ≤ 9223372036854775807) (h3 : -9223372036854775808 ≤ y) (h4 : y ≤ 9223372036854775807) : Gv.Fn Tryz.prog 61 [.raw (.int .i64 x), .raw (.int .i64 y)] (pc ((x : Rat), (y : Rat))) := by
  refine Fn.intro mixed vc_law06_P rfl ?_
  refine ok_call (g6_Of h1 h2 h3 h4) rfl rfl ?_
  try simp only [nr]
  refine ok_call (g6_Out (pb_int h1 h2 h3 h4) (by decide)) rfl rfl ?_
  try simp only [nr]
  exact ok_ret rfl rfl
theorem k_SmallPt {p : RP} {n : Int} : Gv.Fn Tryz.prog 57 [.agg p.cs, .raw (.int .i64 n)] (.raw (.bool (p.small n))) := by
  refine Fn.intro mixed vc_keep_SmallPt rfl ?_
  refine ok_call (k_Small (s := p.x.s) (l := p.x.l) (m := p.x.m) (k := n)) rfl rfl ?_
  try simp only [nr]
  refine ok_ite (t := p.x.small n) rfl (fun e => ?_) (fun e => ?_)
  · refine ok_call (k_Small (s := p.y.s) (l := p.y.l) (m := p.y.m) (k := n)) rfl rfl ?_
    try simp only [nr]
    refine ok_ret ?_ rfl
    unfold RP.small
    rw [e]
    rfl
  · refine ok_ret ?_ rfl
    unfold RP.small
    rw [e]
    rfl
theorem k_SmallLine {L : List RP} {n : Int} (hL : L.length < 9223372036854775807) : Gv.Fn Tryz.prog 55 [rline L, .raw (.int .i64 n)] (.raw (.bool (L.all fun p => p.small n))) := by
  refine Fn.intro mixed vc_keep_SmallLine rfl ?_
  refine ok_for L.length (fun i us => us = [.raw (.int .i64 (i : Int))] ∧ ∀ p ∈ L.take i, p.small n = true) ⟨rfl, fun p hp => by simp at hp⟩ (fun i us h => ⟨[], h.1⟩) ?_
  rintro i us D hi ⟨rfl, hall⟩ hD
  try simp only [nr]
  refine ok_lenS (es := L.map RP.cs) rfl (L.length : Int) (by simp) ?_
  try simp only [nr]
  refine ok_lss rfl (decide (i < L.length)) (by simp) ?_
  try simp only [nr]
  refine ok_ite rfl (fun h => ?_) (fun h => ?_)
  · have hlt : i < L.length := of_decide_eq_true h
    obtain ⟨p, hp⟩ : ∃ p, L[i]? = some p := ⟨L[i], List.getElem?_eq_getElem hlt⟩
    refine ok_idx (es := L.map RP.cs) (e := p.cs) rfl (by rw [List.getElem?_map, hp]; rfl) rfl ?_
    try simp only [nr]
    refine ok_ld (cs := p.cs) rfl rfl ?_
    try simp only [nr]
    refine ok_call (k_SmallPt (p := p) (n := n)) rfl rfl ?_
    try simp only [nr]
    refine ok_not rfl ?_
    try simp only [nr]
    refine ok_ite rfl (fun h2 => ?_) (fun h2 => ?_)
    · refine ok_ret (r := .raw (.bool false)) ?_ rfl
      have h3 : p.small n = false := by simpa using h2
      have : (L.all fun p => p.small n) = false := by
        rw [Bool.eq_false_iff]
        intro hc
        have := (List.all_eq_true.1 hc) p (List.mem_of_getElem? hp)
        rw [h3] at this
        cases this
      rw [this]
    · have h3 : p.small n = true := by simpa using h2
      refine ok_inc (n := i) rfl (by omega) ?_
      try simp only [nr]
      refine ok_again rfl (hD _ hlt ⟨rfl, fun q hq => ?_⟩)
      rw [List.take_add_one, hp] at hq
      simp only [Option.toList_some, List.mem_append, List.mem_singleton] at hq
      rcases hq with hq | rfl
      · exact hall q hq
      · exact h3
  · have hge : i = L.length := by have := of_decide_eq_false h; omega
    refine ok_ret (r := .raw (.bool true)) ?_ rfl
    rw [hge, List.take_length] at hall
    have : (L.all fun p => p.small n) = true := List.all_eq_true.2 hall
    rw [this]
theorem l6_Fair {L : List RP} (hL : L.length < 9223372036854775807) : Gv.Fn Tryz.prog 13 [rline L] (.raw (.bool (L.all fun p => p.small 6))) := by
  refine Fn.intro mixed vc_law06_Fair rfl ?_
  refine ok_call (k_SmallLine hL) rfl rfl ?_
  try simp only [nr]
  exact ok_ret rfl rfl
theorem map_take {α β : Type} {f : α → β} {l : List α} {i : Nat} {x : α} (h : l[i]? = some x) : (l.take i).map f ++ [f x] = (l.take (i + 1)).map f := by
  rw [List.take_add_one, h]
  simp
theorem g6_Ins {v : PV} {l : List Pt2} {k : Nat} (h : IsL v l k) (hk : k ≤ 500) (hl : l.length ≤ 1000000) : Gv.Fn Tryz.prog 15 [v] (pflist l) := by
  obtain ⟨es, rfl, hes, _⟩ := id h
  refine Fn.intro mixed vc_ref06_Ins rfl ?_
  refine ok_mk (l := []) rfl ?_
  try simp only [nr]
  refine ok_for l.length (fun i us => us = [.raw (.int .i64 (i : Int)), .sl ((l.take i).map pfs)]) rfl (fun i us h => ⟨_, h⟩) ?_
  rintro i us D hi rfl hD
  try simp only [nr]
  refine ok_lenS (es := es) rfl (l.length : Int) (by rw [hes]) ?_
  try simp only [nr]
  refine ok_lss rfl (decide (i < l.length)) (by simp) ?_
  try simp only [nr]
  refine ok_ite rfl (fun h0 => ?_) (fun h0 => ?_)
  · have hlt : i < l.length := of_decide_eq_true h0
    obtain ⟨p, hp⟩ : ∃ p, l[i]? = some p := ⟨l[i], List.getElem?_eq_getElem hlt⟩
    obtain ⟨a, b, c, d, e, f, he, hP⟩ := h.at hp
    refine ok_idx (es := es) rfl he rfl ?_
    try simp only [nr]
    refine ok_ld (cs := [a, b, c, d, e, f]) rfl rfl ?_
    try simp only [nr]
    refine ok_call (g6_In hP hk) rfl rfl ?_
    try simp only [nr]
    refine ok_mk (l := [pfs p]) rfl ?_
    try simp only [nr]
    refine ok_app rfl (by simp; omega) (by simp; omega) (fun x hx => by simp at hx; rw [hx]; rfl) ?_
    try simp only [nr]
    refine ok_inc (n := i) rfl (by omega) ?_
    try simp only [nr]
    refine ok_again rfl (hD _ hlt ?_)
    show [PV.raw (.int .i64 ((i + 1 : Nat) : Int)), .sl ((l.take i).map pfs ++ [pfs p])] = _
    rw [map_take hp]
  · have hge : i = l.length := by have := of_decide_eq_false h0; omega
    refine ok_ret ?_ rfl
    show PV.sl ((l.take i).map pfs) = _
    rw [hge, List.take_length]
    rfl
end Go.Proofs.YtcpgflbfjplheaaGreatDoor
namespace Go.Proofs.YtcpgflbfjplheaaGreatDoor
open Go.ChangeShapes Go.WideShapes Go.ChangeAt Go.RowKit Gs Gv
set_option linter.unusedVariables false
theorem cellsPt : Tryz.prog.cellsOf 29 = 6 := by kernel_rfl
theorem rcs_flat (r : RP) : ∀ (j : Nat) (p : PV), r.cs[j]? = some p → p.flat = true
  | 0, p, h => by cases h; rfl
  | 1, p, h => by cases h; rfl
  | 2, p, h => by cases h; rfl
  | 3, p, h => by cases h; rfl
  | 4, p, h => by cases h; rfl
  | 5, p, h => by cases h; rfl
  | j + 6, p, h => by cases h
def PtAt (W : World) (r : RP) (cs : List Value) : Prop := cs.length = 6 ∧ r.wf ∧ ∀ (j : Nat) (p : PV), r.cs[j]? = some p → ∃ v, cs[j]? = some v ∧ Rep W (fun _ => True) p v
set_option maxRecDepth 100000 in
theorem pt_cells {H : Type} {enc : TypeId × Value → H} {W : World} {fuel : Nat} {cs : List Value} {x : DataW H × List MemPlace} (hf : DataW.trod enc Tryz.prog W 0 (fun _ => true) true fuel 29 cs = some x) :
    ∃ r, PtAt W r cs := by
  obtain ⟨y0, y1, n, hx, hlen, hy0, hy1⟩ := trod_struct2 Tryz.underlying29 hf
  rw [cellsPt] at hlen
  obtain ⟨s, l, m, u, v, e0, hl, hm, hr, hfl, hr', hfl'⟩ := rat_cells hy0
  obtain ⟨s2, l2, m2, u2, v2, e1, hl2, hm2, hr2, hfl2, hr2', hfl2'⟩ := rat_cells hy1
  match cs, hlen with
  | [a, b, c, d, e, f], _ =>
    rw [cellsQ] at e0 e1
    simp at e0 e1
    obtain ⟨rfl, rfl, rfl⟩ := e0
    obtain ⟨rfl, rfl, rfl⟩ := e1
    refine ⟨⟨⟨s, l, m⟩, ⟨s2, l2, m2⟩⟩, rfl, ⟨⟨hl, hm⟩, ⟨hl2, hm2⟩⟩, fun j p hj => ?_⟩
    match j, hj with
    | 0, hj => cases hj; exact ⟨_, rfl, .raw _⟩
    | 1, hj => cases hj; exact ⟨_, rfl, hr⟩
    | 2, hj => cases hj; exact ⟨_, rfl, hr'⟩
    | 3, hj => cases hj; exact ⟨_, rfl, .raw _⟩
    | 4, hj => cases hj; exact ⟨_, rfl, hr2⟩
    | 5, hj => cases hj; exact ⟨_, rfl, hr2'⟩
set_option maxRecDepth 100000 in
theorem open_line {H : Type} {enc : TypeId × Value → H} {W : World} {base : Nat} {v : Value} {d : DataW H} {p : List MemPlace} (hval : Value.okWide Tryz.prog W .any base 22 v)
    (h : DataW.Trod enc Tryz.prog W 0 (fun _ => true) true 22 v d p) : ∃ L : List RP, (∀ r ∈ L, r.wf) ∧ Rep W (fun _ => True) (rline L) v := by
  obtain ⟨a0, n0, c0, rfl⟩ := okWide_slice Tryz.underlying22 hval
  obtain ⟨fuel, hf⟩ := h
  rcases Go.Deep.open_slice Tryz.underlying22 hf with ⟨hcs, hx⟩ | ⟨a, len, cap, m, n, D, Pl, hcs, _, hl, hm, hmm, hx, hall⟩
  · simp [Value.cells] at hcs
    obtain ⟨rfl, rfl, rfl⟩ := hcs
    exact ⟨[], fun r h => by simp at h, .nil none 0 (by omega)⟩
  · simp [Value.cells] at hcs
    obtain ⟨rfl, rfl, rfl⟩ := hcs
    have hmm2 : m = c0 := hmm
    subst hmm2
    haveI : Inhabited (RP × List Value) := ⟨⟨⟨⟨false, [], []⟩, ⟨false, [], []⟩⟩, []⟩⟩
    obtain ⟨F, hF⟩ := Go.Deep.choose_lt (α := RP × List Value) (n := n0) (p := fun i x => W.cells? 0 (a.add (i * 6)) 6 = some x.2 ∧ PtAt W x.1 x.2) (fun i hi => by
      obtain ⟨cs', h1, h2⟩ := hall i (by omega)
      rw [cellsPt] at h1
      obtain ⟨r, hr⟩ := pt_cells h2
      exact ⟨(r, cs'), h1, hr⟩)
    have hget : ∀ (i : Nat) (e : List PV), (((List.range n0).map fun i => (F i).1).map RP.cs)[i]? = some e → i < n0 ∧ e = (F i).1.cs := by
      intro i e he
      rw [List.getElem?_map, List.getElem?_map, Option.map_eq_some_iff] at he
      obtain ⟨r, hr, rfl⟩ := he
      rw [Option.map_eq_some_iff] at hr
      obtain ⟨j, hj, rfl⟩ := hr
      have hlt := (List.getElem?_eq_some_iff.1 hj).1
      rw [List.length_range] at hlt
      rw [List.getElem?_range hlt] at hj
      cases hj
      exact ⟨hlt, rfl⟩
    refine ⟨(List.range n0).map fun i => (F i).1, fun r hr => ?_, ?_⟩
    · obtain ⟨i, hi, rfl⟩ := List.mem_map.1 hr
      exact (hF i (List.mem_range.1 hi)).2.2.1
    · have hlen : (((List.range n0).map fun i => (F i).1).map RP.cs).length = n0 := by simp
      have key := Rep.sl (w := W) (P := fun _ => True) 6 (((List.range n0).map fun i => (F i).1).map RP.cs) a m (fun i j => ((F i).2).getD j undef) (fun i e he => by obtain ⟨_, rfl⟩ := hget i e he; rfl)
        (by rw [hlen]; exact hl) (by simpa [maxLen] using hm) (fun i e he j p hj => by obtain ⟨_, rfl⟩ := hget i e he; exact rcs_flat _ j p hj)
        (fun i e he j p hj => by
          obtain ⟨hi, rfl⟩ := hget i e he
          obtain ⟨h1, h6, _, h2⟩ := hF i hi
          obtain ⟨u, hu, _⟩ := h2 j p hj
          have hj6 : j < 6 := by rw [← h6]; exact (List.getElem?_eq_some_iff.1 hu).1
          have h3 := (World.cells?_some h1).2.2 j hj6
          rw [Gv.add_add] at h3
          refine ⟨trivial, ?_⟩
          show W.cell? (a.add (i * 6 + j)) = some ((F i).2.getD j undef)
          rw [h3, List.getD, hu]
          rfl)
        (fun i e he j p hj => by
          obtain ⟨hi, rfl⟩ := hget i e he
          obtain ⟨h1, h6, _, h2⟩ := hF i hi
          obtain ⟨u, hu, hru⟩ := h2 j p hj
          show Rep W _ p ((F i).2.getD j undef)
          rw [List.getD, hu]
          exact hru)
      rw [hlen] at key
      exact key
end Go.Proofs.YtcpgflbfjplheaaGreatDoor
namespace Go.Proofs.YtcpgflbfjplheaaGreatDoor
open Go.ChangeShapes Go.WideShapes Go.ChangeAt Go.RowKit Gs Gv
set_option linter.unusedVariables false
theorem pt_slice {W : World} {r : RP} {cs : List Value} {o : Nat} (h : PtAt W r ((cs.drop o).take 6)) {j : Nat} {p : PV} (hj : r.cs[j]? = some p) : ∃ v, cs[o + j]? = some v ∧ Rep W (fun _ => True) p v := by
  obtain ⟨h6, _, h2⟩ := h
  obtain ⟨v, hv, hr⟩ := h2 j p hj
  have hlt := (List.getElem?_eq_some_iff.1 hv).1
  rw [h6] at hlt
  rw [List.getElem?_take_of_lt hlt, List.getElem?_drop] at hv
  exact ⟨v, hv, hr⟩
set_option maxRecDepth 100000 in
theorem open_pts3 {H : Type} {enc : TypeId × Value → H} {W : World} {base : Nat} {v : Value} {d : DataW H} {p : List MemPlace} (hval : Value.okWide Tryz.prog W .any base 30 v)
    (h : DataW.Trod enc Tryz.prog W 0 (fun _ => true) true 30 v d p) : ∃ r0 r1 r2 : RP, r0.wf ∧ r1.wf ∧ r2.wf ∧ Rep W (fun _ => True) (.agg (r0.cs ++ r1.cs ++ r2.cs)) v := by
  simp only [Value.okWide, Tryz.underlying30] at hval
  obtain ⟨cs, rfl, hsz, _⟩ := hval
  obtain ⟨fuel, hf⟩ := h
  obtain ⟨xs, m, _, _, hlen, hxl, hget⟩ := DataW.trod_array Tryz.underlying30 hf
  have h0 := hget 0 (by omega)
  have h1 := hget 1 (by omega)
  have h2 := hget 2 (by omega)
  rw [cellsPt, List.getElem?_eq_getElem (show 0 < xs.length by omega)] at h0
  rw [cellsPt, List.getElem?_eq_getElem (show 1 < xs.length by omega)] at h1
  rw [cellsPt, List.getElem?_eq_getElem (show 2 < xs.length by omega)] at h2
  obtain ⟨r0, p0⟩ := pt_cells h0
  obtain ⟨r1, p1⟩ := pt_cells h1
  obtain ⟨r2, p2⟩ := pt_cells h2
  have h18 : cs.size = 18 := by rw [hsz]; kernel_rfl
  refine ⟨r0, r1, r2, p0.2.1, p1.2.1, p2.2.1, .agg _ _ (by rw [h18]; rfl) (fun j p hj => ?_) (fun j p hj => ?_)⟩
  · have hm := List.mem_of_getElem? hj
    rcases List.mem_append.1 hm with hm | hm
    · rcases List.mem_append.1 hm with hm | hm
      · obtain ⟨k, hk⟩ := List.mem_iff_getElem?.1 hm; exact rcs_flat r0 k p hk
      · obtain ⟨k, hk⟩ := List.mem_iff_getElem?.1 hm; exact rcs_flat r1 k p hk
    · obtain ⟨k, hk⟩ := List.mem_iff_getElem?.1 hm; exact rcs_flat r2 k p hk
  · have l0 : r0.cs.length = 6 := rfl
    have l1 : r1.cs.length = 6 := rfl
    have key : ∃ u, cs.toList[j]? = some u ∧ Rep W (fun _ => True) p u := by
      have e : Value.cells (.agg cs) = cs := rfl
      rw [e] at p0 p1 p2
      by_cases j6 : j < 6
      · rw [List.append_assoc, List.getElem?_append_left (by omega)] at hj
        obtain ⟨u, hu, hr⟩ := pt_slice p0 hj
        exact ⟨u, by simpa using hu, hr⟩
      · by_cases j12 : j < 12
        · rw [List.append_assoc, List.getElem?_append_right (by omega), List.getElem?_append_left (by omega), l0] at hj
          obtain ⟨u, hu, hr⟩ := pt_slice p1 hj
          exact ⟨u, by rw [← hu]; congr 1; omega, hr⟩
        · rw [List.getElem?_append_right (by simp only [List.length_append]; omega), List.length_append, l0, l1] at hj
          obtain ⟨u, hu, hr⟩ := pt_slice p2 hj
          exact ⟨u, by rw [← hu]; congr 1; omega, hr⟩
    obtain ⟨u, hu, hr⟩ := key
    have hu' : cs[j]? = some u := by simpa using hu
    have : cs.getD j undef = u := by rw [Array.getD_eq_getD_getElem?, hu']; rfl
    rw [this]
    exact hr
end Go.Proofs.YtcpgflbfjplheaaGreatDoor
namespace Gv
open Go Go.RowKit Gs
set_option linter.unusedVariables false
def pa (l : List Pt2) (i : Nat) : Pt2 := l.getD i (0, 0)
def pn (l : List Pt2) (i : Nat) : Pt2 := pa l ((i + 1) % l.length)
theorem pa_at {l : List Pt2} {i : Nat} {p : Pt2} (h : l[i]? = some p) : pa l i = p := by unfold pa; rw [List.getD, h]; rfl
theorem at_pa {l : List Pt2} {i : Nat} (h : i < l.length) : l[i]? = some (pa l i) := by unfold pa; rw [List.getD, List.getElem?_eq_getElem h]; rfl
theorem pa_mem {l : List Pt2} {i : Nat} (h : i < l.length) : pa l i ∈ l := List.mem_of_getElem? (at_pa h)
theorem mod_lt {l : List Pt2} {i : Nat} (h : i < l.length) : (i + 1) % l.length < l.length := Nat.mod_lt _ (by omega)
theorem at_pn {l : List Pt2} {i : Nat} (h : i < l.length) : l[(i + 1) % l.length]? = some (pn l i) := at_pa (mod_lt h)
def psum (l : List Pt2) : Nat → Rat
  | 0 => 0
  | i + 1 => psum l i + pcross (pa l i) (pn l i)
def parea (l : List Pt2) : Rat := psum l l.length * ((1 : Rat) / 2)
theorem Qb.zero : Qb (0 : Rat) 1 := .int (z := 0) (zs_s (by decide)) (by decide)
theorem qd_half : qd 1 2 = (1 : Rat) / 2 := by decide +kernel
theorem Qb.half : Qb ((1 : Rat) / 2) 1 := .one _ (z := 1) (d := 2) (by decide +kernel) (by decide) (by decide) (by decide)
theorem Qb.psum {l : List Pt2} {k : Nat} (h : ∀ p ∈ l, Pb p k) : ∀ i, i ≤ l.length → Qb (psum l i) (i * (4 * k + 2) + 1)
  | 0, _ => by show Qb (0 : Rat) _; simpa using Qb.zero
  | i + 1, hi => by
    have h1 := Qb.psum h i (by omega)
    have h2 := Qb.cross (h _ (pa_mem (show i < l.length by omega))) (h _ (List.mem_of_getElem? (at_pn (show i < l.length by omega))))
    refine (h1.add h2).more ?_
    rw [Nat.add_mul i 1, Nat.one_mul]
    generalize i * (4 * k + 2) = m
    omega
theorem Qb.parea {l : List Pt2} {k : Nat} (h : ∀ p ∈ l, Pb p k) : Qb (Gv.parea l) (l.length * (4 * k + 2) + 2) := (Qb.psum h _ (Nat.le_refl _)).mul Qb.half
def pconvex (l : List Pt2) : Bool := decide (3 ≤ l.length) && ((List.range l.length).all fun i => (List.range l.length).all fun k => (decide (k = i) || !decide (pa l i = pa l k)) && decide (0 ≤ porient (pa l i) (pn l i) (pa l k))) &&
  (List.range l.length).any fun i => (List.range l.length).any fun k => decide (0 < porient (pa l i) (pn l i) (pa l k))
def phas (l : List Pt2) (p : Pt2) : Bool := ((List.range l.length).all fun i => decide (0 ≤ porient (pa l i) (pn l i) p)) && decide (3 ≤ l.length)
def pcut (p q a b : Pt2) : Pt2 := pmix p q (porient a b p / (porient a b p - porient a b q))
def phalf1 (a b p q : Pt2) : List Pt2 := (if 0 ≤ porient a b p then [p] else []) ++ (if porient a b p * porient a b q < 0 then [pcut p q a b] else [])
def phalfs (l : List Pt2) (a b : Pt2) : Nat → List Pt2
  | 0 => []
  | i + 1 => phalfs l a b i ++ phalf1 a b (pa l i) (pn l i)
def phalf (l : List Pt2) (a b : Pt2) : List Pt2 := if a = b then l else phalfs l a b l.length
def plo (l : List Pt2) : Nat → Pt2
  | 0 => pa l 0
  | i + 1 => (qmin (plo l i).1 (pa l i).1, qmin (plo l i).2 (pa l i).2)
def phi (l : List Pt2) : Nat → Pt2
  | 0 => pa l 0
  | i + 1 => (qmax (phi l i).1 (pa l i).1, qmax (phi l i).2 (pa l i).2)
theorem num_sign_mul (x y : Rat) : decide (x.num.sign * y.num.sign < 0) = decide (x * y < 0) := by
  rw [Bool.eq_iff_iff, decide_eq_true_iff, decide_eq_true_iff]
  have hx := num_neg_iff x
  have hx' := num_pos_iff x
  have hy := num_neg_iff y
  have hy' := num_pos_iff y
  have hx0 := num_zero_iff x
  have hy0 := num_zero_iff y
  have mulpos : ∀ {u v : Rat}, 0 < u → 0 < v → 0 < u * v := fun hu hv => Rat.mul_pos hu hv
  rcases Int.lt_trichotomy x.num 0 with a | a | a
  · rw [Int.sign_eq_neg_one_of_neg a]
    have h1 := hx.1 a
    rcases Int.lt_trichotomy y.num 0 with b | b | b
    · rw [Int.sign_eq_neg_one_of_neg b]
      have h2 := hy.1 b
      have := mulpos (show 0 < -x by grind) (show 0 < -y by grind)
      exact ⟨fun h => absurd h (by decide), fun h => by grind⟩
    · rw [b, hy0.1 b]
      simp
    · rw [Int.sign_eq_one_of_pos b]
      have h2 := hy'.1 b
      have := mulpos (show 0 < -x by grind) h2
      exact ⟨fun _ => by grind, fun _ => by decide⟩
  · rw [a, hx0.1 a]
    simp
  · rw [Int.sign_eq_one_of_pos a]
    have h1 := hx'.1 a
    rcases Int.lt_trichotomy y.num 0 with b | b | b
    · rw [Int.sign_eq_neg_one_of_neg b]
      have h2 := hy.1 b
      have := mulpos h1 (show 0 < -y by grind)
      exact ⟨fun _ => by grind, fun _ => by decide⟩
    · rw [b, hy0.1 b]
      simp
    · rw [Int.sign_eq_one_of_pos b]
      have h2 := hy'.1 b
      have := mulpos h1 h2
      exact ⟨fun h => absurd h (by decide), fun h => by grind⟩
theorem sign_lt0 (x : Rat) : decide (x.num.sign < 0) = decide (x < 0) := by
  rw [Bool.eq_iff_iff, decide_eq_true_iff, decide_eq_true_iff, ← num_neg_iff]
  constructor
  · intro h; exact Int.sign_neg_iff.1 h
  · intro h; exact Int.sign_neg_iff.2 h
theorem sign_ge0 (x : Rat) : decide (x.num.sign ≥ 0) = decide (0 ≤ x) := by
  have := sign_lt0 x
  rw [Bool.eq_iff_iff, decide_eq_true_iff, decide_eq_true_iff] at this ⊢
  constructor
  · intro h
    have h1 : ¬ x < 0 := fun h2 => by have := this.2 h2; omega
    grind
  · intro h
    have h1 : ¬ x.num.sign < 0 := fun h2 => by have := this.1 h2; grind
    omega
theorem zero_is {k : Nat} (hk : 1 ≤ k) : IsP (.agg [.raw (.bool false), .sl [], .sl [], .raw (.bool false), .sl [], .sl []]) (0, 0) k := by
  have h : IsQ (.agg [.raw (.bool false), .sl [], .sl []]) 0 k := ⟨false, [], [], rfl, Lt.nil _, Lt.nil _, by decide +kernel, by simp, by simp, hk⟩
  exact ⟨_, _, _, _, _, _, rfl, h, h⟩
theorem padd_zero (p : Pt2) : padd p (0, 0) = p := by
  unfold padd
  ext <;> simp [Rat.add_zero]
theorem IsL.nil {k : Nat} : IsL (.sl []) [] k := ⟨[], rfl, rfl, fun i e p h => by simp at h⟩
end Gv
namespace Go.Proofs.YtcpgflbfjplheaaGreatDoor
open Go.RowKit Gs Gv
set_option linter.unusedVariables false
theorem p_next {es : List (List PV)} {i n : Nat} (hn : es.length = n) (hi : i < n) (hl : n ≤ 1000000) : Gv.Fn Tryz.prog 66 [.sl es, .raw (.int .i64 (i : Int))] (.raw (.int .i64 (((i + 1) % n : Nat) : Int))) := by
  refine Fn.intro mixed vc_area_next rfl ?_
  refine ok_inc (n := i) rfl (by omega) ?_
  try simp only [nr]
  refine ok_lenS (es := es) rfl (n : Int) (by rw [hn]) ?_
  try simp only [nr]
  refine ok_rem rfl (by omega) _ rfl ?_
  try simp only [nr]
  refine ok_ret ?_ rfl
  show PV.raw (.int .i64 ((((i + 1 : Nat) : Int)).tmod (n : Int))) = _
  rw [← Int.ofNat_tmod]
theorem p_Area {v : PV} {l : List Pt2} {k : Nat} (h : IsL v l k) (hk : l.length * (4 * k + 2) + 4 * k + 10 ≤ 100000) (hl : l.length ≤ 1000000) : Gv.Fn Tryz.prog 22 [v] (qc (parea l)) := by
  obtain ⟨es, rfl, hes, _⟩ := id h
  have hb := h.b
  have o1 := q_Of (a := 0) (b := 1) (by decide) (by decide) (by decide) (by decide)
  have o2 := q_Of (a := 1) (b := 2) (by decide) (by decide) (by decide) (by decide)
  rw [show qd 0 1 = 0 by decide +kernel] at o1
  rw [qd_half] at o2
  have bh := Qb.half
  have hpar : parea l = psum l l.length * ((1 : Rat) / 2) := rfl
  rw [hpar]
  generalize (1 : Rat) / 2 = hf at *
  refine Fn.intro mixed vc_area_Area rfl ?_
  refine ok_call o1 rfl rfl ?_
  try simp only [nr]
  refine ok_lenS (es := es) rfl (l.length : Int) (by rw [hes]) ?_
  try simp only [nr]
  refine ok_for l.length (fun i us => us = [.raw (.int .i64 (i : Int)), .raw (.bool (decide ((psum l i).num < 0))), nat (psum l i).num.natAbs, nat (psum l i).den]) rfl (fun i us h => ⟨_, h⟩) ?_
  rintro i us D hi rfl hD
  try simp only [nr]
  refine ok_lss rfl (decide (i < l.length)) (by simp) ?_
  try simp only [nr]
  have bs := Qb.psum hb i hi
  have hmul : i * (4 * k + 2) ≤ l.length * (4 * k + 2) := Nat.mul_le_mul_right _ hi
  refine ok_ite rfl (fun h0 => ?_) (fun h0 => ?_)
  · have hlt : i < l.length := of_decide_eq_true h0
    obtain ⟨a, b, c, d, e, f, he, hP⟩ := h.at (at_pa hlt)
    obtain ⟨a', b', c', d', e', f', he', hP'⟩ := h.at (at_pn hlt)
    refine ok_idx (es := es) rfl he rfl ?_
    try simp only [nr]
    refine ok_ld (cs := [a, b, c, d, e, f]) rfl rfl ?_
    try simp only [nr]
    refine ok_call (p_next hes hlt hl) rfl rfl ?_
    try simp only [nr]
    refine ok_idx (es := es) rfl he' rfl ?_
    try simp only [nr]
    refine ok_ld (cs := [a', b', c', d', e', f']) rfl rfl ?_
    try simp only [nr]
    refine ok_call (p_Cross hP hP' (by omega)) rfl rfl ?_
    try simp only [nr]
    refine ok_call (q_Add (IsQ.qc bs) (IsQ.qc (Qb.cross hP.b hP'.b)) (by omega)) rfl rfl ?_
    try simp only [nr]
    refine ok_inc (n := i) rfl (by omega) ?_
    try simp only [nr]
    exact ok_again rfl (hD _ hlt rfl)
  · have hge : i = l.length := by have := of_decide_eq_false h0; omega
    subst hge
    refine ok_call o2 rfl rfl ?_
    try simp only [nr]
    refine ok_call (q_Mul (IsQ.qc bs) (IsQ.qc bh) (by omega)) rfl rfl ?_
    try simp only [nr]
    exact ok_ret rfl rfl
theorem p_Has {v w : PV} {l : List Pt2} {p : Pt2} {k : Nat} (h : IsL v l k) (hp : IsP w p k) (hk : k ≤ 10000) (hl : l.length ≤ 1000000) : Gv.Fn Tryz.prog 25 [v, w] (.raw (.bool (phas l p))) := by
  obtain ⟨es, rfl, hes, _⟩ := id h
  have hw := hp
  obtain ⟨wa, wb, wc, wd, we, wf, rfl, _, _⟩ := hp
  refine Fn.intro mixed vc_area_Has rfl ?_
  refine ok_lenS (es := es) rfl (l.length : Int) (by rw [hes]) ?_
  try simp only [nr]
  refine ok_for l.length (fun i us => us = [.raw (.int .i64 (i : Int))] ∧ ∀ j, j < i → 0 ≤ porient (pa l j) (pn l j) p) ⟨rfl, fun j hj => by omega⟩ (fun i us h => ⟨_, h.1⟩) ?_
  rintro i us D hi ⟨rfl, hall⟩ hD
  try simp only [nr]
  refine ok_lss rfl (decide (i < l.length)) (by simp) ?_
  try simp only [nr]
  refine ok_ite rfl (fun h0 => ?_) (fun h0 => ?_)
  · have hlt : i < l.length := of_decide_eq_true h0
    obtain ⟨a, b, c, d, e, f, he, hP⟩ := h.at (at_pa hlt)
    obtain ⟨a', b', c', d', e', f', he', hP'⟩ := h.at (at_pn hlt)
    refine ok_idx (es := es) rfl he rfl ?_
    try simp only [nr]
    refine ok_ld (cs := [a, b, c, d, e, f]) rfl rfl ?_
    try simp only [nr]
    refine ok_call (p_next hes hlt hl) rfl rfl ?_
    try simp only [nr]
    refine ok_idx (es := es) rfl he' rfl ?_
    try simp only [nr]
    refine ok_ld (cs := [a', b', c', d', e', f']) rfl rfl ?_
    try simp only [nr]
    refine ok_call (p_Orient hP hP' hw hk) rfl rfl ?_
    try simp only [nr]
    refine ok_lss rfl (decide (porient (pa l i) (pn l i) p < 0)) (sign_lt0 _) ?_
    try simp only [nr]
    refine ok_ite rfl (fun h1 => ?_) (fun h1 => ?_)
    · refine ok_ret (r := .raw (.bool false)) ?_ rfl
      have h2 := of_decide_eq_true h1
      have : phas l p = false := by
        rw [Bool.eq_false_iff]
        intro hc
        unfold phas at hc
        simp only [Bool.and_eq_true, List.all_eq_true, List.mem_range, decide_eq_true_eq] at hc
        have := hc.1 i hlt
        grind
      rw [this]
    · have h2 := of_decide_eq_false h1
      refine ok_inc (n := i) rfl (by omega) ?_
      try simp only [nr]
      refine ok_again rfl (hD _ hlt ⟨rfl, fun j hj => ?_⟩)
      by_cases e : j = i
      · subst e; grind
      · exact hall j (by omega)
  · have hge : i = l.length := by have := of_decide_eq_false h0; omega
    subst hge
    refine ok_lenS (es := es) rfl (l.length : Int) (by rw [hes]) ?_
    try simp only [nr]
    refine ok_geq rfl (decide (3 ≤ l.length)) (by rw [Bool.eq_iff_iff, decide_eq_true_iff, decide_eq_true_iff]; omega) ?_
    try simp only [nr]
    refine ok_ret (r := .raw (.bool (decide (3 ≤ l.length)))) ?_ rfl
    have : phas l p = decide (3 ≤ l.length) := by
      unfold phas
      have : ((List.range l.length).all fun i => decide (0 ≤ porient (pa l i) (pn l i) p)) = true := by
        simp only [List.all_eq_true, List.mem_range, decide_eq_true_eq]
        exact hall
      rw [this, Bool.true_and]
    rw [this]
theorem p_cut {u v w x : PV} {p q a b : Pt2} {k : Nat} (hu : IsP u p k) (hv : IsP v q k) (hw : IsP w a k) (hx : IsP x b k) (hk : k ≤ 3000) (h0 : porient a b p - porient a b q ≠ 0) : Gv.Fn Tryz.prog 67 [u, v, w, x] (pc (pcut p q a b)) := by
  have c1 := p_Sub hx hw (by omega)
  have c2 := p_Sub hu hw (by omega)
  have c3 := p_Cross (IsP.pc (hx.b.sub hw.b)) (IsP.pc (hu.b.sub hw.b)) (by omega)
  have c4 := p_Sub hv hw (by omega)
  have c5 := p_Cross (IsP.pc (hx.b.sub hw.b)) (IsP.pc (hv.b.sub hw.b)) (by omega)
  have b1 := Qb.cross (hx.b.sub hw.b) (hu.b.sub hw.b)
  have b2 := Qb.cross (hx.b.sub hw.b) (hv.b.sub hw.b)
  have c6 := q_Sub (IsQ.qc b1) (IsQ.qc b2) (by omega)
  have c7 := q_Div (IsQ.qc b1) (IsQ.qc (b1.sub b2)) (by omega) h0
  have c8 := p_Mix hu hv (IsQ.qc (b1.div (b1.sub b2) h0)) (by omega)
  obtain ⟨a, b, c, d, e, f, rfl, i1, i2⟩ := hu
  obtain ⟨a', b', c', d', e', f', rfl, j1, j2⟩ := hv
  obtain ⟨a1, b1', c1', d1, e1, f1, rfl, _, _⟩ := hw
  obtain ⟨a2, b2', c2', d2, e2, f2, rfl, _, _⟩ := hx
  refine Fn.intro mixed vc_area_cross rfl ?_
  refine ok_call c1 rfl rfl ?_
  try simp only [nr]
  refine ok_call c2 rfl rfl ?_
  try simp only [nr]
  refine ok_call c3 rfl rfl ?_
  try simp only [nr]
  refine ok_call c4 rfl rfl ?_
  try simp only [nr]
  refine ok_call c5 rfl rfl ?_
  try simp only [nr]
  refine ok_call c6 rfl rfl ?_
  try simp only [nr]
  refine ok_call c7 rfl rfl ?_
  try simp only [nr]
  refine ok_call c8 rfl rfl ?_
  try simp only [nr]
  exact ok_ret rfl rfl
end Go.Proofs.YtcpgflbfjplheaaGreatDoor
namespace Go.Proofs.YtcpgflbfjplheaaGreatDoor
open Go.RowKit Go.Shelf Gs Gv
set_option linter.unusedVariables false
set_option maxRecDepth 100000 in
set_option maxHeartbeats 1000000 in
theorem clone_pt {es : List (List PV)} (hk : ∀ e ∈ es, e.length = 6) (hn : es.length ≤ 1000000) : FnN Tryz.prog 130 [.sl es] 29 6 (· = .sl es) := by
  refine ⟨⟨_, Tryz.func130, rfl, by kernel_rfl⟩, fun w P0 vs hP hlen hrep => ?_⟩
  obtain ⟨v, rfl⟩ : ∃ v, vs = #[v] := by
    refine ⟨vs.getD 0 undef, ?_⟩
    apply Array.ext
    · simpa using hlen.symm
    · intro i h1 h2
      simp at h2
      subst h2
      simp [Array.getD, h1]
  have hr : Rep w P0 (.sl es) v := by simpa using hrep 0 _ rfl
  obtain ⟨A, c, rfl⟩ : ∃ A c, v = .slice A es.length c := by
    cases hr with
    | nil A c hc => exact ⟨A, c, rfl⟩
    | sl k _ ad c vs _ h1 h2 => exact ⟨some ad, c, rfl⟩
  have ht := hr.tell (k := 6) (fun i e hi => hk e (List.mem_of_getElem? hi))
  clear hlen hrep
  generalize hne : es.length = n at hr ht ⊢
  cases A with
  | none =>
    have ke : ∀ W : World, (binOp .eql 22 (.slice none n c) (.slice none 0 0)).run Tryz.prog W = .ok (.bool true) W := fun W => by kernel_rfl
    go_enter Tryz.func130, Tryz.ntmps130
    go_wp2
    rename_i hQ
    have key : ∃ v es_1, Ending.returned (.slice none 0 0) = .returned v ∧ PV.sl es_1 = PV.sl es ∧ Below w.heap.size w w ∧ RowAt w (fun b => w.heap.size ≤ b) (fun b => (P0 b ∨ w.heap.size ≤ b) ∧ ¬v.ownBlock = some b) 29 6 v es_1 := by
      obtain ⟨A, c', h1, h2⟩ := ht
      have he : es = [] := by
        rcases h2 with h2 | ⟨ad, rfl, _⟩
        · exact h2
        · cases h1
      subst he
      exact ⟨_, [], rfl, rfl, Below.refl _ _, by decide, [], World.ownsRow_nil _ _ _ _, fun b hb => (by cases hb), fun i el hi => by simp at hi⟩
    go_ret
    exact key
  | some ad =>
    have ke : ∀ W : World, (binOp .eql 22 (.slice (some ad) n c) (.slice none 0 0)).run Tryz.prog W = .ok (.bool false) W := fun W => by kernel_rfl
    obtain ⟨news, hnl, hnews, hel⟩ : ∃ news : List Value, news.length = es.length * 6 ∧ (∀ (j : Nat) (u : Value), news[j]? = some u → w.cell? (ad.add j) = some u) ∧
        ∀ (i : Nat) (el : List PV), es[i]? = some el → el.length = 6 ∧ ∀ (j : Nat) (p : PV), el[j]? = some p → p.flat = true ∧ flatV (news.getD (i * 6 + j) undef) = true ∧ Rep w P0 p (news.getD (i * 6 + j) undef) := by
      obtain ⟨A, c', h1, h2⟩ := ht
      cases h1
      rcases h2 with h2 | ⟨ad', e1, xs, h3, h4, h5⟩
      · subst h2
        exact ⟨[], by simp, fun j u h => by simp at h, fun i el h => by simp at h⟩
      · cases e1
        exact ⟨xs, h3, h4, h5⟩
    have hone : ∀ u ∈ news, u.oneCell' = true := by
      intro u hu
      obtain ⟨m, hm, e⟩ := List.mem_iff_getElem.1 hu
      have hd : m / 6 < es.length := by omega
      obtain ⟨h1, h2⟩ := hel (m / 6) _ (List.getElem?_eq_getElem hd)
      have h3 := (h2 (m % 6) _ (List.getElem?_eq_getElem (by omega))).2.1
      rw [show m / 6 * 6 + m % 6 = m by omega] at h3
      rw [oneCell_flat, ← e]
      simpa [List.getD, hm] using h3
    have hinfo : (Tryz.prog.info? 29).map (fun i => (i.zero.map (·.cells.size), i.size, i.bytes)) = some (some 6, 6, 112) := by kernel_rfl
    obtain ⟨i0, hi0, hzz⟩ := Option.map_eq_some_iff.1 hinfo
    simp only [Prod.mk.injEq, Option.map_eq_some_iff] at hzz
    obtain ⟨⟨z0, hz0, hz1⟩, hz2, hz3⟩ := hzz
    have HI := Lib.hid (And.intro hi0 (And.intro hz0 (And.intro hz1 (And.intro hz2 hz3))))
    clear hinfo hi0 hz0 hz1 hz2 hz3
    have hN := Lib.hid hne
    have HL := Lib.hid hnl
    clear hne hr ht hnl
    go_enter Tryz.func130, Tryz.ntmps130
    go_wp2_with (at_builtin; go_loud (refine wpList_append_own_at _ rfl (.tmp 5) (.tmp 6) 22 rfl w.heap.size 29 i0 z0 6 112 Tryz.underlying22 HI.out.1 HI.out.2.1 HI.out.2.2.2.1 HI.out.2.2.2.2 HI.out.2.2.1 (by decide) (.slice (some ⟨w.heap.size, 0, none⟩) 0 0) 0 [] rfl (World.ownsRow_made w #[] 0 (Nat.le_refl _) (by decide) rfl) ad n c news rfl (by have h1 := HL.out; have h2 := hN.out; omega) (fun j u hj => by rw [World.cell?_alloc_lt w _ _ (World.block_lt_of_cell? w _ (hnews j u hj))]; exact hnews j u hj) hone (by have h2 := hN.out; simp only [maxLen]; omega) (by have h2 := hN.out; omega) (by simp) ?_); intro v1 w1 hown1 hg1 hx1 hy1)
    go_ret
    have hb1 : Below w.heap.size w w1 := ((Below.refl _ w).alloc (Nat.le_refl _) _).trans ⟨hg1.os, hg1.tape, hg1.output, hg1.size, fun k hk => hg1.block k (by simp; omega) (fun e => by simp [Value.ownBlock] at e; omega)⟩
    have hkeep : ∀ {p : PV} {u : Value}, Rep w P0 p u → Rep w1 (fun b => (P0 b ∨ w.heap.size ≤ b) ∧ ¬v1.ownBlock = some b) p u := by
      intro p u h
      refine h.keep fun b hb hl => ⟨⟨.inl hb, fun e => ?_⟩, hb1.block b hl⟩
      have := (hown1.lt b e).1
      omega
    refine ⟨v1, es, rfl, rfl, hb1, by decide, news, ?_, fun b hb => (hown1.lt b hb).1, fun i el hi => ⟨(hel i el hi).1, fun j p hj => ⟨((hel i el hi).2 j p hj).1, ((hel i el hi).2 j p hj).2.1, hkeep ((hel i el hi).2 j p hj).2.2⟩⟩⟩
    have h2 := hN.out
    have h3 := hown1
    simp only [Nat.zero_add, List.nil_append] at h3
    rw [← h2] at h3
    refine ⟨h3.1, ?_⟩
    rcases h3.2 with h | ⟨g, cap, cur, h4, h5, h6⟩
    · exact .inl h
    · exact .inr ⟨g, cap, cur, h4, Nat.zero_le _, h6⟩
end Go.Proofs.YtcpgflbfjplheaaGreatDoor
namespace Gv
open Go Go.RowKit Gs
set_option linter.unusedVariables false
section
variable {P : Program} {R : PV → Prop} {ρ : List PV} {C : List (List PV → Prop)} {k : VC} {args : List SV}
theorem ok_calln {f : FuncId} {e n : Nat} {ps : List PV} {es : List (List PV)} (h : FnN P f ps e n (· = .sl es)) (hp : pvs ρ args = ps) (hk : k.ok P R (ρ ++ [.sl es]) C) : (VC.calln f e n args k).ok P R ρ C := ⟨es, by rw [hp]; exact h, hk⟩
theorem ok_ldxA {n m : Nat} {es : List (List PV)} {e : List PV} {kk : IntKind} (hp : pvs ρ args = [.sl es, .raw (.int kk (m : Int))]) (he : es[m]? = some e) (hn : e.length = n) (hk : k.ok P R (ρ ++ [.agg e]) C) : (VC.prim (.ldx n 0 (some n)) args k).ok P R ρ C := by
  refine ⟨.agg e, ?_, hk⟩
  rw [hp]
  subst hn
  simp [Prim.ev, idxOf, he]
theorem ok_stxA {n m : Nat} {es : List (List PV)} {e cs : List PV} {kk : IntKind} (hp : pvs ρ args = .sl es :: .raw (.int kk (m : Int)) :: cs) (he : es[m]? = some e) (hn : e.length = n) (hc : cs.length = n) (hfl : ∀ x ∈ cs, x.flat = true) (hk : k.ok P R (ρ ++ [.sl (es.set m cs)]) C) : (VC.prim (.stx n 0) args k).ok P R ρ C := by
  refine ⟨.sl (es.set m cs), ?_, hk⟩
  rw [hp]
  subst hn
  have hall : cs.all PV.flat = true := List.all_eq_true.2 hfl
  simp [Prim.ev, idxOf, he, hc, hall]
theorem ok_rsl0 {n : Nat} {es : List (List PV)} {kk kk' : IntKind} (hp : pvs ρ args = [.sl es, .raw (.int kk (es.length : Int)), .raw (.int kk' (es.length : Int))]) (hn : ∀ e ∈ es, e.length = n) (hk : k.ok P R (ρ ++ [.sl es]) C) : (VC.prim (.rsl n false true true) args k).ok P R ρ C := by
  refine ⟨.sl es, ?_, hk⟩
  rw [hp]
  simp [Prim.ev, idxOf]
  exact hn
end
theorem pcs_flat (p : Pt2) : ∀ x ∈ pcs p, x.flat = true := by
  intro x hx
  simp only [pcs, List.mem_cons, List.not_mem_nil, or_false] at hx
  rcases hx with rfl | rfl | rfl | rfl | rfl | rfl <;> rfl
theorem sq_nn (x : Rat) : 0 ≤ x * x := by
  by_cases h : 0 ≤ x
  · exact Rat.mul_nonneg h h
  · have := Rat.mul_nonneg (show 0 ≤ -x by grind) (show 0 ≤ -x by grind)
    grind
theorem set_mix {l : List Pt2} {es : List (List PV)} {i : Nat} (h : es.length = l.length) (hi : i < l.length) : ((l.take i).map pcs ++ es.drop i).set i (pcs (pa l i)) = (l.take (i + 1)).map pcs ++ es.drop (i + 1) := by
  have h1 : ((l.take i).map pcs).length = i := by rw [List.length_map, List.length_take]; omega
  rw [List.set_append_right _ _ (by omega), h1, Nat.sub_self]
  have h2 : es.drop i = es[i]'(by omega) :: es.drop (i + 1) := List.drop_eq_getElem_cons (by omega)
  rw [h2, List.set_cons_zero, List.take_add_one, at_pa hi]
  simp
end Gv
namespace Go.Proofs.YtcpgflbfjplheaaGreatDoor
open Go.RowKit Gs Gv
set_option linter.unusedVariables false
theorem p_good {v : PV} {l : List Pt2} {k : Nat} (h : IsL v l k) (hk : k + 1 ≤ 100000) (hl : l.length ≤ 1000000) : Gv.Fn Tryz.prog 65 [v] (plist l) := by
  have hk1 : l = [] ∨ 1 ≤ k := by
    cases l with
    | nil => exact .inl rfl
    | cons p l => exact .inr (h.b p (by simp)).x.pos
  obtain ⟨es, rfl, hes, hel⟩ := id h
  have h6 : ∀ e ∈ es, e.length = 6 := by
    intro e he
    obtain ⟨i, hi⟩ := List.mem_iff_getElem?.1 he
    have hlt := (List.getElem?_eq_some_iff.1 hi).1
    obtain ⟨a, b, c, d, e', f, h1, _⟩ := h.at (at_pa (show i < l.length by omega))
    rw [hi] at h1
    cases h1
    rfl
  refine Fn.introG mixed vc_area_good rfl ?_
  refine ok_calln (clone_pt h6 (by omega)) rfl ?_
  try simp only [nr]
  refine ok_lenS (es := es) rfl (l.length : Int) (by rw [hes]) ?_
  try simp only [nr]
  refine ok_for l.length (fun i us => us = [.raw (.int .i64 (i : Int)), .sl ((l.take i).map pcs ++ es.drop i)]) rfl (fun i us h => ⟨_, h⟩) ?_
  rintro i us D hi rfl hD
  try simp only [nr]
  refine ok_lss rfl (decide (i < l.length)) (by simp) ?_
  try simp only [nr]
  refine ok_ite rfl (fun h0 => ?_) (fun h0 => ?_)
  · have hlt : i < l.length := of_decide_eq_true h0
    obtain ⟨a, b, c, d, e, f, he, hP⟩ := h.at (at_pa hlt)
    have he2 : ((l.take i).map pcs ++ es.drop i)[i]? = some [a, b, c, d, e, f] := by
      rw [List.getElem?_append_right (by simp; omega), List.getElem?_drop]
      simpa [Nat.min_eq_left (show i ≤ l.length by omega)] using he
    have hk2 : 1 ≤ k := by
      rcases hk1 with h1 | h1
      · subst h1; simp at hlt
      · exact h1
    have ha := p_Add hP (zero_is (k := 1) (by decide)) (by omega)
    rw [padd_zero] at ha
    refine ok_idx rfl he2 rfl ?_
    try simp only [nr]
    refine ok_ldxA rfl he2 rfl ?_
    try simp only [nr]
    refine ok_call ha rfl rfl ?_
    try simp only [nr]
    refine ok_idx rfl he2 rfl ?_
    try simp only [nr]
    refine ok_stxA (cs := pcs (pa l i)) rfl he2 rfl rfl (pcs_flat _) ?_
    try simp only [nr]
    rw [set_mix hes hlt]
    refine ok_inc (n := i) rfl (by omega) ?_
    try simp only [nr]
    exact ok_again rfl (hD _ hlt rfl)
  · have hge : i = l.length := by have := of_decide_eq_false h0; omega
    subst hge
    have e1 : (l.take l.length).map pcs ++ es.drop l.length = l.map pcs := by rw [List.take_length, List.drop_of_length_le (by omega), List.append_nil]
    rw [e1]
    refine ok_lenS (es := l.map pcs) rfl (l.length : Int) (by simp) ?_
    try simp only [nr]
    refine ok_lenS (es := l.map pcs) rfl (l.length : Int) (by simp) ?_
    try simp only [nr]
    refine ok_rsl0 (es := l.map pcs) (by rw [List.length_map]; rfl) (fun e he => by obtain ⟨p, _, rfl⟩ := List.mem_map.1 he; rfl) ?_
    try simp only [nr]
    exact ok_ret rfl rfl
theorem phalfs_len {l : List Pt2} {a b : Pt2} : ∀ i, (phalfs l a b i).length ≤ 2 * i
  | 0 => by simp [phalfs]
  | i + 1 => by
    have := phalfs_len (l := l) (a := a) (b := b) i
    simp only [phalfs, List.length_append, phalf1]
    split <;> split <;> simp <;> omega
theorem p_Half {v w x : PV} {l : List Pt2} {a b : Pt2} {k : Nat} (h : IsL v l k) (hw : IsP w a k) (hx : IsP x b k) (hk : k ≤ 3000) (hl : l.length ≤ 100000) : Gv.Fn Tryz.prog 19 [v, w, x] (plist (phalf l a b)) := by
  have hb := h.b
  have hg := p_good h (by omega) (by omega)
  have hs := p_Same hw hx (by omega)
  have hw0 := hw
  have hx0 := hx
  obtain ⟨w0, w1, w2, w3, w4, w5, rfl, _, _⟩ := hw
  obtain ⟨x0, x1, x2, x3, x4, x5, rfl, _, _⟩ := hx
  refine Fn.intro mixed vc_area_Half (by obtain ⟨es, rfl, _⟩ := h; rfl) ?_
  refine ok_call hg rfl rfl ?_
  try simp only [nr]
  refine ok_call hs rfl rfl ?_
  try simp only [nr]
  refine ok_ite rfl (fun h0 => ?_) (fun h0 => ?_)
  · have : phalf l a b = l := if_pos (of_decide_eq_true h0)
    rw [this]
    exact ok_ret rfl rfl
  have e0 : phalf l a b = phalfs l a b l.length := if_neg (of_decide_eq_false h0)
  rw [e0]
  refine ok_lenS (es := l.map pcs) rfl (l.length : Int) (by simp) ?_
  try simp only [nr]
  refine ok_mk (l := []) rfl ?_
  try simp only [nr]
  refine ok_for l.length (fun i us => us = [.raw (.int .i64 (i : Int)), .sl ((phalfs l a b i).map pcs)]) rfl (fun i us h => ⟨_, h⟩) ?_
  rintro i us D hi rfl hD
  try simp only [nr]
  refine ok_lss rfl (decide (i < l.length)) (by simp) ?_
  try simp only [nr]
  have hlen := phalfs_len (l := l) (a := a) (b := b) i
  refine ok_ite rfl (fun h1 => ?_) (fun h1 => ?_)
  · have hlt : i < l.length := of_decide_eq_true h1
    have hlp : (l.map pcs)[i]? = some (pcs (pa l i)) := by rw [List.getElem?_map, at_pa hlt]; rfl
    have hln : (l.map pcs)[(i + 1) % l.length]? = some (pcs (pn l i)) := by rw [List.getElem?_map, at_pn hlt]; rfl
    have bp := hb _ (pa_mem hlt)
    have bq := hb _ (List.mem_of_getElem? (at_pn hlt))
    refine ok_idx rfl hlp rfl ?_
    try simp only [nr]
    refine ok_ld (cs := pcs (pa l i)) rfl rfl ?_
    try simp only [nr]
    refine ok_call (p_next (es := l.map pcs) (by simp) hlt (by omega)) rfl rfl ?_
    try simp only [nr]
    refine ok_idx rfl hln rfl ?_
    try simp only [nr]
    refine ok_ld (cs := pcs (pn l i)) rfl rfl ?_
    try simp only [nr]
    refine ok_call (p_Orient hw0 hx0 (IsP.pc bp) (by omega)) rfl rfl ?_
    try simp only [nr]
    refine ok_call (p_Orient hw0 hx0 (IsP.pc bq) (by omega)) rfl rfl ?_
    try simp only [nr]
    refine ok_geq rfl (decide (0 ≤ porient a b (pa l i))) (sign_ge0 _) ?_
    try simp only [nr]
    have hmul : ∀ xs : List Pt2, xs.length ≤ 2 * i + 1 → (xs.map pcs).length ≤ 200001 := fun xs h => by rw [List.length_map]; omega
    refine ok_ite rfl (fun h2 => ?_) (fun h2 => ?_)
    · have h2' := of_decide_eq_true h2
      refine ok_mk (l := [pcs (pa l i)]) rfl ?_
      try simp only [nr]
      refine ok_app rfl (by simp; omega) (by simp; omega) (fun x hx => by simp at hx; rw [hx]; rfl) ?_
      try simp only [nr]
      refine ok_mul rfl _ (sign_wrap _ _) ?_
      try simp only [nr]
      refine ok_lss rfl (decide (porient a b (pa l i) * porient a b (pn l i) < 0)) (num_sign_mul _ _) ?_
      try simp only [nr]
      refine ok_ite rfl (fun h3 => ?_) (fun h3 => ?_)
      · have h3' := of_decide_eq_true h3
        have hne : porient a b (pa l i) - porient a b (pn l i) ≠ 0 := by
          intro e
          have e' : porient a b (pa l i) = porient a b (pn l i) := by grind
          rw [e'] at h3'
          have := sq_nn (porient a b (pn l i))
          grind
        refine ok_call (p_cut (IsP.pc bp) (IsP.pc bq) hw0 hx0 hk hne) rfl rfl ?_
        try simp only [nr]
        refine ok_mk (l := [pcs (pcut (pa l i) (pn l i) a b)]) rfl ?_
        try simp only [nr]
        refine ok_app rfl (by simp; omega) (by simp; omega) (fun x hx => by simp at hx; rw [hx]; rfl) ?_
        try simp only [nr]
        refine ok_inc (n := i) rfl (by omega) ?_
        try simp only [nr]
        exact ok_again rfl (hD _ hlt (by simp only [phalfs, phalf1, if_pos h2', if_pos h3', List.map_append, List.map_cons, List.map_nil]; first | rfl | (simp only [← List.append_assoc]; rfl)))
      · have h3' := of_decide_eq_false h3
        refine ok_inc (n := i) rfl (by omega) ?_
        try simp only [nr]
        exact ok_again rfl (hD _ hlt (by simp only [phalfs, phalf1, if_pos h2', if_neg h3', List.append_nil, List.map_append, List.map_cons, List.map_nil]; first | rfl | (simp only [← List.append_assoc]; rfl)))
    · have h2' := of_decide_eq_false h2
      refine ok_mul rfl _ (sign_wrap _ _) ?_
      try simp only [nr]
      refine ok_lss rfl (decide (porient a b (pa l i) * porient a b (pn l i) < 0)) (num_sign_mul _ _) ?_
      try simp only [nr]
      refine ok_ite rfl (fun h3 => ?_) (fun h3 => ?_)
      · have h3' := of_decide_eq_true h3
        have hne : porient a b (pa l i) - porient a b (pn l i) ≠ 0 := by
          intro e
          have e' : porient a b (pa l i) = porient a b (pn l i) := by grind
          rw [e'] at h3'
          have := sq_nn (porient a b (pn l i))
          grind
        refine ok_call (p_cut (IsP.pc bp) (IsP.pc bq) hw0 hx0 hk hne) rfl rfl ?_
        try simp only [nr]
        refine ok_mk (l := [pcs (pcut (pa l i) (pn l i) a b)]) rfl ?_
        try simp only [nr]
        refine ok_app rfl (by simp; omega) (by simp; omega) (fun x hx => by simp at hx; rw [hx]; rfl) ?_
        try simp only [nr]
        refine ok_inc (n := i) rfl (by omega) ?_
        try simp only [nr]
        exact ok_again rfl (hD _ hlt (by simp only [phalfs, phalf1, if_neg h2', if_pos h3', List.nil_append, List.map_append, List.map_cons, List.map_nil]; first | rfl | (simp only [← List.append_assoc]; rfl)))
      · have h3' := of_decide_eq_false h3
        refine ok_inc (n := i) rfl (by omega) ?_
        try simp only [nr]
        exact ok_again rfl (hD _ hlt (by simp only [phalfs, phalf1, if_neg h2', if_neg h3', List.append_nil, List.map_append, List.map_nil]; first | rfl | (simp only [← List.append_assoc]; rfl)))
  · have hge : i = l.length := by have := of_decide_eq_false h1; omega
    subst hge
    exact ok_ret rfl rfl
end Go.Proofs.YtcpgflbfjplheaaGreatDoor
namespace Gv
open Go Go.RowKit Gs
set_option linter.unusedVariables false
def okk (l : List Pt2) (i k : Nat) : Prop := (k = i ∨ pa l i ≠ pa l k) ∧ 0 ≤ porient (pa l i) (pn l i) (pa l k)
theorem pconvex_iff {l : List Pt2} : pconvex l = true ↔ 3 ≤ l.length ∧ (∀ i, i < l.length → ∀ k, k < l.length → okk l i k) ∧ ∃ i, i < l.length ∧ ∃ k, k < l.length ∧ 0 < porient (pa l i) (pn l i) (pa l k) := by
  unfold pconvex okk
  simp only [Bool.and_eq_true, Bool.or_eq_true, Bool.not_eq_true', List.all_eq_true, List.any_eq_true, List.mem_range, decide_eq_true_eq, decide_eq_false_iff_not]
  exact ⟨fun h => ⟨h.1.1, h.1.2, h.2⟩, fun h => ⟨⟨h.1, h.2.1⟩, h.2.2⟩⟩
theorem sign_01 {x : Rat} (h : 0 ≤ x) : x.num.sign = ((if 0 < x then 1 else 0 : Nat) : Int) := by
  by_cases h1 : 0 < x
  · rw [if_pos h1]
    exact Int.sign_eq_one_of_pos ((num_pos_iff x).2 h1)
  · rw [if_neg h1]
    have : x = 0 := by grind
    subst this
    rfl
theorem wrap_nadd {a b : Nat} (h : a + b < 9223372036854775808) : IntKind.i64.wrap ((a : Int) + (b : Int)) = ((a + b : Nat) : Int) := by
  have := wrap_nat h
  rw [← this]
  rfl
theorem Pb.lo {l : List Pt2} {k : Nat} (h : ∀ p ∈ l, Pb p k) (hl : 0 < l.length) : ∀ i, i ≤ l.length → Pb (plo l i) k
  | 0, _ => h _ (pa_mem hl)
  | i + 1, hi => ⟨(Pb.lo h hl i (by omega)).x.min (h _ (pa_mem (by omega))).x, (Pb.lo h hl i (by omega)).y.min (h _ (pa_mem (by omega))).y⟩
theorem Pb.hi {l : List Pt2} {k : Nat} (h : ∀ p ∈ l, Pb p k) (hl : 0 < l.length) : ∀ i, i ≤ l.length → Pb (phi l i) k
  | 0, _ => h _ (pa_mem hl)
  | i + 1, hi => ⟨(Pb.hi h hl i (by omega)).x.max (h _ (pa_mem (by omega))).x, (Pb.hi h hl i (by omega)).y.max (h _ (pa_mem (by omega))).y⟩
def zeros6 : List PV := [.raw (.bool false), .sl [], .sl [], .raw (.bool false), .sl [], .sl []]
theorem qmin_self (a : Rat) : qmin a a = a := by unfold qmin; split <;> rfl
theorem qmax_self (a : Rat) : qmax a a = a := by unfold qmax; split <;> rfl
def boxst (l : List Pt2) : Nat → List PV
  | 0 => zeros6 ++ zeros6
  | i + 1 => pcs (plo l (i + 1)) ++ pcs (phi l (i + 1))
def pbox (l : List Pt2) : PV := if l.length = 0 then .tup [.agg zeros6, .agg zeros6, .raw (.bool false)] else .tup [pc (plo l l.length), pc (phi l l.length), .raw (.bool true)]
theorem lss_lt {a b : Rat} : decide (qcmp a b < 0) = decide (a < b) := by rw [Bool.eq_iff_iff, decide_eq_true_iff, decide_eq_true_iff, qcmp_lt]
theorem gtr_lt {a b : Rat} : decide (qcmp a b > 0) = decide (b < a) := by rw [Bool.eq_iff_iff, decide_eq_true_iff, decide_eq_true_iff, gt_iff_lt, qcmp_gt]
end Gv
namespace Go.Proofs.YtcpgflbfjplheaaGreatDoor
open Go.RowKit Gs Gv
set_option linter.unusedVariables false
theorem p_Convex {v : PV} {l : List Pt2} {k : Nat} (h : IsL v l k) (hk : k ≤ 10000) (hl : l.length ≤ 100000) : Gv.Fn Tryz.prog 24 [v] (.raw (.bool (pconvex l))) := by
  obtain ⟨es, rfl, hes, _⟩ := id h
  have fl : ∀ {i k : Nat}, i < l.length → k < l.length → ¬ okk l i k → PV.raw (.bool false) = .raw (.bool (pconvex l)) := fun hi hk hn => by
    have : pconvex l = false := by
      rw [Bool.eq_false_iff]
      intro hc
      exact hn ((pconvex_iff.1 hc).2.1 _ hi _ hk)
    rw [this]
  refine Fn.intro mixed vc_area_Convex rfl ?_
  refine ok_lenS (es := es) rfl (l.length : Int) (by rw [hes]) ?_
  try simp only [nr]
  refine ok_lss rfl (decide (l.length < 3)) (by rw [Bool.eq_iff_iff, decide_eq_true_iff, decide_eq_true_iff]; omega) ?_
  try simp only [nr]
  refine ok_ite rfl (fun h0 => ?_) (fun h0 => ?_)
  · refine ok_ret (r := .raw (.bool false)) ?_ rfl
    have h0' := of_decide_eq_true h0
    have : pconvex l = false := by
      rw [Bool.eq_false_iff]
      intro hc
      have := (pconvex_iff.1 hc).1
      omega
    rw [this]
  have h3 : 3 ≤ l.length := by have := of_decide_eq_false h0; omega
  refine ok_lenS (es := es) rfl (l.length : Int) (by rw [hes]) ?_
  try simp only [nr]
  refine ok_for l.length (fun i us => ∃ t : Nat, us = [.raw (.int .i64 (i : Int)), .raw (.int .i64 (t : Int))] ∧ t ≤ i * l.length ∧ (∀ i', i' < i → ∀ k', k' < l.length → okk l i' k') ∧ (0 < t ↔ ∃ i', i' < i ∧ ∃ k', k' < l.length ∧ 0 < porient (pa l i') (pn l i') (pa l k'))) ⟨0, rfl, by omega, fun i' hi' => by omega, ⟨fun h => by omega, fun ⟨i', h, _⟩ => by omega⟩⟩ (fun i us h => by obtain ⟨t, h, _⟩ := h; exact ⟨_, h⟩) ?_
  rintro i us D hi ⟨t, rfl, ht, hall, hpos⟩ hD
  try simp only [nr]
  have hmul : i * l.length ≤ 100000 * 100000 := Nat.mul_le_mul (by omega) hl
  refine ok_lss rfl (decide (i < l.length)) (by simp) ?_
  try simp only [nr]
  refine ok_ite rfl (fun h1 => ?_) (fun h1 => ?_)
  · have hlt : i < l.length := of_decide_eq_true h1
    obtain ⟨a, b, c, d, e, f, he, hP⟩ := h.at (at_pa hlt)
    obtain ⟨a', b', c', d', e', f', he', hP'⟩ := h.at (at_pn hlt)
    refine ok_idx (es := es) rfl he rfl ?_
    try simp only [nr]
    refine ok_ld (cs := [a, b, c, d, e, f]) rfl rfl ?_
    try simp only [nr]
    refine ok_call (p_next hes hlt (by omega)) rfl rfl ?_
    try simp only [nr]
    refine ok_idx (es := es) rfl he' rfl ?_
    try simp only [nr]
    refine ok_ld (cs := [a', b', c', d', e', f']) rfl rfl ?_
    try simp only [nr]
    refine ok_lenS (es := es) rfl (l.length : Int) (by rw [hes]) ?_
    try simp only [nr]
    refine ok_for l.length (fun k' us => ∃ t' : Nat, us = [.raw (.int .i64 (k' : Int)), .raw (.int .i64 (t' : Int))] ∧ t' ≤ i * l.length + k' ∧ (∀ k2, k2 < k' → okk l i k2) ∧ (0 < t' ↔ 0 < t ∨ ∃ k2, k2 < k' ∧ 0 < porient (pa l i) (pn l i) (pa l k2))) ⟨t, rfl, by omega, fun i' hi' => by omega, ⟨fun h => .inl h, fun h => by rcases h with h | ⟨_, h, _⟩; exact h; omega⟩⟩ (fun i us h => by obtain ⟨t, h, _⟩ := h; exact ⟨_, h⟩) ?_
    rintro j us D' hj ⟨t', rfl, ht', hall', hpos'⟩ hD'
    try simp only [nr]
    refine ok_lss rfl (decide (j < l.length)) (by simp) ?_
    try simp only [nr]
    refine ok_ite rfl (fun h2 => ?_) (fun h2 => ?_)
    · have hjt : j < l.length := of_decide_eq_true h2
      obtain ⟨a2, b2, c2, d2, e2, f2, he2, hP2⟩ := h.at (at_pa hjt)
      have fin : (j = i ∨ pa l i ≠ pa l j) → 0 ≤ porient (pa l i) (pn l i) (pa l j) → ∃ t2 : Nat, t2 = t' + (if 0 < porient (pa l i) (pn l i) (pa l j) then 1 else 0 : Nat) ∧ t2 ≤ i * l.length + (j + 1) ∧ (∀ k2, k2 < j + 1 → okk l i k2) ∧ (0 < t2 ↔ 0 < t ∨ ∃ k2, k2 < j + 1 ∧ 0 < porient (pa l i) (pn l i) (pa l k2)) := by
        intro g1 g2
        refine ⟨_, rfl, by split <;> omega, fun k2 hk2 => ?_, ?_⟩
        · by_cases e : k2 = j
          · subst e; exact ⟨g1, g2⟩
          · exact hall' k2 (by omega)
        · by_cases g3 : 0 < porient (pa l i) (pn l i) (pa l j)
          · rw [if_pos g3]
            exact ⟨fun _ => .inr ⟨j, by omega, g3⟩, fun _ => by omega⟩
          · rw [if_neg g3, Nat.add_zero, hpos']
            constructor
            · rintro (g | ⟨k2, g4, g5⟩)
              · exact .inl g
              · exact .inr ⟨k2, by omega, g5⟩
            · rintro (g | ⟨k2, g4, g5⟩)
              · exact .inl g
              · by_cases e : k2 = j
                · subst e; exact absurd g5 g3
                · exact .inr ⟨k2, by omega, g5⟩
      refine ok_idx (es := es) rfl he2 rfl ?_
      try simp only [nr]
      refine ok_ld (cs := [a2, b2, c2, d2, e2, f2]) rfl rfl ?_
      try simp only [nr]
      refine ok_neq rfl (decide (j ≠ i)) (by rw [Bool.eq_iff_iff, bne_iff_ne, decide_eq_true_iff]; omega) ?_
      try simp only [nr]
      refine ok_ite rfl (fun h4 => ?_) (fun h4 => ?_)
      · have h4' : j ≠ i := of_decide_eq_true h4
        refine ok_call (p_Same hP hP2 (by omega)) rfl rfl ?_
        try simp only [nr]
        refine ok_ite rfl (fun h5 => ?_) (fun h5 => ?_)
        · refine ok_ret (r := .raw (.bool false)) ?_ rfl
          exact fl hlt hjt fun hn => by rcases hn.1 with g | g; exact h4' g; exact g (of_decide_eq_true h5)
        · have h5' := of_decide_eq_false h5
          refine ok_call (p_Orient hP hP' hP2 hk) rfl rfl ?_
          try simp only [nr]
          refine ok_lss rfl (decide (porient (pa l i) (pn l i) (pa l j) < 0)) (sign_lt0 _) ?_
          try simp only [nr]
          refine ok_ite rfl (fun h6 => ?_) (fun h6 => ?_)
          · refine ok_ret (r := .raw (.bool false)) ?_ rfl
            have h6' := of_decide_eq_true h6
            exact fl hlt hjt fun hn => by have := hn.2; grind
          · have h6' := of_decide_eq_false h6
            have h7 : 0 ≤ porient (pa l i) (pn l i) (pa l j) := by grind
            obtain ⟨t2, g1, g2, g3, g4⟩ := fin (.inr h5') h7
            refine ok_add rfl (t2 : Int) (by rw [sign_01 h7, g1]; exact wrap_nadd (by rw [← g1]; omega)) ?_
            try simp only [nr]
            refine ok_inc (n := j) rfl (by omega) ?_
            try simp only [nr]
            exact ok_again rfl (hD' _ hjt ⟨t2, rfl, g2, g3, g4⟩)
      · have h4' : j = i := by have := of_decide_eq_false h4; omega
        refine ok_call (p_Orient hP hP' hP2 hk) rfl rfl ?_
        try simp only [nr]
        refine ok_lss rfl (decide (porient (pa l i) (pn l i) (pa l j) < 0)) (sign_lt0 _) ?_
        try simp only [nr]
        refine ok_ite rfl (fun h6 => ?_) (fun h6 => ?_)
        · refine ok_ret (r := .raw (.bool false)) ?_ rfl
          have h6' := of_decide_eq_true h6
          exact fl hlt hjt fun hn => by have := hn.2; grind
        · have h6' := of_decide_eq_false h6
          have h7 : 0 ≤ porient (pa l i) (pn l i) (pa l j) := by grind
          obtain ⟨t2, g1, g2, g3, g4⟩ := fin (.inl h4') h7
          refine ok_add rfl (t2 : Int) (by rw [sign_01 h7, g1]; exact wrap_nadd (by rw [← g1]; omega)) ?_
          try simp only [nr]
          refine ok_inc (n := j) rfl (by omega) ?_
          try simp only [nr]
          exact ok_again rfl (hD' _ hjt ⟨t2, rfl, g2, g3, g4⟩)
    · have hge : j = l.length := by have := of_decide_eq_false h2; omega
      subst hge
      refine ok_inc (n := i) rfl (by omega) ?_
      try simp only [nr]
      refine ok_again rfl (hD _ hlt ⟨t', rfl, by rw [Nat.add_mul, Nat.one_mul]; exact ht', fun i' hi' k' hk' => ?_, ?_⟩)
      · by_cases e : i' = i
        · subst e; exact hall' k' hk'
        · exact hall i' (by omega) k' hk'
      · rw [hpos', hpos]
        constructor
        · rintro (⟨i', g1, g2⟩ | g)
          · exact ⟨i', by omega, g2⟩
          · exact ⟨i, by omega, g⟩
        · rintro ⟨i', g1, g2⟩
          by_cases e : i' = i
          · subst e; exact .inr g2
          · exact .inl ⟨i', by omega, g2⟩
  · have hge : i = l.length := by have := of_decide_eq_false h1; omega
    subst hge
    refine ok_gtr rfl (pconvex l) ?_ ?_
    · rw [Bool.eq_iff_iff, decide_eq_true_iff, pconvex_iff]
      have : ((t : Int) > 0) ↔ 0 < t := by omega
      rw [this, hpos]
      exact ⟨fun g => ⟨h3, hall, g⟩, fun g => g.2.2⟩
    · try simp only [nr]
      exact ok_ret rfl rfl
theorem p_Box {v : PV} {l : List Pt2} {k : Nat} (h : IsL v l k) (hk : k ≤ 10000) (hl : l.length ≤ 100000) : Gv.Fn Tryz.prog 62 [v] (pbox l) := by
  have hb := h.b
  have hg := p_good h (by omega) (by omega)
  obtain ⟨es, rfl, hes, _⟩ := id h
  refine Fn.intro mixed vc_area_Box rfl ?_
  refine ok_call hg rfl rfl ?_
  try simp only [nr]
  refine ok_lenS (es := l.map pcs) rfl (l.length : Int) (by simp) ?_
  try simp only [nr]
  refine ok_for l.length (fun i us => us = .raw (.int .i64 (i : Int)) :: boxst l i) rfl (fun i us h => ⟨_, h⟩) ?_
  rintro i us D hi rfl hD
  try simp only [nr]
  by_cases hi0 : i = 0
  · subst hi0
    show VC.ok _ _ _ (_ :: _ :: _ :: [_, _, _, _, _, _, _, _, _, _, _, _, _]) _
    refine ok_lss rfl (decide (0 < l.length)) (by simp) ?_
    try simp only [nr]
    refine ok_ite rfl (fun h0 => ?_) (fun h0 => ?_)
    · have hlt : 0 < l.length := of_decide_eq_true h0
      have hlp : (l.map pcs)[0]? = some (pcs (pa l 0)) := by rw [List.getElem?_map, at_pa hlt]; rfl
      have bp := hb _ (pa_mem hlt)
      have hD1 := hD (.raw (.int .i64 ((0 + 1 : Nat) : Int)) :: (pcs (pa l 0) ++ pcs (pa l 0))) hlt (by
        show _ = PV.raw (.int .i64 ((0 + 1 : Nat) : Int)) :: (pcs (plo l 1) ++ pcs (phi l 1))
        have e1 : plo l 1 = pa l 0 := by show (qmin (pa l 0).1 (pa l 0).1, qmin (pa l 0).2 (pa l 0).2) = _; rw [qmin_self, qmin_self]
        have e2 : phi l 1 = pa l 0 := by show (qmax (pa l 0).1 (pa l 0).1, qmax (pa l 0).2 (pa l 0).2) = _; rw [qmax_self, qmax_self]
        rw [e1, e2])
      generalize pa l 0 = p at *
      refine ok_idx rfl hlp rfl ?_
      try simp only [nr]
      refine ok_ld (cs := pcs p) rfl rfl ?_
      try simp only [nr]
      refine ok_eq rfl true rfl ?_
      try simp only [nr]
      refine ok_true rfl ?_
      have cx := q_Cmp (IsQ.qc bp.x) (IsQ.qc bp.x) (by omega)
      have cy := q_Cmp (IsQ.qc bp.y) (IsQ.qc bp.y) (by omega)
      rw [qcmp_refl] at cx cy
      refine ok_call cx rfl rfl ?_
      try simp only [nr]
      refine ok_lss rfl false rfl ?_
      try simp only [nr]
      refine ok_false rfl ?_
      refine ok_call cy rfl rfl ?_
      try simp only [nr]
      refine ok_lss rfl false rfl ?_
      try simp only [nr]
      refine ok_false rfl ?_
      refine ok_call cx rfl rfl ?_
      try simp only [nr]
      refine ok_gtr rfl false rfl ?_
      try simp only [nr]
      refine ok_false rfl ?_
      refine ok_call cy rfl rfl ?_
      try simp only [nr]
      refine ok_gtr rfl false rfl ?_
      try simp only [nr]
      refine ok_false rfl ?_
      refine ok_inc (n := 0) rfl (by omega) ?_
      try simp only [nr]
      exact ok_again rfl hD1
    · have hge : l.length = 0 := by have := of_decide_eq_false h0; omega
      refine ok_lenS (es := es) rfl (l.length : Int) (by rw [hes]) ?_
      try simp only [nr]
      refine ok_eq rfl true (by rw [hge]; rfl) ?_
      try simp only [nr]
      refine ok_true rfl ?_
      refine ok_ret ?_ rfl
      unfold pbox
      rw [if_pos hge]
      rfl
  · have hl0 : 0 < l.length := by omega
    have blo := Pb.lo hb hl0 i hi
    have bhi := Pb.hi hb hl0 i hi
    have hst : boxst l i = pcs (plo l i) ++ pcs (phi l i) := by
      obtain ⟨j, rfl⟩ : ∃ j, i = j + 1 := ⟨i - 1, by omega⟩
      rfl
    rw [hst]
    have hge' : ¬ i < l.length → pbox l = .tup [pc (plo l i), pc (phi l i), .raw (.bool true)] := fun hn => by
      unfold pbox
      rw [if_neg (by omega)]
      have : l.length = i := by omega
      rw [this]
    have hbx : boxst l (i + 1) = pcs (qmin (plo l i).1 (pa l i).1, qmin (plo l i).2 (pa l i).2) ++ pcs (qmax (phi l i).1 (pa l i).1, qmax (phi l i).2 (pa l i).2) := rfl
    have hD1 : ∀ us', i < l.length → us' = .raw (.int .i64 ((i + 1 : Nat) : Int)) :: (pcs (qmin (plo l i).1 (pa l i).1, qmin (plo l i).2 (pa l i).2) ++ pcs (qmax (phi l i).1 (pa l i).1, qmax (phi l i).2 (pa l i).2)) → D us' := fun us' h1 h2 => hD us' h1 (by rw [hbx]; exact h2)
    generalize plo l i = lo at *
    generalize phi l i = hi' at *
    obtain ⟨lx, ly⟩ := lo
    obtain ⟨hx, hy⟩ := hi'
    show VC.ok _ _ _ (_ :: _ :: _ :: [_, _, _, _, _, _, _, _, _, _, _, _, _]) _
    refine ok_lss rfl (decide (i < l.length)) (by simp) ?_
    try simp only [nr]
    refine ok_ite rfl (fun h0 => ?_) (fun h0 => ?_)
    · have hlt : i < l.length := of_decide_eq_true h0
      have hlp : (l.map pcs)[i]? = some (pcs (pa l i)) := by rw [List.getElem?_map, at_pa hlt]; rfl
      have bp := hb _ (pa_mem hlt)
      have hD2 := fun us' => hD1 us' hlt
      generalize pa l i = p at *
      obtain ⟨px, py⟩ := p
      refine ok_idx rfl hlp rfl ?_
      try simp only [nr]
      refine ok_ld (cs := pcs (px, py)) rfl rfl ?_
      try simp only [nr]
      refine ok_eq rfl false (by rw [beq_eq_false_iff_ne]; omega) ?_
      try simp only [nr]
      refine ok_false rfl ?_
      have c1 := q_Cmp (IsQ.qc bp.x) (IsQ.qc blo.x) (by omega)
      have c2 := q_Cmp (IsQ.qc bp.y) (IsQ.qc blo.y) (by omega)
      have c3 := q_Cmp (IsQ.qc bp.x) (IsQ.qc bhi.x) (by omega)
      have c4 := q_Cmp (IsQ.qc bp.y) (IsQ.qc bhi.y) (by omega)
      simp only [] at c1 c2 c3 c4
      refine ok_call c1 rfl rfl ?_
      try simp only [nr]
      refine ok_lss rfl (decide (px < lx)) lss_lt ?_
      try simp only [nr]
      refine ok_ite rfl (fun e1 => ?_) (fun e1 => ?_) <;>
      (refine ok_call c2 rfl rfl ?_
       try simp only [nr]
       refine ok_lss rfl (decide (py < ly)) lss_lt ?_
       try simp only [nr]
       refine ok_ite rfl (fun e2 => ?_) (fun e2 => ?_) <;>
       (refine ok_call c3 rfl rfl ?_
        try simp only [nr]
        refine ok_gtr rfl (decide (hx < px)) gtr_lt ?_
        try simp only [nr]
        refine ok_ite rfl (fun e3 => ?_) (fun e3 => ?_) <;>
        (refine ok_call c4 rfl rfl ?_
         try simp only [nr]
         refine ok_gtr rfl (decide (hy < py)) gtr_lt ?_
         try simp only [nr]
         refine ok_ite rfl (fun e4 => ?_) (fun e4 => ?_) <;>
         (refine ok_inc (n := i) rfl (by omega) ?_
          try simp only [nr]
          refine ok_again rfl (hD2 _ ?_)
          simp only [decide_eq_true_eq, decide_eq_false_iff_not] at e1 e2 e3 e4
          simp only [qmin, qmax, e1, e2, e3, e4, if_true, if_false]
          rfl))))
    · have hge := of_decide_eq_false h0
      rw [hge' hge]
      have z := zero_is (k := 1) (by decide)
      have a1 := p_Add (IsP.pc blo) z (by omega)
      have a2 := p_Add (IsP.pc bhi) z (by omega)
      rw [padd_zero] at a1 a2
      refine ok_lenS (es := es) rfl (l.length : Int) (by rw [hes]) ?_
      try simp only [nr]
      refine ok_eq rfl false (by rw [beq_eq_false_iff_ne]; omega) ?_
      try simp only [nr]
      refine ok_false rfl ?_
      refine ok_call a1 rfl rfl ?_
      try simp only [nr]
      refine ok_call a2 rfl rfl ?_
      try simp only [nr]
      exact ok_ret rfl rfl
end Go.Proofs.YtcpgflbfjplheaaGreatDoor
namespace Gv
open Go Go.RowKit Gs
set_option linter.unusedVariables false
section
variable {P : Program} {R : PV → Prop} {ρ : List PV} {C : List (List PV → Prop)} {k : VC} {args : List SV}
theorem ok_mod {n m : Nat} (hp : pvs ρ args = [.raw (.int .i64 (n : Int)), .raw (.int .i64 (m : Int))]) (hm : m ≠ 0) (hk : k.ok P R (ρ ++ [.raw (.int .i64 ((n % m : Nat) : Int))]) C) : (VC.prim (.op2 .rem false) args k).ok P R ρ C :=
  ok_rem hp (by omega) _ (by rw [← Int.ofNat_tmod]) hk
end
theorem sign_gt0 (x : Rat) : decide (x.num.sign > 0) = decide (0 < x) := by
  rw [Bool.eq_iff_iff, decide_eq_true_iff, decide_eq_true_iff, ← num_pos_iff]
  exact ⟨fun h => Int.sign_pos_iff.1 h, fun h => Int.sign_pos_iff.2 h⟩
theorem pfl_at {l : List Pt2} {i : Nat} (h : i < l.length) : (l.map pfs)[i]? = some (pfs (pa l i)) := by rw [List.getElem?_map, at_pa h]; rfl
theorem pfl_pn {l : List Pt2} {i : Nat} (h : i < l.length) : (l.map pfs)[(i + 1) % l.length]? = some (pfs (pn l i)) := by rw [List.getElem?_map, at_pn h]; rfl
end Gv
namespace Go.Proofs.YtcpgflbfjplheaaGreatDoor
open Go.RowKit Gs Gv
set_option linter.unusedVariables false
theorem g8_Convex {l : List Pt2} {k : Nat} (hb : ∀ p ∈ l, Pb p k) (hk : k ≤ 60) (hl : l.length ≤ 100000) : Gv.Fn Tryz.prog 14 [pflist l] (.raw (.bool (pconvex l))) := by
  have fl : ∀ {i k : Nat}, i < l.length → k < l.length → ¬ okk l i k → PV.raw (.bool false) = .raw (.bool (pconvex l)) := fun hi hk hn => by
    have : pconvex l = false := by
      rw [Bool.eq_false_iff]
      intro hc
      exact hn ((pconvex_iff.1 hc).2.1 _ hi _ hk)
    rw [this]
  refine Fn.intro mixed vc_ref08_Convex rfl ?_
  refine ok_for l.length (fun i us => ∃ t : Bool, us = [.raw (.int .i64 (i : Int)), .raw (.bool t)] ∧ (∀ i', i' < i → ∀ k', k' < l.length → okk l i' k') ∧ (t = true ↔ ∃ i', i' < i ∧ ∃ k', k' < l.length ∧ 0 < porient (pa l i') (pn l i') (pa l k'))) ⟨false, rfl, fun i' hi' => by omega, ⟨fun h => Bool.noConfusion h, fun ⟨i', h, _⟩ => absurd h (Nat.not_lt_zero _)⟩⟩ (fun i us h => by obtain ⟨t, h, _⟩ := h; exact ⟨_, h⟩) ?_
  rintro i us D hi ⟨t, rfl, hall, hpos⟩ hD
  try simp only [nr]
  refine ok_lenS (es := l.map pfs) rfl (l.length : Int) (by simp) ?_
  try simp only [nr]
  refine ok_lss rfl (decide (i < l.length)) (by simp) ?_
  try simp only [nr]
  refine ok_ite rfl (fun h1 => ?_) (fun h1 => ?_)
  · have hlt : i < l.length := of_decide_eq_true h1
    have bp := hb _ (pa_mem hlt)
    have bq := hb _ (List.mem_of_getElem? (at_pn hlt))
    refine ok_idx rfl (pfl_at hlt) rfl ?_
    try simp only [nr]
    refine ok_ld (cs := pfs (pa l i)) rfl rfl ?_
    try simp only [nr]
    refine ok_inc (n := i) rfl (by omega) ?_
    try simp only [nr]
    refine ok_lenS (es := l.map pfs) rfl (l.length : Int) (by simp) ?_
    try simp only [nr]
    refine ok_mod rfl (by omega) ?_
    try simp only [nr]
    refine ok_idx rfl (pfl_pn hlt) rfl ?_
    try simp only [nr]
    refine ok_ld (cs := pfs (pn l i)) rfl rfl ?_
    try simp only [nr]
    refine ok_call (g6_Same bp bq (by omega)) rfl rfl ?_
    try simp only [nr]
    refine ok_ite rfl (fun h3 => ?_) (fun h3 => ?_)
    · refine ok_ret (r := .raw (.bool false)) ?_ rfl
      have h3' := of_decide_eq_true h3
      by_cases h4 : 3 ≤ l.length
      · refine fl hlt (mod_lt hlt) fun hn => ?_
        rcases hn.1 with g | g
        · by_cases e : i + 1 = l.length
          · rw [e, Nat.mod_self] at g; omega
          · rw [Nat.mod_eq_of_lt (by omega)] at g; omega
        · exact g h3'
      · have : pconvex l = false := by
          rw [Bool.eq_false_iff]
          intro hc
          exact h4 (pconvex_iff.1 hc).1
        rw [this]
    refine ok_for l.length (fun k' us => ∃ t' : Bool, us = [.raw (.int .i64 (k' : Int)), .raw (.bool t')] ∧ (∀ k2, k2 < k' → okk l i k2) ∧ (t' = true ↔ t = true ∨ ∃ k2, k2 < k' ∧ 0 < porient (pa l i) (pn l i) (pa l k2))) ⟨t, rfl, fun i' hi' => by omega, ⟨fun h => .inl h, fun h => h.elim id fun ⟨k3, h, _⟩ => absurd h (Nat.not_lt_zero _)⟩⟩ (fun i us h => by obtain ⟨t, h, _⟩ := h; exact ⟨_, h⟩) ?_
    rintro j us D' hj ⟨t', rfl, hall', hpos'⟩ hD'
    try simp only [nr]
    refine ok_lenS (es := l.map pfs) rfl (l.length : Int) (by simp) ?_
    try simp only [nr]
    refine ok_lss rfl (decide (j < l.length)) (by simp) ?_
    try simp only [nr]
    refine ok_ite rfl (fun h2 => ?_) (fun h2 => ?_)
    · have hjt : j < l.length := of_decide_eq_true h2
      have bj := hb _ (pa_mem hjt)
      have fin : (j = i ∨ pa l i ≠ pa l j) → 0 ≤ porient (pa l i) (pn l i) (pa l j) → ∀ t2 : Bool, t2 = (t' || decide (0 < porient (pa l i) (pn l i) (pa l j))) → (∀ k2, k2 < j + 1 → okk l i k2) ∧ (t2 = true ↔ t = true ∨ ∃ k2, k2 < j + 1 ∧ 0 < porient (pa l i) (pn l i) (pa l k2)) := by
        intro g1 g2 t2 ht2
        subst ht2
        refine ⟨fun k2 hk2 => ?_, ?_⟩
        · by_cases e : k2 = j
          · subst e; exact ⟨g1, g2⟩
          · exact hall' k2 (by omega)
        · rw [Bool.or_eq_true, hpos', decide_eq_true_iff]
          constructor
          · rintro ((g | ⟨k2, g4, g5⟩) | g3)
            · exact .inl g
            · exact .inr ⟨k2, by omega, g5⟩
            · exact .inr ⟨j, by omega, g3⟩
          · rintro (g | ⟨k2, g4, g5⟩)
            · exact .inl (.inl g)
            · by_cases e : k2 = j
              · subst e; exact .inr g5
              · exact .inl (.inr ⟨k2, by omega, g5⟩)
      refine ok_neq rfl (decide (j ≠ i)) (by rw [Bool.eq_iff_iff, bne_iff_ne, decide_eq_true_iff]; omega) ?_
      try simp only [nr]
      refine ok_ite rfl (fun h4 => ?_) (fun h4 => ?_)
      · have h4' : j ≠ i := of_decide_eq_true h4
        refine ok_idx rfl (pfl_at hjt) rfl ?_
        try simp only [nr]
        refine ok_ld (cs := pfs (pa l j)) rfl rfl ?_
        try simp only [nr]
        refine ok_call (g6_Same bp bj (by omega)) rfl rfl ?_
        try simp only [nr]
        refine ok_ite rfl (fun h5 => ?_) (fun h5 => ?_)
        · refine ok_ret (r := .raw (.bool false)) ?_ rfl
          exact fl hlt hjt fun hn => by rcases hn.1 with g | g; exact h4' g; exact g (of_decide_eq_true h5)
        · have h5' := of_decide_eq_false h5
          refine ok_idx rfl (pfl_at hjt) rfl ?_
          try simp only [nr]
          refine ok_ld (cs := pfs (pa l j)) rfl rfl ?_
          try simp only [nr]
          refine ok_call (g6_Orient bp bq bj hk) rfl rfl ?_
          try simp only [nr]
          refine ok_lss rfl (decide (porient (pa l i) (pn l i) (pa l j) < 0)) (sign_lt0 _) ?_
          try simp only [nr]
          refine ok_ite rfl (fun h6 => ?_) (fun h6 => ?_)
          · refine ok_ret (r := .raw (.bool false)) ?_ rfl
            have h6' := of_decide_eq_true h6
            exact fl hlt hjt fun hn => by have := hn.2; grind
          · have h6' := of_decide_eq_false h6
            have h7 : 0 ≤ porient (pa l i) (pn l i) (pa l j) := by grind
            have g := fin (.inr h5') h7
            refine ok_ite rfl (fun h8 => ?_) (fun h8 => ?_)
            · obtain ⟨g3, g4⟩ := g true (by rw [h8]; rfl)
              refine ok_inc (n := j) rfl (by omega) ?_
              try simp only [nr]
              exact ok_again rfl (hD' _ hjt ⟨true, rfl, g3, g4⟩)
            · obtain ⟨g3, g4⟩ := g (decide (0 < porient (pa l i) (pn l i) (pa l j))) (by rw [h8]; rfl)
              refine ok_gtr rfl (decide (0 < porient (pa l i) (pn l i) (pa l j))) (sign_gt0 _) ?_
              try simp only [nr]
              refine ok_inc (n := j) rfl (by omega) ?_
              try simp only [nr]
              exact ok_again rfl (hD' _ hjt ⟨_, rfl, g3, g4⟩)
      · have h4' : j = i := by have := of_decide_eq_false h4; omega
        refine ok_idx rfl (pfl_at hjt) rfl ?_
        try simp only [nr]
        refine ok_ld (cs := pfs (pa l j)) rfl rfl ?_
        try simp only [nr]
        refine ok_call (g6_Orient bp bq bj hk) rfl rfl ?_
        try simp only [nr]
        refine ok_lss rfl (decide (porient (pa l i) (pn l i) (pa l j) < 0)) (sign_lt0 _) ?_
        try simp only [nr]
        refine ok_ite rfl (fun h6 => ?_) (fun h6 => ?_)
        · refine ok_ret (r := .raw (.bool false)) ?_ rfl
          have h6' := of_decide_eq_true h6
          exact fl hlt hjt fun hn => by have := hn.2; grind
        · have h6' := of_decide_eq_false h6
          have h7 : 0 ≤ porient (pa l i) (pn l i) (pa l j) := by grind
          have g := fin (.inl h4') h7
          refine ok_ite rfl (fun h8 => ?_) (fun h8 => ?_)
          · obtain ⟨g3, g4⟩ := g true (by rw [h8]; rfl)
            refine ok_inc (n := j) rfl (by omega) ?_
            try simp only [nr]
            exact ok_again rfl (hD' _ hjt ⟨true, rfl, g3, g4⟩)
          · obtain ⟨g3, g4⟩ := g (decide (0 < porient (pa l i) (pn l i) (pa l j))) (by rw [h8]; rfl)
            refine ok_gtr rfl (decide (0 < porient (pa l i) (pn l i) (pa l j))) (sign_gt0 _) ?_
            try simp only [nr]
            refine ok_inc (n := j) rfl (by omega) ?_
            try simp only [nr]
            exact ok_again rfl (hD' _ hjt ⟨_, rfl, g3, g4⟩)
    · have hge : j = l.length := by have := of_decide_eq_false h2; omega
      subst hge
      refine ok_inc (n := i) rfl (by omega) ?_
      try simp only [nr]
      refine ok_again rfl (hD _ hlt ⟨t', rfl, fun i' hi' k' hk' => ?_, ?_⟩)
      · by_cases e : i' = i
        · subst e; exact hall' k' hk'
        · exact hall i' (by omega) k' hk'
      · rw [hpos', hpos]
        constructor
        · rintro (⟨i', g1, g2⟩ | g)
          · exact ⟨i', by omega, g2⟩
          · exact ⟨i, by omega, g⟩
        · rintro ⟨i', g1, g2⟩
          by_cases e : i' = i
          · subst e; exact .inr g2
          · exact .inl ⟨i', by omega, g2⟩
  · have hge : i = l.length := by have := of_decide_eq_false h1; omega
    subst hge
    refine ok_lenS (es := l.map pfs) rfl (l.length : Int) (by simp) ?_
    try simp only [nr]
    refine ok_geq rfl (decide (3 ≤ l.length)) (by rw [Bool.eq_iff_iff, decide_eq_true_iff, decide_eq_true_iff]; omega) ?_
    try simp only [nr]
    refine ok_ite rfl (fun h3 => ?_) (fun h3 => ?_)
    · refine ok_ret ?_ rfl
      have h3' := of_decide_eq_true h3
      have : t = pconvex l := by
        rw [Bool.eq_iff_iff, pconvex_iff, hpos]
        exact ⟨fun g => ⟨h3', hall, g⟩, fun g => g.2.2⟩
      rw [← this]
      rfl
    · refine ok_ret (r := .raw (.bool false)) ?_ rfl
      have h3' := of_decide_eq_false h3
      have : pconvex l = false := by
        rw [Bool.eq_false_iff]
        intro hc
        exact h3' (pconvex_iff.1 hc).1
      rw [this]
end Go.Proofs.YtcpgflbfjplheaaGreatDoor
