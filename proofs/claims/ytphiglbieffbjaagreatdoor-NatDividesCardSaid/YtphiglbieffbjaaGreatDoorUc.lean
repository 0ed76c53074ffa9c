/- Contract: gessoref01's Mul. -/
import Derived.Test.YtphiglbieffbjaaGreatDoorUb
namespace Go.Proofs.YtphiglbieffbjaaGreatDoor
open Go.RowKit Gs
set_option linter.unusedVariables false

set_option maxRecDepth 100000 in
set_option maxHeartbeats 4000000 in
theorem ref_Mul {A n c A' n' c'} {x y : Nat} {P P'} {w : World} (h : R32 w P ⟨A, n, c⟩ (limbs 4294967296 x)) (h' : R32 w P' ⟨A', n', c'⟩ (limbs 4294967296 y)) (hn : n ≤ 1000000000) (hn' : n' ≤ 1000000000) :
    Calls Tryz.prog 34 #[.slice A n c, .slice A' n' c'] w fun e w' => ∃ A1 n1 c1, e = .returned (.slice A1 n1 c1) ∧ R32 w' (fun b => w.heap.size ≤ b) ⟨A1, n1, c1⟩ (limbs 4294967296 (x * y)) ∧ Below w.heap.size w w' := by
  have hl : (limbs 4294967296 x).length = n := h.rd.len
  have hm : (limbs 4294967296 y).length = n' := h'.rd.len
  have hx := val_limbs B32 x
  have hy := val_limbs B32 y
  obtain ⟨l, hl0⟩ : ∃ l, l = limbs 4294967296 x := ⟨_, rfl⟩
  obtain ⟨m, hm0⟩ : ∃ m, m = limbs 4294967296 y := ⟨_, rfl⟩
  rw [← hl0] at h hl hx
  rw [← hm0] at h' hm hy
  have HX := Lib.hid hx
  have HY := Lib.hid hy
  have HL := Lib.hid hl
  have HM := Lib.hid hm
  have km := make_num (P := Tryz.prog) 28 58 .u32 4 Tryz.underlying28 info_u32 (by decide) (n + n') (by omega)
  rw [Int.natCast_add] at km
  have s0 : IntKind.i64.wrap ((n : Int) + (n' : Int)) = (n : Int) + (n' : Int) := IntWalk.i64_in _ (by omega)
  clear hl0 hm0 hx hy hl hm
  go_enter Tryz.func34, Tryz.ntmps34
  go_wp2
  go_loopw [6] (fun iv wr => ∃ (i : Nat) (o : List Nat), i ≤ n ∧ iv = .int .i64 i ∧ RMul l m i o ∧ OwnN .u32 wr w.heap.size 58 ⟨some ⟨w.heap.size, 0, none⟩, n + n', n + n'⟩ o ∧ Below w.heap.size w wr) (fun iv _ => n - (intOf iv).toNat)
  case atStart =>
    refine ⟨0, List.replicate (n + n') 0, Nat.zero_le _, rfl, ?_, ?_, (Below.refl _ _).alloc (Nat.le_refl _) _⟩
    · have := RMul.start l m
      rwa [HL.out, HM.out] at this
    · have := OwnN.made .u32 w w.heap.size 58 (List.replicate (n + n') 0) (Nat.le_refl _) (by simp; omega)
      simpa using this
  case round =>
    obtain ⟨i, o, hi, rfl, hinv, hown, hb⟩ := hrel
    clear km
    have si : IntKind.i64.wrap ((i : Int) + 1) = (i : Int) + 1 := IntWalk.i64_in _ (by omega)
    by_cases hlt : i < n
    · have hxB := h.lt.gd (by omega) i
      have t0 : (i : Int) < (n : Int) := by omega
      go_wp2
      obtain ⟨wo, rfl⟩ : ∃ wo : World, wo = wr := ⟨_, rfl⟩
      go_loopw [7, 8] (fun cv kv wr2 => ∃ (k cc : Nat) (o2 : List Nat), k ≤ n' ∧ kv = .int .i64 k ∧ cv = .int .u64 cc ∧ RMulI l m i k cc o o2 ∧ OwnN .u32 wr2 w.heap.size 58 ⟨some ⟨w.heap.size, 0, none⟩, n + n', n + n'⟩ o2 ∧ Below w.heap.size w wr2) (fun _ kv _ => n' - (intOf kv).toNat)
      case atStart => exact ⟨0, 0, o, Nat.zero_le _, rfl, rfl, hinv.inner, hown, hb⟩
      case round =>
        obtain ⟨k, cc, o2, hk, rfl, rfl, hin, hown2, hb2⟩ := hrel
        have sik : IntKind.i64.wrap ((i : Int) + (k : Int)) = (i : Int) + (k : Int) := IntWalk.i64_in _ (by omega)
        by_cases hltk : k < n'
        · obtain ⟨ad', e', hc'⟩ := (h'.rd.below hb2.drew).at k hltk
          simp only at e'
          subst e'
          obtain ⟨ad, e, hc⟩ := (h.rd.below hb2.drew).at i hlt
          simp only at e
          subst e
          have tk : (k : Int) < (n' : Int) := by omega
          have sk : IntKind.i64.wrap ((k : Int) + 1) = (k : Int) + 1 := IntWalk.i64_in _ (by omega)
          obtain ⟨hco, hfo⟩ := (hown2.drewN 1).at (i + k) (by omega)
          have hco' : wr.drew.cell? ⟨w.heap.size, i + k, none⟩ = some (.int .u32 (gd o2 (i + k) : Nat)) := hco
          have hfo' : wr.drew.frozen? ⟨w.heap.size, i + k, none⟩ = false := hfo
          clear hco hfo
          have hstep := hin.step h.lt h'.lt (by rw [HL.out]; exact hlt) (by rw [HM.out]; exact hltk)
          have hyB := h'.lt.gd (by omega) k
          have hoB := hin.lt.gd (by omega) (i + k)
          have hcB := hin.cl
          have hp0 : gd l i * gd m k ≤ 4294967295 * 4294967295 := Nat.mul_le_mul (by omega) (by omega)
          obtain ⟨x1, hx1⟩ : ∃ x1, x1 = gd l i := ⟨_, rfl⟩
          obtain ⟨y1, hy1⟩ : ∃ y1, y1 = gd m k := ⟨_, rfl⟩
          obtain ⟨oo, hoo⟩ : ∃ oo, oo = gd o2 (i + k) := ⟨_, rfl⟩
          rw [← hx1] at hstep hc hp0 hxB
          rw [← hy1] at hstep hc' hp0 hyB
          rw [← hoo] at hstep hco' hoB
          obtain ⟨p, hp⟩ : ∃ p, p = x1 * y1 := ⟨_, rfl⟩
          have hpi : (x1 : Int) * (y1 : Int) = (p : Int) := by rw [hp, Int.natCast_mul]
          rw [← hp] at hstep hp0
          obtain ⟨v0, hv0⟩ : ∃ v0, v0 = oo + p + cc := ⟨_, rfl⟩
          rw [← hv0] at hstep
          obtain ⟨r, hr⟩ : ∃ r, r = v0 % 4294967296 := ⟨_, rfl⟩
          obtain ⟨q, hq⟩ : ∃ q, q = v0 / 4294967296 := ⟨_, rfl⟩
          rw [← hr, ← hq] at hstep
          have wx : IntKind.u64.wrap (x1 : Int) = (x1 : Int) := by rw [IntKind.wrap_u64]; omega
          have wy : IntKind.u64.wrap (y1 : Int) = (y1 : Int) := by rw [IntKind.wrap_u64]; omega
          have wo1 : IntKind.u64.wrap (oo : Int) = (oo : Int) := by rw [IntKind.wrap_u64]; omega
          have wp : IntKind.u64.wrap ((x1 : Int) * (y1 : Int)) = (p : Int) := by rw [hpi, IntKind.wrap_u64]; omega
          have w1 : IntKind.u64.wrap ((oo : Int) + (p : Int)) = (oo : Int) + (p : Int) := by rw [IntKind.wrap_u64]; omega
          have w2 : IntKind.u64.wrap ((oo : Int) + (p : Int) + (cc : Int)) = (v0 : Int) := by rw [IntKind.wrap_u64]; omega
          have w3 : IntKind.u32.wrap (v0 : Int) = (r : Int) := by rw [IntKind.wrap_u32]; omega
          have w4 : (v0 : Int) / 4294967296 = (q : Int) := by omega
          have t5 : (i : Int) + (k : Int) < (n : Int) + (n' : Int) := by omega
          have t6 : (0 : Int) ≤ (i : Int) + (k : Int) := by omega
          have t7 : ((i : Int) + (k : Int)).toNat = i + k := by omega
          have t8 : i + k < n + n' := by omega
          clear hx1 hy1 hoo hp hv0 hr hq hpi
          go_wp2
          go_region_law fail
          all_goals
            go_wp2
            refine ⟨⟨k + 1, q, _, by omega, by go_num, rfl, hstep, (hown2.store (i + k) r).drewN 1, (hb2.setCell (p := ⟨w.heap.size, i + k, none⟩) (Nat.le_refl _) _).drew⟩, ?_⟩
            simp only [intOf]; omega
        · obtain rfl : k = n' := by omega
          obtain ⟨hco, hfo⟩ := hown2.at (i + k) (by omega)
          have hlast : RMul l m (i + 1) (o2.set (i + k) cc) := by
            have := (show RMulI l m i m.length cc o o2 by rw [HM.out]; exact hin).last hinv (by rw [HL.out]; exact hlt)
            rwa [HM.out] at this
          have hcB := hin.cl
          have w3 : IntKind.u32.wrap (cc : Int) = (cc : Int) := by rw [IntKind.wrap_u32]; omega
          have t5 : (i : Int) + (k : Int) < (n : Int) + (k : Int) := by omega
          have t6 : (0 : Int) ≤ (i : Int) + (k : Int) := by omega
          have t7 : ((i : Int) + (k : Int)).toNat = i + k := by omega
          have t8 : i + k < n + k := by omega
          go_wp2
          refine ⟨⟨i + 1, _, by omega, by go_num, hlast, hown2.store (i + k) cc, hb2.setCell (p := ⟨w.heap.size, i + k, none⟩) (Nat.le_refl _) _⟩, ?_⟩
          simp only [intOf]; omega
    · obtain rfl : i = n := by omega
      have hfin := (show RMul l m l.length o by rw [HL.out]; exact hinv).last
      rw [HX.out, HY.out] at hfin
      have hrd : R32 wr (fun b => w.heap.size ≤ b) ⟨some ⟨w.heap.size, 0, none⟩, i + n', i + n'⟩ o := ⟨hown.rd, hinv.lt⟩
      have HF := Lib.hid hfin
      clear hfin
      go_wp2_with fail
      refine (ref_trim hrd (by omega)).mono ?_
      rintro e w1 ⟨rfl, rfl⟩
      have hr := hrd.trim
      rw [HF.out] at hr
      have HR := Lib.hid hr
      clear hr
      go_wp2
      go_ret
      exact ⟨_, _, _, rfl, HR.out, hb⟩
end Go.Proofs.YtphiglbieffbjaaGreatDoor
