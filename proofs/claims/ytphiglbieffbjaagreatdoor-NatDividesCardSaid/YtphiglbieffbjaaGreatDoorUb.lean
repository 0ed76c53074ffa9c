/- Contracts: gessoref01's Add and Sub. -/
import Derived.Test.YtphiglbieffbjaaGreatDoorUa
import Derived.Test.YtphiglbieffbjaaGreatDoorMv
namespace Go.Proofs.YtphiglbieffbjaaGreatDoor
open Go.RowKit Gs
set_option linter.unusedVariables false

set_option maxRecDepth 100000 in
set_option maxHeartbeats 4000000 in
theorem ref_Add {A n c A' n' c'} {x y : Nat} {P P'} {w : World} (h : R32 w P ⟨A, n, c⟩ (limbs 4294967296 x)) (h' : R32 w P' ⟨A', n', c'⟩ (limbs 4294967296 y)) (hn : n ≤ 1000000000) (hn' : n' ≤ 1000000000) :
    Calls Tryz.prog 33 #[.slice A n c, .slice A' n' c'] w fun e w' => ∃ A1 n1 c1, e = .returned (.slice A1 n1 c1) ∧ R32 w' (fun b => w.heap.size ≤ b) ⟨A1, n1, c1⟩ (limbs 4294967296 (x + y)) ∧ Below w.heap.size w w' := by
  have hl : (limbs 4294967296 x).length = n := h.rd.len
  have hm : (limbs 4294967296 y).length = n' := h'.rd.len
  have hx := val_limbs B32 x
  have hy := val_limbs B32 y
  obtain ⟨l, hl0⟩ : ∃ l, l = limbs 4294967296 x := ⟨_, rfl⟩
  obtain ⟨m, hm0⟩ : ∃ m, m = limbs 4294967296 y := ⟨_, rfl⟩
  rw [← hl0] at h hl hx
  rw [← hm0] at h' hm hy
  have HX := Lib.hid hx
  have HY := Lib.hid hy
  have HL := Lib.hid hl
  have HM := Lib.hid hm
  obtain ⟨K, hK⟩ : ∃ K, max n n' = K := ⟨_, rfl⟩
  have k1 : n ≤ K := by omega
  have k2 : n' ≤ K := by omega
  have k3 : K ≤ 1000000000 := by omega
  have kmax := fun ats ty => run_max2 ats ty n n' K hK
  have K5 := Lib.hid (show K = n ∨ K = n' by omega)
  have s0 : IntKind.i64.wrap ((K : Int) + 1) = (K : Int) + 1 := IntWalk.i64_in _ (by omega)
  have km : ∀ W : World, (Instr.makeSlice 28 (.int .i64 0) (.int .i64 ((K : Int) + 1))).run Tryz.prog W = .ok (.slice (some ⟨W.heap.size, 0, none⟩) 0 (K + 1)) (W.alloc (.cells (nums .u32 (List.replicate (K + 1) 0)).toArray 58)) := make_cap (P := Tryz.prog) 28 58 .u32 4 Tryz.underlying28 info_u32 (by decide) (K + 1) (by omega)
  clear hl0 hm0 hx hy hl hm hK
  go_enter Tryz.func33, Tryz.ntmps33
  go_wp2
  obtain ⟨W1, hW1⟩ : ∃ W1, W1 = w.alloc (.cells (nums .u32 (List.replicate (K + 1) 0)).toArray 58) := ⟨_, rfl⟩
  have hO1 : OwnN .u32 W1 w.heap.size 58 ⟨some ⟨w.heap.size, 0, none⟩, 0, K + 1⟩ [] := by rw [hW1]; exact OwnN.cap w w.heap.size 58 (K + 1) (Nat.le_refl _) (by omega)
  have hB1 : Below w.heap.size w W1 := by rw [hW1]; exact (Below.refl _ w).alloc (Nat.le_refl _) _
  rw [← hW1]
  clear hW1 km
  go_loopw [5, 6, 7] (fun v cv iv wr => ∃ (i cc : Nat) (o : List Nat) (s : Sl), i + cc ≤ K + 1 ∧ iv = .int .i64 i ∧ cv = .int .u64 cc ∧ v = .slice s.A s.n s.c ∧ RAdd l m i cc o ∧ OwnN .u32 wr w.heap.size 58 s o ∧ Below w.heap.size w wr) (fun _ _ iv _ => K + 2 - (intOf iv).toNat)
  case atStart => exact ⟨0, 0, [], ⟨some ⟨w.heap.size, 0, none⟩, 0, K + 1⟩, by omega, rfl, rfl, by go_num, RAdd.start l m, hO1, hB1⟩
  case round =>
    obtain ⟨i, cc, o, s, hi2, rfl, rfl, rfl, hinv, hown, hb⟩ := hrel
    have hcc := hinv.c1
    have hlen : o.length = i := hinv.len
    have hsz : (o.length + 1) * 4 ≤ 140737488355328 := by omega
    have s1 : IntKind.i64.wrap ((i : Int) + 1) = (i : Int) + 1 := IntWalk.i64_in _ (by omega)
    by_cases hgo : i < K ∨ 0 < cc
    · have hinv2 := hinv.step h.lt h'.lt
      have hx1 := h.lt.gd (by omega) i
      have hy1 := h'.lt.gd (by omega) i
      have HLEN := Lib.hid hlen
      have hgo2 : (¬ (i : Int) < (K : Int) ∧ (0 : Int) < (cc : Int)) ∨ (i : Int) < (K : Int) := by omega
      clear hlen
      by_cases hlt1 : i < n
      · have t1 : (i : Int) < (n : Int) := by omega
        by_cases hlt2 : i < n'
        · have t2 : (i : Int) < (n' : Int) := by omega
          have t3 : (i : Int) < (K : Int) := by omega
          obtain ⟨ad, e, hc⟩ := (h.rd.below hb).at i hlt1
          simp only at e
          subst e
          obtain ⟨ad', e', hc'⟩ := (h'.rd.below hb).at i hlt2
          simp only at e'
          subst e'
          obtain ⟨a, ha⟩ : ∃ a, a = gd l i := ⟨_, rfl⟩
          obtain ⟨b, hb0⟩ : ∃ b, b = gd m i := ⟨_, rfl⟩
          rw [← ha] at hc hx1 hinv2
          rw [← hb0] at hc' hy1 hinv2
          obtain ⟨v0, hv0⟩ : ∃ v0, v0 = cc + a + b := ⟨_, rfl⟩
          rw [← hv0] at hinv2
          have hv1 : v0 ≤ 8589934591 := by omega
          have w1 : IntKind.u64.wrap ((cc : Int) + (a : Int)) = (cc : Int) + (a : Int) := by rw [IntKind.wrap_u64]; omega
          have w2 : IntKind.u64.wrap ((cc : Int) + (a : Int) + (b : Int)) = (v0 : Int) := by rw [IntKind.wrap_u64]; omega
          have wa : IntKind.u64.wrap (a : Int) = (a : Int) := by rw [IntKind.wrap_u64]; omega
          have wb : IntKind.u64.wrap (b : Int) = (b : Int) := by rw [IntKind.wrap_u64]; omega
          obtain ⟨r, hr⟩ : ∃ r, r = v0 % 4294967296 := ⟨_, rfl⟩
          obtain ⟨q, hq⟩ : ∃ q, q = v0 / 4294967296 := ⟨_, rfl⟩
          rw [← hr, ← hq] at hinv2
          have w3 : IntKind.u32.wrap (v0 : Int) = (r : Int) := by rw [IntKind.wrap_u32]; omega
          have w4 : (v0 : Int) / 4294967296 = (q : Int) := by omega
          have HQ := Lib.hid (show q ≤ 1 by omega)
          clear hr hq hv0 ha hb0
          go_wp2_with (at_builtin; refine append1 (w0 := w) (W := wr) w.heap.size rfl (.tmp 52) (.tmp 55) 28 58 .u32 4 rfl Tryz.underlying28 info_u32 (by decide) s o r rfl rfl hown hb hb.size hsz ?_; intro v1 w1 hown1 hb2 hg1)
          refine ⟨⟨i + 1, q, _, v1, by have := HQ.out; omega, by go_num, rfl, rfl, hinv2, hown1, hb2⟩, ?_⟩
          simp only [intOf]; have := HQ.out; omega
        · have t2 : ¬ (i : Int) < (n' : Int) := by omega
          have t3 : (i : Int) < (K : Int) := by omega
          obtain ⟨ad, e, hc⟩ := (h.rd.below hb).at i hlt1
          simp only at e
          subst e
          obtain ⟨a, ha⟩ : ∃ a, a = gd l i := ⟨_, rfl⟩
          obtain ⟨b, hb0⟩ : ∃ b, b = gd m i := ⟨_, rfl⟩
          rw [← ha] at hc hx1 hinv2
          rw [← hb0] at hy1 hinv2
          have hb2 : b = 0 := by rw [hb0]; exact gd_ge (by rw [HM.out]; omega)
          obtain ⟨v0, hv0⟩ : ∃ v0, v0 = cc + a + b := ⟨_, rfl⟩
          rw [← hv0] at hinv2
          have hv1 : v0 ≤ 8589934591 := by omega
          have w2 : IntKind.u64.wrap ((cc : Int) + (a : Int)) = (v0 : Int) := by rw [IntKind.wrap_u64]; omega
          have wa : IntKind.u64.wrap (a : Int) = (a : Int) := by rw [IntKind.wrap_u64]; omega
          obtain ⟨r, hr⟩ : ∃ r, r = v0 % 4294967296 := ⟨_, rfl⟩
          obtain ⟨q, hq⟩ : ∃ q, q = v0 / 4294967296 := ⟨_, rfl⟩
          rw [← hr, ← hq] at hinv2
          have w3 : IntKind.u32.wrap (v0 : Int) = (r : Int) := by rw [IntKind.wrap_u32]; omega
          have w4 : (v0 : Int) / 4294967296 = (q : Int) := by omega
          have HQ := Lib.hid (show q ≤ 1 by omega)
          clear hr hq hv0 ha hb0 hb2
          go_wp2_with (at_builtin; refine append1 (w0 := w) (W := wr) w.heap.size rfl (.tmp 52) (.tmp 55) 28 58 .u32 4 rfl Tryz.underlying28 info_u32 (by decide) s o r rfl rfl hown hb hb.size hsz ?_; intro v1 w1 hown1 hb2 hg1)
          refine ⟨⟨i + 1, q, _, v1, by have := HQ.out; omega, by go_num, rfl, rfl, hinv2, hown1, hb2⟩, ?_⟩
          simp only [intOf]; have := HQ.out; omega
      · have t1 : ¬ (i : Int) < (n : Int) := by omega
        by_cases hlt2 : i < n'
        · have t2 : (i : Int) < (n' : Int) := by omega
          have t3 : (i : Int) < (K : Int) := by omega
          obtain ⟨ad', e', hc'⟩ := (h'.rd.below hb).at i hlt2
          simp only at e'
          subst e'
          obtain ⟨a, ha⟩ : ∃ a, a = gd l i := ⟨_, rfl⟩
          obtain ⟨b, hb0⟩ : ∃ b, b = gd m i := ⟨_, rfl⟩
          rw [← ha] at hx1 hinv2
          rw [← hb0] at hc' hy1 hinv2
          have ha2 : a = 0 := by rw [ha]; exact gd_ge (by rw [HL.out]; omega)
          obtain ⟨v0, hv0⟩ : ∃ v0, v0 = cc + a + b := ⟨_, rfl⟩
          rw [← hv0] at hinv2
          have hv1 : v0 ≤ 8589934591 := by omega
          have w2 : IntKind.u64.wrap ((cc : Int) + (b : Int)) = (v0 : Int) := by rw [IntKind.wrap_u64]; omega
          have wb : IntKind.u64.wrap (b : Int) = (b : Int) := by rw [IntKind.wrap_u64]; omega
          obtain ⟨r, hr⟩ : ∃ r, r = v0 % 4294967296 := ⟨_, rfl⟩
          obtain ⟨q, hq⟩ : ∃ q, q = v0 / 4294967296 := ⟨_, rfl⟩
          rw [← hr, ← hq] at hinv2
          have w3 : IntKind.u32.wrap (v0 : Int) = (r : Int) := by rw [IntKind.wrap_u32]; omega
          have w4 : (v0 : Int) / 4294967296 = (q : Int) := by omega
          have HQ := Lib.hid (show q ≤ 1 by omega)
          clear hr hq hv0 ha hb0 ha2
          go_wp2_with (at_builtin; refine append1 (w0 := w) (W := wr) w.heap.size rfl (.tmp 52) (.tmp 55) 28 58 .u32 4 rfl Tryz.underlying28 info_u32 (by decide) s o r rfl rfl hown hb hb.size hsz ?_; intro v1 w1 hown1 hb2 hg1)
          refine ⟨⟨i + 1, q, _, v1, by have := HQ.out; omega, by go_num, rfl, rfl, hinv2, hown1, hb2⟩, ?_⟩
          simp only [intOf]; have := HQ.out; omega
        · have t2 : ¬ (i : Int) < (n' : Int) := by omega
          have t3 : ¬ (i : Int) < (K : Int) := by have := K5.out; omega
          have t4 : (0 : Int) < (cc : Int) := by omega
          obtain ⟨a, ha⟩ : ∃ a, a = gd l i := ⟨_, rfl⟩
          obtain ⟨b, hb0⟩ : ∃ b, b = gd m i := ⟨_, rfl⟩
          rw [← ha] at hx1 hinv2
          rw [← hb0] at hy1 hinv2
          have ha2 : a = 0 := by rw [ha]; exact gd_ge (by rw [HL.out]; omega)
          have hb2 : b = 0 := by rw [hb0]; exact gd_ge (by rw [HM.out]; omega)
          obtain ⟨v0, hv0⟩ : ∃ v0, v0 = cc + a + b := ⟨_, rfl⟩
          rw [← hv0] at hinv2
          have hv1 : v0 ≤ 8589934591 := by omega
          obtain rfl : v0 = cc := by omega
          obtain ⟨r, hr⟩ : ∃ r, r = v0 % 4294967296 := ⟨_, rfl⟩
          obtain ⟨q, hq⟩ : ∃ q, q = v0 / 4294967296 := ⟨_, rfl⟩
          rw [← hr, ← hq] at hinv2
          have w3 : IntKind.u32.wrap (v0 : Int) = (r : Int) := by rw [IntKind.wrap_u32]; omega
          have w4 : (v0 : Int) / 4294967296 = (q : Int) := by omega
          have HQ := Lib.hid (show q = 0 by omega)
          clear hr hq hv0 ha hb0 ha2 hb2
          go_wp2_with (at_builtin; refine append1 (w0 := w) (W := wr) w.heap.size rfl (.tmp 52) (.tmp 55) 28 58 .u32 4 rfl Tryz.underlying28 info_u32 (by decide) s o r rfl rfl hown hb hb.size hsz ?_; intro v1 w1 hown1 hb2 hg1)
          refine ⟨⟨i + 1, q, _, v1, by have := HQ.out; omega, by go_num, rfl, rfl, hinv2, hown1, hb2⟩, ?_⟩
          simp only [intOf]; have := HQ.out; omega
    · have hc0 : cc = 0 := by omega
      subst hc0
      have hfin := hinv.last (by rw [HL.out]; omega) (by rw [HM.out]; omega)
      rw [HX.out, HY.out] at hfin
      have hrd : R32 wr (fun b => w.heap.size ≤ b) s o := ⟨hown.rd, hinv.lt⟩
      have t1 : ¬ (i : Int) < (K : Int) := by omega
      have hsn : s.n ≤ 281474976710656 := by have := hown.len; omega
      have HF := Lib.hid hfin
      clear hfin hlen
      go_wp2_with fail
      refine (ref_trim hrd hsn).mono ?_
      rintro e w1 ⟨rfl, rfl⟩
      have hr := hrd.trim
      rw [HF.out] at hr
      have HR := Lib.hid hr
      clear hr
      go_wp2
      go_ret
      exact ⟨_, _, _, rfl, HR.out, hb⟩

set_option maxRecDepth 100000 in
set_option maxHeartbeats 4000000 in
theorem ref_Sub {A n c A' n' c'} {x y : Nat} {P P'} {w : World} (h : R32 w P ⟨A, n, c⟩ (limbs 4294967296 x)) (h' : R32 w P' ⟨A', n', c'⟩ (limbs 4294967296 y)) (hn : n ≤ 1000000000) (hle : y ≤ x) :
    Calls Tryz.prog 55 #[.slice A n c, .slice A' n' c'] w fun e w' => ∃ A1 n1 c1, e = .returned (.slice A1 n1 c1) ∧ R32 w' (fun b => w.heap.size ≤ b) ⟨A1, n1, c1⟩ (limbs 4294967296 (x - y)) ∧ Below w.heap.size w w' := by
  have hl : (limbs 4294967296 x).length = n := h.rd.len
  have hm : (limbs 4294967296 y).length = n' := h'.rd.len
  have hx := val_limbs B32 x
  have hy := val_limbs B32 y
  have hn' : n' ≤ n := by rw [← hl, ← hm]; exact limbs_len_mono B32 hle
  obtain ⟨l, hl0⟩ : ∃ l, l = limbs 4294967296 x := ⟨_, rfl⟩
  obtain ⟨m, hm0⟩ : ∃ m, m = limbs 4294967296 y := ⟨_, rfl⟩
  rw [← hl0] at h hl hx
  rw [← hm0] at h' hm hy
  have HX := Lib.hid hx
  have HY := Lib.hid hy
  have HL := Lib.hid hl
  have HM := Lib.hid hm
  have HLE := Lib.hid hle
  have km : ∀ W : World, (Instr.makeSlice 28 (.int .i64 0) (.int .i64 (n : Int))).run Tryz.prog W = .ok (.slice (some ⟨W.heap.size, 0, none⟩) 0 n) (W.alloc (.cells (nums .u32 (List.replicate n 0)).toArray 58)) := make_cap (P := Tryz.prog) 28 58 .u32 4 Tryz.underlying28 info_u32 (by decide) n (by omega)
  clear hl0 hm0 hx hy hl hm hle
  go_enter Tryz.func55, Tryz.ntmps55
  go_wp2
  obtain ⟨W1, hW1⟩ : ∃ W1, W1 = w.alloc (.cells (nums .u32 (List.replicate n 0)).toArray 58) := ⟨_, rfl⟩
  have hO1 : OwnN .u32 W1 w.heap.size 58 ⟨some ⟨w.heap.size, 0, none⟩, 0, n⟩ [] := by rw [hW1]; exact OwnN.cap w w.heap.size 58 n (Nat.le_refl _) (by omega)
  have hB1 : Below w.heap.size w W1 := by rw [hW1]; exact (Below.refl _ w).alloc (Nat.le_refl _) _
  rw [← hW1]
  clear hW1 km
  go_loopw [5, 6, 7] (fun v cv iv wr => ∃ (i cc : Nat) (o : List Nat) (s : Sl), i ≤ n ∧ iv = .int .i64 i ∧ cv = .int .u64 cc ∧ v = .slice s.A s.n s.c ∧ RSub l m i cc o ∧ OwnN .u32 wr w.heap.size 58 s o ∧ Below w.heap.size w wr) (fun _ _ iv _ => n - (intOf iv).toNat)
  case atStart => exact ⟨0, 0, [], ⟨some ⟨w.heap.size, 0, none⟩, 0, n⟩, by omega, rfl, rfl, by go_num, RSub.start l m, hO1, hB1⟩
  case round =>
    obtain ⟨i, cc, o, s, hi, rfl, rfl, rfl, hinv, hown, hb⟩ := hrel
    have hcc := hinv.c1
    have hlen : o.length = i := hinv.len
    have hsz : (o.length + 1) * 4 ≤ 140737488355328 := by omega
    have s1 : IntKind.i64.wrap ((i : Int) + 1) = (i : Int) + 1 := IntWalk.i64_in _ (by omega)
    by_cases hgo : i < n
    · have hx1 := h.lt.gd (by omega) i
      have hy1 := h'.lt.gd (by omega) i
      have hstep := fun (c' r : Nat) h1 h2 h3 => hinv.step (c' := c') (r := r) h1 h2 h3
      have t0 : (i : Int) < (n : Int) := by omega
      obtain ⟨ad, e, hc⟩ := (h.rd.below hb).at i hgo
      simp only at e
      subst e
      clear hlen
      obtain ⟨a, ha⟩ : ∃ a, a = gd l i := ⟨_, rfl⟩
      rw [← ha] at hc hx1 hstep
      have wa : IntKind.u64.wrap (a : Int) = (a : Int) := by rw [IntKind.wrap_u64]; omega
      clear ha
      by_cases hlt2 : i < n'
      · have t2 : (i : Int) < (n' : Int) := by omega
        obtain ⟨ad', e', hc'⟩ := (h'.rd.below hb).at i hlt2
        simp only at e'
        subst e'
        obtain ⟨b, hb0⟩ : ∃ b, b = gd m i := ⟨_, rfl⟩
        rw [← hb0] at hc' hy1 hstep
        have wb : IntKind.u64.wrap (b : Int) = (b : Int) := by rw [IntKind.wrap_u64]; omega
        have w1 : IntKind.u64.wrap ((cc : Int) + (b : Int)) = (cc : Int) + (b : Int) := by rw [IntKind.wrap_u64]; omega
        clear hb0
        by_cases hbor : a < cc + b
        · have t3 : (a : Int) < (cc : Int) + (b : Int) := by omega
          obtain ⟨r, hr⟩ : ∃ r, r = a + 4294967296 - (cc + b) := ⟨_, rfl⟩
          have hinv2 := hstep 1 r (by omega) (by omega) (by omega)
          have w2 : IntKind.u64.wrap ((a : Int) + 4294967296) = (a : Int) + 4294967296 := by rw [IntKind.wrap_u64]; omega
          have w3 : IntKind.u64.wrap ((a : Int) + 4294967296 - ((cc : Int) + (b : Int))) = (r : Int) := by rw [IntKind.wrap_u64]; omega
          have w4 : IntKind.u32.wrap (r : Int) = (r : Int) := by rw [IntKind.wrap_u32]; omega
          clear hr hstep
          go_wp2_with (at_builtin; refine append1 (w0 := w) (W := wr) w.heap.size rfl (.tmp 41) (.tmp 46) 28 58 .u32 4 rfl Tryz.underlying28 info_u32 (by decide) s o r rfl rfl hown hb hb.size hsz ?_; intro v1 w1 hown1 hb2 hg1)
          refine ⟨⟨i + 1, 1, _, v1, by omega, by go_num, rfl, rfl, hinv2, hown1, hb2⟩, ?_⟩
          simp only [intOf]; omega
        · have t3 : ¬ (a : Int) < (cc : Int) + (b : Int) := by omega
          obtain ⟨r, hr⟩ : ∃ r, r = a - (cc + b) := ⟨_, rfl⟩
          have hinv2 := hstep 0 r (by omega) (by omega) (by omega)
          have w3 : IntKind.u64.wrap ((a : Int) - ((cc : Int) + (b : Int))) = (r : Int) := by rw [IntKind.wrap_u64]; omega
          have w4 : IntKind.u32.wrap (r : Int) = (r : Int) := by rw [IntKind.wrap_u32]; omega
          clear hr hstep
          go_wp2_with (at_builtin; refine append1 (w0 := w) (W := wr) w.heap.size rfl (.tmp 41) (.tmp 46) 28 58 .u32 4 rfl Tryz.underlying28 info_u32 (by decide) s o r rfl rfl hown hb hb.size hsz ?_; intro v1 w1 hown1 hb2 hg1)
          refine ⟨⟨i + 1, 0, _, v1, by omega, by go_num, rfl, rfl, hinv2, hown1, hb2⟩, ?_⟩
          simp only [intOf]; omega
      · have t2 : ¬ (i : Int) < (n' : Int) := by omega
        have hb0 : gd m i = 0 := gd_ge (by rw [HM.out]; omega)
        rw [hb0] at hstep
        clear hb0 hy1
        by_cases hbor : a < cc
        · have t3 : (a : Int) < (cc : Int) := by omega
          have t4 : a < cc := hbor
          obtain ⟨r, hr⟩ : ∃ r, r = a + 4294967296 - cc := ⟨_, rfl⟩
          have hinv2 := hstep 1 r (by omega) (by omega) (by omega)
          have w2 : IntKind.u64.wrap ((a : Int) + 4294967296) = (a : Int) + 4294967296 := by rw [IntKind.wrap_u64]; omega
          have w3 : IntKind.u64.wrap ((a : Int) + 4294967296 - (cc : Int)) = (r : Int) := by rw [IntKind.wrap_u64]; omega
          have w4 : IntKind.u32.wrap (r : Int) = (r : Int) := by rw [IntKind.wrap_u32]; omega
          clear hr hstep
          go_wp2_with (at_builtin; refine append1 (w0 := w) (W := wr) w.heap.size rfl (.tmp 41) (.tmp 46) 28 58 .u32 4 rfl Tryz.underlying28 info_u32 (by decide) s o r rfl rfl hown hb hb.size hsz ?_; intro v1 w1 hown1 hb2 hg1)
          refine ⟨⟨i + 1, 1, _, v1, by omega, by go_num, rfl, rfl, hinv2, hown1, hb2⟩, ?_⟩
          simp only [intOf]; omega
        · have t3 : ¬ (a : Int) < (cc : Int) := by omega
          obtain ⟨r, hr⟩ : ∃ r, r = a - cc := ⟨_, rfl⟩
          have hinv2 := hstep 0 r (by omega) (by omega) (by omega)
          have w3 : IntKind.u64.wrap ((a : Int) - (cc : Int)) = (r : Int) := by rw [IntKind.wrap_u64]; omega
          have w4 : IntKind.u32.wrap (r : Int) = (r : Int) := by rw [IntKind.wrap_u32]; omega
          clear hr hstep
          go_wp2_with (at_builtin; refine append1 (w0 := w) (W := wr) w.heap.size rfl (.tmp 41) (.tmp 46) 28 58 .u32 4 rfl Tryz.underlying28 info_u32 (by decide) s o r rfl rfl hown hb hb.size hsz ?_; intro v1 w1 hown1 hb2 hg1)
          refine ⟨⟨i + 1, 0, _, v1, by omega, by go_num, rfl, rfl, hinv2, hown1, hb2⟩, ?_⟩
          simp only [intOf]; omega
    · obtain rfl : i = n := by omega
      have hfin := (show RSub l m l.length cc o by rw [HL.out]; exact hinv).last (by rw [HL.out, HM.out]; exact hn') (by rw [HX.out, HY.out]; exact HLE.out)
      rw [HX.out, HY.out] at hfin
      have hrd : R32 wr (fun b => w.heap.size ≤ b) s o := ⟨hown.rd, hinv.lt⟩
      have hsn : s.n ≤ 281474976710656 := by have := hown.len; omega
      have HF := Lib.hid hfin
      clear hfin hlen
      go_wp2_with fail
      refine (ref_trim hrd hsn).mono ?_
      rintro e w1 ⟨rfl, rfl⟩
      have hr := hrd.trim
      rw [HF.out] at hr
      have HR := Lib.hid hr
      clear hr
      go_wp2
      go_ret
      exact ⟨_, _, _, rfl, HR.out, hb⟩
end Go.Proofs.YtphiglbieffbjaaGreatDoor
