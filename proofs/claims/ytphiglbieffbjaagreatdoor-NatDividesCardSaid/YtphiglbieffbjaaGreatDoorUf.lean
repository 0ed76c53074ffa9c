/- Contract: gessoref01's short. -/
import Derived.Test.YtphiglbieffbjaaGreatDoorUe
import Derived.Test.YtphiglbieffbjaaGreatDoorMw
namespace Gs
open Go Go.RowKit

/-- the places from i up are done, r is the rest so far -/
structure RShort (l : List Nat) (b i r : Nat) (o : List Nat) : Prop where
  len : o.length = l.length
  lt : Lt 4294967296 o
  rl : r < b
  eq : val 4294967296 (o.drop i) * b + r = val 4294967296 (l.drop i)
theorem drop_set_lt {o : List Nat} {i j x : Nat} (h : i < j) : (o.set i x).drop j = o.drop j := by
  rw [List.drop_set, if_pos h]
theorem RShort.start (l : List Nat) {b : Nat} (hb : 0 < b) : RShort l b l.length 0 (List.replicate l.length 0) :=
  ⟨by simp, Lt.replicate (by omega) _, hb, by simp [val]⟩
theorem RShort.step {l o : List Nat} {b i r : Nat} (h : RShort l b (i + 1) r o) (hl : Lt 4294967296 l) (hi : i < l.length) (hb : b < 4294967296) :
    RShort l b i ((r * 4294967296 + gd l i) % b) (o.set i ((r * 4294967296 + gd l i) / b)) := by
  have h1 := hl.gd (by omega) i
  have hr := h.rl
  have hq : (r * 4294967296 + gd l i) / b < 4294967296 := by
    rw [Nat.div_lt_iff_lt_mul (by omega)]
    have : (r + 1) * 4294967296 ≤ b * 4294967296 := Nat.mul_le_mul_right _ hr
    rw [Nat.mul_comm 4294967296]
    omega
  refine ⟨by rw [List.length_set]; exact h.len, h.lt.set _ hq, Nat.mod_lt _ (by omega), ?_⟩
  rw [val_drop, drop_set_lt (Nat.lt_succ_self i), gd_set_self (by rw [h.len]; exact hi), val_drop 4294967296 l]
  have he := h.eq
  have hd := Nat.mod_add_div (r * 4294967296 + gd l i) b
  generalize val 4294967296 (o.drop (i + 1)) = O at *
  generalize val 4294967296 (l.drop (i + 1)) = L at *
  generalize (r * 4294967296 + gd l i) % b = m at *
  generalize (r * 4294967296 + gd l i) / b = q at *
  rw [← he]
  grind
theorem RShort.last {l o : List Nat} {b r : Nat} (h : RShort l b 0 r o) : val 4294967296 o = val 4294967296 l / b ∧ r = val 4294967296 l % b := by
  have he := h.eq
  have hr := h.rl
  rw [List.drop_zero, List.drop_zero] at he
  rw [← he]
  constructor
  · rw [Nat.mul_comm, Nat.mul_add_div (by omega), Nat.div_eq_of_lt hr, Nat.add_zero]
  · rw [Nat.mul_comm, Nat.mul_add_mod, Nat.mod_eq_of_lt hr]
end Gs
namespace Go.Proofs.YtphiglbieffbjaaGreatDoor
open Go.RowKit Gs
set_option linter.unusedVariables false

theorem ref_Of_new (v : Nat) (hv : v < 18446744073709551616) (w : World) : Calls Tryz.prog 27 #[.int .u64 v] w fun e w' => ∃ A1 n1 c1, e = .returned (.slice A1 n1 c1) ∧ R32 w' (fun b => w.heap.size ≤ b) ⟨A1, n1, c1⟩ (limbs 4294967296 v) ∧ Below w.heap.size w w' := by
  have ki := ref_In (w := w.alloc (.cells (nums .u64 [v]).toArray 45)) (A := some ⟨w.heap.size, 0, none⟩) (n := 1) (c := 1) (l := [v]) (P := fun b => w.heap.size ≤ b) ⟨(OwnN.made .u64 w w.heap.size 45 [v] (Nat.le_refl _) (by simp)).rd, Lt.cons hv (Lt.nil _)⟩ (by decide)
  have KI := Lib.hid ki
  clear ki
  go_enter Tryz.func27, Tryz.ntmps27
  go_wp2_with fail
  refine KI.out.mono ?_
  rintro e w1 ⟨A1, n1, c1, rfl, hr, hb⟩
  have hv1 : val 18446744073709551616 [v] = v := by simp [val]
  rw [hv1] at hr
  have HR := Lib.hid hr
  clear hr hv1
  go_wp2
  go_ret
  exact ⟨_, _, _, rfl, HR.out.mono (fun b hb => by simp at hb; omega), Gs.Below.un hb⟩
theorem two_cells {W : World} {b : Nat} {t : TypeId} {u v : Value} (h : W.heap[b]? = some (.cells #[u, v] t (0, 0))) (p q : Value) :
    ((W.setCell ⟨b, 0, none⟩ p).setCell ⟨b, 1, none⟩ q).heap[b]? = some (.cells #[p, q] t (0, 0)) := by
  simp [World.setCell, Array.getElem?_modify, h]
theorem two_at {W : World} {b : Nat} {u v : Value} {t : TypeId} (h : W.heap[b]? = some (.cells #[u, v] t (0, 0))) : W.cell? ⟨b, 0, none⟩ = some u ∧ W.cell? ⟨b, 1, none⟩ = some v := by simp [World.cell?, h]
theorem R32.store2 {W : World} {P : Nat → Prop} {s : Sl} {l : List Nat} {b : Nat} (h : R32 W P s l) (hP : ∀ j, P j → j ≠ b) (p q : Value) : R32 ((W.setCell ⟨b, 0, none⟩ p).setCell ⟨b, 1, none⟩ q) P s l :=
  ⟨h.rd.keep fun j hj _ => by rw [set_heap _ (by exact hP j hj), set_heap _ (by exact hP j hj)], h.lt⟩

set_option maxRecDepth 100000 in
set_option maxHeartbeats 4000000 in
theorem ref_short_new {A n c} {x b : Nat} {P} {w : World} (h : R32 w P ⟨A, n, c⟩ (limbs 4294967296 x)) (hn : n ≤ 1000000000) (hb0 : 0 < b) (hb1 : b < 4294967296) :
    Calls Tryz.prog 41 #[.slice A n c, .int .u32 (b : Int)] w fun e w' => ∃ Aq nq cq Ar nr cr, e = .returned (.agg #[.slice Aq nq cq, .slice Ar nr cr]) ∧ R32 w' (fun j => w.heap.size < j) ⟨Aq, nq, cq⟩ (limbs 4294967296 (x / b)) ∧ R32 w' (fun j => w.heap.size < j) ⟨Ar, nr, cr⟩ (limbs 4294967296 (x % b)) ∧ Below w.heap.size w w' := by
  have hl : (limbs 4294967296 x).length = n := h.rd.len
  have hx := val_limbs B32 x
  obtain ⟨l, hl0⟩ : ∃ l, l = limbs 4294967296 x := ⟨_, rfl⟩
  rw [← hl0] at h hl hx
  have HX := Lib.hid hx
  have HL := Lib.hid hl
  have km := make_num (P := Tryz.prog) 28 58 .u32 4 Tryz.underlying28 info_u32 (by decide) n (by omega)
  have s0 : IntKind.i64.wrap ((n : Int) - 1) = (n : Int) - 1 := IntWalk.i64_in _ (by omega)
  clear hl0 hl hx
  go_enter Tryz.func41, Tryz.ntmps41
  go_wp2
  obtain ⟨W1, hW1⟩ : ∃ W1, W1 = (w.alloc (Obj.cells #[Value.slice none 0 0, Value.slice none 0 0] 40)).alloc (Obj.cells (nums IntKind.u32 (List.replicate n 0)).toArray 58) := ⟨_, rfl⟩
  rw [← hW1]
  have hT1 : W1.heap[w.heap.size]? = some (.cells #[Value.slice none 0 0, Value.slice none 0 0] 40 (0, 0)) := by
    rw [hW1]
    exact (Below.heap_alloc _ _ _ (by simp)).trans (heap_alloc_new w _)
  have hO1 : OwnN .u32 W1 (w.heap.size + 1) 58 ⟨some ⟨w.heap.size + 1, 0, none⟩, n, n⟩ (List.replicate n 0) := by
    rw [hW1]
    have := OwnN.made .u32 (w.alloc (Obj.cells #[Value.slice none 0 0, Value.slice none 0 0] 40)) (w.heap.size + 1) 58 (List.replicate n 0) (by simp) (by simp; omega)
    simpa using this
  have hB1 : Below w.heap.size w W1 := by rw [hW1]; exact ((Below.refl _ w).alloc (Nat.le_refl _) _).alloc (by simp) _
  have hsz1 : w.heap.size + 2 ≤ W1.heap.size := by rw [hW1]; simp
  clear hW1 km
  go_loopw [6, 7] (fun rv iv wr => ∃ (i r : Nat) (o : List Nat), i ≤ n ∧ iv = .int .i64 ((i : Int) - 1) ∧ rv = .int .u64 (r : Int) ∧ RShort l b i r o ∧ OwnN .u32 wr (w.heap.size + 1) 58 ⟨some ⟨w.heap.size + 1, 0, none⟩, n, n⟩ o ∧ wr.heap[w.heap.size]? = some (.cells #[Value.slice none 0 0, Value.slice none 0 0] 40 (0, 0)) ∧ w.heap.size + 2 ≤ wr.heap.size ∧ Below w.heap.size w wr) (fun _ iv _ => (intOf iv + 1).toNat)
  case atStart =>
    refine ⟨n, 0, List.replicate n 0, Nat.le_refl _, rfl, rfl, ?_, hO1, hT1, hsz1, hB1⟩
    have := RShort.start l hb0
    rwa [HL.out] at this
  case round =>
    obtain ⟨i, r, o, hi, rfl, rfl, hinv, hown, hT, hsz, hb⟩ := hrel
    cases i with
    | zero =>
      obtain ⟨hq, hrr⟩ := hinv.last
      rw [HX.out] at hq hrr
      have hrb := hinv.rl
      have hrd : R32 wr (fun b => w.heap.size + 1 ≤ b) ⟨some ⟨w.heap.size + 1, 0, none⟩, n, n⟩ o := ⟨hown.rd, hinv.lt⟩
      have HQ := Lib.hid hq
      have HR := Lib.hid hrr
      clear hq hrr hT1 hO1 hB1 hsz1
      go_wp2_with fail
      refine (ref_trim hrd (by omega)).mono ?_
      rintro e w1 ⟨rfl, rfl⟩
      have hq1 := hrd.trim
      rw [HQ.out] at hq1
      go_wp2_with fail
      refine (ref_Of_new r (by omega) _).mono ?_
      rintro e w2 ⟨Ar, nr, cr, rfl, hrr, hb2⟩
      have hq2 := hq1.below hb2
      have hT2 := (hb2.block _ (by omega)).trans hT
      have hcell : w2.cell? ⟨w.heap.size, 0, none⟩ = some (.slice none 0 0) := by simp [World.cell?, hT2]
      have hcell1 : w2.cell? ⟨w.heap.size, 1, none⟩ = some (.slice none 0 0) := by simp [World.cell?, hT2]
      have hfr : w2.frozen? ⟨w.heap.size, 0, none⟩ = false := by simp [World.frozen?, hT2]
      have hfr1 : w2.frozen? ⟨w.heap.size, 1, none⟩ = false := by simp [World.frozen?, hT2]
      have hTT := fun p q => two_cells hT2 p q
      have hqs := fun p q => R32.store2 hq2 (b := w.heap.size) (fun j hj => by omega) p q
      have hrs := fun p q => R32.store2 hrr (b := w.heap.size) (fun j hj => by omega) p q
      have hbs : Below w.heap.size w w2 := Gs.Below.then hb hb.size hb2
      go_wp2
      obtain ⟨QV, hQV⟩ : ∃ QV, QV = Value.slice (some ⟨w.heap.size + 1, 0, none⟩) (nl2 o) n := ⟨_, rfl⟩
      obtain ⟨RV, hRV⟩ : ∃ RV, RV = Value.slice Ar nr cr := ⟨_, rfl⟩
      have hc0 : ((w2.setCell ⟨w.heap.size, 0, none⟩ QV).setCell ⟨w.heap.size, 1, none⟩ RV).cell? ⟨w.heap.size, 0, none⟩ = some QV := by simp [World.cell?, hTT]
      have hc1 : ((w2.setCell ⟨w.heap.size, 0, none⟩ QV).setCell ⟨w.heap.size, 1, none⟩ RV).cell? ⟨w.heap.size, 1, none⟩ = some RV := by simp [World.cell?, hTT]
      rw [← hQV, ← hRV]
      refine bodyPost_ret (v := .agg #[QV, RV]) (by simp [results, Tryz.f41, go_sem, hc0, hc1]) rfl ?_
      subst hQV hRV
      refine ⟨_, _, _, _, _, _, rfl, (hqs _ _).mono (fun b hb => by omega), ?_, (hbs.setCell (p := ⟨w.heap.size, 0, none⟩) (Nat.le_refl _) _).setCell (p := ⟨w.heap.size, 1, none⟩) (Nat.le_refl _) _⟩
      rw [← HR.out]
      exact (hrs _ _).mono (fun b hb => by omega)
    | succ j =>
      have e2 : ((j + 1 : Nat) : Int) - 1 = (j : Int) := by omega
      rw [e2]
      obtain ⟨ad, e, hc⟩ := (h.rd.below hb).at j (by show j < n; omega)
      simp only at e
      subst e
      obtain ⟨hco, hfo⟩ := hown.at j (by omega)
      have hstep := hinv.step h.lt (by rw [HL.out]; omega) hb1
      have hxB := h.lt.gd (by omega) j
      have hrl := hinv.rl
      obtain ⟨x1, hx1⟩ : ∃ x1, x1 = gd l j := ⟨_, rfl⟩
      rw [← hx1] at hc hxB hstep
      obtain ⟨v, hv⟩ : ∃ v, v = r * 4294967296 + x1 := ⟨_, rfl⟩
      rw [← hv] at hstep
      have hor := or_join (q := r) (r := x1) (i := 32) (by omega) (by omega) (by omega)
      rw [show r * 2 ^ 32 + x1 = v by omega, show ((r * 2 ^ 32 : Nat) : Int) = (r : Int) * 4294967296 by omega] at hor
      have hqlt : v / b < 4294967296 := by
        rw [Nat.div_lt_iff_lt_mul hb0]
        have : (r + 1) * 4294967296 ≤ b * 4294967296 := Nat.mul_le_mul_right _ hrl
        rw [Nat.mul_comm 4294967296]
        omega
      obtain ⟨q, hq⟩ : ∃ q, q = v / b := ⟨_, rfl⟩
      obtain ⟨m, hm⟩ : ∃ m, m = v % b := ⟨_, rfl⟩
      rw [← hq] at hstep hqlt
      rw [← hm] at hstep
      have hmb : m < b := by rw [hm]; exact Nat.mod_lt _ hb0
      have w1 : IntKind.u64.wrap ((r : Int) * 4294967296) = (r : Int) * 4294967296 := by rw [IntKind.wrap_u64]; omega
      have w2 : IntKind.u64.wrap (x1 : Int) = (x1 : Int) := by rw [IntKind.wrap_u64]; omega
      have w3 : IntKind.u64.wrap (b : Int) = (b : Int) := by rw [IntKind.wrap_u64]; omega
      have w4 : (v : Int) / (b : Int) = (q : Int) := by rw [hq]; simp
      have w5 : (v : Int) % (b : Int) = (m : Int) := by rw [hm]; simp
      have w6 : IntKind.u32.wrap (q : Int) = (q : Int) := by rw [IntKind.wrap_u32]; omega
      have s1 : IntKind.i64.wrap ((j : Int) - 1) = (j : Int) - 1 := IntWalk.i64_in _ (by omega)
      have t1 : ((b : Int) == 0) = false := by rw [beq_eq_false_iff_ne]; omega
      have t2 : ¬ (b : Int) = 0 := by omega
      have t3 : ¬ b = 0 := by omega
      have t4 : j < n := by omega
      clear hx1 hv hq hm hT1 hO1 hB1 hsz1
      go_wp2
      refine ⟨⟨j, m, _, by omega, rfl, congrArg (Value.int .u64) w5, hstep, hown.store j q, ?_, ?_, hb.setCell (p := ⟨w.heap.size + 1, j, none⟩) (by simp) _⟩, ?_⟩
      · rw [set_heap _ (by simp)]; exact hT
      · simp; omega
      · simp only [intOf]; omega

theorem ref_short {A n c} {x b : Nat} {P} {w : World} (h : R32 w P ⟨A, n, c⟩ (limbs 4294967296 x)) (hn : n ≤ 1000000000) (hb0 : 0 < b) (hb1 : b < 4294967296) :
    Calls Tryz.prog 41 #[.slice A n c, .int .u32 (b : Int)] w fun e w' => ∃ q r, e = .returned (.agg #[q, r]) ∧ CanR w' q (x / b) n ∧ CanR w' r (x % b) 1 ∧ Below w.heap.size w w' := by
  refine (ref_short_new h hn hb0 hb1).mono ?_
  rintro e w' ⟨Aq, nq, cq, Ar, nr, cr, rfl, h1, h2, hb⟩
  refine ⟨_, _, rfl, CanR.of h1 (Nat.lt_of_le_of_lt (Nat.div_le_self _ _) ?_), CanR.of h2 ?_, hb⟩
  · have h3 := h.rd.len
    simp only at h3
    exact lt_of_limbs_len B32 (by omega)
  · have := Nat.mod_lt x hb0
    omega
end Go.Proofs.YtphiglbieffbjaaGreatDoor
