/- Contract: gessoref01's DivMod. -/
import Derived.Test.YtphiglbieffbjaaGreatDoorUi
namespace Go.Proofs.YtphiglbieffbjaaGreatDoor
open Go.RowKit Gs
set_option linter.unusedVariables false

set_option maxRecDepth 100000 in
set_option maxHeartbeats 1000000 in
theorem ref_DivMod_less {a b : Value} {x y K K' : Nat} {w : World} (h : CanR w a x K) (h' : CanR w b y K') (hK : K ≤ 1000000) (hK' : K' ≤ 1000000) (hlt : x < y) :
    Calls Tryz.prog 15 #[a, b] w fun e w' => ∃ q r, e = .returned (.agg #[q, r]) ∧ CanR w' q (x / y) K ∧ CanR w' r (x % y) K ∧ Below w.heap.size w w' := by
  have ha := h
  obtain ⟨A, n, c, rfl, hr, hn⟩ := h
  have hal : Below w.heap.size w (w.alloc (.cells #[.slice none 0 0, .slice none 0 0] 40)) := (Below.refl _ w).alloc (Nat.le_refl _) _
  have kc := call_RCmp (ha.below hal) (h'.below hal) hK hK' (cmpI_lt hlt)
  have KC := Lib.hid kc
  have HD := Lib.hid (Nat.div_eq_of_lt hlt)
  have HM := Lib.hid (Nat.mod_eq_of_lt hlt)
  have hT : (w.alloc (.cells #[.slice none 0 0, .slice none 0 0] 40)).heap[w.heap.size]? = some (.cells #[.slice none 0 0, .slice none 0 0] 40 (0, 0)) := heap_alloc_new w _
  have hra : R32 w (fun j => j < w.heap.size) ⟨A, n, c⟩ (limbs 4294967296 x) := ⟨hr.rd.lt.mono (fun b hb => hb.2), hr.lt⟩
  obtain ⟨W, hW⟩ : ∃ W, W = w.alloc (.cells #[.slice none 0 0, .slice none 0 0] 40) := ⟨_, rfl⟩
  rw [← hW] at hal KC hT
  have hsz : w.heap.size < W.heap.size := by rw [hW]; simp
  have HW := Lib.hid hW
  clear kc hlt hr
  go_enter Tryz.func15, Tryz.ntmps15
  go_wp2_with fail
  rw [← hW]
  refine KC.out.mono ?_
  rintro e w1 ⟨rfl, hb1⟩
  have hT1 := (hb1.block _ hsz).trans hT
  obtain ⟨hc0, hc1⟩ := two_at hT1
  have hf0 : w1.frozen? ⟨w.heap.size, 0, none⟩ = false := by simp [World.frozen?, hT1]
  have hf1 : w1.frozen? ⟨w.heap.size, 1, none⟩ = false := by simp [World.frozen?, hT1]
  have hTT := fun p q => two_at (two_cells hT1 p q)
  have hb0 : Below w.heap.size w w1 := Gs.Below.then hal hal.size hb1
  have hr2 := hra.below hb0
  have hrs := fun p q => R32.store2 hr2 (b := w.heap.size) (fun j hj => by omega) p q
  clear hW hr2 hra
  go_wp2
  obtain ⟨QV, hQV⟩ : ∃ QV, QV = Value.slice none 0 0 := ⟨_, rfl⟩
  obtain ⟨RV, hRV⟩ : ∃ RV, RV = Value.slice A n c := ⟨_, rfl⟩
  have hd0 := (hTT QV RV).1
  have hd1 := (hTT QV RV).2
  have hrs2 := hrs QV RV
  rw [← hQV, ← hRV]
  refine bodyPost_ret (v := .agg #[QV, RV]) (by simp [results, Tryz.f15, go_sem, hd0, hd1]) rfl ?_
  subst hQV hRV
  refine ⟨_, _, rfl, ?_, ?_, (hb0.setCell (p := ⟨w.heap.size, 0, none⟩) (Nat.le_refl _) _).setCell (p := ⟨w.heap.size, 1, none⟩) (Nat.le_refl _) _⟩
  · rw [HD.out]
    exact CanR.nil _ _
  · rw [HM.out]
    exact ⟨A, n, c, rfl, hrs2.mono fun _ _ => trivial, hn⟩

set_option maxRecDepth 100000 in
set_option maxHeartbeats 1000000 in
theorem ref_DivMod_one {a b : Value} {x y K : Nat} {w : World} (h : CanR w a x K) (h' : CanR w b y 1) (hK : K ≤ 1000000) (hy : 0 < y) (hle : y ≤ x) :
    Calls Tryz.prog 15 #[a, b] w fun e w' => ∃ q r, e = .returned (.agg #[q, r]) ∧ CanR w' q (x / y) K ∧ CanR w' r (x % y) K ∧ Below w.heap.size w w' := by
  have hy32 : y < 4294967296 := by have := h'.lt; omega
  have hxK := h.lt
  have hK1 : 1 ≤ K := by
    rcases Nat.eq_zero_or_pos K with h0 | h0
    · subst h0; rw [Nat.pow_zero] at hxK; omega
    · exact h0
  have ha := h
  have hb := h'
  obtain ⟨A, n, c, rfl, hr, hn⟩ := h
  obtain ⟨A', n', c', rfl, hr', hn'⟩ := h'
  have hly : limbs 4294967296 y = [y] := limbs_eq B32 (Lt.cons hy32 (Lt.nil _)) (by intro x hx; simp at hx; omega) (by simp [val])
  rw [hly] at hr'
  obtain rfl : n' = 1 := hr'.rd.len.symm
  have hal : Below w.heap.size w (w.alloc (.cells #[.slice none 0 0, .slice none 0 0] 40)) := (Below.refl _ w).alloc (Nat.le_refl _) _
  have hzz : ∃ z : Int, cmpI (x : Nat) (y : Nat) = z ∧ ¬ z < 0 := ⟨_, rfl, by unfold cmpI; rw [if_neg (by omega)]; split <;> omega⟩
  obtain ⟨z, hz, hz0⟩ := hzz
  have kc := call_RCmp (ha.below hal) (hb.below hal) hK (by decide) hz
  have KC := Lib.hid kc
  have hT : (w.alloc (.cells #[.slice none 0 0, .slice none 0 0] 40)).heap[w.heap.size]? = some (.cells #[.slice none 0 0, .slice none 0 0] 40 (0, 0)) := heap_alloc_new w _
  obtain ⟨W, hW⟩ : ∃ W, W = w.alloc (.cells #[.slice none 0 0, .slice none 0 0] 40) := ⟨_, rfl⟩
  rw [← hW] at hal KC hT
  have hsz : w.heap.size < W.heap.size := by rw [hW]; simp
  have HXK := Lib.hid hxK
  clear kc hly ha hb hz hxK
  go_enter Tryz.func15, Tryz.ntmps15
  go_wp2_with fail
  rw [← hW]
  refine KC.out.mono ?_
  rintro e w1 ⟨rfl, hb1⟩
  have hT1 := (hb1.block _ hsz).trans hT
  have hb0 : Below w.heap.size w w1 := Gs.Below.then hal hal.size hb1
  obtain ⟨ad, e, hcy⟩ := (hr'.below hb0).rd.at 0 (by show 0 < 1; omega)
  simp only at e
  subst e
  rw [show ad.add 0 = ad by unfold Addr.add; rw [if_pos rfl], show gd [y] 0 = y from rfl] at hcy
  have hr1 := hr.below hb0
  have hsz1 : w.heap.size < w1.heap.size := Nat.lt_of_lt_of_le hsz hb1.size
  have ks := ref_short_new hr1 (by omega) hy hy32
  have KS := Lib.hid ks
  clear hW ks hr hr'
  go_wp2_with fail
  refine KS.out.mono ?_
  rintro e w2 ⟨Aq, nq, cq, Ar, nr, cr, rfl, hq, hrr, hb2⟩
  have hT2 := (hb2.block _ hsz1).trans hT1
  obtain ⟨hc0, hc1⟩ := two_at hT2
  have hf0 : w2.frozen? ⟨w.heap.size, 0, none⟩ = false := by simp [World.frozen?, hT2]
  have hf1 : w2.frozen? ⟨w.heap.size, 1, none⟩ = false := by simp [World.frozen?, hT2]
  have hTT := fun p q => two_at (two_cells hT2 p q)
  have hqs := fun p q => R32.store2 hq (b := w.heap.size) (fun j hj => by omega) p q
  have hrs := fun p q => R32.store2 hrr (b := w.heap.size) (fun j hj => by omega) p q
  have hb20 : Below w.heap.size w w2 := Gs.Below.then hb0 hb0.size hb2
  clear hq hrr
  go_wp2
  obtain ⟨QV, hQV⟩ : ∃ QV, QV = Value.slice Aq nq cq := ⟨_, rfl⟩
  obtain ⟨RV, hRV⟩ : ∃ RV, RV = Value.slice Ar nr cr := ⟨_, rfl⟩
  have hd0 := (hTT QV RV).1
  have hd1 := (hTT QV RV).2
  have hqs2 := hqs QV RV
  have hrs2 := hrs QV RV
  rw [← hQV, ← hRV]
  refine bodyPost_ret (v := .agg #[QV, RV]) (by simp [results, Tryz.f15, go_sem, hd0, hd1]) rfl ?_
  subst hQV hRV
  refine ⟨_, _, rfl, ?_, ?_, (hb20.setCell (p := ⟨w.heap.size, 0, none⟩) (Nat.le_refl _) _).setCell (p := ⟨w.heap.size, 1, none⟩) (Nat.le_refl _) _⟩
  · exact CanR.of hqs2 (Nat.lt_of_le_of_lt (Nat.div_le_self _ _) HXK.out)
  · exact CanR.of hrs2 (Nat.lt_of_le_of_lt (Nat.mod_le _ _) HXK.out)
end Go.Proofs.YtphiglbieffbjaaGreatDoor
