/- Contract: gessoref01's DivMod, by two limbs or more. -/
import Derived.Test.YtphiglbieffbjaaGreatDoorUj
namespace Go.Proofs.YtphiglbieffbjaaGreatDoor
open Go.RowKit Gs
set_option linter.unusedVariables false

set_option maxRecDepth 100000 in
set_option maxHeartbeats 8000000 in
theorem ref_DivMod_long {A n c A' n' c'} {x y N : Nat} {P P'} {w : World} (h : R32 w P ⟨A, n, c⟩ (limbs 4294967296 x)) (h' : R32 w P' ⟨A', n', c'⟩ (limbs 4294967296 y)) (hn : n ≤ 1000) (hN : n' ≤ N) (hN2 : N ≤ 1000) (hn2 : 2 ≤ n') (hle : y ≤ x) :
    Calls Tryz.prog 15 #[.slice A n c, .slice A' n' c'] w fun e w' => ∃ q r, e = .returned (.agg #[q, r]) ∧ CanR w' q (x / y) n ∧ CanR w' r (x % y) N ∧ Below w.heap.size w w' := by
  have hl : (limbs 4294967296 x).length = n := h.rd.len
  have hm : (limbs 4294967296 y).length = n' := h'.rd.len
  have hx := val_limbs B32 x
  have hyN : y < 4294967296 ^ N := lt_of_limbs_len B32 (by omega)
  have hy0 : 0 < y := by
    rcases Nat.eq_zero_or_pos y with h0 | h0
    · rw [h0] at hm; simp [limbs_zero] at hm; omega
    · exact h0
  have haA : CanR w (.slice A n c) x n := ⟨A, n, c, rfl, h.mono fun _ _ => trivial, Nat.le_refl _⟩
  have hbB : CanR w (.slice A' n' c') y N := ⟨A', n', c', rfl, h'.mono fun _ _ => trivial, hN⟩
  have hbR : R32 w (fun j => True) ⟨A', n', c'⟩ (limbs 4294967296 y) := h'.mono fun _ _ => trivial
  have hal : Below w.heap.size w (w.alloc (.cells #[.slice none 0 0, .slice none 0 0] 40)) := (Below.refl _ w).alloc (Nat.le_refl _) _
  obtain ⟨z, hz, hz0⟩ : ∃ z : Int, cmpI (x : Nat) (y : Nat) = z ∧ ¬ z < 0 := ⟨_, rfl, by unfold cmpI; rw [if_neg (by omega)]; split <;> omega⟩
  have kc := call_RCmp (haA.below hal) (hbB.below hal) (by omega) (by omega) hz
  have KC := Lib.hid kc
  have hT : (w.alloc (.cells #[.slice none 0 0, .slice none 0 0] 40)).heap[w.heap.size]? = some (.cells #[.slice none 0 0, .slice none 0 0] 40 (0, 0)) := heap_alloc_new w _
  obtain ⟨W, hW⟩ : ∃ W, W = w.alloc (.cells #[.slice none 0 0, .slice none 0 0] 40) := ⟨_, rfl⟩
  rw [← hW] at hal KC hT
  have hsz : w.heap.size < W.heap.size := by rw [hW]; simp
  obtain ⟨l, hl0⟩ : ∃ l, l = limbs 4294967296 x := ⟨_, rfl⟩
  rw [← hl0] at h hl hx
  have HX := Lib.hid hx
  have HL := Lib.hid hl
  have HYN := Lib.hid hyN
  have km := make_num (P := Tryz.prog) 28 58 .u32 4 Tryz.underlying28 info_u32 (by decide) n (by omega)
  have s0 : IntKind.i64.wrap ((n : Int) - 1) = (n : Int) - 1 := IntWalk.i64_in _ (by omega)
  have tn : ((n' : Int) == 1) = false := by rw [beq_eq_false_iff_ne]; omega
  have tn2 : ¬ (n' : Int) = 1 := by omega
  clear kc hz hl0 hl hm hx hyN
  go_enter Tryz.func15, Tryz.ntmps15
  go_wp2_with fail
  rw [← hW]
  refine KC.out.mono ?_
  rintro e w1 ⟨rfl, hb1⟩
  have hT1 := (hb1.block _ hsz).trans hT
  have hbw1 : Below w.heap.size w w1 := Gs.Below.then hal hal.size hb1
  have hsz1 : w.heap.size < w1.heap.size := Nat.lt_of_lt_of_le hsz hb1.size
  clear hW hal hT hsz hb1
  go_wp2
  obtain ⟨W2, hW2⟩ : ∃ W2, W2 = w1.alloc (.cells (nums .u32 (List.replicate n 0)).toArray 58) := ⟨_, rfl⟩
  rw [← hW2]
  have hO2 : OwnN .u32 W2 w1.heap.size 58 ⟨some ⟨w1.heap.size, 0, none⟩, n, n⟩ (List.replicate n 0) := by
    rw [hW2]
    have := OwnN.made .u32 w1 w1.heap.size 58 (List.replicate n 0) (Nat.le_refl _) (by simp; omega)
    simpa using this
  have hT2 : W2.heap[w.heap.size]? = some (.cells #[.slice none 0 0, .slice none 0 0] 40 (0, 0)) := by rw [hW2]; exact (Below.heap_alloc _ _ _ hsz1).trans hT1
  have hb2 : Below w.heap.size w W2 := by rw [hW2]; exact hbw1.alloc hbw1.size _
  have hsz2 : w1.heap.size < W2.heap.size := by rw [hW2]; simp
  clear hW2 km hT1 hbw1
  go_loopw [6, 7] (fun rv iv wr => ∃ (i r : Nat) (o : List Nat) (Ar : Option Addr) (nr cr : Nat), i ≤ n ∧ iv = .int .i64 ((i : Int) - 1) ∧ rv = .slice Ar nr cr ∧ R32 wr (fun j => w1.heap.size < j) ⟨Ar, nr, cr⟩ (limbs 4294967296 r) ∧ Hid (RShort l y i r o) ∧ Hid (∀ k, k < i → gd o k = 0) ∧ OwnN .u32 wr w1.heap.size 58 ⟨some ⟨w1.heap.size, 0, none⟩, n, n⟩ o ∧ wr.heap[w.heap.size]? = some (.cells #[.slice none 0 0, .slice none 0 0] 40 (0, 0)) ∧ w.heap.size < wr.heap.size ∧ w1.heap.size < wr.heap.size ∧ Below w.heap.size w wr) (fun _ iv _ => (intOf iv + 1).toNat)
  case atStart =>
    refine ⟨n, 0, List.replicate n 0, none, 0, 0, Nat.le_refl _, rfl, rfl, ⟨RdN.nil _ _ _ 0 (by omega) _, Lt.nil _⟩, Lib.hid ?_, Lib.hid (fun k _ => gd_replicate _ k), hO2, hT2, by omega, hsz2, hb2⟩
    have := RShort.start l hy0
    rwa [HL.out] at this
  case round =>
    obtain ⟨i, r, o, Ar, nr, cr, hi, rfl, rfl, hr, hinv, hzer, hown, hT, hszr, hszr2, hb⟩ := hrel
    clear hO2 hT2 hb2 hsz2
    cases i with
    | zero =>
      obtain ⟨hq, hrr⟩ := hinv.out.last
      rw [HX.out] at hq hrr
      have hrd : R32 wr (fun j => w1.heap.size ≤ j) ⟨some ⟨w1.heap.size, 0, none⟩, n, n⟩ o := ⟨hown.rd, hinv.out.lt⟩
      have hqt := hrd.trim
      rw [hq] at hqt
      rw [hrr] at hr
      have HQ := Lib.hid hqt
      have HR := Lib.hid hr
      clear hq hrr hqt hr
      obtain ⟨hc0, hc1⟩ := two_at hT
      have hf0 : wr.frozen? ⟨w.heap.size, 0, none⟩ = false := by simp [World.frozen?, hT]
      have hf1 : wr.frozen? ⟨w.heap.size, 1, none⟩ = false := by simp [World.frozen?, hT]
      have hTT := fun p q => two_at (two_cells hT p q)
      have hqs := fun p q => R32.store2 HQ.out (b := w.heap.size) (fun j hj => by omega) p q
      have hrs := fun p q => R32.store2 HR.out (b := w.heap.size) (fun j hj => by omega) p q
      go_wp2_with fail
      refine (ref_trim hrd (by omega)).mono ?_
      rintro e w6 ⟨rfl, rfl⟩
      go_wp2
      obtain ⟨QV, hQV⟩ : ∃ QV, QV = Value.slice (some ⟨w1.heap.size, 0, none⟩) (nl2 o) n := ⟨_, rfl⟩
      obtain ⟨RV, hRV⟩ : ∃ RV, RV = Value.slice Ar nr cr := ⟨_, rfl⟩
      have hd0 := (hTT QV RV).1
      have hd1 := (hTT QV RV).2
      have hqs2 := hqs QV RV
      have hrs2 := hrs QV RV
      rw [← hQV, ← hRV]
      refine bodyPost_ret (v := .agg #[QV, RV]) (by simp [results, Tryz.f15, go_sem, hd0, hd1]) rfl ?_
      subst hQV hRV
      have hxn : x < 4294967296 ^ n := by rw [← HX.out, ← HL.out]; exact val_lt h.lt
      exact ⟨_, _, rfl, CanR.of hqs2 (Nat.lt_of_le_of_lt (Nat.div_le_self _ _) hxn), CanR.of hrs2 (Nat.lt_trans (Nat.mod_lt _ hy0) HYN.out), (hb.setCell (p := ⟨w.heap.size, 0, none⟩) (Nat.le_refl _) _).setCell (p := ⟨w.heap.size, 1, none⟩) (Nat.le_refl _) _⟩
    | succ j =>
      have e2 : ((j + 1 : Nat) : Int) - 1 = (j : Int) := by omega
      rw [e2]
      have sj : IntKind.i64.wrap ((j : Int) - 1) = (j : Int) - 1 := IntWalk.i64_in _ (by omega)
      obtain ⟨ad, e, hc⟩ := (h.rd.below hb).at j (by show j < n; omega)
      simp only at e
      subst e
      have hst := hinv.out.stepY h.lt (by rw [HL.out]; omega)
      have ha0 := h.lt.gd (by omega) j
      have hry := hinv.out.rl
      obtain ⟨a0, hA0⟩ : ∃ a0, a0 = gd l j := ⟨_, rfl⟩
      rw [← hA0] at hc ha0 hst
      obtain ⟨X', hX'⟩ : ∃ X', X' = r * 4294967296 + a0 := ⟨_, rfl⟩
      rw [← hX'] at hst
      have HXX := Lib.hid hX'
      have hnr := hr.rd.len
      simp only at hnr
      have hnr2 : (limbs 4294967296 r).length = nr := hnr
      have hnrN : nr ≤ N := by rw [← hnr]; exact limbs_len_le B32 (Nat.lt_trans hry HYN.out)
      have HXN := Lib.hid (show X' < 4294967296 ^ (N + 1) by
        rw [hX', Nat.pow_succ]
        have h1 : (r + 1) * 4294967296 ≤ 4294967296 ^ N * 4294967296 := Nat.mul_le_mul_right _ (Nat.lt_trans hry HYN.out)
        omega)
      have tj : j < n := by omega
      clear hA0 hX'
      cases Ar with
      | none =>
        obtain rfl : nr = 0 := by
          rcases Nat.eq_zero_or_pos nr with h1 | h1
          · exact h1
          · obtain ⟨ad0, e0, _⟩ := hr.rd.cells h1
            cases e0
        have hown1 : OwnN .u32 (wr.alloc (.cells (nums .u32 [a0]).toArray 58)) wr.heap.size 58 ⟨some ⟨wr.heap.size, 0, none⟩, 1, 1⟩ (a0 :: limbs 4294967296 r) := by
          rw [List.length_eq_zero_iff.1 hnr]
          exact OwnN.made .u32 wr wr.heap.size 58 [a0] (Nat.le_refl _) (by simp)
        have hb1 : Below wr.heap.size wr (wr.alloc (.cells (nums .u32 [a0]).toArray 58)) := (Below.refl _ wr).alloc (Nat.le_refl _) _
        obtain ⟨v1, hv1⟩ : ∃ v1 : Sl, v1 = ⟨some ⟨wr.heap.size, 0, none⟩, 1, 1⟩ := ⟨_, rfl⟩
        obtain ⟨w5, hw5⟩ : ∃ w5, w5 = wr.alloc (.cells (nums .u32 [a0]).toArray 58) := ⟨_, rfl⟩
        rw [← hv1, ← hw5] at hown1
        rw [← hw5] at hb1
        have HV1 := Lib.hid hv1
        have HW5 := Lib.hid hw5
        have hgoal : ∀ R, Calls Tryz.prog 42 #[.slice v1.A v1.n v1.c] w5 R → Calls Tryz.prog 42 #[.slice (some ⟨wr.heap.size, 0, none⟩) 1 1] (wr.alloc (.cells (nums .u32 [a0]).toArray 58)) R := by
          intro R hR
          rw [hv1, hw5] at hR
          exact hR
        clear hv1 hw5
        go_wp2_with fail
        refine hgoal _ ?_
        clear hgoal
        have hval : val 4294967296 (a0 :: limbs 4294967296 r) = X' := by rw [val_cons, val_limbs B32]; have := HXX.out; omega
        have hrd : R32 w5 (fun j => wr.heap.size ≤ j) v1 (a0 :: limbs 4294967296 r) := ⟨hown1.rd, Lt.cons ha0 (limbs_lt B32 r)⟩
        have hv1n := hown1.len
        have hvn : v1.n ≤ 281474976710656 := by rw [← hv1n, List.length_cons, hnr2]; omega
        have hrt := hrd.trim
        rw [hval] at hrt
        have HRT := Lib.hid hrt
        clear hrt hval hv1n
        refine (ref_trim hrd hvn).mono ?_
        rintro e w6 ⟨rfl, rfl⟩
        have hX5 : CanR w5 (.slice v1.A (nl2 (a0 :: limbs 4294967296 r)) v1.c) X' (N + 1) := CanR.of HRT.out HXN.out
        have hb5 : Below w.heap.size w w5 := Gs.Below.then hb hb.size hb1
        have hB5 := hbB.below hb5
        have hown5 := hown.below hb1
        have hT5 := (hb1.block _ hszr).trans hT
        have hsz5 : w1.heap.size < w5.heap.size := Nat.lt_of_lt_of_le hszr2 hb1.size
        by_cases hlt : X' < y
        · have hq0 : X' / y = 0 := Nat.div_eq_of_lt hlt
          have hm0 : X' % y = X' := Nat.mod_eq_of_lt hlt
          have HZ := Lib.hid (cmpI_lt hlt)
          have hst2 := hst
          rw [hq0, hm0, set_same (by have := hown.len; simp only at this; omega) (hzer.out j (by omega))] at hst2
          have HST := Lib.hid hst2
          clear hst2 hst hq0 hm0 hlt
          go_wp2_with fail
          refine (call_RCmp hX5 hB5 (by omega) (by omega) HZ.out).mono ?_
          rintro e w7 ⟨rfl, hb7⟩
          have hr7 := HRT.out.below hb7
          have hown7 := hown5.below hb7
          have hT7 := (hb7.block _ (by omega)).trans hT5
          have hs7 := hb7.size
          have hbs7 := hb1.size
          go_wp2
          refine ⟨⟨j, X', o, v1.A, _, v1.c, by omega, rfl, rfl, hr7.mono (fun b hb => by omega), HST, Lib.hid (fun k hk => hzer.out k (by omega)), hown7, hT7, by omega, by omega, Gs.Below.then hb5 hb5.size hb7⟩, ?_⟩
          simp only [intOf]; omega
        · have hge : y ≤ X' := by omega
          obtain ⟨z, hz, hz0⟩ : ∃ z : Int, cmpI (X' : Nat) (y : Nat) = z ∧ ¬ z < 0 := ⟨_, rfl, by unfold cmpI; rw [if_neg (by omega)]; split <;> omega⟩
          have HZ := Lib.hid hz
          have hXy : X' < y * 4294967296 := by
            have h1 := HXX.out
            have h2 : (r + 1) * 4294967296 ≤ y * 4294967296 := Nat.mul_le_mul_right _ hry
            omega
          have HGE := Lib.hid hge
          have HXY := Lib.hid hXy
          clear hz hlt hge hXy
          go_wp2_with fail
          refine (call_RCmp hX5 hB5 (by omega) (by omega) HZ.out).mono ?_
          rintro e w7 ⟨rfl, hb7⟩
          have hr7 := HRT.out.below hb7
          have hown7 := hown5.below hb7
          have hT7 := (hb7.block _ (by omega)).trans hT5
          have hb70 : Below w.heap.size w w7 := Gs.Below.then hb5 hb5.size hb7
          have hB7 := hbR.below hb70
          have hs7 := hb7.size
          have hs1 := hb1.size
          have hnlX := hr7.rd.len
          simp only at hnlX
          have hnl : nl2 (a0 :: limbs 4294967296 r) ≤ N + 1 := by rw [← hnlX]; exact limbs_len_le B32 HXN.out
          clear hnlX
          go_wp2_with fail
          refine (ref_guess hr7 hB7 (by omega) HGE.out HXY.out (by omega)).mono ?_
          rintro e w8 ⟨rfl, hb8⟩
          have hr8 := hr7.below hb8
          have hown8 := hown7.below hb8
          have hT8 := (hb8.block _ (by omega)).trans hT7
          have hb80 : Below w.heap.size w w8 := Gs.Below.then hb70 hb70.size hb8
          have hs8 := hb8.size
          obtain ⟨d, hd⟩ : ∃ d, d = X' / y := ⟨_, rfl⟩
          rw [← hd] at hst ⊢
          have hdlt : d < 4294967296 := by
            rw [hd, Nat.div_lt_iff_lt_mul hy0, Nat.mul_comm]
            exact HXY.out
          have hd1 : 1 ≤ d := by rw [hd]; exact (Nat.one_le_div_iff hy0).2 HGE.out
          have hdm : X' - y * d = X' % y := by
            have := Nat.div_add_mod X' y
            rw [hd]
            omega
          have hdle : y * d ≤ X' := by rw [hd]; exact Nat.mul_div_le X' y
          obtain ⟨hco, hfo⟩ := hown8.at j (by omega)
          have hown9 := hown8.store j d
          have hb90 : Below w.heap.size w (w8.setCell ⟨w1.heap.size, j, none⟩ (.int .u32 (d : Int))) := hb80.setCell (p := ⟨w1.heap.size, j, none⟩) (by simp; omega) _
          have hr9 : R32 (w8.setCell ⟨w1.heap.size, j, none⟩ (.int .u32 (d : Int))) (fun j => wr.heap.size ≤ j) ⟨v1.A, nl2 (a0 :: limbs 4294967296 r), v1.c⟩ (limbs 4294967296 X') := ⟨hr8.rd.keep fun b hb _ => set_heap _ (by simp; omega), hr8.lt⟩
          have hT9 : (w8.setCell ⟨w1.heap.size, j, none⟩ (.int .u32 (d : Int))).heap[w.heap.size]? = some (.cells #[.slice none 0 0, .slice none 0 0] 40 (0, 0)) := (set_heap _ (by simp; omega)).trans hT8
          have hsz9 : (w8.setCell ⟨w1.heap.size, j, none⟩ (.int .u32 (d : Int))).heap.size = w8.heap.size := by simp
          obtain ⟨W9, hW9⟩ : ∃ W9, W9 = w8.setCell ⟨w1.heap.size, j, none⟩ (.int .u32 (d : Int)) := ⟨_, rfl⟩
          rw [← hW9] at hown9 hb90 hr9 hT9 hsz9
          have hld : limbs 4294967296 d = [d] := limbs_eq B32 (Lt.cons hdlt (Lt.nil _)) (by intro x hx; simp at hx; omega) (by simp [val])
          have hDD : CanR (W9.alloc (.cells (nums .u32 [d]).toArray 58)) (.slice (some ⟨W9.heap.size, 0, none⟩) 1 1) d 1 :=
            ⟨_, _, _, rfl, by rw [hld]; exact ⟨(OwnN.made .u32 W9 0 58 [d] (Nat.zero_le _) (by simp)).rd.mono (fun _ _ => trivial), Lt.cons hdlt (Lt.nil _)⟩, Nat.le_refl _⟩
          rw [hsz9] at hDD
          have hal9 : Below W9.heap.size W9 (W9.alloc (.cells (nums .u32 [d]).toArray 58)) := (Below.refl _ W9).alloc (Nat.le_refl _) _
          have hB9 := (hbB.below hb90).below hal9
          have HDM := Lib.hid hdm
          have HDL := Lib.hid hdle
          have HST := Lib.hid hst
          have hwd : IntKind.u32.wrap (d : Int) = (d : Int) := by rw [IntKind.wrap_u32]; omega
          have HW9 := Lib.hid hW9
          clear hst hd hdm hdle hld hr8 hown8 hT8 hb80 hr7 hown7 hT7 hb70 hB7 hW9
          go_wp2_with fail
          rw [← HW9.out]
          refine (call_RMul hB9 hDD (by omega) (by decide)).mono ?_
          rintro e w10 ⟨m1, rfl, hm1, hb10⟩
          have hb10' : Below W9.heap.size W9 w10 := Gs.Below.un hb10
          have hr10 := hr9.below hb10'
          have hown10 := hown9.below hb10'
          have hT10 := (hb10'.block _ (by omega)).trans hT9
          have hs10 := hb10'.size
          obtain ⟨Am, nm, cm, rfl, hmm, hnm⟩ := hm1
          have hb100 : Below w.heap.size w w10 := Gs.Below.then hb90 hb90.size hb10'
          clear hr9 hown9 hT9 hb10 hb10' hDD hB9 hal9
          go_wp2_with fail
          refine (ref_Sub hr10 hmm (by omega) HDL.out).mono ?_
          rintro e w11 ⟨As, ns, cs, rfl, hs, hb11⟩
          rw [HDM.out] at hs
          have hown11 := hown10.below hb11
          have hT11 := (hb11.block _ (by omega)).trans hT10
          have hs11 := hb11.size
          go_wp2
          refine ⟨⟨j, X' % y, o.set j d, As, ns, cs, by omega, rfl, rfl, hs.mono (fun b hb => by omega), HST, Lib.hid (fun k hk => by rw [gd_set_ne (by omega)]; exact hzer.out k (by omega)), hown11, hT11, by omega, by omega, Gs.Below.then hb100 hb100.size hb11⟩, ?_⟩
          simp only [intOf]; omega
      | some adr =>
        go_wp2_with (at_builtin; refine appendN (w0 := wr) wr.heap.size rfl (.tmp 37) (.tmp 38) 28 58 .u32 4 rfl Tryz.underlying28 info_u32 (by decide) ⟨some ⟨wr.heap.size, 0, none⟩, 1, 1⟩ [a0] adr nr cr (limbs 4294967296 r) rfl rfl (OwnN.made .u32 wr wr.heap.size 58 [a0] (Nat.le_refl _) (by simp)) (hr.rd.below ((Below.refl _ wr).alloc (Nat.le_refl _) _)) ((Below.refl _ wr).alloc (Nat.le_refl _) _) (by simp) (by simp; omega) ?_; intro v1 w5 hown1 hb1)
        rw [List.singleton_append] at hown1
        have hval : val 4294967296 (a0 :: limbs 4294967296 r) = X' := by rw [val_cons, val_limbs B32]; have := HXX.out; omega
        have hrd : R32 w5 (fun j => wr.heap.size ≤ j) v1 (a0 :: limbs 4294967296 r) := ⟨hown1.rd, Lt.cons ha0 (limbs_lt B32 r)⟩
        have hv1n := hown1.len
        have hvn : v1.n ≤ 281474976710656 := by rw [← hv1n, List.length_cons, hnr2]; omega
        have hrt := hrd.trim
        rw [hval] at hrt
        have HRT := Lib.hid hrt
        clear hrt hval hv1n
        refine (ref_trim hrd hvn).mono ?_
        rintro e w6 ⟨rfl, rfl⟩
        have hX5 : CanR w5 (.slice v1.A (nl2 (a0 :: limbs 4294967296 r)) v1.c) X' (N + 1) := CanR.of HRT.out HXN.out
        have hb5 : Below w.heap.size w w5 := Gs.Below.then hb hb.size hb1
        have hB5 := hbB.below hb5
        have hown5 := hown.below hb1
        have hT5 := (hb1.block _ hszr).trans hT
        have hsz5 : w1.heap.size < w5.heap.size := Nat.lt_of_lt_of_le hszr2 hb1.size
        by_cases hlt : X' < y
        · have hq0 : X' / y = 0 := Nat.div_eq_of_lt hlt
          have hm0 : X' % y = X' := Nat.mod_eq_of_lt hlt
          have HZ := Lib.hid (cmpI_lt hlt)
          have hst2 := hst
          rw [hq0, hm0, set_same (by have := hown.len; simp only at this; omega) (hzer.out j (by omega))] at hst2
          have HST := Lib.hid hst2
          clear hst2 hst hq0 hm0 hlt
          go_wp2_with fail
          refine (call_RCmp hX5 hB5 (by omega) (by omega) HZ.out).mono ?_
          rintro e w7 ⟨rfl, hb7⟩
          have hr7 := HRT.out.below hb7
          have hown7 := hown5.below hb7
          have hT7 := (hb7.block _ (by omega)).trans hT5
          have hs7 := hb7.size
          have hbs7 := hb1.size
          go_wp2
          refine ⟨⟨j, X', o, v1.A, _, v1.c, by omega, rfl, rfl, hr7.mono (fun b hb => by omega), HST, Lib.hid (fun k hk => hzer.out k (by omega)), hown7, hT7, by omega, by omega, Gs.Below.then hb5 hb5.size hb7⟩, ?_⟩
          simp only [intOf]; omega
        · have hge : y ≤ X' := by omega
          obtain ⟨z, hz, hz0⟩ : ∃ z : Int, cmpI (X' : Nat) (y : Nat) = z ∧ ¬ z < 0 := ⟨_, rfl, by unfold cmpI; rw [if_neg (by omega)]; split <;> omega⟩
          have HZ := Lib.hid hz
          have hXy : X' < y * 4294967296 := by
            have h1 := HXX.out
            have h2 : (r + 1) * 4294967296 ≤ y * 4294967296 := Nat.mul_le_mul_right _ hry
            omega
          have HGE := Lib.hid hge
          have HXY := Lib.hid hXy
          clear hz hlt hge hXy
          go_wp2_with fail
          refine (call_RCmp hX5 hB5 (by omega) (by omega) HZ.out).mono ?_
          rintro e w7 ⟨rfl, hb7⟩
          have hr7 := HRT.out.below hb7
          have hown7 := hown5.below hb7
          have hT7 := (hb7.block _ (by omega)).trans hT5
          have hb70 : Below w.heap.size w w7 := Gs.Below.then hb5 hb5.size hb7
          have hB7 := hbR.below hb70
          have hs7 := hb7.size
          have hs1 := hb1.size
          have hnlX := hr7.rd.len
          simp only at hnlX
          have hnl : nl2 (a0 :: limbs 4294967296 r) ≤ N + 1 := by rw [← hnlX]; exact limbs_len_le B32 HXN.out
          clear hnlX
          go_wp2_with fail
          refine (ref_guess hr7 hB7 (by omega) HGE.out HXY.out (by omega)).mono ?_
          rintro e w8 ⟨rfl, hb8⟩
          have hr8 := hr7.below hb8
          have hown8 := hown7.below hb8
          have hT8 := (hb8.block _ (by omega)).trans hT7
          have hb80 : Below w.heap.size w w8 := Gs.Below.then hb70 hb70.size hb8
          have hs8 := hb8.size
          obtain ⟨d, hd⟩ : ∃ d, d = X' / y := ⟨_, rfl⟩
          rw [← hd] at hst ⊢
          have hdlt : d < 4294967296 := by
            rw [hd, Nat.div_lt_iff_lt_mul hy0, Nat.mul_comm]
            exact HXY.out
          have hd1 : 1 ≤ d := by rw [hd]; exact (Nat.one_le_div_iff hy0).2 HGE.out
          have hdm : X' - y * d = X' % y := by
            have := Nat.div_add_mod X' y
            rw [hd]
            omega
          have hdle : y * d ≤ X' := by rw [hd]; exact Nat.mul_div_le X' y
          obtain ⟨hco, hfo⟩ := hown8.at j (by omega)
          have hown9 := hown8.store j d
          have hb90 : Below w.heap.size w (w8.setCell ⟨w1.heap.size, j, none⟩ (.int .u32 (d : Int))) := hb80.setCell (p := ⟨w1.heap.size, j, none⟩) (by simp; omega) _
          have hr9 : R32 (w8.setCell ⟨w1.heap.size, j, none⟩ (.int .u32 (d : Int))) (fun j => wr.heap.size ≤ j) ⟨v1.A, nl2 (a0 :: limbs 4294967296 r), v1.c⟩ (limbs 4294967296 X') := ⟨hr8.rd.keep fun b hb _ => set_heap _ (by simp; omega), hr8.lt⟩
          have hT9 : (w8.setCell ⟨w1.heap.size, j, none⟩ (.int .u32 (d : Int))).heap[w.heap.size]? = some (.cells #[.slice none 0 0, .slice none 0 0] 40 (0, 0)) := (set_heap _ (by simp; omega)).trans hT8
          have hsz9 : (w8.setCell ⟨w1.heap.size, j, none⟩ (.int .u32 (d : Int))).heap.size = w8.heap.size := by simp
          obtain ⟨W9, hW9⟩ : ∃ W9, W9 = w8.setCell ⟨w1.heap.size, j, none⟩ (.int .u32 (d : Int)) := ⟨_, rfl⟩
          rw [← hW9] at hown9 hb90 hr9 hT9 hsz9
          have hld : limbs 4294967296 d = [d] := limbs_eq B32 (Lt.cons hdlt (Lt.nil _)) (by intro x hx; simp at hx; omega) (by simp [val])
          have hDD : CanR (W9.alloc (.cells (nums .u32 [d]).toArray 58)) (.slice (some ⟨W9.heap.size, 0, none⟩) 1 1) d 1 :=
            ⟨_, _, _, rfl, by rw [hld]; exact ⟨(OwnN.made .u32 W9 0 58 [d] (Nat.zero_le _) (by simp)).rd.mono (fun _ _ => trivial), Lt.cons hdlt (Lt.nil _)⟩, Nat.le_refl _⟩
          rw [hsz9] at hDD
          have hal9 : Below W9.heap.size W9 (W9.alloc (.cells (nums .u32 [d]).toArray 58)) := (Below.refl _ W9).alloc (Nat.le_refl _) _
          have hB9 := (hbB.below hb90).below hal9
          have HDM := Lib.hid hdm
          have HDL := Lib.hid hdle
          have HST := Lib.hid hst
          have hwd : IntKind.u32.wrap (d : Int) = (d : Int) := by rw [IntKind.wrap_u32]; omega
          have HW9 := Lib.hid hW9
          clear hst hd hdm hdle hld hr8 hown8 hT8 hb80 hr7 hown7 hT7 hb70 hB7 hW9
          go_wp2_with fail
          rw [← HW9.out]
          refine (call_RMul hB9 hDD (by omega) (by decide)).mono ?_
          rintro e w10 ⟨m1, rfl, hm1, hb10⟩
          have hb10' : Below W9.heap.size W9 w10 := Gs.Below.un hb10
          have hr10 := hr9.below hb10'
          have hown10 := hown9.below hb10'
          have hT10 := (hb10'.block _ (by omega)).trans hT9
          have hs10 := hb10'.size
          obtain ⟨Am, nm, cm, rfl, hmm, hnm⟩ := hm1
          have hb100 : Below w.heap.size w w10 := Gs.Below.then hb90 hb90.size hb10'
          clear hr9 hown9 hT9 hb10 hb10' hDD hB9 hal9
          go_wp2_with fail
          refine (ref_Sub hr10 hmm (by omega) HDL.out).mono ?_
          rintro e w11 ⟨As, ns, cs, rfl, hs, hb11⟩
          rw [HDM.out] at hs
          have hown11 := hown10.below hb11
          have hT11 := (hb11.block _ (by omega)).trans hT10
          have hs11 := hb11.size
          go_wp2
          refine ⟨⟨j, X' % y, o.set j d, As, ns, cs, by omega, rfl, rfl, hs.mono (fun b hb => by omega), HST, Lib.hid (fun k hk => by rw [gd_set_ne (by omega)]; exact hzer.out k (by omega)), hown11, hT11, by omega, by omega, Gs.Below.then hb100 hb100.size hb11⟩, ?_⟩
          simp only [intOf]; omega
end Go.Proofs.YtphiglbieffbjaaGreatDoor
