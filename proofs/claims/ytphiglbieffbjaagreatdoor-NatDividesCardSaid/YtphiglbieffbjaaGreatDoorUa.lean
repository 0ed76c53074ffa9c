/- Contracts: gessoref01's trim, In, Out, Cmp. -/
import Derived.Test.YtphiglbieffbjaaGreatDoorMu
import Derived.Test.YtphiglbieffbjaaGreatDoorNb
import Derived.Deep.RegionLaw
namespace Go.Proofs.YtphiglbieffbjaaGreatDoor
open Go.RowKit Gs
set_option linter.unusedVariables false

theorem info_u32 : (Tryz.prog.info? 58).map (fun i => (i.zero, i.size, i.bytes)) = some (some (.int .u32 0), 1, 4) := by kernel_rfl

set_option maxRecDepth 100000 in
set_option maxHeartbeats 1000000 in
theorem ref_trim {A n c} {l : List Nat} {P} {w : World} (h : R32 w P ⟨A, n, c⟩ l) (hn : n ≤ 281474976710656) :
    Calls Tryz.prog 42 #[.slice A n c] w fun e w' => e = .returned (.slice A (nl2 l) c) ∧ w = w' := by
  have hcap := h.rd.cap
  have htop := h.rd.top
  have hlen := h.rd.len
  simp only at hcap htop hlen
  have HL := Lib.hid hlen
  clear hlen
  go_enter Tryz.func42, Tryz.ntmps42
  go_wp2
  go_loopw [3] (fun nv wr => ∃ m : Nat, m ≤ n ∧ nv = .int .i64 m ∧ Hid (val 4294967296 (l.take m) = val 4294967296 l) ∧ wr = w) (fun nv _ => (intOf nv).toNat)
  case atStart => exact ⟨n, Nat.le_refl _, rfl, Lib.hid (by rw [List.take_of_length_le (by rw [HL.out]; exact Nat.le_refl _)]), rfl⟩
  case round =>
    obtain ⟨m, hm, rfl, hv, rfl⟩ := hrel
    have hml : Hid (m ≤ l.length) := Lib.hid (by rw [HL.out]; exact hm)
    cases m with
    | succ q =>
      obtain ⟨ad, e, hc⟩ := h.rd.at q (by show q < n; omega)
      simp only at e
      subst e
      have s1 : IntKind.i64.wrap (((q + 1 : Nat) : Int) - 1) = (q : Int) := by rw [IntWalk.i64_in _ (by omega)]; omega
      have s2 : IntKind.i64.wrap ((q : Int) + 1 - 1) = (q : Int) := by rw [IntWalk.i64_in _ (by omega)]; omega
      have t1 : (0 : Int) < (q : Int) + 1 := by omega
      by_cases hz : gd l q = 0
      · have hzb : (((gd l q : Nat) : Int) == 0) = true := by rw [hz]; rfl
        have hv' : Hid (val 4294967296 (l.take q) = val 4294967296 l) := Lib.hid ((take_getLast hz _).trans hv.out)
        clear hz
        go_wp2
        refine ⟨⟨q, by omega, rfl, hv', trivial⟩, ?_⟩
        simp [intOf]
      · have hzb : (((gd l q : Nat) : Int) == 0) = false := by rw [beq_eq_false_iff_ne]; omega
        have HZ := Lib.hid (nl2_of h.lt hml.out hv.out (fun q' e => by (have e2 : q' = q := by omega); rw [e2]; exact hz)).1
        clear hz
        go_wp2
        go_ret
        exact ⟨by rw [HZ.out]; rfl, rfl⟩
    | zero =>
      have HZ := Lib.hid (nl2_of h.lt hml.out hv.out (fun q' e => by cases e)).1
      go_wp2
      go_ret
      exact ⟨by rw [HZ.out]; rfl, rfl⟩
set_option maxRecDepth 100000 in
set_option maxHeartbeats 2000000 in
theorem ref_In {A n c} {l : List Nat} {P} {w : World} (h : RdU w P ⟨A, n, c⟩ l) (hn : n ≤ 1000000000) :
    Calls Tryz.prog 12 #[.slice A n c] w fun e w' => ∃ A1 n1 c1, e = .returned (.slice A1 n1 c1) ∧ R32 w' (fun b => w.heap.size ≤ b) ⟨A1, n1, c1⟩ (limbs 4294967296 (val 18446744073709551616 l)) ∧ Below w.heap.size w w' := by
  have HL := Lib.hid h.rd.len
  go_enter Tryz.func12, Tryz.ntmps12
  go_wp2
  go_loopw [3, 4] (fun v iv wr => ∃ (i : Nat) (s : Sl), i ≤ n ∧ iv = .int .i64 i ∧ v = .slice s.A s.n s.c ∧ OwnN .u32 wr w.heap.size 58 s (halves (l.take i)) ∧ Below w.heap.size w wr) (fun _ iv _ => n - (intOf iv).toNat)
  case atStart => exact ⟨0, ⟨none, 0, 0⟩, Nat.zero_le _, rfl, rfl, OwnN.nil _ _ _ _, Below.refl _ _⟩
  case round =>
    obtain ⟨i, s, hi, rfl, rfl, hown, hb⟩ := hrel
    by_cases hlt : i < n
    · obtain ⟨ad, e, hc⟩ := (h.rd.below hb.drew).at i hlt
      simp only at e
      subst e
      have hx := h.lt.gd (by omega) i
      have hnew : halves (l.take (i + 1)) = halves (l.take i) ++ [gd l i % 4294967296, gd l i / 4294967296] := halves_take_succ (by rw [HL.out]; exact hlt)
      obtain ⟨x, hx0⟩ : ∃ x, x = gd l i := ⟨_, rfl⟩
      rw [← hx0] at hc hx hnew
      have HN := Lib.hid hnew
      have hsz : ((halves (l.take i)).length + 2) * 4 ≤ 140737488355328 := by
        rw [halves_length, List.length_take]
        omega
      have s1 : IntKind.i64.wrap ((i : Int) + 1) = (i : Int) + 1 := IntWalk.i64_in _ (by omega)
      have s2 : IntKind.u32.wrap (x : Int) = ((x % 4294967296 : Nat) : Int) := by rw [IntKind.wrap_u32]; omega
      have s3 : IntKind.u32.wrap ((x : Int) / 4294967296) = ((x / 4294967296 : Nat) : Int) := by rw [IntKind.wrap_u32]; omega
      have s4 : IntKind.u32.wrap ((x / 4294967296 : Nat) : Int) = ((x / 4294967296 : Nat) : Int) := by rw [IntKind.wrap_u32]; omega
      clear hnew hx0
      go_wp2
      go_region_law (refine append2s (w0 := w) (W := wr.drew) w.heap.size rfl (.tmp 11) (.tmp 23) 28 58 .u32 4 rfl Tryz.underlying28 info_u32 (by decide) s (halves (l.take i)) (x % 4294967296) (x / 4294967296) rfl rfl hown hb.drew hb.size hsz ?_; intro v1 w1 hown1 hb2 hg1)
      all_goals
        go_wp2
        refine ⟨⟨i + 1, v1, by omega, by go_num, rfl, by rw [HN.out]; exact hown1, hb2⟩, ?_⟩
        simp [intOf]; omega
    · obtain rfl : i = n := by omega
      rw [List.take_of_length_le (by rw [HL.out]; exact Nat.le_refl _)] at hown
      have hrd : R32 wr (fun b => w.heap.size ≤ b) s (halves l) := ⟨hown.rd, halves_lt h.lt⟩
      have hlen := hown.len
      rw [halves_length, HL.out] at hlen
      go_wp2_with fail
      refine (ref_trim hrd (by omega)).mono ?_
      rintro e w1 ⟨rfl, rfl⟩
      have hr := hrd.trim
      rw [halves_val] at hr
      have HR := Lib.hid hr
      clear hr
      go_wp2
      go_ret
      exact ⟨_, _, _, rfl, HR.out, hb⟩

set_option maxRecDepth 100000 in
set_option maxHeartbeats 2000000 in
theorem ref_Out {A n c} {x : Nat} {P} {w : World} (h : R32 w P ⟨A, n, c⟩ (limbs 4294967296 x)) (hn : n ≤ 1000000000) :
    Calls Tryz.prog 43 #[.slice A n c] w fun e w' => ∃ A1 n1 c1, e = .returned (.slice A1 n1 c1) ∧ RdU w' (fun b => w.heap.size ≤ b) ⟨A1, n1, c1⟩ (limbs 18446744073709551616 x) ∧ Below w.heap.size w w' := by
  have HL := Lib.hid h.rd.len
  obtain ⟨l, hl⟩ : ∃ l, l = limbs 4294967296 x := ⟨_, rfl⟩
  rw [← hl] at h HL
  have HX := Lib.hid hl
  clear hl
  go_enter Tryz.func43, Tryz.ntmps43
  go_wp2
  go_loopw [3, 4] (fun v iv wr => ∃ (i j : Nat) (s : Sl), Hid (i = 2 * j) ∧ i ≤ n + 1 ∧ iv = .int .i64 (i : Int) ∧ v = .slice s.A s.n s.c ∧ OwnN .u64 wr w.heap.size 45 s (joinL l j) ∧ Below w.heap.size w wr) (fun _ iv _ => n + 1 - (intOf iv).toNat)
  case atStart => exact ⟨0, 0, ⟨none, 0, 0⟩, Lib.hid rfl, by omega, rfl, rfl, OwnN.nil _ _ _ _, Below.refl _ _⟩
  case round =>
    obtain ⟨i, j, s, hij, hi, rfl, rfl, hown, hb⟩ := hrel
    by_cases hlt : i < n
    · obtain ⟨ad, e, hc⟩ := (h.rd.below hb).at i hlt
      simp only at e
      subst e
      have hx := h.lt.gd (by omega) i
      have hy := h.lt.gd (by omega) (i + 1)
      have hnew : joinL l (j + 1) = joinL l j ++ [gd l i + 4294967296 * gd l (i + 1)] := by rw [hij.out]; exact joinL_succ l j
      have hij2 : i = 2 * j := hij.out
      have hsz : ((joinL l j).length + 1) * 8 ≤ 140737488355328 := by rw [joinL_length]; omega
      clear hij2
      have s1 : IntKind.i64.wrap ((i : Int) + 2) = (i : Int) + 2 := IntWalk.i64_in _ (by omega)
      have s2 : IntKind.i64.wrap ((i : Int) + 1) = (i : Int) + 1 := IntWalk.i64_in _ (by omega)
      obtain ⟨x0, hx0⟩ : ∃ x0, x0 = gd l i := ⟨_, rfl⟩
      rw [← hx0] at hc hx hnew
      have s3 : IntKind.u64.wrap (x0 : Int) = (x0 : Int) := by rw [IntKind.wrap_u64]; omega
      by_cases hlt2 : i + 1 < n
      · obtain ⟨ad2, e2, hc2⟩ := (h.rd.below hb).at (i + 1) hlt2
        simp only at e2
        injection e2 with e2
        subst e2
        have hc3 : wr.cell? ⟨ad.block, ad.off + (i + 1), none⟩ = some (.int .u32 (gd l (i + 1) : Nat)) := by rw [← hc2]; unfold Addr.add; rw [if_neg (by omega)]
        obtain ⟨y0, hy0⟩ : ∃ y0, y0 = gd l (i + 1) := ⟨_, rfl⟩
        rw [← hy0] at hc2 hc3 hy hnew
        have s5 : IntKind.u64.wrap ((y0 : Int) * 4294967296) = ((4294967296 * y0 : Nat) : Int) := by rw [IntKind.wrap_u64]; omega
        have s6 : IntKind.u64.wrap ((x0 : Int) + ((4294967296 * y0 : Nat) : Int)) = ((x0 + 4294967296 * y0 : Nat) : Int) := by rw [IntKind.wrap_u64]; omega
        have s7 : IntKind.u64.wrap ((x0 : Int) + 4294967296 * (y0 : Int)) = ((x0 + 4294967296 * y0 : Nat) : Int) := by rw [IntKind.wrap_u64]; omega
        have s8 : IntKind.u64.wrap ((x0 : Int) + (y0 : Int) * 4294967296) = ((x0 + 4294967296 * y0 : Nat) : Int) := by rw [IntKind.wrap_u64]; omega
        have t1 : (i : Int) + 1 < (n : Int) := by omega
        have s4 : IntKind.u64.wrap (y0 : Int) = (y0 : Int) := by rw [IntKind.wrap_u64]; omega
        have HN := Lib.hid hnew
        obtain ⟨z0, hz0⟩ : ∃ z0, z0 = x0 + 4294967296 * y0 := ⟨_, rfl⟩
        rw [← hz0] at s6 s7 s8
        have HZ0 := Lib.hid hz0
        clear hnew hx0 hy0 hz0
        go_wp2_with (at_builtin; refine append1 (w0 := w) (W := wr) w.heap.size rfl (.tmp 31) (.tmp 33) 22 45 .u64 8 rfl Tryz.underlying22 info_u64 (by decide) s (joinL l j) z0 rfl rfl hown hb hb.size hsz ?_; intro v1 w1 hown1 hb2 hg1)
        refine ⟨⟨i + 2, j + 1, v1, Lib.hid (by rw [hij.out]; omega), by omega, by go_num, rfl, by rw [HN.out, ← HZ0.out]; exact hown1, hb2⟩, ?_⟩
        simp [intOf]; omega
      · have hy0 : gd l (i + 1) = 0 := gd_ge (by rw [HL.out]; show n ≤ i + 1; omega)
        rw [hy0] at hnew
        have t1 : ¬ (i : Int) + 1 < (n : Int) := by omega
        have HN := Lib.hid hnew
        clear hnew hx0 hy0 hy
        go_wp2_with (at_builtin; refine append1 (w0 := w) (W := wr) w.heap.size rfl (.tmp 31) (.tmp 33) 22 45 .u64 8 rfl Tryz.underlying22 info_u64 (by decide) s (joinL l j) x0 rfl rfl hown hb hb.size hsz ?_; intro v1 w1 hown1 hb2 hg1)
        refine ⟨⟨i + 2, j + 1, v1, Lib.hid (by rw [hij.out]; omega), by omega, by go_num, rfl, by rw [HN.out, Nat.mul_zero, Nat.add_zero]; exact hown1, hb2⟩, ?_⟩
        simp [intOf]; omega
    · have hfin : joinL l j = limbs 18446744073709551616 x := by
        have h1 := HL.out
        rw [HX.out] at h1 ⊢
        have h2 := hij.out
        exact joinL_all (by omega) (by omega)
      have hrd : RdU wr (fun b => w.heap.size ≤ b) s (joinL l j) := ⟨hown.rd, joinL_lt h.lt j⟩
      rw [hfin] at hrd
      have HR := Lib.hid hrd
      have t1 : ¬ (i : Int) < (n : Int) := by omega
      clear hfin hrd
      go_wp2
      go_ret
      exact ⟨_, _, _, rfl, HR.out, hb⟩

set_option maxRecDepth 100000 in
set_option maxHeartbeats 2000000 in
theorem ref_Cmp {A n c A' n' c'} {x y : Nat} {P P'} {w : World} (h : R32 w P ⟨A, n, c⟩ (limbs 4294967296 x)) (h' : R32 w P' ⟨A', n', c'⟩ (limbs 4294967296 y)) (hn : n ≤ 1000000000000) (hn' : n' ≤ 1000000000000) :
    Calls Tryz.prog 53 #[.slice A n c, .slice A' n' c'] w fun e w' => e = .returned (.int .i64 (cmpI (x : Nat) (y : Nat))) ∧ Below w.heap.size w w' := by
  have hl : (limbs 4294967296 x).length = n := h.rd.len
  have hm : (limbs 4294967296 y).length = n' := h'.rd.len
  have hx := val_limbs B32 x
  have hy := val_limbs B32 y
  have cl := limbs2_can x
  have cm := limbs2_can y
  obtain ⟨l, hl0⟩ : ∃ l, l = limbs 4294967296 x := ⟨_, rfl⟩
  obtain ⟨m, hm0⟩ : ∃ m, m = limbs 4294967296 y := ⟨_, rfl⟩
  rw [← hl0] at h hl hx cl
  rw [← hm0] at h' hm hy cm
  have hb32 : (0 : Nat) < 4294967296 := by omega
  obtain ⟨Z, hZ⟩ : ∃ Z, Z = cmpI (x : Nat) (y : Nat) := ⟨_, rfl⟩
  rw [← hZ]
  have HZ := Lib.hid hZ
  have HX := Lib.hid hx
  have HY := Lib.hid hy
  have HL := Lib.hid hl
  have HM := Lib.hid hm
  clear hl0 hm0 hx hy hZ
  rcases Nat.lt_trichotomy n n' with hlt | heq | hgt
  · have hz : Z = -1 := by
      have := lt_of_len_lt B32 h.lt cm (by omega)
      rw [HX.out, HY.out] at this
      rw [HZ.out]
      unfold cmpI
      rw [if_pos (by omega)]
    subst hz
    have t1 : ((n : Int) != (n' : Int)) = true := by rw [bne_iff_ne]; omega
    have t2 : (n : Int) < (n' : Int) := by omega
    clear hl hm
    go_enter Tryz.func53, Tryz.ntmps53
    go_wp2
    go_ret
    exact ⟨rfl, Below.refl _ _⟩
  · subst heq
    clear hl hm
    go_enter Tryz.func53, Tryz.ntmps53
    have s0 : IntKind.i64.wrap ((n : Int) - 1) = (n : Int) - 1 := IntWalk.i64_in _ (by omega)
    go_wp2
    go_loopw [5] (fun iv wr => ∃ q : Nat, q ≤ n ∧ iv = .int .i64 ((q : Int) - 1) ∧ Hid (l.drop q = m.drop q) ∧ Below w.heap.size w wr) (fun iv _ => (intOf iv + 1).toNat)
    case atStart => exact ⟨n, Nat.le_refl _, rfl, Lib.hid (by rw [List.drop_eq_nil_of_le (by rw [HL.out]; exact Nat.le_refl _), List.drop_eq_nil_of_le (by rw [HM.out]; exact Nat.le_refl _)]), Below.refl _ _⟩
    case round =>
      obtain ⟨q, hq, rfl, hd, hb⟩ := hrel
      cases q with
      | zero =>
        have hz : Z = 0 := by
          have h1 : l = m := by have := hd.out; simpa using this
          have h2 : x = y := by rw [← HX.out, ← HY.out, h1]
          rw [HZ.out, h2]
          unfold cmpI
          rw [if_neg (by omega), if_neg (by omega)]
        subst hz
        go_wp2
        go_ret
        exact ⟨rfl, hb⟩
      | succ i =>
        obtain ⟨ad, e, hc⟩ := (h.rd.below hb.drew).at i (by show i < n; omega)
        obtain ⟨ad', e', hc'⟩ := (h'.rd.below hb.drew).at i (by show i < n; omega)
        simp only at e e'
        subst e e'
        obtain ⟨ad2, e2, hd1⟩ := (h.rd.below hb.drew.drew).at i (by show i < n; omega)
        obtain ⟨ad3, e3, hd2⟩ := (h'.rd.below hb.drew.drew).at i (by show i < n; omega)
        simp only at e2 e3
        injection e2 with e2
        injection e3 with e3
        subst e2 e3
        have s1 : IntKind.i64.wrap ((i : Int) - 1) = (i : Int) - 1 := IntWalk.i64_in _ (by omega)
        have s2 : ((i + 1 : Nat) : Int) - 1 = (i : Int) := by omega
        have hin : i < n := by omega
        have hil : i < l.length := by rw [HL.out]; omega
        have him : i < m.length := by rw [HM.out]; omega
        have HD := hd
        have hless : gd l i < gd m i → x < y := fun hh => by have := val_lt_at h.lt hil him hd.out hh; rwa [HX.out, HY.out] at this
        have hmore : gd m i < gd l i → y < x := fun hh => by have := val_lt_at h'.lt him hil hd.out.symm hh; rwa [HX.out, HY.out] at this
        have hsame : gd l i = gd m i → l.drop i = m.drop i := fun hh => by
          rw [List.drop_eq_getElem_cons hil, List.drop_eq_getElem_cons him, hd.out, ← gd_lt hil, ← gd_lt him, hh]
        obtain ⟨a, ha⟩ : ∃ a, a = gd l i := ⟨_, rfl⟩
        obtain ⟨b, hb0⟩ : ∃ b, b = gd m i := ⟨_, rfl⟩
        rw [← ha] at hc hd1 hless hmore hsame
        rw [← hb0] at hc' hd2 hless hmore hsame
        clear ha hb0 hil him
        rw [s2]
        rcases Nat.lt_trichotomy a b with h1 | h1 | h1
        · have hz : Z = -1 := by rw [HZ.out]; have := hless h1; unfold cmpI; rw [if_pos (by omega)]
          have t1 : ((a : Int) != (b : Int)) = true := by rw [bne_iff_ne]; omega
          have t2 : (a : Int) < (b : Int) := by omega
          have t3 : a < b := h1
          clear hless hmore hsame
          subst hz
          go_wp2
          go_region_law fail
          all_goals
            go_wp2
            go_region_law fail
            all_goals
              go_wp2
              go_ret
              exact ⟨rfl, hb.drew.drew⟩
        · have HS := Lib.hid (hsame h1)
          have t1 : ((a : Int) != (b : Int)) = false := by rw [h1]; simp
          clear hless hmore hsame h1
          go_wp2
          go_region_law fail
          all_goals
            go_wp2
            refine ⟨⟨i, by omega, rfl, HS, hb.drew⟩, ?_⟩
            simp [intOf]
        · have hz : Z = 1 := by rw [HZ.out]; have := hmore h1; unfold cmpI; rw [if_neg (by omega), if_pos (by omega)]
          have t1 : ((a : Int) != (b : Int)) = true := by rw [bne_iff_ne]; omega
          have t2 : ¬ (a : Int) < (b : Int) := by omega
          have t3 : ¬ a < b := by omega
          clear hless hmore hsame
          subst hz
          go_wp2
          go_region_law fail
          all_goals
            go_wp2
            go_region_law fail
            all_goals
              go_wp2
              go_ret
              exact ⟨rfl, hb.drew.drew⟩
  · have hz : Z = 1 := by
      have := lt_of_len_lt B32 h'.lt cl (by omega)
      rw [HX.out, HY.out] at this
      rw [HZ.out]
      unfold cmpI
      rw [if_neg (by omega), if_pos (by omega)]
    subst hz
    have t1 : ((n : Int) != (n' : Int)) = true := by rw [bne_iff_ne]; omega
    have t2 : ¬ (n : Int) < (n' : Int) := by omega
    clear hl hm
    go_enter Tryz.func53, Tryz.ntmps53
    go_wp2
    go_ret
    exact ⟨rfl, Below.refl _ _⟩
end Go.Proofs.YtphiglbieffbjaaGreatDoor
