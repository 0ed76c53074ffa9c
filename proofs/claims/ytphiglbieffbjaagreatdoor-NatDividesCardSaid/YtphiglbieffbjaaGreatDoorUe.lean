/- Contracts: gessoref01's Of, Bits, Shl. -/
import Derived.Test.YtphiglbieffbjaaGreatDoorUd
import Derived.Test.YtphiglbieffbjaaGreatDoorMw
import Derived.Test.YtphiglbieffbjaaGreatDoorOe
namespace Go.Proofs.YtphiglbieffbjaaGreatDoor
open Go.RowKit Gs
set_option linter.unusedVariables false

theorem ref_Of (v : Nat) (hv : v < 18446744073709551616) (w : World) : Calls Tryz.prog 27 #[.int .u64 v] w fun e w' => ∃ r, e = .returned r ∧ CanR w' r v 2 ∧ Below w.heap.size w w' := by
  have ki := call_In (w := w.alloc (.cells (nums .u64 [v]).toArray 45)) (Num.made' w 45 [v] (x := v) (m := 1) (b := w.heap.size) (Lt.cons hv (Lt.nil _)) rfl (by decide) rfl (by simp [val])) (by decide)
  have KI := Lib.hid ki
  clear ki
  go_enter Tryz.func27, Tryz.ntmps27
  go_wp2_with fail
  refine KI.out.mono ?_
  rintro e w1 ⟨r, rfl, hr, hb⟩
  go_wp2
  go_ret
  exact ⟨_, rfl, hr, Gs.Below.un hb⟩

set_option maxRecDepth 100000 in
set_option maxHeartbeats 1000000 in
theorem ref_Bits {A n c} {x : Nat} {P} {w : World} (h : R32 w P ⟨A, n, c⟩ (limbs 4294967296 x)) (hn : n ≤ 1000000000) :
    Calls Tryz.prog 23 #[.slice A n c] w fun e w' => e = .returned (.int .i64 ((blen x : Nat) : Int)) ∧ w = w' := by
  have hl : (limbs 4294967296 x).length = n := h.rd.len
  cases n with
  | zero =>
    have hx0 : x = 0 := (limbs_len_zero B32 x).1 hl
    subst hx0
    clear hl
    go_enter Tryz.func23, Tryz.ntmps23
    go_wp2
    go_ret
    exact ⟨rfl, rfl⟩
  | succ q =>
    have hx := val_limbs B32 x
    have hcan := limbs2_can x
    obtain ⟨l, hl0⟩ : ∃ l, l = limbs 4294967296 x := ⟨_, rfl⟩
    rw [← hl0] at h hl hx hcan
    obtain ⟨ad, e, hc⟩ := h.rd.at q (by show q < q + 1; omega)
    simp only at e
    subst e
    have hb0 := h.lt.gd (by omega) q
    have hne := (can_iff hl).1 hcan
    have hval : blen x = 32 * q + blen (gd l q) := by
      have h1 := val_split 4294967296 l q (by omega)
      rw [List.drop_eq_nil_of_le (by omega), val_nil, Nat.mul_zero, Nat.add_zero, hx] at h1
      have h2 : val 4294967296 (l.take q) < 2 ^ (32 * q) := by
        have := val_lt (h.lt.take q)
        rw [List.length_take, Nat.min_eq_left (by omega)] at this
        rwa [Nat.pow_mul]
      rw [h1, show (4294967296 : Nat) ^ q = 2 ^ (32 * q) by rw [Nat.pow_mul]]
      exact blen_join h2 hne
    rw [hval]
    obtain ⟨g, hg⟩ : ∃ g, g = gd l q := ⟨_, rfl⟩
    rw [← hg] at hc hb0 hne ⊢
    have s1 : IntKind.i64.wrap (((q + 1 : Nat) : Int) - 1) = (q : Int) := by rw [IntWalk.i64_in _ (by omega)]; omega
    have s2 : IntKind.i64.wrap ((q : Int) + 1 - 1) = (q : Int) := by rw [IntWalk.i64_in _ (by omega)]; omega
    have s3 : IntKind.i64.wrap (32 * (q : Int)) = 32 * (q : Int) := IntWalk.i64_in _ (by omega)
    have t1 : ((q : Int) + 1 == 0) = false := by rw [beq_eq_false_iff_ne]; omega
    have t2 : ¬ (q : Int) + 1 = 0 := by omega
    have HB := Lib.hid (show blen g ≤ 32 by
      have h1 := blen_le hne
      have h2 : 2 ^ (blen g - 1) < 2 ^ 32 := Nat.lt_of_le_of_lt h1 hb0
      have := (Nat.pow_lt_pow_iff_right (show 1 < 2 by omega)).1 h2
      omega)
    clear hl0 hl hx hcan hval hg hne
    go_enter Tryz.func23, Tryz.ntmps23
    go_wp2
    go_loopw [3, 4] (fun nv vv wr => ∃ (m u : Nat), m + blen u = 32 * q + blen g ∧ u ≤ g ∧ nv = .int .i64 (m : Int) ∧ vv = .int .u32 (u : Int) ∧ wr = w) (fun _ vv _ => (intOf vv).toNat)
    case atStart => exact ⟨32 * q, g, rfl, Nat.le_refl _, congrArg (Value.int .i64) (by omega), rfl, rfl⟩
    case round =>
      obtain ⟨m, u, hm, hu, rfl, rfl, rfl⟩ := hrel
      by_cases h0 : u = 0
      · subst h0
        have hm2 : m = 32 * q + blen g := by rw [blen_zero] at hm; omega
        have HM := Lib.hid hm2
        clear hm hm2
        go_wp2
        go_ret
        exact ⟨by rw [← HM.out]; rfl, rfl⟩
      · have hbl : blen u = blen (u / 2) + 1 := by
          unfold blen
          by_cases h2 : u / 2 = 0
          · have : u = 1 := by omega
            subst this
            rfl
          · rw [if_neg h0, if_neg h2, Nat.log2_def u, if_pos (by omega)]
        have hub : blen u ≤ 32 := Nat.le_trans (blen_mono hu) HB.out
        have s4 : IntKind.i64.wrap ((m : Int) + 1) = (m : Int) + 1 := IntWalk.i64_in _ (by have := HB.out; omega)
        have t3 : (0 : Int) < (u : Int) := by omega
        have HN := Lib.hid (show m + 1 + blen (u / 2) = 32 * q + blen g by omega)
        have HU := Lib.hid (show u / 2 ≤ g by omega)
        clear hbl hm hub
        go_wp2
        refine ⟨⟨m + 1, u / 2, HN.out, HU.out, by go_num, by go_num, trivial⟩, ?_⟩
        simp only [intOf]; omega

set_option maxRecDepth 100000 in
set_option maxHeartbeats 4000000 in
theorem ref_Shl {A n c} {x k : Nat} {P} {w : World} (h : R32 w P ⟨A, n, c⟩ (limbs 4294967296 x)) (hn : n ≤ 1000000000) (hk : k ≤ 1000000000) :
    Calls Tryz.prog 20 #[.slice A n c, .int .i64 (k : Int)] w fun e w' => ∃ A1 n1 c1, e = .returned (.slice A1 n1 c1) ∧ R32 w' (fun b => w.heap.size ≤ b) ⟨A1, n1, c1⟩ (limbs 4294967296 (x * 2 ^ k)) ∧ Below w.heap.size w w' := by
  have hl : (limbs 4294967296 x).length = n := h.rd.len
  have hx := val_limbs B32 x
  obtain ⟨l, hl0⟩ : ∃ l, l = limbs 4294967296 x := ⟨_, rfl⟩
  rw [← hl0] at h hl hx
  have HX := Lib.hid hx
  have HL := Lib.hid hl
  obtain ⟨f, hf⟩ : ∃ f, f = k / 32 := ⟨_, rfl⟩
  obtain ⟨s, hs⟩ : ∃ s, s = k % 32 := ⟨_, rfl⟩
  have kf : (k : Int) / 32 = (f : Int) := by omega
  have ks : (k : Int) % 32 = (s : Int) := by omega
  have hs1 : s < 32 := by omega
  have hf1 : f ≤ 1000000000 := by omega
  have HK := Lib.hid (show 32 * f + s = k by omega)
  have km := make_num (P := Tryz.prog) 28 58 .u32 4 Tryz.underlying28 info_u32 (by decide) (f + n + 1) (by omega)
  simp only [Int.natCast_add, Int.cast_ofNat_Int] at km
  have s0 : IntKind.i64.wrap ((f : Int) + (n : Int)) = (f : Int) + (n : Int) := IntWalk.i64_in _ (by omega)
  have s00 : IntKind.i64.wrap ((f : Int) + (n : Int) + 1) = (f : Int) + (n : Int) + 1 := IntWalk.i64_in _ (by omega)
  have su : IntKind.u64.wrap (s : Int) = (s : Int) := by rw [IntKind.wrap_u64]; omega
  clear hl0 hl hx hf hs
  go_enter Tryz.func20, Tryz.ntmps20
  go_wp2
  go_loopw [7] (fun iv wr => ∃ (i : Nat) (o : List Nat), i ≤ n ∧ iv = .int .i64 i ∧ RShl l f s i o ∧ OwnN .u32 wr w.heap.size 58 ⟨some ⟨w.heap.size, 0, none⟩, f + n + 1, f + n + 1⟩ o ∧ Below w.heap.size w wr) (fun iv _ => n - (intOf iv).toNat)
  case atStart =>
    refine ⟨0, List.replicate (f + n + 1) 0, Nat.zero_le _, rfl, ?_, ?_, (Below.refl _ _).alloc (Nat.le_refl _) _⟩
    · have := RShl.start l f s
      rwa [HL.out] at this
    · have := OwnN.made .u32 w w.heap.size 58 (List.replicate (f + n + 1) 0) (Nat.le_refl _) (by simp; omega)
      simpa using this
  case round =>
    obtain ⟨i, o, hi, rfl, hinv, hown, hb⟩ := hrel
    clear km
    have si : IntKind.i64.wrap ((i : Int) + 1) = (i : Int) + 1 := IntWalk.i64_in _ (by omega)
    by_cases hlt : i < n
    · obtain ⟨ad, e, hc⟩ := (h.rd.below hb).at i hlt
      simp only at e
      subst e
      have hstep := hinv.step h.lt hs1 (by rw [HL.out]; exact hlt)
      have hxB := h.lt.gd (by omega) i
      have htop := hinv.top
      have hz := hinv.z (f + i + 1) (by omega)
      obtain ⟨hco, hfo⟩ := hown.at (f + i) (by omega)
      obtain ⟨x1, hx1⟩ : ∃ x1, x1 = gd l i := ⟨_, rfl⟩
      obtain ⟨o1, ho1⟩ : ∃ o1, o1 = gd o (f + i) := ⟨_, rfl⟩
      rw [← hx1] at hc hxB hstep
      rw [← ho1] at hco htop hstep
      have hp : 2 ^ (32 - s) * 2 ^ s = 4294967296 := by rw [← Nat.pow_add, show 32 - s + s = 32 by omega]
      have hm := Nat.mod_lt x1 (Nat.two_pow_pos (32 - s))
      obtain ⟨v, hv⟩ : ∃ v, v = x1 * 2 ^ s := ⟨_, rfl⟩
      have hvlt : v < 18446744073709551616 := by
        rw [hv]
        have h1 : 2 ^ s ≤ 2 ^ 32 := Nat.pow_le_pow_right (by omega) (by omega)
        have h2 : x1 * 2 ^ s ≤ 4294967295 * 2 ^ 32 := Nat.mul_le_mul (by omega) h1
        omega
      have hvm : v % 4294967296 = x1 % 2 ^ (32 - s) * 2 ^ s := by rw [hv, ← hp, Nat.mul_mod_mul_right]
      have hvd : v / 4294967296 = x1 / 2 ^ (32 - s) := by rw [hv, ← hp, Nat.mul_div_mul_right _ _ (Nat.two_pow_pos _)]
      have hor := or32 (i := s) (r := o1) (q := x1 % 2 ^ (32 - s)) (by omega) htop hm
      rw [← hvm] at hor hstep
      rw [← hvd] at hstep
      obtain ⟨lo, hlo⟩ : ∃ lo, lo = v % 4294967296 := ⟨_, rfl⟩
      obtain ⟨hg, hhg⟩ : ∃ hg, hg = v / 4294967296 := ⟨_, rfl⟩
      rw [← hlo] at hor hstep
      rw [← hhg] at hstep
      have hor2 := or32_zero (q := hg) (by omega)
      have w0 : IntKind.u64.wrap (x1 : Int) = (x1 : Int) := by rw [IntKind.wrap_u64]; omega
      have w1 : IntKind.u64.wrap ((x1 : Int) * 2 ^ s) = (v : Int) := by
        rw [show (x1 : Int) * 2 ^ s = ((x1 * 2 ^ s : Nat) : Int) by simp, ← hv, IntKind.wrap_u64]; omega
      have w2 : IntKind.u32.wrap (v : Int) = (lo : Int) := by rw [IntKind.wrap_u32]; omega
      have w3 : (v : Int) / 4294967296 = (hg : Int) := by omega
      have w4 : IntKind.u32.wrap (hg : Int) = (hg : Int) := by rw [IntKind.wrap_u32]; omega
      have s1 : IntKind.i64.wrap ((f : Int) + (i : Int)) = (f : Int) + (i : Int) := IntWalk.i64_in _ (by omega)
      have s2 : IntKind.i64.wrap ((f : Int) + (i : Int) + 1) = (f : Int) + (i : Int) + 1 := IntWalk.i64_in _ (by omega)
      have t1 : (0 : Int) ≤ (f : Int) + (i : Int) := by omega
      have t2 : ((f : Int) + (i : Int)).toNat = f + i := by omega
      have t3 : (f : Int) + (i : Int) < (f : Int) + (n : Int) + 1 := by omega
      have t4 : (0 : Int) ≤ (f : Int) + (i : Int) + 1 := by omega
      have t5 : ((f : Int) + (i : Int) + 1).toNat = f + i + 1 := by omega
      have t6 : (f : Int) + (i : Int) + 1 < (f : Int) + (n : Int) + 1 := by omega
      have t7 : f + i < f + n + 1 := by omega
      have t8 : i < n := hlt
      have hnew := hown.store (f + i) (lo + o1)
      have hne : (f + i) ≠ (f + i + 1) := by omega
      have hgz : gd (o.set (f + i) (lo + o1)) (f + i + 1) = 0 := by rw [gd_set_ne hne]; exact hz
      obtain ⟨hd1, hd2⟩ := hnew.at (f + i + 1) (by omega)
      rw [hgz, Int.natCast_add] at hd1
      rw [Int.natCast_add] at hd2
      have hfin := hnew.store (f + i + 1) hg
      rw [Int.natCast_add] at hfin
      have HFIN := Lib.hid hfin
      have HSTEP := Lib.hid hstep
      have t9 : f + i + 1 < f + n + 1 := by omega
      have e0 : ((0 : Nat) : Int) = 0 := rfl
      rw [e0] at hd1
      clear hx1 ho1 hv hvm hvd hlo hhg hp hm hnew hgz hne hfin hstep hz e0
      go_wp2
      refine ⟨⟨i + 1, _, by omega, by go_num, HSTEP.out, HFIN.out, (hb.setCell (p := ⟨w.heap.size, f + i, none⟩) (Nat.le_refl _) _).setCell (p := ⟨w.heap.size, f + i + 1, none⟩) (Nat.le_refl _) _⟩, ?_⟩
      simp only [intOf]; omega
    · obtain rfl : i = n := by omega
      have hfin := (show RShl l f s l.length o by rw [HL.out]; exact hinv).last HK.out
      rw [HX.out] at hfin
      have hrd : R32 wr (fun b => w.heap.size ≤ b) ⟨some ⟨w.heap.size, 0, none⟩, f + i + 1, f + i + 1⟩ o := ⟨hown.rd, hinv.lt⟩
      have HF := Lib.hid hfin
      clear hfin
      go_wp2_with fail
      refine (ref_trim hrd (by omega)).mono ?_
      rintro e w1 ⟨rfl, rfl⟩
      have hr := hrd.trim
      rw [HF.out] at hr
      have HR := Lib.hid hr
      clear hr
      go_wp2
      go_ret
      exact ⟨_, _, _, rfl, HR.out, hb⟩

set_option maxRecDepth 100000 in
set_option maxHeartbeats 1000000 in
theorem ref_Shr_all {A n c} {x k : Nat} {P} {w : World} (h : R32 w P ⟨A, n, c⟩ (limbs 4294967296 x)) (hn : n ≤ 1000000000) (hk : k ≤ 1000000000) (hle : n ≤ k / 32) :
    Calls Tryz.prog 21 #[.slice A n c, .int .i64 (k : Int)] w fun e w' => e = .returned (.slice none 0 0) ∧ x / 2 ^ k = 0 ∧ w = w' := by
  have hl : (limbs 4294967296 x).length = n := h.rd.len
  have hx0 : x / 2 ^ k = 0 := by
    have h1 : x < 4294967296 ^ n := lt_of_limbs_len B32 (by omega)
    refine Nat.div_eq_of_lt (Nat.lt_of_lt_of_le h1 ?_)
    rw [show (4294967296 : Nat) = 2 ^ 32 from rfl, ← Nat.pow_mul]
    exact Nat.pow_le_pow_right (by omega) (by omega)
  have HX := Lib.hid hx0
  obtain ⟨f, hf⟩ : ∃ f, f = k / 32 := ⟨_, rfl⟩
  have kf : (k : Int) / 32 = (f : Int) := by omega
  have t1 : (n : Int) ≤ (f : Int) := by omega
  clear hl hx0 hf
  go_enter Tryz.func21, Tryz.ntmps21
  go_wp2
  go_ret
  exact ⟨rfl, HX.out, rfl⟩

set_option maxRecDepth 100000 in
set_option maxHeartbeats 4000000 in
theorem ref_Shr {A n c} {x k : Nat} {P} {w : World} (h : R32 w P ⟨A, n, c⟩ (limbs 4294967296 x)) (hn : n ≤ 1000000000) (hk : k ≤ 1000000000) (hgt : k / 32 < n) :
    Calls Tryz.prog 21 #[.slice A n c, .int .i64 (k : Int)] w fun e w' => ∃ A1 n1 c1, e = .returned (.slice A1 n1 c1) ∧ R32 w' (fun b => w.heap.size ≤ b) ⟨A1, n1, c1⟩ (limbs 4294967296 (x / 2 ^ k)) ∧ Below w.heap.size w w' := by
  have hl : (limbs 4294967296 x).length = n := h.rd.len
  have hx := val_limbs B32 x
  obtain ⟨l, hl0⟩ : ∃ l, l = limbs 4294967296 x := ⟨_, rfl⟩
  rw [← hl0] at h hl hx
  have HX := Lib.hid hx
  have HL := Lib.hid hl
  have hxlt : x < 4294967296 ^ n := by rw [← hx, ← hl]; exact val_lt h.lt
  obtain ⟨f, hf⟩ : ∃ f, f = k / 32 := ⟨_, rfl⟩
  obtain ⟨s, hs⟩ : ∃ s, s = k % 32 := ⟨_, rfl⟩
  have kf : (k : Int) / 32 = (f : Int) := by omega
  have ks : (k : Int) % 32 = (s : Int) := by omega
  have hs1 : s < 32 := by omega
  have hfn : f < n := by omega
  obtain ⟨N, hN⟩ : ∃ N, N = n - f := ⟨_, rfl⟩
  have hk2 : 32 * f + s = k := by omega
  obtain ⟨X, hX⟩ : ∃ X, X = x / 2 ^ k := ⟨_, rfl⟩
  have hX2 : X = x / 4294967296 ^ f / 2 ^ s := by rw [hX, ← hk2, show (4294967296 : Nat) = 2 ^ 32 from rfl, ← Nat.pow_mul, Nat.div_div_eq_div_mul, ← Nat.pow_add]
  have hXlt : X < 4294967296 ^ N := by
    rw [hX2, hN]
    refine Nat.lt_of_le_of_lt (Nat.div_le_self _ _) ?_
    rw [Nat.div_lt_iff_lt_mul (Nat.pow_pos (by omega)), ← Nat.pow_add, show n - f + f = n by omega]
    exact hxlt
  rw [← hX]
  have HX2 := Lib.hid hX2
  have HXL := Lib.hid hXlt
  have km := make_num (P := Tryz.prog) 28 58 .u32 4 Tryz.underlying28 info_u32 (by decide) N (by omega)
  have s0 : IntKind.i64.wrap ((n : Int) - (f : Int)) = (N : Int) := by rw [IntWalk.i64_in _ (by omega)]; omega
  have su : IntKind.u64.wrap (s : Int) = (s : Int) := by rw [IntKind.wrap_u64]; omega
  have t0 : ¬ (n : Int) ≤ (f : Int) := by omega
  have hNn : f + N = n := by omega
  have HNn := Lib.hid hNn
  have hNle : N ≤ 1000000000 := by omega
  clear hl0 hl hx hf hs hN hX hX2 hXlt hxlt hk2 hNn
  go_enter Tryz.func21, Tryz.ntmps21
  go_wp2
  go_loopw [7] (fun iv wr => ∃ (i : Nat) (o : List Nat), i ≤ N ∧ iv = .int .i64 i ∧ OwnN .u32 wr w.heap.size 58 ⟨some ⟨w.heap.size, 0, none⟩, N, N⟩ o ∧ Hid (∀ j, j < i → gd o j = X / 4294967296 ^ j % 4294967296) ∧ Below w.heap.size w wr) (fun iv _ => N - (intOf iv).toNat)
  case atStart =>
    refine ⟨0, List.replicate N 0, Nat.zero_le _, rfl, ?_, Lib.hid (fun j hj => by omega), (Below.refl _ _).alloc (Nat.le_refl _) _⟩
    have := OwnN.made .u32 w w.heap.size 58 (List.replicate N 0) (Nat.le_refl _) (by simp; omega)
    simpa using this
  case round =>
    obtain ⟨i, o, hi, rfl, hown, hinv, hb⟩ := hrel
    clear km
    have si : IntKind.i64.wrap ((i : Int) + 1) = (i : Int) + 1 := IntWalk.i64_in _ (by omega)
    have hNn := HNn.out
    by_cases hlt : i < N
    · obtain ⟨ad, e, hc⟩ := (h.rd.below hb).at (f + i) (by show f + i < n; omega)
      simp only at e
      subst e
      have hc1 : wr.cell? ⟨ad.block, ad.off + (f + i), none⟩ = some (.int .u32 (gd l (f + i) : Nat)) ∨ f + i = 0 := by
        by_cases h0 : f + i = 0
        · exact .inr h0
        · left; rw [← hc]; unfold Addr.add; rw [if_neg h0]
      obtain ⟨hco, hfo⟩ := hown.at i hlt
      have hxB := h.lt.gd (by omega) (f + i)
      have hyB := h.lt.gd (by omega) (f + i + 1)
      have hlimb := shr_limb h.lt (s := s) (by omega) f i
      rw [HX.out, ← HX2.out] at hlimb
      have hlen := hown.len
      simp only at hlen
      obtain ⟨x1, hx1⟩ : ∃ x1, x1 = gd l (f + i) := ⟨_, rfl⟩
      obtain ⟨y1, hy1⟩ : ∃ y1, y1 = gd l (f + i + 1) := ⟨_, rfl⟩
      rw [← hx1] at hc hxB hlimb
      rw [← hy1] at hyB hlimb
      obtain ⟨v, hv⟩ : ∃ v, v = x1 + 4294967296 * y1 := ⟨_, rfl⟩
      rw [← hv] at hlimb
      obtain ⟨u, hu⟩ : ∃ u, u = v / 2 ^ s := ⟨_, rfl⟩
      rw [← hu] at hlimb
      obtain ⟨r, hr⟩ : ∃ r, r = u % 4294967296 := ⟨_, rfl⟩
      rw [← hr] at hlimb
      have hnew : ∀ j, j < i + 1 → gd (o.set i r) j = X / 4294967296 ^ j % 4294967296 := by
        intro j hj
        by_cases hji : j = i
        · subst hji; rw [gd_set_self (by omega)]; exact hlimb
        · rw [gd_set_ne (by omega)]; exact hinv.out j (by omega)
      have HN := Lib.hid hnew
      have w0 : IntKind.u64.wrap (x1 : Int) = (x1 : Int) := by rw [IntKind.wrap_u64]; omega
      have wy : IntKind.u64.wrap (y1 : Int) = (y1 : Int) := by rw [IntKind.wrap_u64]; omega
      have wv : IntKind.u64.wrap ((y1 : Int) * 4294967296) = (y1 : Int) * 4294967296 := by rw [IntKind.wrap_u64]; omega
      have hor := or_join' (r := x1) (q := y1) (i := 32) (by omega) (by omega) (by omega)
      rw [show y1 * 2 ^ 32 + x1 = v by omega, show ((y1 * 2 ^ 32 : Nat) : Int) = (y1 : Int) * 4294967296 by omega] at hor
      have wu : (v : Int) / 2 ^ s = (u : Int) := by rw [hu]; simp
      have wr1 : IntKind.u32.wrap (u : Int) = (r : Int) := by rw [IntKind.wrap_u32]; omega
      have s1 : IntKind.i64.wrap ((f : Int) + (i : Int)) = (f : Int) + (i : Int) := IntWalk.i64_in _ (by omega)
      have s2 : IntKind.i64.wrap ((f : Int) + (i : Int) + 1) = (f : Int) + (i : Int) + 1 := IntWalk.i64_in _ (by omega)
      have t1 : (0 : Int) ≤ (f : Int) + (i : Int) := by omega
      have t2 : ((f : Int) + (i : Int)).toNat = f + i := by omega
      have t3 : (f : Int) + (i : Int) < (n : Int) := by omega
      have t4 : (0 : Int) ≤ (f : Int) + (i : Int) + 1 := by omega
      have t5 : ((f : Int) + (i : Int) + 1).toNat = f + i + 1 := by omega
      have t7 : f + i < n := by omega
      have hyz : f + i + 1 < n ∨ (¬ f + i + 1 < n ∧ v = x1) := by
        by_cases h1 : f + i + 1 < n
        · exact .inl h1
        · right
          refine ⟨h1, ?_⟩
          have : y1 = 0 := by rw [hy1]; exact gd_ge (by rw [HL.out]; omega)
          omega
      rcases hyz with hlt2 | ⟨hlt2, hvx⟩
      · obtain ⟨ad2, e2, hc2⟩ := (h.rd.below hb).at (f + i + 1) hlt2
        simp only at e2
        injection e2 with e2
        subst e2
        rw [← hy1] at hc2
        have hc3 : wr.cell? ⟨ad.block, ad.off + (f + i + 1), none⟩ = some (.int .u32 (y1 : Int)) := by rw [← hc2]; unfold Addr.add; rw [if_neg (by omega)]
        have t8 : (f : Int) + (i : Int) + 1 < (n : Int) := by omega
        clear hx1 hy1 hv hu hr hnew hlimb hc1 hNn
        go_wp2
        refine ⟨⟨i + 1, _, by omega, by go_num, hown.store i r, HN, hb.setCell (p := ⟨w.heap.size, i, none⟩) (Nat.le_refl _) _⟩, ?_⟩
        simp only [intOf]; omega
      · have t8 : ¬ (f : Int) + (i : Int) + 1 < (n : Int) := by omega
        subst hvx
        clear hx1 hy1 hv hu hr hnew hlimb hc1 hor wv wy hNn
        go_wp2
        refine ⟨⟨i + 1, _, by omega, by go_num, hown.store i r, HN, hb.setCell (p := ⟨w.heap.size, i, none⟩) (Nat.le_refl _) _⟩, ?_⟩
        simp only [intOf]; omega
    · obtain rfl : i = N := by omega
      have hol : o = low32 X i := by
        apply List.ext_getElem
        · rw [low32_length]; exact hown.len
        · intro j h1 h2
          rw [low32_length] at h2
          rw [← gd_lt h1, ← gd_lt (by rw [low32_length]; exact h2), hinv.out j h2, gd_low32 h2]
      have hv : val 4294967296 o = X := by rw [hol, low32_val, Nat.mod_eq_of_lt HXL.out]
      have hrd : R32 wr (fun b => w.heap.size ≤ b) ⟨some ⟨w.heap.size, 0, none⟩, i, i⟩ o := ⟨hown.rd, by rw [hol]; exact low32_lt X i⟩
      have HF := Lib.hid hv
      clear hv hol hNn
      go_wp2_with fail
      refine (ref_trim hrd (by have := HNn.out; omega)).mono ?_
      rintro e w1 ⟨rfl, rfl⟩
      have hr := hrd.trim
      rw [HF.out] at hr
      have HR := Lib.hid hr
      clear hr
      go_wp2
      go_ret
      exact ⟨_, _, _, rfl, HR.out, hb⟩

section
variable {w : World} {a b : Value} {x y K K' : Nat}
theorem call_RBits {z : Int} (h : CanR w a x K) (hK : K ≤ 1000000) (hz : ((blen x : Nat) : Int) = z) :
    Calls Tryz.prog 23 #[a] w fun e w' => e = .returned (.int .i64 z) ∧ Below w.heap.size w w' := by
  obtain ⟨A, n, c, rfl, hr, hn⟩ := h
  refine (ref_Bits hr (by omega)).mono ?_
  rintro e w' ⟨rfl, rfl⟩
  rw [hz]
  exact ⟨rfl, Below.refl _ _⟩
theorem call_RShl {kk : Int} (m : Nat) (h : CanR w a x K) (hK : K ≤ 1000000) (hm : m ≤ 1000000) (hkk : kk = (m : Int)) :
    Calls Tryz.prog 20 #[a, .int .i64 kk] w fun e w' => ∃ r, e = .returned r ∧ CanR w' r (x * 2 ^ m) (K + m) ∧ Below w.heap.size w w' := by
  subst hkk
  have q : x * 2 ^ m < 4294967296 ^ (K + m) := by
    rw [Nat.pow_add]
    have h1 : 2 ^ m ≤ 4294967296 ^ m := Nat.pow_le_pow_left (by omega) m
    exact Nat.lt_of_lt_of_le (Nat.mul_lt_mul_of_pos_right h.lt (Nat.pow_pos (by omega))) (Nat.mul_le_mul_left _ h1)
  obtain ⟨A, n, c, rfl, hr, hn⟩ := h
  refine (ref_Shl hr (by omega) (by omega)).mono ?_
  rintro e w' ⟨A1, n1, c1, rfl, h1, hb⟩
  exact ⟨_, rfl, CanR.of h1 q, hb⟩
theorem call_RShr {kk : Int} (m : Nat) (h : CanR w a x K) (hK : K ≤ 1000000) (hm : m ≤ 1000000) (hkk : kk = (m : Int)) :
    Calls Tryz.prog 21 #[a, .int .i64 kk] w fun e w' => ∃ r, e = .returned r ∧ CanR w' r (x / 2 ^ m) K ∧ Below w.heap.size w w' := by
  subst hkk
  have q : x / 2 ^ m < 4294967296 ^ K := Nat.lt_of_le_of_lt (Nat.div_le_self _ _) h.lt
  obtain ⟨A, n, c, rfl, hr, hn⟩ := h
  rcases Nat.lt_or_ge (m / 32) n with h1 | h1
  · refine (ref_Shr hr (by omega) (by omega) h1).mono ?_
    rintro e w' ⟨A1, n1, c1, rfl, h1, hb⟩
    exact ⟨_, rfl, CanR.of h1 q, hb⟩
  · refine (ref_Shr_all hr (by omega) (by omega) h1).mono ?_
    rintro e w' ⟨rfl, h0, rfl⟩
    refine ⟨_, rfl, ⟨none, 0, 0, rfl, ?_, Nat.zero_le _⟩, Below.refl _ _⟩
    rw [h0]
    exact ⟨RdN.nil _ _ _ 0 (by omega) _, Lt.nil _⟩
end
theorem CanR.tight {w v x K K'} (h : CanR w v x K) (hx : x < 4294967296 ^ K') : CanR w v x K' := by
  obtain ⟨A, n, c, e, hr, hn⟩ := h
  subst e
  exact CanR.of hr hx
theorem CanR.nil (w : World) (K : Nat) : CanR w (.slice none 0 0) 0 K := ⟨none, 0, 0, rfl, ⟨RdN.nil _ _ _ 0 (by omega) _, Lt.nil _⟩, Nat.zero_le _⟩

/-- the root so far: its square is not above, and 2 to the k more would make it too great -/
structure RootInv (a x k : Nat) : Prop where
  le : x * x ≤ a
  gt : a < (x + 2 ^ k) * (x + 2 ^ k)
theorem RootInv.last {a x : Nat} (h : RootInv a x 0) : IsRoot a x := ⟨h.le, by have := h.gt; simpa using this⟩
theorem RootInv.yes {a x k : Nat} (h : RootInv a x (k + 1)) (hy : (x + 1 * 2 ^ k) * (x + 1 * 2 ^ k) ≤ a) : RootInv a (x + 1 * 2 ^ k) k := by
  refine ⟨hy, ?_⟩
  have := h.gt
  rw [Nat.one_mul, Nat.add_assoc, show 2 ^ k + 2 ^ k = 2 ^ (k + 1) by rw [Nat.pow_succ]; omega]
  exact this
theorem RootInv.no {a x k : Nat} (h : RootInv a x (k + 1)) (hy : a < (x + 1 * 2 ^ k) * (x + 1 * 2 ^ k)) : RootInv a x k := ⟨h.le, by rwa [Nat.one_mul] at hy⟩

set_option maxRecDepth 100000 in
set_option maxHeartbeats 4000000 in
theorem ref_Sqrt {a : Value} {x r K : Nat} {w : World} (h : CanR w a x K) (hK : K ≤ 1000) (hr : IsRoot x r) :
    Calls Tryz.prog 25 #[a] w fun e w' => ∃ s, e = .returned s ∧ CanR w' s r K ∧ Below w.heap.size w w' := by
  obtain ⟨B, hB⟩ : ∃ B, B = blen x := ⟨_, rfl⟩
  have hB1 : B ≤ 32 * K := by
    rw [hB]
    by_cases h0 : x = 0
    · rw [h0, blen_zero]; omega
    · have h1 := Nat.lt_of_le_of_lt (blen_le h0) h.lt
      rw [show (4294967296 : Nat) = 2 ^ 32 from rfl, ← Nat.pow_mul] at h1
      have := (Nat.pow_lt_pow_iff_right (show 1 < 2 by omega)).1 h1
      omega
  have hxB : x < 2 ^ B := by rw [hB]; exact lt_blen x
  have kb := call_RBits (z := (B : Int)) h (by omega) (by rw [hB])
  have KB := Lib.hid kb
  have HR := Lib.hid hr
  have s1 : IntKind.i64.wrap ((B : Int) + 1) = (B : Int) + 1 := IntWalk.i64_in _ (by omega)
  obtain ⟨k0, hk0⟩ : ∃ k0, k0 = (B + 1) / 2 := ⟨_, rfl⟩
  have e1 : ((B : Int) + 1) / 2 = (k0 : Int) := by omega
  have hstart : RootInv x 0 (k0 + 1) := by
    refine ⟨by omega, ?_⟩
    rw [Nat.zero_add, ← Nat.pow_add]
    exact Nat.lt_of_lt_of_le hxB (Nat.pow_le_pow_right (by omega) (by omega))
  have HS := Lib.hid hstart
  have hk1 : k0 ≤ 16 * K + 1 := by omega
  clear kb hr hB hxB hk0 hstart
  go_enter Tryz.func25, Tryz.ntmps25
  go_wp2_with fail
  refine KB.out.mono ?_
  rintro e w1 ⟨rfl, hb1⟩
  go_wp2
  have hxK := h.lt
  have HXK := Lib.hid hxK
  clear hxK
  rw [e1]
  go_loopw [3, 4] (fun xv kv wr => ∃ (kk y : Nat), kk ≤ k0 + 1 ∧ kv = .int .i64 ((kk : Int) - 1) ∧ CanR wr xv y K ∧ Hid (RootInv x y kk) ∧ Below w.heap.size w wr) (fun _ kv _ => (intOf kv + 1).toNat)
  case atStart => exact ⟨k0 + 1, 0, Nat.le_refl _, congrArg (Value.int .i64) (by omega), CanR.nil w1 K, HS, hb1⟩
  case round =>
    obtain ⟨kk, y, hkk, rfl, hy, hinv, hb⟩ := hrel
    cases kk with
    | zero =>
      have hry : y = r := IsRoot.unique hinv.out.last HR.out
      subst hry
      go_wp2
      go_ret
      exact ⟨_, rfl, hy, hb⟩
    | succ j =>
      have e2 : ((j + 1 : Nat) : Int) - 1 = (j : Int) := by omega
      rw [e2]
      have s2 : IntKind.i64.wrap ((j : Int) - 1) = (j : Int) - 1 := IntWalk.i64_in _ (by omega)
      have ha := h.below hb
      have hsz := hb.size
      go_wp2_with fail
      refine (ref_Of 1 (by omega) _).mono ?_
      rintro e w2 ⟨o, rfl, ho, hb2⟩
      have hy2 := hy.below hb2
      have ha2 := ha.below hb2
      go_wp2_with fail
      refine (call_RShl j ho (by decide) (by omega) rfl).mono ?_
      rintro e w3 ⟨t, rfl, ht, hb3⟩
      have hy3 := hy2.below hb3
      have ha3 := ha2.below hb3
      go_wp2_with fail
      refine (call_RAdd hy3 ht (by omega) (by omega)).mono ?_
      rintro e w4 ⟨u, rfl, hu, hb4⟩
      have hy4 := hy3.below hb4
      have ha4 := ha3.below hb4
      go_wp2_with fail
      refine (call_RMul hu hu (by omega) (by omega)).mono ?_
      rintro e w5 ⟨sq, rfl, hsq, hb5⟩
      have hy5 := hy4.below hb5
      have ha5 := ha4.below hb5
      have hu5 := hu.below hb5
      have hchain : Below w.heap.size w w5 := Gs.Below.tr hb (Gs.Below.tr hb2 (Gs.Below.tr hb3 (Gs.Below.tr hb4 hb5)))
      clear hy hy2 hy3 hy4 ha ha2 ha3 ha4 ho ht hu hb2 hb3 hb4 hb5
      by_cases hle : (y + 1 * 2 ^ j) * (y + 1 * 2 ^ j) ≤ x
      · obtain ⟨z, hz⟩ : ∃ z, cmpI (((y + 1 * 2 ^ j) * (y + 1 * 2 ^ j) : Nat) : Int) (x : Nat) = z := ⟨_, rfl⟩
        have hz1 : z ≤ 0 := by
          rw [← hz]
          rcases Nat.lt_or_ge ((y + 1 * 2 ^ j) * (y + 1 * 2 ^ j)) x with h1 | h1
          · rw [cmpI_lt h1]; decide
          · rw [cmpI_eq (Nat.le_antisymm hle h1)]; decide
        have HZ := Lib.hid hz
        have HY := Lib.hid (hinv.out.yes hle)
        have hylt : y + 1 * 2 ^ j < 4294967296 ^ K := by
          rcases Nat.eq_zero_or_pos (y + 1 * 2 ^ j) with h0 | h0
          · rw [h0]; exact Nat.pow_pos (by omega)
          · exact Nat.lt_of_le_of_lt (Nat.le_trans (Nat.le_mul_of_pos_left _ h0) hle) HXK.out
        have hu6 := CanR.tight hu5 hylt
        obtain ⟨Y, hY⟩ : ∃ Y, Y = y + 1 * 2 ^ j := ⟨_, rfl⟩
        rw [← hY] at hu6 hsq HY HZ
        clear hz hle hylt hu5 hY
        go_wp2_with fail
        refine (call_RCmp hsq ha5 (by omega) (by omega) HZ.out).mono ?_
        rintro e w6 ⟨rfl, hb6⟩
        have hu7 := hu6.below hb6
        go_wp2
        refine ⟨⟨j, Y, by omega, rfl, hu7, HY, Gs.Below.tr hchain hb6⟩, ?_⟩
        simp only [intOf]; omega
      · have HY := Lib.hid (hinv.out.no (by omega))
        have HZ := Lib.hid (cmpI_gt (x := (y + 1 * 2 ^ j) * (y + 1 * 2 ^ j)) (y := x) (by omega))
        clear hle hu5
        go_wp2_with fail
        refine (call_RCmp hsq ha5 (by omega) (by omega) HZ.out).mono ?_
        rintro e w6 ⟨rfl, hb6⟩
        have hy7 := hy5.below hb6
        go_wp2
        refine ⟨⟨j, y, by omega, rfl, hy7, HY, Gs.Below.tr hchain hb6⟩, ?_⟩
        simp only [intOf]; omega
end Go.Proofs.YtphiglbieffbjaaGreatDoor
