/- Contract: gessoref01's Text. -/
import Derived.Test.YtphiglbieffbjaaGreatDoorUg
import Derived.Laws.DeepStrings4
namespace Gs
theorem byt_append (s t : ByteArray) : byt (s ++ t) = byt s ++ byt t := by
  unfold byt
  rw [ByteArray.data_append, Array.toList_append, List.map_append]
/-- what is left of the number, and the text so far -/
def TextCat (v x : Nat) (s : ByteArray) : Prop := allDig (byt s) = true ∧ x * 10 ^ (byt s).length + dec (byt s) = v
theorem TextCat.start (v : Nat) : TextCat v v ⟨#[]⟩ := ⟨rfl, by simp [byt, dec]⟩
theorem TextCat.step {v x : Nat} {s p : ByteArray} (h : TextCat v x s) (hp : byt p = digs 9 (x % 10 ^ 9)) : TextCat v (x / 10 ^ 9) (p ++ s) := by
  obtain ⟨h1, h2⟩ := h
  refine ⟨?_, ?_⟩
  · rw [byt_append, allDig_append, hp, allDig_digs, h1]; rfl
  · rw [byt_append, dec_append, List.length_append, hp, digs_length, dec_digs, Nat.mod_mod, Nat.pow_add, ← h2]
    have := Nat.div_add_mod x (10 ^ 9)
    generalize 10 ^ (byt s).length = T at *
    generalize dec (byt s) = U at *
    rw [← Nat.add_assoc, ← Nat.mul_assoc, ← Nat.add_mul, Nat.mul_comm (x / 10 ^ 9), this]
/-- m of the nine digits, the last one first -/
def NineInv (r m : Nat) (d : ByteArray) (v : Nat) : Prop := v = r / 10 ^ m ∧ (byt d).length = m ∧ ∀ j, j < m → gd (byt d) j = 48 + r / 10 ^ (m - 1 - j) % 10
theorem NineInv.start (r : Nat) : NineInv r 0 ⟨#[]⟩ r := ⟨by simp, rfl, fun j h => by omega⟩
theorem NineInv.step {r m v : Nat} {d p : ByteArray} (h : NineInv r m d v) (hp : byt p = [48 + v % 10]) : NineInv r (m + 1) (p ++ d) (v / 10) := by
  obtain ⟨h1, h2, h3⟩ := h
  refine ⟨by rw [h1, Nat.div_div_eq_div_mul, ← Nat.pow_succ], by rw [byt_append, hp, List.length_append, h2, List.length_singleton]; omega, fun j hj => ?_⟩
  rw [byt_append, hp]
  cases j with
  | zero =>
    show 48 + v % 10 = _
    rw [h1]
    congr 2
  | succ j =>
    show gd ((48 + v % 10) :: byt d) (j + 1) = _
    rw [gd_cons_succ, h3 j (by omega)]
    congr 4
    omega
theorem NineInv.last {r v : Nat} {d : ByteArray} (h : NineInv r 9 d v) : byt d = digs 9 r := digs_ext h.2.1 fun j hj => h.2.2 j hj
theorem digit_cut {m : Nat} (h : m < 10) : byt ((⟨#[48, 49, 50, 51, 52, 53, 54, 55, 56, 57]⟩ : ByteArray).extract m (m + 1)) = [48 + m] := by
  have : m = 0 ∨ m = 1 ∨ m = 2 ∨ m = 3 ∨ m = 4 ∨ m = 5 ∨ m = 6 ∨ m = 7 ∨ m = 8 ∨ m = 9 := by omega
  rcases this with rfl | rfl | rfl | rfl | rfl | rfl | rfl | rfl | rfl | rfl <;> decide
/-- the places from k on tell the number -/
def TailIs (v k : Nat) (s : ByteArray) : Prop := k < s.size ∧ allDig ((byt s).drop k) = true ∧ dec ((byt s).drop k) = v
theorem TailIs.step {v k : Nat} {s : ByteArray} (h : TailIs v k s) (hk : k + 1 < s.size) (h0 : gd (byt s) k = 48) : TailIs v (k + 1) s := by
  obtain ⟨h1, h2, h3⟩ := h
  have hl : k < (byt s).length := by rw [byt_length]; exact h1
  rw [List.drop_eq_getElem_cons hl, ← gd_lt hl, h0] at h2 h3
  refine ⟨hk, ?_, ?_⟩
  · have : allDig (48 :: (byt s).drop (k + 1)) = (isDig 48 && allDig ((byt s).drop (k + 1))) := rfl
    rw [this, Bool.and_eq_true] at h2
    exact h2.2
  · rw [dec_cons] at h3
    simpa using h3
theorem TailIs.text {v k : Nat} {s : ByteArray} (h : TailIs v k s) (h0 : gd (byt s) k = 48 → s.size = k + 1) : IsText (s.extract k s.size) v := by
  obtain ⟨h1, h2, h3⟩ := h
  have hb := byt_extract s k
  have hs : (s.extract k s.size).size = s.size - k := by rw [ByteArray.size_extract]; omega
  refine ⟨by rw [hb]; exact h2, by rw [hb]; exact h3, by omega, fun hz => ?_⟩
  rw [hb, gd_drop, Nat.add_zero] at hz
  rw [hs, h0 hz]
  omega
end Gs
namespace Go.Proofs.YtphiglbieffbjaaGreatDoor
open Go.RowKit Gs
set_option linter.unusedVariables false

set_option maxRecDepth 100000 in
set_option maxHeartbeats 1000000 in
theorem ref_Text_zero {a : Value} {K : Nat} {w : World} (h : CanR w a 0 K) :
    Calls Tryz.prog 11 #[a] w fun e w' => e = .returned (.string ⟨#[48]⟩) ∧ w = w' := by
  obtain ⟨A, n, c, rfl, hr, hn⟩ := h
  obtain rfl : n = 0 := hr.rd.len.symm
  go_enter Tryz.func11, Tryz.ntmps11
  go_wp2
  go_ret
  exact ⟨rfl, rfl⟩

theorem two_at {W : World} {b : Nat} {u v : Value} {t : TypeId} (h : W.heap[b]? = some (.cells #[u, v] t (0, 0))) : W.cell? ⟨b, 0, none⟩ = some u ∧ W.cell? ⟨b, 1, none⟩ = some v := by simp [World.cell?, h]
theorem call_short {a : Value} {x K b : Nat} {w : World} (h : CanR w a x K) (hK : K ≤ 1000000) (hb0 : 0 < b) (hb1 : b < 4294967296) :
    Calls Tryz.prog 41 #[a, .int .u32 (b : Int)] w fun e w' => ∃ q r, e = .returned (.agg #[q, r]) ∧ CanR w' q (x / b) K ∧ CanR w' r (x % b) 1 ∧ Below w.heap.size w w' := by
  obtain ⟨A, n, c, rfl, hr, hn⟩ := h
  refine (ref_short hr (by omega) hb0 hb1).mono ?_
  rintro e w' ⟨q, r, rfl, ⟨Aq, nq, cq, rfl, hq, hnq⟩, hrr, hb⟩
  exact ⟨_, _, rfl, ⟨Aq, nq, cq, rfl, hq, by omega⟩, hrr, hb⟩

set_option maxRecDepth 100000 in
set_option maxHeartbeats 4000000 in
theorem ref_Text {a : Value} {x K L : Nat} {w : World} (h : CanR w a x K) (hK : K ≤ 1000) (h0 : x ≠ 0) (hL : x < 10 ^ L) (hL2 : L ≤ 100000) :
    Calls Tryz.prog 11 #[a] w fun e w' => ∃ s, e = .returned (.string s) ∧ IsText s x ∧ Below w.heap.size w w' := by
  obtain ⟨A, n, c, rfl, hr, hn⟩ := h
  have hlen := hr.rd.len
  simp only at hlen
  have hn0 : n ≠ 0 := fun e => h0 ((limbs_len_zero B32 x).1 (hlen.trans e))
  have t1 : ((n : Int) == 0) = false := by rw [beq_eq_false_iff_ne]; omega
  have t2 : ¬ (n : Int) = 0 := by omega
  have HL := Lib.hid hL
  have H0 := Lib.hid h0
  have ha0 : CanR w (.slice A n c) x K := ⟨A, n, c, rfl, hr, hn⟩
  clear hlen hL hr h0
  go_enter Tryz.func11, Tryz.ntmps11
  go_wp2
  go_loopg [0, 3] x (fun g av sv wr => ∃ (A : Option Addr) (n c : Nat) (s : ByteArray), av = .slice A n c ∧ sv = .string s ∧ R32 wr (fun _ => True) ⟨A, n, c⟩ (limbs 4294967296 g) ∧ n ≤ K ∧ Hid (TextCat x g s) ∧ Hid ((g ≠ 0 → g * 10 ^ s.size ≤ x) ∧ s.size ≤ L + 9) ∧ Below w.heap.size w wr)
  case atStart =>
    obtain ⟨A1, n1, c1, e, hr1, hn1⟩ := ha0
    injection e with e1 e2 e3
    subst e1 e2 e3
    exact ⟨A, n, c, ⟨#[]⟩, rfl, rfl, hr1, hn1, Lib.hid (TextCat.start x), Lib.hid ⟨fun _ => by rw [show (⟨#[]⟩ : ByteArray).size = 0 from rfl, Nat.pow_zero, Nat.mul_one]; exact Nat.le_refl _, Nat.zero_le _⟩, Below.refl _ _⟩
  case round =>
    obtain ⟨A1, n1, c1, s, rfl, rfl, hx, hn1, hcat, hsz, hb⟩ := hrel
    have hlen := hx.rd.len
    simp only at hlen
    by_cases hz : n1 = 0
    · subst hz
      have hg0 : gk = 0 := (limbs_len_zero B32 _).1 hlen
      subst hg0
      have hdec : dec (byt s) = x := by have := hcat.out.2; rw [Nat.zero_mul, Nat.zero_add] at this; exact this
      have hspos : 0 < s.size := by
        rcases Nat.eq_zero_or_pos s.size with h1 | h1
        · exfalso
          have h2 : byt s = [] := List.length_eq_zero_iff.1 (by rw [byt_length]; exact h1)
          rw [h2] at hdec
          exact H0.out hdec.symm
        · exact h1
      have htail : TailIs x 0 s := ⟨hspos, by rw [List.drop_zero]; exact hcat.out.1, by rw [List.drop_zero]; exact hdec⟩
      have hs2 := hsz.out.2
      have HT := Lib.hid htail
      have sl : IntKind.i64.wrap ((s.size : Int) - 1) = (s.size : Int) - 1 := IntWalk.i64_in _ (by omega)
      clear hdec htail hlen hx
      go_wp2
      go_loopw [8] (fun kv wr' => ∃ k : Nat, kv = .int .i64 k ∧ k < s.size ∧ Hid (TailIs x k s) ∧ wr' = wr) (fun kv _ => s.size - (intOf kv).toNat)
      case atStart => exact ⟨0, rfl, hspos, HT, rfl⟩
      case round =>
        obtain ⟨k, rfl, hk, ht, rfl⟩ := hrel
        obtain ⟨d, hd⟩ : ∃ d, d = gd (byt s) k := ⟨_, rfl⟩
        have hxd : (s[k]'hk).toNat = d := (byt_get s k hk).trans hd.symm
        have HD := Lib.hid hd
        clear hd
        have sk : IntKind.i64.wrap ((k : Int) + 1) = (k : Int) + 1 := IntWalk.i64_in _ (by omega)
        by_cases h1 : k + 1 < s.size
        · have t5 : (k : Int) < (s.size : Int) - 1 := by omega
          by_cases h48 : d = 48
          · have HN := Lib.hid (ht.out.step h1 (HD.out.symm.trans h48))
            subst h48
            go_wp2
            refine ⟨⟨k + 1, by go_num, h1, HN, trivial⟩, ?_⟩
            simp only [intOf]; omega
          · have HX := Lib.hid (ht.out.text (fun e => absurd (HD.out.trans e) h48))
            have t6 : ((d : Int) == 48) = false := by rw [beq_eq_false_iff_ne]; omega
            go_wp2
            go_ret
            exact ⟨_, rfl, HX.out, hb⟩
        · have t5 : ¬ (k : Int) < (s.size : Int) - 1 := by omega
          have HX := Lib.hid (ht.out.text (fun _ => by omega))
          go_wp2
          go_ret
          exact ⟨_, rfl, HX.out, hb⟩
    · have hg0 : gk ≠ 0 := fun e => hz (by rw [← hlen, e]; rfl)
      have hpos : (0 : Int) < (n1 : Int) := by omega
      have ka := call_short (b := 1000000000) (show CanR wr (.slice A1 n1 c1) gk K from ⟨A1, n1, c1, rfl, hx, hn1⟩) (by omega) (by decide) (by decide)
      have KA := Lib.hid ka
      have HG0 := Lib.hid hg0
      clear ka hlen hg0
      go_wp2_with fail
      refine KA.out.mono ?_
      rintro e w1 ⟨q, r, rfl, hq, hr, hb1⟩
      obtain ⟨Aq, nq, cq, rfl, hq1, hnq⟩ := hq
      obtain ⟨Ar, nr, cr, rfl, hr1, hnr⟩ := hr
      obtain ⟨r0, hr0⟩ : ∃ r0, r0 = gk % 1000000000 := ⟨_, rfl⟩
      have hr0lt : r0 < 1000000000 := by rw [hr0]; exact Nat.mod_lt _ (by omega)
      rw [← hr0] at hr1
      have HR0 := Lib.hid hr0
      have hrlen := hr1.rd.len
      simp only at hrlen
      have hal : Below w1.heap.size w1 (w1.alloc (.cells #[.slice Aq nq cq, .slice Ar nr cr] 40)) := (Below.refl _ w1).alloc (Nat.le_refl _) _
      have hr2 := hr1.below hal
      have hq2 := hq1.below hal
      have hcase : (r0 = 0 ∧ nr = 0) ∨ (r0 ≠ 0 ∧ nr = 1 ∧ ∃ ad, Ar = some ad ∧ (w1.alloc (.cells #[.slice Aq nq cq, .slice Ar nr cr] 40)).cell? ad = some (.int .u32 (r0 : Int))) := by
        by_cases h1 : r0 = 0
        · left; exact ⟨h1, by rw [← hrlen, h1]; rfl⟩
        · right
          have h2 : limbs 4294967296 r0 = [r0] := limbs_eq B32 (Lt.cons (by omega) (Lt.nil _)) (by intro x hx; simp at hx; omega) (by simp [val])
          have h3 : nr = 1 := by rw [← hrlen, h2]; rfl
          obtain ⟨ad, e, hc⟩ := hr2.rd.at 0 (by show 0 < nr; omega)
          simp only at e
          refine ⟨h1, h3, ad, e, ?_⟩
          rw [h2, show ad.add 0 = ad by unfold Addr.add; rw [if_pos rfl]] at hc
          exact hc
      have hT2 : (w1.alloc (.cells #[.slice Aq nq cq, .slice Ar nr cr] 40)).heap[w1.heap.size]? = some (.cells #[.slice Aq nq cq, .slice Ar nr cr] 40 (0, 0)) := heap_alloc_new w1 _
      have hc0 : (w1.alloc (.cells #[.slice Aq nq cq, .slice Ar nr cr] 40)).cell? ⟨w1.heap.size, 0, none⟩ = some (.slice Aq nq cq) := (two_at hT2).1
      have hc1 : (w1.alloc (.cells #[.slice Aq nq cq, .slice Ar nr cr] 40)).cell? ⟨w1.heap.size, 1, none⟩ = some (.slice Ar nr cr) := (two_at hT2).2
      have hbW : Below w.heap.size w (w1.alloc (.cells #[.slice Aq nq cq, .slice Ar nr cr] 40)) := Gs.Below.then hb hb.size (Gs.Below.tr hb1 hal)
      clear hr1 hq1 hr2 hrlen hal hr0 hx hb1 hb
      obtain ⟨W2, hW2⟩ : ∃ W2, W2 = w1.alloc (.cells #[.slice Aq nq cq, .slice Ar nr cr] 40) := ⟨_, rfl⟩
      have HW2 := Lib.hid hW2
      rw [← hW2] at hcase hq2 hc0 hc1 hbW
      have hal2 : ∀ o : Obj, o = .cells #[.slice Aq nq cq, .slice Ar nr cr] 40 → w1.alloc o = W2 := fun o ho => by rw [ho, hW2]
      clear hW2 hT2
      have wu : IntKind.u64.wrap (r0 : Int) = (r0 : Int) := by rw [IntKind.wrap_u64]; omega
      rcases hcase with ⟨rfl, rfl⟩ | ⟨hne, rfl, ad, rfl, hcr⟩
      all_goals
        go_wp2
        go_loopw [5, 6, 7] (fun vv dv iv wr' => ∃ (i v : Nat) (d : ByteArray), i ≤ 9 ∧ v < 1000000000 ∧ iv = .int .i64 i ∧ vv = .int .u64 v ∧ dv = .string d ∧ Hid (NineInv (gk % 1000000000) i d v) ∧ wr' = W2) (fun _ _ iv _ => 9 - (intOf iv).toNat)
        case atStart => exact ⟨0, _, ⟨#[]⟩, by omega, hr0lt, rfl, rfl, rfl, Lib.hid (by rw [← HR0.out]; exact NineInv.start _), rfl⟩
        case round =>
          obtain ⟨i, v, d, hi, hv, rfl, rfl, rfl, hnine, rfl⟩ := hrel
          have si : IntKind.i64.wrap ((i : Int) + 1) = (i : Int) + 1 := IntWalk.i64_in _ (by omega)
          by_cases h9 : i < 9
          · have sv : IntKind.u64.wrap ((v : Int) % 10 + 1) = (v : Int) % 10 + 1 := by rw [IntKind.wrap_u64]; omega
            have hm := Nat.mod_lt v (show 0 < 10 by omega)
            have HN := Lib.hid (hnine.out.step (p := (⟨#[48, 49, 50, 51, 52, 53, 54, 55, 56, 57]⟩ : ByteArray).extract (v % 10) (v % 10 + 1)) (digit_cut hm))
            have t5 : (i : Int) < 9 := by omega
            have hv10 : v / 10 < 1000000000 := by omega
            have ks : ∀ W : World, (Instr.slice 9 (.string ⟨#[48, 49, 50, 51, 52, 53, 54, 55, 56, 57]⟩) (some (.int .u64 ((v : Int) % 10))) (some (.int .u64 ((v : Int) % 10 + 1))) none).run Tryz.prog W = .ok (.string ((⟨#[48, 49, 50, 51, 52, 53, 54, 55, 56, 57]⟩ : ByteArray).extract (v % 10) (v % 10 + 1))) W := by
              intro W
              have e1 : ((v : Int) % 10).toNat = v % 10 := by omega
              have e2 : ((v : Int) % 10 + 1).toNat = v % 10 + 1 := by omega
              rw [run_slice_string_if W 9 _ .u64 .u64 _ _ Tryz.underlying9, if_pos ⟨by omega, by show _ ≤ ((10 : Nat) : Int); omega⟩, if_pos ⟨by omega, by omega⟩, e1, e2]
            obtain ⟨D1, hD1⟩ : ∃ D1, D1 = (⟨#[48, 49, 50, 51, 52, 53, 54, 55, 56, 57]⟩ : ByteArray).extract (v % 10) (v % 10 + 1) := ⟨_, rfl⟩
            have hD1s : D1.size = 1 := by rw [hD1, ← byt_length, digit_cut hm]; rfl
            have hds : d.size = i := by rw [← byt_length]; exact hnine.out.2.1
            have hadd : D1.size + d.size ≤ 9223372036854775807 := by omega
            rw [← hD1] at ks HN
            clear hD1 hD1s hds
            go_wp2
            refine ⟨⟨i + 1, v / 10, D1 ++ d, by omega, hv10, by go_num, by go_num, rfl, HN, trivial⟩, ?_⟩
            simp only [intOf]; omega
          · obtain rfl : i = 9 := by omega
            have hd9 : byt d = digs 9 (gk % 10 ^ 9) := hnine.out.last
            have hcat2 := hcat.out.step hd9
            have hs9 : (d ++ s).size = s.size + 9 := by
              rw [← byt_length, byt_append, List.length_append, hd9, digs_length, byt_length]; omega
            have hsz2 : (gk / 10 ^ 9 ≠ 0 → gk / 10 ^ 9 * 10 ^ (d ++ s).size ≤ x) ∧ (d ++ s).size ≤ L + 9 := by
              have h1 := hsz.out.1 HG0.out
              rw [hs9]
              refine ⟨fun _ => ?_, ?_⟩
              · rw [Nat.pow_add, Nat.mul_comm (10 ^ s.size), ← Nat.mul_assoc]
                exact Nat.le_trans (Nat.mul_le_mul_right _ (Nat.div_mul_le_self gk (10 ^ 9))) h1
              · have h2 : 10 ^ s.size < 10 ^ L := Nat.lt_of_le_of_lt (Nat.le_trans (Nat.le_mul_of_pos_left _ (Nat.pos_of_ne_zero HG0.out)) h1) HL.out
                have := (Nat.pow_lt_pow_iff_right (show 1 < 10 by omega)).1 h2
                omega
            have hadd : d.size + s.size ≤ 9223372036854775807 := by
              have h1 : d.size = 9 := by rw [← byt_length]; exact hnine.out.2.1
              have h2 := hsz.out.2
              omega
            have HC2 := Lib.hid hcat2
            have HS2 := Lib.hid hsz2
            clear hd9 hcat2 hs9 hsz2
            go_wp2
            refine Handed.intro (gk / 1000000000) (Nat.div_lt_self (Nat.pos_of_ne_zero HG0.out) (by decide)) ?_
            rotate_left
            go_step
            repeat apply Exists.intro
            refine ⟨⟨Aq, nq, cq, d ++ s, rfl, rfl, hq2, hnq, HC2, HS2, hbW⟩, rfl⟩
end Go.Proofs.YtphiglbieffbjaaGreatDoor
