/- Contract: gessoref01's Parse. -/
import Derived.Test.YtphiglbieffbjaaGreatDoorUf
namespace Gs
theorem allDig_get {D : List Nat} (h : allDig D = true) {j : Nat} (hj : j < D.length) : 48 ≤ gd D j ∧ gd D j ≤ 57 := by
  have := List.all_eq_true.1 h _ (List.getElem_mem hj)
  simp only [isDig, Bool.and_eq_true, decide_eq_true_eq] at this
  rw [gd_lt hj]
  exact this
theorem gd_take_drop {D : List Nat} {i k : Nat} (hik : i ≤ k) : gd (D.drop i) (k - i) = gd D k := by
  rw [gd_drop, show i + (k - i) = k by omega]
theorem dec_take_cut (D : List Nat) {i e : Nat} (h : i ≤ e) (he : e ≤ D.length) : dec (D.take e) = dec (D.take i) * 10 ^ (e - i) + dec ((D.drop i).take (e - i)) := by
  have h1 : D.take e = D.take i ++ (D.drop i).take (e - i) := by
    conv => lhs; rw [show e = i + (e - i) by omega, List.take_add]
  rw [h1, dec_append]
  congr 2
  rw [List.length_take, List.length_drop]
  congr 1
  omega
theorem dec_take_lt {D : List Nat} (h : allDig D = true) (i : Nat) : dec (D.take i) < 10 ^ i := by
  have h1 : allDig (D.take i) = true := by
    have := allDig_take_drop D i
    rw [h] at this
    exact ((Bool.and_eq_true _ _).mp this.symm).1
  exact Nat.lt_of_lt_of_le (dec_lt h1) (Nat.pow_le_pow_right (by omega) (by rw [List.length_take]; omega))
theorem dec_take_lt32 {D : List Nat} (h : allDig D = true) (i : Nat) {M : Nat} (hM : D.length ≤ M) : dec (D.take i) < 4294967296 ^ M := by
  have h1 : allDig (D.take i) = true := by
    have := allDig_take_drop D i
    rw [h] at this
    exact ((Bool.and_eq_true _ _).mp this.symm).1
  refine Nat.lt_of_lt_of_le (dec_lt h1) (Nat.le_trans (Nat.pow_le_pow_right (by omega) (show (D.take i).length ≤ M by rw [List.length_take]; omega)) (Nat.pow_le_pow_left (by omega) M))
end Gs
namespace Go.Proofs.YtphiglbieffbjaaGreatDoor
open Go.RowKit Gs
set_option linter.unusedVariables false

set_option maxRecDepth 100000 in
set_option maxHeartbeats 1000000 in
theorem ref_Parse_long {w : World} {s : ByteArray} (h : 20000 < s.size) :
    Calls Tryz.prog 8 #[.string s] w fun e w' => e = .returned (.tuple #[.slice none 0 0, .int .i64 2]) ∧ w = w' := by
  have t1 : (20000 : Int) < (s.size : Int) := by omega
  go_enter Tryz.func8, Tryz.ntmps8
  go_wp2
  go_ret2
  exact ⟨rfl, rfl⟩
set_option maxRecDepth 100000 in
set_option maxHeartbeats 1000000 in
theorem ref_Parse_empty {w : World} {s : ByteArray} (h : s.size = 0) :
    Calls Tryz.prog 8 #[.string s] w fun e w' => e = .returned (.tuple #[.slice none 0 0, .int .i64 11]) ∧ w = w' := by
  have t1 : ¬ (20000 : Int) < (s.size : Int) := by omega
  have t2 := isEmpty_true h
  go_enter Tryz.func8, Tryz.ntmps8
  go_wp2
  go_ret2
  exact ⟨rfl, rfl⟩
set_option maxRecDepth 100000 in
set_option maxHeartbeats 1000000 in
theorem ref_Parse_zero {w : World} {s : ByteArray} (h : 1 < s.size) (h2 : s.size ≤ 20000) (h0 : gd (byt s) 0 = 48) :
    Calls Tryz.prog 8 #[.string s] w fun e w' => e = .returned (.tuple #[.slice none 0 0, .int .i64 11]) ∧ w = w' := by
  have t1 : ¬ (20000 : Int) < (s.size : Int) := by omega
  have t2 := isEmpty_false (show s.size ≠ 0 by omega)
  have t3 : (1 : Int) < (s.size : Int) := by omega
  have hx : (s[0]'(show 0 < s.size by omega)).toNat = 48 := (byt_get s 0 _).trans h0
  go_enter Tryz.func8, Tryz.ntmps8
  go_wp2
  go_ret2
  exact ⟨rfl, rfl⟩

set_option maxRecDepth 100000 in
set_option maxHeartbeats 4000000 in
theorem ref_Parse_ok {w : World} {s : ByteArray} {M : Nat} (h : 0 < s.size) (hM : s.size ≤ M) (hM2 : M ≤ 1000) (h0 : gd (byt s) 0 = 48 → s.size = 1) :
    Calls Tryz.prog 8 #[.string s] w fun e w' => ∃ r, e = .returned (.tuple #[r, .int .i64 (parseE (byt s))]) ∧ CanR w' r (if allDig (byt s) = true then dec (byt s) else 0) M ∧ Below w.heap.size w w' := by
  obtain ⟨V, hV⟩ : ∃ V, V = (if allDig (byt s) = true then dec (byt s) else 0) := ⟨_, rfl⟩
  rw [← hV]
  have HV := Lib.hid hV
  have t1 : ¬ (20000 : Int) < (s.size : Int) := by omega
  have t2 := isEmpty_false (show s.size ≠ 0 by omega)
  have hcase : (¬ (s[0]'h).toNat = 48) ∨ ((s[0]'h).toNat = 48 ∧ (s.size : Int) ≤ 1) := by
    by_cases h3 : gd (byt s) 0 = 48
    · right; have := h0 h3; exact ⟨(byt_get s 0 h).trans h3, by omega⟩
    · left; rw [byt_get s 0 h]; exact h3
  clear hV
  rcases hcase with hx | ⟨hx, hx2⟩
  all_goals
    go_enter Tryz.func8, Tryz.ntmps8
    go_wp2
    go_loopw [5] (fun iv wr => ∃ i : Nat, i ≤ s.size ∧ iv = .int .i64 i ∧ Hid (allDig ((byt s).take i) = true) ∧ Below w.heap.size w wr) (fun iv _ => s.size - (intOf iv).toNat)
    case atStart => exact ⟨0, by omega, rfl, Lib.hid rfl, Below.refl _ _⟩
    case round =>
      obtain ⟨i, hi, rfl, hal, hb⟩ := hrel
      have si : IntKind.i64.wrap ((i : Int) + 1) = (i : Int) + 1 := IntWalk.i64_in _ (by omega)
      by_cases hlt : i < s.size
      · obtain ⟨d, hd⟩ : ∃ d, d = gd (byt s) i := ⟨_, rfl⟩
        have hxd : (s[i]'hlt).toNat = d := (byt_get s i hlt).trans hd.symm
        have HD := Lib.hid hd
        clear hd
        have hlen : i < (byt s).length := by rw [byt_length]; exact hlt
        by_cases hbad : d < 48 ∨ (¬ d < 48 ∧ 57 < d)
        · have hfal : allDig (byt s) = false := by
            refine allDig_false hlen ?_
            rw [← HD.out]
            unfold isDig
            rcases hbad with h1 | ⟨_, h1⟩
            · rw [decide_eq_false (show ¬ 48 ≤ d by omega)]; rfl
            · rw [decide_eq_false (show ¬ d ≤ 57 by omega), Bool.and_false]
          have hv0 : V = 0 := by rw [HV.out, hfal]; rfl
          have HF := Lib.hid (parse_bad hfal)
          subst hv0
          clear hfal
          rcases hbad with h1 | ⟨h0, h1⟩
          all_goals
            go_wp2
            go_ret2
            exact ⟨_, by rw [HF.out.2]; rfl, CanR.nil _ _, hb⟩
        · have hd1 : 48 ≤ d := by omega
          have hd2 : d ≤ 57 := by omega
          have hd3 : ¬ d < 48 := by omega
          have hd4 : ¬ 57 < d := by omega
          have hn2 : allDig ((byt s).take (i + 1)) = true := by
            rw [allDig_take_succ hlen, hal.out, ← HD.out]
            unfold isDig
            rw [decide_eq_true hd1, decide_eq_true hd2]
            rfl
          have HN2 := Lib.hid hn2
          clear hn2 hbad
          go_wp2
          refine ⟨⟨i + 1, by omega, by go_num, HN2, hb⟩, ?_⟩
          simp only [intOf]; omega
      · obtain rfl : i = s.size := by omega
        have hall : allDig (byt s) = true := by
          have := hal.out
          rwa [List.take_of_length_le (by rw [byt_length]; exact Nat.le_refl _)] at this
        have hv1 : V = dec (byt s) := by rw [HV.out, if_pos hall]
        have HA := Lib.hid hall
        have HV1 := Lib.hid hv1
        clear hall hv1
        go_wp2
        go_loopw [4, 6] (fun av iv wr2 => ∃ (i : Nat), i ≤ s.size + 8 ∧ iv = .int .i64 i ∧ CanR wr2 av (dec ((byt s).take i)) M ∧ Below w.heap.size w wr2) (fun _ iv _ => s.size + 9 - (intOf iv).toNat)
        case atStart => exact ⟨0, by omega, rfl, CanR.nil _ _, hb⟩
        case round =>
          obtain ⟨i, hi, rfl, ha, hb⟩ := hrel
          by_cases hlt : i < s.size
          · obtain ⟨e, he⟩ : ∃ e, e = min (i + 9) s.size := ⟨_, rfl⟩
            have s9 : IntKind.i64.wrap ((i : Int) + 9) = (i : Int) + 9 := IntWalk.i64_in _ (by omega)
            have hm : (if (s.size : Int) < (i : Int) + 9 then (s.size : Int) else (i : Int) + 9) = (e : Int) := by split <;> omega
            have hm2 : min ((i : Int) + 9) (s.size : Int) = (e : Int) := by omega
            have he1 : i < e := by omega
            have he2 : e ≤ s.size := by omega
            have he3 : e ≤ i + 9 := by omega
            have HE := Lib.hid he
            clear he
            have hdall := Lib.hid (fun j (hj : j < s.size) => allDig_get HA.out (show j < (byt s).length by rw [byt_length]; exact hj))
            have hvb := Lib.hid (fun m => dec_take_lt (show allDig ((byt s).drop i) = true by
              have := allDig_take_drop (byt s) i
              rw [HA.out] at this
              exact ((Bool.and_eq_true _ _).mp this.symm).2) m)
            go_wp2
            go_loopw [7, 8, 9] (fun pv vv kv wr3 => ∃ (k p v : Nat), i ≤ k ∧ k ≤ e ∧ kv = .int .i64 k ∧ pv = .int .u64 p ∧ vv = .int .u64 v ∧ Hid (p = 10 ^ (k - i)) ∧ Hid (v = dec (((byt s).drop i).take (k - i))) ∧ CanR wr3 u4 (dec ((byt s).take i)) M ∧ Below w.heap.size w wr3) (fun _ _ kv _ => e - (intOf kv).toNat)
            case atStart => exact ⟨i, 1, 0, Nat.le_refl _, by omega, rfl, rfl, rfl, Lib.hid (by rw [Nat.sub_self]), Lib.hid (by rw [Nat.sub_self]; rfl), ha, hb⟩
            case round =>
              obtain ⟨k, p, v, hik, hke, rfl, rfl, rfl, hp, hv, ha, hb⟩ := hrel
              have sk : IntKind.i64.wrap ((k : Int) + 1) = (k : Int) + 1 := IntWalk.i64_in _ (by omega)
              by_cases hlk : k < e
              · have hks : k < s.size := by omega
                obtain ⟨d, hd⟩ : ∃ d, d = gd (byt s) k := ⟨_, rfl⟩
                have hxd : (s[k]'hks).toNat = d := (byt_get s k hks).trans hd.symm
                have hdd := hdall.out k hks
                rw [← hd] at hdd
                have hp2 : p ≤ 10 ^ 8 := by rw [hp.out]; exact Nat.pow_le_pow_right (by omega) (by omega)
                have hv2 : v < 10 ^ 8 := by rw [hv.out]; exact Nat.lt_of_lt_of_le (hvb.out _) (Nat.pow_le_pow_right (by omega) (by omega))
                have hn1 : p * 10 = 10 ^ (k + 1 - i) := by rw [hp.out, show k + 1 - i = (k - i) + 1 by omega, Nat.pow_succ]
                have hn2 : v * 10 + (d - 48) = dec (((byt s).drop i).take (k + 1 - i)) := by
                  rw [show k + 1 - i = (k - i) + 1 by omega, dec_take_succ (by rw [List.length_drop, byt_length]; omega), gd_take_drop hik, ← hv.out, ← hd]
                have HN1 := Lib.hid hn1
                have HN2 := Lib.hid hn2
                have hw1 : IntKind.u8.wrap ((d : Int) - 48) = ((d - 48 : Nat) : Int) := by rw [IntKind.wrap_u8]; omega
                have hw2 : IntKind.u64.wrap ((v : Int) * 10) = ((v * 10 : Nat) : Int) := by rw [IntKind.wrap_u64]; omega
                have hw4 : IntKind.u64.wrap ((d - 48 : Nat) : Int) = ((d - 48 : Nat) : Int) := by rw [IntKind.wrap_u64]; omega
                have hw5 : IntKind.u64.wrap ((v : Int) * 10 + ((d - 48 : Nat) : Int)) = ((v * 10 + (d - 48) : Nat) : Int) := by rw [IntKind.wrap_u64]; omega
                have hw6 : IntKind.u64.wrap ((p : Int) * 10) = (p : Int) * 10 := by rw [IntKind.wrap_u64]; omega
                have HW5 := Lib.hid hw5
                have t5 : (k : Int) < (e : Int) := by omega
                clear hd hdd hp2 hv2 hn1 hn2 hw5
                go_wp2
                refine ⟨⟨k + 1, p * 10, v * 10 + (d - 48), by omega, by omega, by go_num, by go_num, congrArg (Value.int .u64) HW5.out, HN1, HN2, ha, hb⟩, ?_⟩
                simp only [intOf]; omega
              · obtain rfl : k = e := by omega
                have hplt : p < 18446744073709551616 := by
                  rw [hp.out]
                  exact Nat.lt_of_le_of_lt (Nat.pow_le_pow_right (by omega) (show k - i ≤ 9 by omega)) (by decide)
                have hvlt : v < 18446744073709551616 := by
                  rw [hv.out]
                  exact Nat.lt_trans (hvb.out _) (Nat.lt_of_le_of_lt (Nat.pow_le_pow_right (by omega) (show k - i ≤ 9 by omega)) (by decide))
                have hnew : dec ((byt s).take i) * p + v = dec ((byt s).take (i + 9)) := by
                  have h1 : (byt s).take (i + 9) = (byt s).take k := by
                    by_cases h9 : i + 9 ≤ s.size
                    · have := HE.out; rw [show k = i + 9 by omega]
                    · have := HE.out
                      rw [List.take_of_length_le (by rw [byt_length]; omega), List.take_of_length_le (by rw [byt_length]; omega)]
                  rw [h1, dec_take_cut _ hik (by rw [byt_length]; exact he2), hp.out, hv.out]
                have hb1000 : dec ((byt s).take (i + 9)) < 4294967296 ^ M := dec_take_lt32 HA.out _ (by rw [byt_length]; exact hM)
                have HNEW := Lib.hid hnew
                have HB := Lib.hid hb1000
                clear hnew hb1000
                go_wp2_with fail
                refine (ref_Of p hplt _).mono ?_
                rintro e w2 ⟨o1, rfl, ho1, hb2⟩
                have ha2 := ha.below hb2
                go_wp2_with fail
                refine (call_RMul ha2 ho1 (by omega) (by decide)).mono ?_
                rintro e w3 ⟨o2, rfl, ho2, hb3⟩
                go_wp2_with fail
                refine (ref_Of v hvlt _).mono ?_
                rintro e w4 ⟨o3, rfl, ho3, hb4⟩
                have ho22 := ho2.below hb4
                go_wp2_with fail
                refine (call_RAdd ho22 ho3 (by omega) (by decide)).mono ?_
                rintro e w5 ⟨o4, rfl, ho4, hb5⟩
                rw [HNEW.out] at ho4
                have ho5 := CanR.tight ho4 HB.out
                have hB5 : Below w.heap.size w w5 := Gs.Below.tr hb (Gs.Below.tr hb2 (Gs.Below.tr hb3 (Gs.Below.tr hb4 hb5)))
                clear ha ha2 ho1 ho2 ho22 ho3 ho4 hb hb2 hb3 hb4 hb5
                go_wp2
                refine ⟨⟨i + 9, by omega, by go_num, ho5, hB5⟩, ?_⟩
                simp only [intOf]; omega
          · have hfin : (byt s).take i = byt s := List.take_of_length_le (by rw [byt_length]; omega)
            rw [hfin, ← HV1.out] at ha
            have HG := Lib.hid (parse_good HA.out)
            have HAA := Lib.hid ha
            clear hfin ha
            go_wp2
            go_ret2
            exact ⟨_, by rw [HG.out.2]; rfl, HAA.out, hb⟩
end Go.Proofs.YtphiglbieffbjaaGreatDoor
