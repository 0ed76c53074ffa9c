/- Contract: nat.Parse. -/
import Derived.Test.YtlpfbcilnfgaaaaGreatDoorNd
import Derived.Test.YtlpfbcilnfgaaaaGreatDoorNc
import Derived.Test.YtlpfbcilnfgaaaaGreatDoorTf
import Derived.Test.YtlpfbcilnfgaaaaGreatDoorMg
namespace Go.Proofs.YtlpfbcilnfgaaaaGreatDoor
open Go.RowKit Gs
set_option linter.unusedVariables false

set_option maxRecDepth 100000 in
set_option maxHeartbeats 1000000 in
theorem nat_Parse_long {w : World} {s : ByteArray} (h : 20000 < s.size) :
    Calls Tryz.prog 113 #[.string s] w fun e w' => e = .returned (.tuple #[.slice none 0 0, .int .i64 2]) ∧ w = w' := by
  have t1 : (20000 : Int) < (s.size : Int) := by omega
  go_enter Tryz.func113, Tryz.ntmps113
  go_wp2
  go_ret2
  exact ⟨rfl, rfl⟩
theorem isEmpty_true {s : ByteArray} (h : s.size = 0) : s.toList.isEmpty = true := by
  rw [ByteArray.toList_eq]
  have : s.data.toList.length = 0 := h
  simp [List.length_eq_zero_iff.1 this]
theorem isEmpty_false {s : ByteArray} (h : s.size ≠ 0) : s.toList.isEmpty = false := by
  rw [ByteArray.toList_eq]
  rw [List.isEmpty_eq_false_iff]
  intro e
  apply h
  show s.data.toList.length = 0
  rw [e]; rfl
theorem str_index {s : ByteArray} {i : Nat} (h : i < s.size) (w : World) : (Instr.index 9 (.string s) (.int .i64 (i : Int))).run Tryz.prog w = .ok (.int .u8 (gd (byt s) i : Nat)) w := by
  rw [run_index_string w 9 s .i64 i Tryz.underlying9, dif_pos ⟨by omega, by omega⟩]
  congr 2
  have := byt_get s i h
  simp only [Int.toNat_natCast]
  rw [this]

set_option maxRecDepth 100000 in
set_option maxHeartbeats 1000000 in
theorem nat_Parse_empty {w : World} {s : ByteArray} (h : s.size = 0) :
    Calls Tryz.prog 113 #[.string s] w fun e w' => e = .returned (.tuple #[.slice none 0 0, .int .i64 11]) ∧ w = w' := by
  have t1 : ¬ (20000 : Int) < (s.size : Int) := by omega
  have t2 := isEmpty_true h
  go_enter Tryz.func113, Tryz.ntmps113
  go_wp2
  go_ret2
  exact ⟨rfl, rfl⟩
set_option maxRecDepth 100000 in
set_option maxHeartbeats 1000000 in
theorem nat_Parse_zero {w : World} {s : ByteArray} (h : 1 < s.size) (h2 : s.size ≤ 20000) (h0 : gd (byt s) 0 = 48) :
    Calls Tryz.prog 113 #[.string s] w fun e w' => e = .returned (.tuple #[.slice none 0 0, .int .i64 11]) ∧ w = w' := by
  have t1 : ¬ (20000 : Int) < (s.size : Int) := by omega
  have t2 := isEmpty_false (show s.size ≠ 0 by omega)
  have t3 : (1 : Int) < (s.size : Int) := by omega
  have hx : (s[0]'(show 0 < s.size by omega)).toNat = 48 := (byt_get s 0 _).trans h0
  go_enter Tryz.func113, Tryz.ntmps113
  go_wp2
  go_ret2
  exact ⟨rfl, rfl⟩

/-- what Parse tells of a text of digits, and of another text -/
def parseV (D : List Nat) : List Nat := if allDig D = true then limbs 18446744073709551616 (dec D) else []
def parseE (D : List Nat) : Int := if allDig D = true then 0 else 11
theorem parse_good {D : List Nat} (h : allDig D = true) : parseV D = limbs 18446744073709551616 (dec D) ∧ parseE D = 0 := by
  unfold parseV parseE
  rw [if_pos h, if_pos h]
  exact ⟨rfl, rfl⟩
theorem parse_bad {D : List Nat} (h : allDig D = false) : parseV D = [] ∧ parseE D = 11 := by
  unfold parseV parseE
  rw [h, if_neg (by decide), if_neg (by decide)]
  exact ⟨rfl, rfl⟩
theorem ten_alloc (W : World) : (Instr.alloc 176 true (.tuple #[])).run Tryz.prog W = .ok (.pointer (some ⟨W.heap.size, 0, none⟩)) (W.alloc (.cells (Value.int .u32 0 :: Value.int .i32 0 :: Value.int .u32 0 :: nums .u64 (List.replicate 19 0)).toArray 176)) := by kernel_rfl
theorem ten_new (W : World) : TenS (W.alloc (.cells (Value.int .u32 0 :: Value.int .i32 0 :: Value.int .u32 0 :: nums .u64 (List.replicate 19 0)).toArray 176)) W.heap.size := ⟨List.replicate 19 0, .inl ⟨heap_alloc_new W _, rfl⟩⟩

set_option maxRecDepth 100000 in
set_option maxHeartbeats 4000000 in
theorem nat_Parse_ok {w : World} {s : ByteArray} (h : 0 < s.size) (h2 : s.size ≤ 20000) (h0 : gd (byt s) 0 = 48 → s.size = 1) :
    Calls Tryz.prog 113 #[.string s] w fun e w' => ∃ A1 n1 c1, e = .returned (.tuple #[.slice A1 n1 c1, .int .i64 (parseE (byt s))]) ∧ RdU w' (fun b => w.heap.size ≤ b) ⟨A1, n1, c1⟩ (parseV (byt s)) ∧ Below w.heap.size w w' := by
  have t1 : ¬ (20000 : Int) < (s.size : Int) := by omega
  have t2 := isEmpty_false (show s.size ≠ 0 by omega)
  have hn := ten_new w
  have hB1 : Below w.heap.size w (w.alloc (.cells (Value.int .u32 0 :: Value.int .i32 0 :: Value.int .u32 0 :: nums .u64 (List.replicate 19 0)).toArray 176)) := (Below.refl _ w).alloc (Nat.le_refl _) _
  have ht := ten_alloc w
  have hcase : (¬ (s[0]'h).toNat = 48) ∨ ((s[0]'h).toNat = 48 ∧ (s.size : Int) ≤ 1) := by
    by_cases h3 : gd (byt s) 0 = 48
    · right; have := h0 h3; exact ⟨(byt_get s 0 h).trans h3, by omega⟩
    · left; rw [byt_get s 0 h]; exact h3
  rcases hcase with hx | ⟨hx, hx2⟩
  all_goals
    go_enter Tryz.func113, Tryz.ntmps113
    go_wp2
    go_loopw [0, 5] (fun vs va wr => ∃ (s1 : ByteArray) (A : Option Addr) (n c x : Nat), vs = .string s1 ∧ va = .slice A n c ∧ s1.size ≤ 20000 ∧ RdU wr (fun b => w.heap.size + 1 ≤ b) ⟨A, n, c⟩ (limbs 18446744073709551616 x) ∧ TenS wr w.heap.size ∧ Below w.heap.size w wr ∧ Hid (x * 10 ^ (byt s1).length + dec (byt s1) = dec (byt s)) ∧ Hid (allDig (byt s) = allDig (byt s1)) ∧ Hid (x < 10 ^ (20000 - s1.size))) (fun vs _ _ => match vs with | .string s => s.size | _ => 0)
    case atStart => exact ⟨s, none, 0, 0, 0, rfl, rfl, h2, ⟨RdN.nil _ _ _ 0 (by omega) _, Lt.nil _⟩, hn, hB1, Lib.hid (by rw [Nat.zero_mul, Nat.zero_add]), Lib.hid rfl, Lib.hid (Nat.pow_pos (by omega))⟩
    case round =>
      obtain ⟨s1, A, n, c, x, rfl, rfl, hs1, hx1, hten, hb, hval, hdig, hlt0⟩ := hrel
      clear ht hn hB1 hx
      by_cases hz : s1.size = 0
      · have hz2 : ¬ (0 : Int) < (s1.size : Int) := by omega
        have hnil : byt s1 = [] := List.length_eq_zero_iff.1 (by rw [byt_length]; exact hz)
        have hd : allDig (byt s) = true := by rw [hdig.out, hnil]; rfl
        have hv : x = dec (byt s) := by have := hval.out; rw [hnil] at this; simpa [dec] using this
        have HD := Lib.hid (parse_good hd)
        have HV := Lib.hid hv
        clear hd hv hnil
        go_wp2
        go_ret2
        exact ⟨A, n, c, by rw [HD.out.2]; rfl, by rw [HD.out.1, ← HV.out]; exact hx1.mono (fun b hb => by omega), hb⟩
      · obtain ⟨k, hk⟩ : ∃ k, k = min s1.size 18 := ⟨_, rfl⟩
        have hm : (if (18 : Int) < (s1.size : Int) then (18 : Int) else (s1.size : Int)) = (k : Int) := by split <;> omega
        have hm2 : min (s1.size : Int) (18 : Int) = (k : Int) := by omega
        have hz2 : (0 : Int) < (s1.size : Int) := by omega
        have hz3 : decide (0 < s1.size) = true := decide_eq_true (by omega)
        have hz4 : 0 < s1.size := by omega
        have hk1 : 1 ≤ k := by omega
        have hk2 : k ≤ s1.size := by omega
        have hk3 : k ≤ 18 := by omega
        clear hk
        go_wp2
        go_loopw [7, 31] (fun vv iv wr' => ∃ (i v : Nat), i ≤ k ∧ vv = .int .u64 v ∧ iv = .int .i64 i ∧ Hid (v = dec ((byt s1).take i)) ∧ Hid (allDig ((byt s1).take i) = true) ∧ RdU wr' (fun b => w.heap.size + 1 ≤ b) ⟨A, n, c⟩ (limbs 18446744073709551616 x) ∧ TenS wr' w.heap.size ∧ Below w.heap.size w wr') (fun _ iv _ => k - (intOf iv).toNat)
        case atStart => exact ⟨0, 0, Nat.zero_le _, rfl, rfl, Lib.hid rfl, Lib.hid rfl, hx1, hten, hb⟩
        case round =>
          obtain ⟨i, v, hi, rfl, rfl, hv, hal, hx1, hten, hb⟩ := hrel
          by_cases hlt : i < k
          · have hin : i < s1.size := by omega
            obtain ⟨d, hd⟩ : ∃ d, d = gd (byt s1) i := ⟨_, rfl⟩
            have hxd : (s1[i]'hin).toNat = d := (byt_get s1 i hin).trans hd.symm
            have HD := Lib.hid hd
            clear hd
            have hlen : i < (byt s1).length := by rw [byt_length]; exact hin
            by_cases hbad : d < 48 ∨ (¬ d < 48 ∧ 57 < d)
            · have hfal : allDig (byt s) = false := by
                rw [hdig.out]
                refine allDig_false hlen ?_
                rw [← HD.out]
                unfold isDig
                rcases hbad with h1 | ⟨_, h1⟩
                · rw [decide_eq_false (show ¬ 48 ≤ d by omega)]; rfl
                · rw [decide_eq_false (show ¬ d ≤ 57 by omega), Bool.and_false]
              have HF := Lib.hid (parse_bad hfal)
              clear hfal
              rcases hbad with h1 | ⟨h0, h1⟩
              all_goals
                go_wp2
                go_ret2
                exact ⟨none, 0, 0, by rw [HF.out.2]; rfl, by rw [HF.out.1]; exact ⟨RdN.nil _ _ _ 0 (by omega) _, Lt.nil _⟩, hb⟩
            · have hd1 : 48 ≤ d := by omega
              have hd2 : d ≤ 57 := by omega
              have hd3 : ¬ d < 48 := by omega
              have hd4 : ¬ 57 < d := by omega
              have hv2 : v < 10 ^ 17 := by
                have h1 := dec_lt hal.out
                rw [← hv.out] at h1
                refine Nat.lt_of_lt_of_le h1 (Nat.pow_le_pow_right (by omega) ?_)
                rw [List.length_take]
                omega
              have hw1 : IntKind.u8.wrap ((d : Int) - 48) = ((d - 48 : Nat) : Int) := by rw [IntKind.wrap_u8]; omega
              have hw2 : IntKind.u64.wrap ((v : Int) * 10) = ((v * 10 : Nat) : Int) := by rw [IntKind.wrap_u64]; omega
              have hw4 : IntKind.u64.wrap ((d - 48 : Nat) : Int) = ((d - 48 : Nat) : Int) := by rw [IntKind.wrap_u64]; omega
              have hw3 : IntKind.u64.wrap (((v * 10 : Nat) : Int) + ((d - 48 : Nat) : Int)) = ((v * 10 + (d - 48) : Nat) : Int) := by rw [IntKind.wrap_u64]; omega
              have s1w : IntKind.i64.wrap ((i : Int) + 1) = (i : Int) + 1 := IntWalk.i64_in _ (by omega)
              have hn1 : v * 10 + (d - 48) = dec ((byt s1).take (i + 1)) := by rw [dec_take_succ hlen, ← hv.out, ← HD.out]
              have hn2 : allDig ((byt s1).take (i + 1)) = true := by
                rw [allDig_take_succ hlen, hal.out, ← HD.out]
                unfold isDig
                rw [decide_eq_true hd1, decide_eq_true hd2]
                rfl
              have hw5 : IntKind.u64.wrap ((v : Int) * 10 + ((d - 48 : Nat) : Int)) = ((v * 10 + (d - 48) : Nat) : Int) := by rw [IntKind.wrap_u64]; omega
              have HW5 := Lib.hid hw5
              clear hw5
              have HN1 := Lib.hid hn1
              have HN2 := Lib.hid hn2
              clear hn1 hn2 hv2 hbad
              go_wp2
              refine ⟨?_, ?_⟩
              · exact ⟨i + 1, v * 10 + (d - 48), by omega, congrArg (Value.int .u64) HW5.out, by go_num, HN1, HN2, hx1, hten, hb⟩
              · simp [intOf]; omega
          · obtain rfl : i = k := by omega
            have hsz := hten.lt
            have hp1 : dec ((byt s1).take i) < 10 ^ i := by
              have h1 := dec_lt hal.out
              rwa [List.length_take, byt_length, Nat.min_eq_left hk2] at h1
            have hpw : 10 ^ i ≤ 10 ^ 18 := Nat.pow_le_pow_right (by omega) hk3
            have hvlt : v < 18446744073709551616 := by rw [hv.out]; omega
            have hplt : 10 ^ i < 18446744073709551616 := by omega
            obtain ⟨M, hM⟩ : ∃ M, M = 20000 := ⟨_, rfl⟩
            have hxl : x < 10 ^ M := Nat.lt_of_lt_of_le hlt0.out (Nat.pow_le_pow_right (by omega) (by omega))
            have hvv := hv.out
            have hdt := dec_take_drop (byt s1) i
            have hdl : ((byt s1).drop i).length = s1.size - i := by rw [List.length_drop, byt_length]
            have hnew : (x * 10 ^ i + v) * 10 ^ ((byt s1).drop i).length + dec ((byt s1).drop i) = dec (byt s) := by
              rw [← hval.out, hdt, hvv, byt_length, hdl]
              have : 10 ^ s1.size = 10 ^ i * 10 ^ (s1.size - i) := by rw [← Nat.pow_add]; congr 1; omega
              rw [this]
              generalize 10 ^ (s1.size - i) = T
              grind
            have hnew2 : allDig (byt s) = allDig ((byt s1).drop i) := by
              rw [hdig.out, allDig_take_drop (byt s1) i, hal.out]
              rfl
            have hnew3 : x * 10 ^ i + v < 10 ^ (20000 - (s1.size - i)) := by
              have h1 : (x + 1) * 10 ^ i ≤ 10 ^ (20000 - s1.size) * 10 ^ i := Nat.mul_le_mul_right _ hlt0.out
              rw [← Nat.pow_add, show 20000 - s1.size + i = 20000 - (s1.size - i) by omega] at h1
              rw [← hvv] at hp1
              generalize 10 ^ (20000 - (s1.size - i)) = T at *
              rw [Nat.add_mul, Nat.one_mul] at h1
              omega
            have hnA : n ≤ 20000 := by
              have h1 := hx1.rd.len
              simp only at h1
              rw [← h1]
              exact Nat.le_trans (limbs_len_le B64 (Nat.lt_of_lt_of_le hxl (Nat.pow_le_pow_left (by omega) M))) (Nat.le_of_eq hM)
            have hbs : byt (s1.extract i s1.size) = (byt s1).drop i := byt_extract s1 i
            rw [← hbs] at hnew hnew2
            have HN1 := Lib.hid hnew
            have HN2 := Lib.hid hnew2
            have HN3 := Lib.hid hnew3
            have kp := ten_power hten (n := (i : Int)) (by omega) (by omega)
            rw [Int.toNat_natCast] at kp
            obtain ⟨p, hp⟩ : ∃ p, p = 10 ^ i := ⟨_, rfl⟩
            rw [← hp] at kp hplt HN1 HN3
            have KP := Lib.hid kp
            have HV := Lib.hid hv.out
            clear kp hpw hp1 hp hnew hnew2 hnew3 hdt hvv hxl hdl hbs
            go_wp2_with (go_at_call 146; refine KP.out.mono ?_; rintro e w1 ⟨rfl, hten1, hsolo⟩)
            have hx2 := hx1.solo hsolo (fun b hb => by omega)
            have hb1 : Below w.heap.size w w1 := hb.trans (hsolo.below (Nat.le_refl _))
            refine (nat_Of p hplt w1).mono ?_
            rintro e w2 ⟨A2, n2, c2, rfl, hr2, hb2⟩
            have hx3 := hx2.below hb2
            have hn2 : n2 ≤ 1 := by
              have h1 := hr2.rd.len
              simp only at h1
              rw [← h1]
              exact limbs_len_le B64 (by simpa using hplt)
            have hsz1 := hb1.size
            go_wp2_with fail
            refine (nat_Mul (P := fun _ => True) (hx3.mono fun _ _ => trivial) (hr2.mono fun _ _ => trivial) (by omega) (by omega)).mono ?_
            rintro e w3 ⟨A3, n3, c3, rfl, hr3, hb3⟩
            rw [val_limbs B64, val_limbs B64] at hr3
            go_wp2_with fail
            refine (nat_Of v hvlt w3).mono ?_
            rintro e w4 ⟨A4, n4, c4, rfl, hr4, hb4⟩
            have hr5 := hr3.below hb4
            have hn4 : n4 ≤ 1 := by
              have h1 := hr4.rd.len
              simp only at h1
              rw [← h1]
              exact limbs_len_le B64 (by simpa using hvlt)
            have hn3 : n3 ≤ 20000 := by
              have h1 := hr5.rd.len
              simp only at h1
              rw [← h1]
              refine Nat.le_trans (limbs_len_le B64 (k := M) (Nat.lt_of_le_of_lt (Nat.le_add_right _ v) (Nat.lt_of_lt_of_le HN3.out ?_))) (Nat.le_of_eq hM)
              exact Nat.le_trans (Nat.pow_le_pow_right (by omega) (by omega)) (Nat.pow_le_pow_left (by omega) M)
            go_wp2_with fail
            refine (nat_Add (P := fun _ => True) (hr5.mono fun _ _ => trivial) (hr4.mono fun _ _ => trivial) (by omega) (by omega)).mono ?_
            rintro e w5 ⟨A5, n5, c5, rfl, hr6, hb5⟩
            rw [val_limbs B64, val_limbs B64] at hr6
            have hsz2 := hten1.lt
            have hB3 : Below w1.heap.size w1 w3 := Gs.Below.then hb2 hb2.size hb3
            have hB4 : Below w1.heap.size w1 w4 := Gs.Below.then hB3 hB3.size hb4
            have hB5 : Below w1.heap.size w1 w5 := Gs.Below.then hB4 hB4.size hb5
            have hten5 : TenS w5 w.heap.size := hten1.keep (hB5.block _ hsz2)
            have hbw5 : Below w.heap.size w w5 := Gs.Below.then hb1 hb1.size hB5
            have hr7 : RdU w5 (fun b => w.heap.size + 1 ≤ b) ⟨A5, n5, c5⟩ (limbs 18446744073709551616 (x * p + v)) := hr6.mono (fun b hb => by have := hB4.size; omega)
            clear hx2 hx3 hr2 hr3 hr4 hr5 hr6 hb2 hb3 hb4 hb5 hB3 hB4 hB5 hten1 hsolo KP
            go_wp2
            refine ⟨⟨s1.extract i s1.size, A5, n5, c5, x * p + v, rfl, rfl, by rw [ByteArray.size_extract]; omega, hr7, hten5, hbw5, HN1, HN2, Lib.hid (by rw [ByteArray.size_extract, Nat.min_self]; exact HN3.out)⟩, ?_⟩
            show (s1.extract i s1.size).size < s1.size
            rw [ByteArray.size_extract]
            omega
end Go.Proofs.YtlpfbcilnfgaaaaGreatDoor
