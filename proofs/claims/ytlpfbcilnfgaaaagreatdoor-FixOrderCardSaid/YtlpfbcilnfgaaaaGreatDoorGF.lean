import Derived.Test.YtlpfbcilnfgaaaaGreatDoorEB
import Derived.Test.YtlpfbcilnfgaaaaGreatDoorProg
import Derived.KernelRfl
import Derived.Test.YtlpfbcilnfgaaaaGreatDoorGA
/- The conditions of functions, printed out of the program by this work's own vcgen.py; each is proved by evaluation. -/
namespace Go.Proofs.YtlpfbcilnfgaaaaGreatDoor
open Gv Go
set_option linter.unusedVariables false
theorem vc_law03_large : fnInfo Tryz.prog 63 [] = some ([.ag 3], .call 47 [.agg [.cel (.at 0) 0, .cel (.at 0) 1, .cel (.at 0) 2], .con (.int .i64 (12))] (.one .sc) (.prim (.op1 .not) [.at 1] (.ret (.at 2)))) := by kernel_rfl
theorem vc_law03_Same : fnInfo Tryz.prog 50 [] = some ([.ag 3, .ag 3], .call 90 [.agg [.cel (.at 1) 0, .cel (.at 1) 1, .cel (.at 1) 2]] (.one (.ag 3)) (.call 89 [.agg [.cel (.at 0) 0, .cel (.at 0) 1, .cel (.at 0) 2], .agg [.cel (.at 2) 0, .cel (.at 2) 1, .cel (.at 2) 2]] (.one .sc) (.ret (.at 3)))) := by kernel_rfl
theorem vc_law03_wakes : fnInfo Tryz.prog 64 [] = some ([], .call 62 [.con (.int .i64 (6)), .con (.int .i64 (-4))] (.one (.ag 3)) (.call 62 [.con (.int .i64 (1)), .con (.int .i64 (3))] (.one (.ag 3)) (.call 76 [.agg [.cel (.at 0) 0, .cel (.at 0) 1, .cel (.at 0) 2], .agg [.cel (.at 1) 0, .cel (.at 1) 1, .cel (.at 1) 2]] (.many [.ag 3, .sc]) (.call 62 [.con (.int .i64 (0)), .con (.int .i64 (1))] (.one (.ag 3)) (.call 76 [.agg [.cel (.at 0) 0, .cel (.at 0) 1, .cel (.at 0) 2], .agg [.cel (.at 3) 0, .cel (.at 3) 1, .cel (.at 3) 2]] (.many [.ag 3, .sc]) (.call 65 [.con (.string ⟨#[45, 55, 47, 54]⟩)] (.many [.ag 3, .sc]) (.call 67 [.agg [.cel (.at 0) 0, .cel (.at 0) 1, .cel (.at 0) 2]] (.one .sc) (.prim (.op2 .eql false) [.at 6, .con (.string ⟨#[45, 51, 47, 50]⟩)] (.ite (.at 7) (.prim (.op2 .eql false) [.ext (.at 2) 1, .con (.int .i64 (0))] (.ite (.at 8) (.prim (.op2 .eql false) [.ext (.at 4) 1, .con (.int .i64 (12))] (.ite (.at 9) (.call 67 [.agg [.cel (.ext (.at 2) 0) 0, .cel (.ext (.at 2) 0) 1, .cel (.ext (.at 2) 0) 2]] (.one .sc) (.prim (.op2 .eql false) [.at 10, .con (.string ⟨#[45, 57, 47, 50]⟩)] (.ite (.at 11) (.prim (.op2 .eql false) [.ext (.at 5) 1, .con (.int .i64 (0))] (.ite (.at 12) (.call 58 [.agg [.cel (.at 0) 0, .cel (.at 0) 1, .cel (.at 0) 2], .agg [.cel (.at 1) 0, .cel (.at 1) 1, .cel (.at 1) 2]] (.one (.ag 3)) (.call 57 [.agg [.cel (.at 13) 0, .cel (.at 13) 1, .cel (.at 13) 2], .agg [.cel (.ext (.at 5) 0) 0, .cel (.ext (.at 5) 0) 1, .cel (.ext (.at 5) 0) 2]] (.one .sc) (.prim (.op2 .eql false) [.at 14, .con (.int .i64 (0))] (.ite (.at 15) (.call 71 [.agg [.cel (.at 0) 0, .cel (.at 0) 1, .cel (.at 0) 2]] (.one (.ag 2)) (.call 45 [.agg [.cel (.at 16) 0, .cel (.at 16) 1]] (.one .sc) (.prim (.op2 .eql false) [.at 17, .con (.string ⟨#[45, 50]⟩)] (.ite (.at 18) (.call 88 [.agg [.cel (.at 0) 0, .cel (.at 0) 1, .cel (.at 0) 2]] (.one .sc) (.ret (.at 19))) (.ret (.con (.bool false))))))) (.ret (.con (.bool false))))))) (.ret (.con (.bool false))))) (.ret (.con (.bool false)))))) (.ret (.con (.bool false))))) (.ret (.con (.bool false))))) (.ret (.con (.bool false)))))))))))) := by kernel_rfl
theorem vc_law03_RatReckons : fnInfo Tryz.prog 16 [] = some ([.ag 3, .ag 3], .call 63 [.agg [.cel (.at 0) 0, .cel (.at 0) 1, .cel (.at 0) 2]] (.one .sc) (.ite (.at 2) (.call 64 [] (.one .sc) (.ret (.at 3))) (.call 63 [.agg [.cel (.at 1) 0, .cel (.at 1) 1, .cel (.at 1) 2]] (.one .sc) (.ite (.at 3) (.call 64 [] (.one .sc) (.ret (.at 4))) (.call 49 [.agg [.cel (.at 0) 0, .cel (.at 0) 1, .cel (.at 0) 2]] (.one (.ag 3)) (.call 49 [.agg [.cel (.at 1) 0, .cel (.at 1) 1, .cel (.at 1) 2]] (.one (.ag 3)) (.call 79 [.agg [.cel (.at 0) 0, .cel (.at 0) 1, .cel (.at 0) 2]] (.one (.ag 3)) (.call 76 [.agg [.cel (.at 6) 0, .cel (.at 6) 1, .cel (.at 6) 2], .agg [.cel (.at 1) 0, .cel (.at 1) 1, .cel (.at 1) 2]] (.many [.ag 3, .sc]) (.call 80 [.agg [.cel (.at 5) 0, .cel (.at 5) 1, .cel (.at 5) 2]] (.one .sc) (.prim (.op2 .eql false) [.at 8, .con (.int .i64 (0))] (.ite (.at 9) (.prim (.op2 .neq false) [.ext (.at 7) 1, .con (.int .i64 (12))] (.ite (.at 10) (.ret (.con (.bool false))) (.prim .len [.cel (.ext (.at 7) 0) 1] (.prim (.op2 .neq false) [.at 11, .con (.int .i64 (0))] (.ite (.at 12) (.ret (.con (.bool false))) (.call 58 [.agg [.cel (.at 6) 0, .cel (.at 6) 1, .cel (.at 6) 2], .agg [.cel (.at 1) 0, .cel (.at 1) 1, .cel (.at 1) 2]] (.one (.ag 3)) (.call 81 [.agg [.cel (.at 4) 0, .cel (.at 4) 1, .cel (.at 4) 2], .agg [.cel (.at 5) 0, .cel (.at 5) 1, .cel (.at 5) 2]] (.one (.ag 3)) (.call 50 [.agg [.cel (.at 13) 0, .cel (.at 13) 1, .cel (.at 13) 2], .agg [.cel (.at 14) 0, .cel (.at 14) 1, .cel (.at 14) 2]] (.one .sc) (.ite (.at 15) (.call 61 [.agg [.cel (.at 6) 0, .cel (.at 6) 1, .cel (.at 6) 2], .agg [.cel (.at 1) 0, .cel (.at 1) 1, .cel (.at 1) 2]] (.one (.ag 3)) (.call 82 [.agg [.cel (.at 4) 0, .cel (.at 4) 1, .cel (.at 4) 2], .agg [.cel (.at 5) 0, .cel (.at 5) 1, .cel (.at 5) 2]] (.one (.ag 3)) (.call 50 [.agg [.cel (.at 16) 0, .cel (.at 16) 1, .cel (.at 16) 2], .agg [.cel (.at 17) 0, .cel (.at 17) 1, .cel (.at 17) 2]] (.one .sc) (.ite (.at 18) (.call 60 [.agg [.cel (.at 6) 0, .cel (.at 6) 1, .cel (.at 6) 2], .agg [.cel (.at 1) 0, .cel (.at 1) 1, .cel (.at 1) 2]] (.one (.ag 3)) (.call 83 [.agg [.cel (.at 4) 0, .cel (.at 4) 1, .cel (.at 4) 2], .agg [.cel (.at 5) 0, .cel (.at 5) 1, .cel (.at 5) 2]] (.one (.ag 3)) (.call 50 [.agg [.cel (.at 19) 0, .cel (.at 19) 1, .cel (.at 19) 2], .agg [.cel (.at 20) 0, .cel (.at 20) 1, .cel (.at 20) 2]] (.one .sc) (.ite (.at 21) (.call 57 [.agg [.cel (.at 6) 0, .cel (.at 6) 1, .cel (.at 6) 2], .agg [.cel (.at 1) 0, .cel (.at 1) 1, .cel (.at 1) 2]] (.one .sc) (.call 84 [.agg [.cel (.at 4) 0, .cel (.at 4) 1, .cel (.at 4) 2], .agg [.cel (.at 5) 0, .cel (.at 5) 1, .cel (.at 5) 2]] (.one .sc) (.prim (.op2 .eql false) [.at 22, .at 23] (.ite (.at 24) (.call 77 [.agg [.cel (.at 6) 0, .cel (.at 6) 1, .cel (.at 6) 2]] (.one .sc) (.call 80 [.agg [.cel (.at 4) 0, .cel (.at 4) 1, .cel (.at 4) 2]] (.one .sc) (.prim (.op2 .eql false) [.at 25, .at 26] (.ite (.at 27) (.call 78 [.agg [.cel (.at 6) 0, .cel (.at 6) 1, .cel (.at 6) 2]] (.one (.ag 3)) (.call 85 [.agg [.cel (.at 4) 0, .cel (.at 4) 1, .cel (.at 4) 2]] (.one (.ag 3)) (.call 50 [.agg [.cel (.at 28) 0, .cel (.at 28) 1, .cel (.at 28) 2], .agg [.cel (.at 29) 0, .cel (.at 29) 1, .cel (.at 29) 2]] (.one .sc) (.ite (.at 30) (.call 86 [.agg [.cel (.at 6) 0, .cel (.at 6) 1, .cel (.at 6) 2]] (.one (.ag 3)) (.call 87 [.agg [.cel (.at 4) 0, .cel (.at 4) 1, .cel (.at 4) 2]] (.one (.ag 3)) (.call 50 [.agg [.cel (.at 31) 0, .cel (.at 31) 1, .cel (.at 31) 2], .agg [.cel (.at 32) 0, .cel (.at 32) 1, .cel (.at 32) 2]] (.one .sc) (.ite (.at 33) (.call 88 [.agg [.cel (.at 6) 0, .cel (.at 6) 1, .cel (.at 6) 2]] (.one .sc) (.call 90 [.agg [.cel (.at 4) 0, .cel (.at 4) 1, .cel (.at 4) 2]] (.one (.ag 3)) (.call 89 [.agg [.cel (.at 0) 0, .cel (.at 0) 1, .cel (.at 0) 2], .agg [.cel (.at 35) 0, .cel (.at 35) 1, .cel (.at 35) 2]] (.one .sc) (.prim (.op2 .eql true) [.at 34, .at 36] (.ite (.at 37) (.call 89 [.agg [.cel (.at 6) 0, .cel (.at 6) 1, .cel (.at 6) 2], .agg [.cel (.at 0) 0, .cel (.at 0) 1, .cel (.at 0) 2]] (.one .sc) (.ite (.at 38) (.call 64 [] (.one .sc) (.ret (.at 39))) (.ret (.con (.bool false))))) (.ret (.con (.bool false)))))))) (.ret (.con (.bool false))))))) (.ret (.con (.bool false))))))) (.ret (.con (.bool false))))))) (.ret (.con (.bool false))))))) (.ret (.con (.bool false))))))) (.ret (.con (.bool false))))))) (.ret (.con (.bool false)))))))))))) (.prim (.op2 .neq false) [.ext (.at 7) 1, .con (.int .i64 (0))] (.ite (.at 10) (.ret (.con (.bool false))) (.call 69 [.agg [.cel (.at 4) 0, .cel (.at 4) 1, .cel (.at 4) 2], .agg [.cel (.at 5) 0, .cel (.at 5) 1, .cel (.at 5) 2]] (.one (.ag 3)) (.call 50 [.agg [.cel (.ext (.at 7) 0) 0, .cel (.ext (.at 7) 0) 1, .cel (.ext (.at 7) 0) 2], .agg [.cel (.at 11) 0, .cel (.at 11) 1, .cel (.at 11) 2]] (.one .sc) (.prim (.op1 .not) [.at 12] (.ite (.at 13) (.ret (.con (.bool false))) (.call 58 [.agg [.cel (.at 6) 0, .cel (.at 6) 1, .cel (.at 6) 2], .agg [.cel (.at 1) 0, .cel (.at 1) 1, .cel (.at 1) 2]] (.one (.ag 3)) (.call 81 [.agg [.cel (.at 4) 0, .cel (.at 4) 1, .cel (.at 4) 2], .agg [.cel (.at 5) 0, .cel (.at 5) 1, .cel (.at 5) 2]] (.one (.ag 3)) (.call 50 [.agg [.cel (.at 14) 0, .cel (.at 14) 1, .cel (.at 14) 2], .agg [.cel (.at 15) 0, .cel (.at 15) 1, .cel (.at 15) 2]] (.one .sc) (.ite (.at 16) (.call 61 [.agg [.cel (.at 6) 0, .cel (.at 6) 1, .cel (.at 6) 2], .agg [.cel (.at 1) 0, .cel (.at 1) 1, .cel (.at 1) 2]] (.one (.ag 3)) (.call 82 [.agg [.cel (.at 4) 0, .cel (.at 4) 1, .cel (.at 4) 2], .agg [.cel (.at 5) 0, .cel (.at 5) 1, .cel (.at 5) 2]] (.one (.ag 3)) (.call 50 [.agg [.cel (.at 17) 0, .cel (.at 17) 1, .cel (.at 17) 2], .agg [.cel (.at 18) 0, .cel (.at 18) 1, .cel (.at 18) 2]] (.one .sc) (.ite (.at 19) (.call 60 [.agg [.cel (.at 6) 0, .cel (.at 6) 1, .cel (.at 6) 2], .agg [.cel (.at 1) 0, .cel (.at 1) 1, .cel (.at 1) 2]] (.one (.ag 3)) (.call 83 [.agg [.cel (.at 4) 0, .cel (.at 4) 1, .cel (.at 4) 2], .agg [.cel (.at 5) 0, .cel (.at 5) 1, .cel (.at 5) 2]] (.one (.ag 3)) (.call 50 [.agg [.cel (.at 20) 0, .cel (.at 20) 1, .cel (.at 20) 2], .agg [.cel (.at 21) 0, .cel (.at 21) 1, .cel (.at 21) 2]] (.one .sc) (.ite (.at 22) (.call 57 [.agg [.cel (.at 6) 0, .cel (.at 6) 1, .cel (.at 6) 2], .agg [.cel (.at 1) 0, .cel (.at 1) 1, .cel (.at 1) 2]] (.one .sc) (.call 84 [.agg [.cel (.at 4) 0, .cel (.at 4) 1, .cel (.at 4) 2], .agg [.cel (.at 5) 0, .cel (.at 5) 1, .cel (.at 5) 2]] (.one .sc) (.prim (.op2 .eql false) [.at 23, .at 24] (.ite (.at 25) (.call 77 [.agg [.cel (.at 6) 0, .cel (.at 6) 1, .cel (.at 6) 2]] (.one .sc) (.call 80 [.agg [.cel (.at 4) 0, .cel (.at 4) 1, .cel (.at 4) 2]] (.one .sc) (.prim (.op2 .eql false) [.at 26, .at 27] (.ite (.at 28) (.call 78 [.agg [.cel (.at 6) 0, .cel (.at 6) 1, .cel (.at 6) 2]] (.one (.ag 3)) (.call 85 [.agg [.cel (.at 4) 0, .cel (.at 4) 1, .cel (.at 4) 2]] (.one (.ag 3)) (.call 50 [.agg [.cel (.at 29) 0, .cel (.at 29) 1, .cel (.at 29) 2], .agg [.cel (.at 30) 0, .cel (.at 30) 1, .cel (.at 30) 2]] (.one .sc) (.ite (.at 31) (.call 86 [.agg [.cel (.at 6) 0, .cel (.at 6) 1, .cel (.at 6) 2]] (.one (.ag 3)) (.call 87 [.agg [.cel (.at 4) 0, .cel (.at 4) 1, .cel (.at 4) 2]] (.one (.ag 3)) (.call 50 [.agg [.cel (.at 32) 0, .cel (.at 32) 1, .cel (.at 32) 2], .agg [.cel (.at 33) 0, .cel (.at 33) 1, .cel (.at 33) 2]] (.one .sc) (.ite (.at 34) (.call 88 [.agg [.cel (.at 6) 0, .cel (.at 6) 1, .cel (.at 6) 2]] (.one .sc) (.call 90 [.agg [.cel (.at 4) 0, .cel (.at 4) 1, .cel (.at 4) 2]] (.one (.ag 3)) (.call 89 [.agg [.cel (.at 0) 0, .cel (.at 0) 1, .cel (.at 0) 2], .agg [.cel (.at 36) 0, .cel (.at 36) 1, .cel (.at 36) 2]] (.one .sc) (.prim (.op2 .eql true) [.at 35, .at 37] (.ite (.at 38) (.call 89 [.agg [.cel (.at 6) 0, .cel (.at 6) 1, .cel (.at 6) 2], .agg [.cel (.at 0) 0, .cel (.at 0) 1, .cel (.at 0) 2]] (.one .sc) (.ite (.at 39) (.call 64 [] (.one .sc) (.ret (.at 40))) (.ret (.con (.bool false))))) (.ret (.con (.bool false)))))))) (.ret (.con (.bool false))))))) (.ret (.con (.bool false))))))) (.ret (.con (.bool false))))))) (.ret (.con (.bool false))))))) (.ret (.con (.bool false))))))) (.ret (.con (.bool false))))))) (.ret (.con (.bool false)))))))))))))))))))))))) := by kernel_rfl
end Go.Proofs.YtlpfbcilnfgaaaaGreatDoor


/- The laws of rat, 1: wakes, RatReckons. -/
namespace Gv
open Go Go.RowKit Gs
set_option linter.unusedVariables false
theorem str_txt {x : Nat} {s : ByteArray} (h : IsText s x) : txt x = s := (txt_eq h).symm
theorem qtxt_of {q : Rat} {n : Int} {d : Nat} {A B : ByteArray} (h1 : q.num = n) (h2 : q.den = d) (hd : d ≠ 1) (hA : ztxt n = A) (hB : txt d = B) : qtxt q = A ++ (⟨#[47]⟩ : ByteArray) ++ B := by
  unfold qtxt
  rw [h2, if_neg hd, h1, hA, hB]
theorem IsZ.mkn {d k : Nat} (h : sz d ≤ k) : IsZ (.agg [.raw (.bool false), nat d]) (d : Int) k := ⟨false, _, rfl, limbs_lt B64 d, by rw [val_limbs B64]; rfl, h⟩
theorem wf_i64 {x : Int} (h : (Lit.int .i64 x).wf = true) : -9223372036854775808 ≤ x ∧ x ≤ 9223372036854775807 := by
  simp only [Lit.wf, Bool.and_eq_true, decide_eq_true_eq] at h
  exact ⟨h.1, h.2⟩
theorem large_no {l m : List Nat} (h : (!(decide ((l.length : Int) ≤ 12) && decide ((m.length : Int) ≤ 12))) = false) : l.length ≤ 12 ∧ m.length ≤ 12 := by
  simp only [Bool.not_eq_false', Bool.and_eq_true, decide_eq_true_eq] at h
  omega
theorem sign0 (b : Rat) : (b.num.sign == 0) = decide (b = 0) := by
  rw [Bool.eq_iff_iff, beq_iff_eq, decide_eq_true_iff, Int.sign_eq_zero_iff_zero, num_zero_iff]
theorem qcmp_refl (a : Rat) : qcmp a a = 0 := by unfold qcmp; rw [if_neg (by grind), if_pos rfl]
theorem qcmp_eq {a b : Rat} (h : a = b) : qcmp a b = 0 := by rw [h]; exact qcmp_refl b
theorem qcmp_zero {a b : Rat} : qcmp a b = 0 ↔ a = b := by
  unfold qcmp
  constructor
  · intro h
    split at h
    · cases h
    · split at h
      · assumption
      · cases h
  · intro h; rw [if_neg (by grind), if_pos h]
theorem qcmp_le {a b : Rat} : qcmp a b ≤ 0 ↔ a ≤ b := by
  unfold qcmp
  split
  · exact ⟨fun _ => by grind, fun _ => by decide⟩
  · split
    · exact ⟨fun _ => by grind, fun _ => by decide⟩
    · exact ⟨fun h => absurd h (by decide), fun h => by grind⟩
theorem qcmp_lt {a b : Rat} : qcmp a b < 0 ↔ a < b := by
  unfold qcmp
  split
  · exact ⟨fun _ => by assumption, fun _ => by decide⟩
  · split
    · exact ⟨fun h => absurd h (by decide), fun h => by grind⟩
    · exact ⟨fun h => absurd h (by decide), fun h => by grind⟩
theorem qcmp_gt {a b : Rat} : 0 < qcmp a b ↔ b < a := by
  unfold qcmp
  split
  · exact ⟨fun h => absurd h (by decide), fun h => by grind⟩
  · split
    · exact ⟨fun h => absurd h (by decide), fun h => by grind⟩
    · exact ⟨fun _ => by grind, fun _ => by decide⟩
theorem qcmp_swap (a b : Rat) : qcmp b a = -qcmp a b := by
  unfold qcmp
  by_cases h1 : a < b
  · rw [if_pos h1, if_neg (by grind), if_neg (by grind)]; rfl
  · by_cases h2 : a = b
    · rw [if_neg h1, if_pos h2, if_neg (by grind), if_pos h2.symm]; rfl
    · rw [if_neg h1, if_neg h2, if_pos (by grind)]
theorem qcmp_range (a b : Rat) : -1 ≤ qcmp a b ∧ qcmp a b ≤ 1 := by
  unfold qcmp
  by_cases h1 : a < b
  · rw [if_pos h1]; decide
  · rw [if_neg h1]
    by_cases h2 : a = b
    · rw [if_pos h2]; decide
    · rw [if_neg h2]; decide
theorem qcmp_iff {a b c d : Rat} (h1 : a < b ↔ c < d) (h2 : a = b ↔ c = d) : qcmp a b = qcmp c d := by
  unfold qcmp
  by_cases h : a < b
  · rw [if_pos h, if_pos (h1.1 h)]
  · rw [if_neg h, if_neg (fun h' => h (h1.2 h'))]
    by_cases h' : a = b
    · rw [if_pos h', if_pos (h2.1 h')]
    · rw [if_neg h', if_neg (fun h'' => h' (h2.2 h''))]
theorem Qb.one (a : Rat) {z : Int} {d : Nat} (h : a = mkRat z d) (hd : d ≠ 0) (h1 : z.natAbs < 18446744073709551616) (h2 : d < 18446744073709551616) : Qb a 1 := by
  rw [h]; exact .mk' hd (sz_le (by simpa using h1)) (sz_le (by simpa using h2))
end Gv
namespace Go.Proofs.YtlpfbcilnfgaaaaGreatDoor
open Go.RowKit Gs Gv
set_option linter.unusedVariables false
theorem l3_large {s : Bool} {l m : List Nat} : Gv.Fn Tryz.prog 63 [.agg [.raw (.bool s), u64s l, u64s m]] (.raw (.bool (!(decide ((l.length : Int) ≤ 12) && decide ((m.length : Int) ≤ 12))))) :=
  Fn.intro mixed vc_law03_large rfl (ok_call k_Small rfl rfl (ok_not rfl (ok_ret rfl rfl)))
theorem l3_same {q : Rat} {k : Nat} (h : Qb q k) (hk : k ≤ 400000) : Gv.Fn Tryz.prog 50 [qc q, qf q] (.raw (.bool true)) :=
  Fn.intro mixed vc_law03_Same rfl (ok_call (g_Out h hk) rfl rfl (ok_call (k_Rats_same q) rfl rfl (ok_ret rfl rfl)))
theorem q_Good_is {q : Rat} {k : Nat} (h : Qb q k) (hk : k ≤ 200000) : Gv.Fn Tryz.prog 88 [qc q] (.raw (.bool true)) := by
  have := q_Good (s := decide (q.num < 0)) (limbs_lt B64 q.num.natAbs) (limbs_lt B64 q.den) (Nat.le_trans h.n hk) (Nat.le_trans h.d hk)
  rw [goodR_low] at this
  have e := q.reduced
  unfold Nat.Coprime at e
  have := q.den_nz
  rw [decide_eq_true e, decide_eq_true (show 0 < q.den by omega)] at *
  assumption
theorem qd_a : qd 6 (-4) = (-3 : Rat) / 2 := by decide +kernel
theorem qd_b : qd 1 3 = (1 : Rat) / 3 := by decide +kernel
theorem qd_c : ((-3 : Rat) / 2) / ((1 : Rat) / 3) = (-9 : Rat) / 2 := by decide +kernel
theorem qd_d : qd 0 1 = 0 := by decide +kernel
theorem pw_ok : qOk ⟨#[45, 55, 47, 54]⟩ = true := by decide +kernel
theorem pw_v : qV ⟨#[45, 55, 47, 54]⟩ = (-7 : Rat) / 6 := by decide +kernel
theorem pw_e : qE ⟨#[45, 55, 47, 54]⟩ = 0 := by decide +kernel
theorem qd_s : (-3 : Rat) / 2 + (1 : Rat) / 3 = (-7 : Rat) / 6 := by decide +kernel
theorem fl_a : ((-3 : Rat) / 2).floor = -2 := by decide +kernel
theorem zt2 : txt 2 = ⟨#[50]⟩ := str_txt ⟨by decide, by decide, by decide, by decide⟩
theorem zt_m3 : ztxt (-3) = ⟨#[45, 51]⟩ := by
  rw [ztxt_neg (by decide), show (-3 : Int).natAbs = 3 from rfl, str_txt (s := ⟨#[51]⟩) ⟨by decide, by decide, by decide, by decide⟩]
  rfl
theorem zt_m9 : ztxt (-9) = ⟨#[45, 57]⟩ := by
  rw [ztxt_neg (by decide), show (-9 : Int).natAbs = 9 from rfl, str_txt (s := ⟨#[57]⟩) ⟨by decide, by decide, by decide, by decide⟩]
  rfl
theorem zt_m2 : ztxt (-2) = ⟨#[45, 50]⟩ := by
  rw [ztxt_neg (by decide), show (-2 : Int).natAbs = 2 from rfl, zt2]
  rfl
theorem ba : Qb ((-3 : Rat) / 2) 1 := .one _ (z := -3) (d := 2) (by decide +kernel) (by decide) (by decide) (by decide)
theorem bb : Qb ((1 : Rat) / 3) 1 := .one _ (z := 1) (d := 3) (by decide +kernel) (by decide) (by decide) (by decide)
theorem bc : Qb ((-9 : Rat) / 2) 1 := .one _ (z := -9) (d := 2) (by decide +kernel) (by decide) (by decide) (by decide)
theorem b7 : Qb ((-7 : Rat) / 6) 1 := .one _ (z := -7) (d := 6) (by decide +kernel) (by decide) (by decide) (by decide)
theorem b0 : Qb (0 : Rat) 1 := .one _ (z := 0) (d := 1) (by decide +kernel) (by decide) (by decide) (by decide)
theorem bn0 : ((1 : Rat) / 3) ≠ 0 := by decide +kernel
set_option maxHeartbeats 4000000 in
theorem l3_wakes : Gv.Fn Tryz.prog 64 [] (.raw (.bool true)) := by
  have o1 := q_Of (a := 6) (b := -4) (by decide) (by decide) (by decide) (by decide)
  have o2 := q_Of (a := 1) (b := 3) (by decide) (by decide) (by decide) (by decide)
  have o3 := q_Of (a := 0) (b := 1) (by decide) (by decide) (by decide) (by decide)
  rw [qd_a] at o1
  rw [qd_b] at o2
  rw [qd_d] at o3
  have d1 := q_Div (IsQ.qc ba) (IsQ.qc bb) (by decide) bn0
  rw [qd_c] at d1
  have p1 := q_Parse ⟨#[45, 55, 47, 54]⟩ (by decide)
  rw [pw_ok, pw_v, pw_e, if_pos rfl] at p1
  have s1 := q_Add (IsQ.qc ba) (IsQ.qc bb) (by decide)
  rw [qd_s] at s1
  have f1 := q_Floor (IsQ.qc ba) (by decide)
  rw [fl_a] at f1
  have t1 : qtxt ((-3 : Rat) / 2) = ⟨#[45, 51, 47, 50]⟩ := (qtxt_of (n := -3) (d := 2) (by decide +kernel) (by decide +kernel) (by decide) zt_m3 zt2).trans rfl
  have t2 : qtxt ((-9 : Rat) / 2) = ⟨#[45, 57, 47, 50]⟩ := (qtxt_of (n := -9) (d := 2) (by decide +kernel) (by decide +kernel) (by decide) zt_m9 zt2).trans rfl
  have g1 := q_Good_is ba (by decide)
  have x1 := q_Text (IsQ.qc ba) (by decide)
  have x2 := q_Text (IsQ.qc bc) (by decide)
  have z1 := q_Div_zero (IsQ.qc ba) (IsQ.qc b0) (by decide)
  have c1 := q_Cmp (IsQ.qc b7) (IsQ.qc b7) (by decide)
  rw [qcmp_refl] at c1
  generalize (-3 : Rat) / 2 = a at *
  generalize (1 : Rat) / 3 = b at *
  generalize (-9 : Rat) / 2 = c at *
  generalize (-7 : Rat) / 6 = d at *
  refine Fn.intro mixed vc_law03_wakes rfl ?_
  refine ok_call (o1) rfl rfl ?_
  try simp only [List.cons_append, List.nil_append]
  refine ok_call (o2) rfl rfl ?_
  try simp only [List.cons_append, List.nil_append]
  refine ok_call (d1) rfl rfl ?_
  try simp only [List.cons_append, List.nil_append]
  refine ok_call (o3) rfl rfl ?_
  try simp only [List.cons_append, List.nil_append]
  refine ok_call (z1) rfl rfl ?_
  try simp only [List.cons_append, List.nil_append]
  refine ok_call (p1) rfl rfl ?_
  try simp only [List.cons_append, List.nil_append]
  refine ok_call (x1) rfl rfl ?_
  try simp only [List.cons_append, List.nil_append]
  refine ok_seq rfl (t1) ?_
  try simp only [List.cons_append, List.nil_append]
  refine ok_true rfl ?_
  refine ok_eq rfl true (rfl) ?_
  try simp only [List.cons_append, List.nil_append]
  refine ok_true rfl ?_
  refine ok_eq rfl true (rfl) ?_
  try simp only [List.cons_append, List.nil_append]
  refine ok_true rfl ?_
  refine ok_call (x2) rfl rfl ?_
  try simp only [List.cons_append, List.nil_append]
  refine ok_seq rfl (t2) ?_
  try simp only [List.cons_append, List.nil_append]
  refine ok_true rfl ?_
  refine ok_eq rfl true (rfl) ?_
  try simp only [List.cons_append, List.nil_append]
  refine ok_true rfl ?_
  refine ok_call (s1) rfl rfl ?_
  try simp only [List.cons_append, List.nil_append]
  refine ok_call (c1) rfl rfl ?_
  try simp only [List.cons_append, List.nil_append]
  refine ok_eq rfl true (rfl) ?_
  try simp only [List.cons_append, List.nil_append]
  refine ok_true rfl ?_
  refine ok_call (f1) rfl rfl ?_
  try simp only [List.cons_append, List.nil_append]
  refine ok_call (z_Text (z := -2) (IsZ.s (by decide)) (by decide)) rfl rfl ?_
  try simp only [List.cons_append, List.nil_append]
  refine ok_seq rfl (zt_m2) ?_
  try simp only [List.cons_append, List.nil_append]
  refine ok_true rfl ?_
  refine ok_call (g1) rfl rfl ?_
  try simp only [List.cons_append, List.nil_append]
  exact ok_ret rfl rfl
set_option maxHeartbeats 4000000 in
theorem law_RatReckons {s t : Bool} {l m l' m' : List Nat} (hl : Lt 18446744073709551616 l) (hm : Lt 18446744073709551616 m) (hl' : Lt 18446744073709551616 l') (hm' : Lt 18446744073709551616 m') :
    Gv.Fn Tryz.prog 16 [.agg [.raw (.bool s), u64s l, u64s m], .agg [.raw (.bool t), u64s l', u64s m']] (.raw (.bool true)) := by
  refine Fn.intro mixed vc_law03_RatReckons rfl ?_
  refine ok_call (l3_large) rfl rfl (ok_ite rfl (fun _ => ok_call l3_wakes rfl rfl (ok_ret rfl rfl)) (fun h1 => ?_))
  try simp only [List.cons_append, List.nil_append]
  have h1 := large_no h1
  refine ok_call (l3_large) rfl rfl (ok_ite rfl (fun _ => ok_call l3_wakes rfl rfl (ok_ret rfl rfl)) (fun h2 => ?_))
  try simp only [List.cons_append, List.nil_append]
  have h2 := large_no h2
  obtain ⟨a, ea⟩ : ∃ a, qv (sg s (val 18446744073709551616 l)) (val 18446744073709551616 m) = a := ⟨_, rfl⟩
  have ia : IsQ (.agg [.raw (.bool s), u64s l, u64s m]) a 12 := ⟨s, l, m, rfl, hl, hm, ea, h1.1, h1.2, by decide⟩
  have ba := ia.b
  obtain ⟨b, eb⟩ : ∃ b, qv (sg t (val 18446744073709551616 l')) (val 18446744073709551616 m') = b := ⟨_, rfl⟩
  have ib : IsQ (.agg [.raw (.bool t), u64s l', u64s m']) b 12 := ⟨t, l', m', rfl, hl', hm', eb, h2.1, h2.2, by decide⟩
  have bb := ib.b
  have badd := ba.add bb
  have bsub := ba.sub bb
  have bmul := ba.mul bb
  have babs : Qb (qabs a) 12 := by unfold qabs; split; exact ba.neg; exact ba
  have gO := g_Out ba (by decide)
  have kR := k_Rats (s := s) (t := decide (a.num < 0)) hl hm (limbs_lt B64 a.num.natAbs) (limbs_lt B64 a.den)
  have gg := q_Good (s := s) hl hm (by omega) (by omega)
  rw [ea] at gg
  have eG : goodR s l m a = ((s == decide (a.num < 0) && decide (l = limbs 18446744073709551616 a.num.natAbs)) && decide (m = limbs 18446744073709551616 a.den)) := by unfold goodR; rw [Bool.and_assoc]
  rw [eG] at gg
  have kS := k_Rats (s := s) (t := s) hl hm hl hm
  simp only [beq_self_eq_true, decide_true, Bool.and_self] at kS
  refine ok_call (g_In ia (by decide)) rfl rfl ?_
  try simp only [List.cons_append, List.nil_append]
  refine ok_call (g_In ib (by decide)) rfl rfl ?_
  try simp only [List.cons_append, List.nil_append]
  refine ok_call (k_Rat hl hm (by omega) (by omega)) rfl rfl ?_
  try simp only [List.cons_append, List.nil_append]
  by_cases h0 : b = 0
  · subst h0
    refine ok_call (q_Div_zero ia ib (by decide)) rfl rfl ?_
    try simp only [List.cons_append, List.nil_append]
    refine ok_call (g_Sign 0) rfl rfl ?_
    try simp only [List.cons_append, List.nil_append]
    refine ok_eq rfl true (rfl) ?_
    try simp only [List.cons_append, List.nil_append]
    refine ok_true rfl ?_
    refine ok_neq rfl false (rfl) ?_
    try simp only [List.cons_append, List.nil_append]
    refine ok_false rfl ?_
    refine ok_prim (r := .raw (.int .i64 0)) rfl ?_
    try simp only [List.cons_append, List.nil_append]
    refine ok_neq rfl false (rfl) ?_
    try simp only [List.cons_append, List.nil_append]
    refine ok_false rfl ?_
    refine ok_call (q_Add ia ib (by decide)) rfl rfl ?_
    try simp only [List.cons_append, List.nil_append]
    refine ok_call (g_Add ba bb (by decide)) rfl rfl ?_
    try simp only [List.cons_append, List.nil_append]
    refine ok_call (l3_same badd (by decide)) rfl rfl ?_
    try simp only [List.cons_append, List.nil_append]
    refine ok_true rfl ?_
    refine ok_call (q_Sub ia ib (by decide)) rfl rfl ?_
    try simp only [List.cons_append, List.nil_append]
    refine ok_call (g_Sub ba bb (by decide)) rfl rfl ?_
    try simp only [List.cons_append, List.nil_append]
    refine ok_call (l3_same bsub (by decide)) rfl rfl ?_
    try simp only [List.cons_append, List.nil_append]
    refine ok_true rfl ?_
    refine ok_call (q_Mul ia ib (by decide)) rfl rfl ?_
    try simp only [List.cons_append, List.nil_append]
    refine ok_call (g_Mul ba bb (by decide)) rfl rfl ?_
    try simp only [List.cons_append, List.nil_append]
    refine ok_call (l3_same bmul (by decide)) rfl rfl ?_
    try simp only [List.cons_append, List.nil_append]
    refine ok_true rfl ?_
    refine ok_call (q_Cmp ia ib (by decide)) rfl rfl ?_
    try simp only [List.cons_append, List.nil_append]
    refine ok_call (g_Cmp ba bb (by decide)) rfl rfl ?_
    try simp only [List.cons_append, List.nil_append]
    refine ok_eq rfl true (beq_self_eq_true _) ?_
    try simp only [List.cons_append, List.nil_append]
    refine ok_true rfl ?_
    refine ok_call (q_Sign ia (by decide)) rfl rfl ?_
    try simp only [List.cons_append, List.nil_append]
    refine ok_call (g_Sign a) rfl rfl ?_
    try simp only [List.cons_append, List.nil_append]
    refine ok_eq rfl true (beq_self_eq_true _) ?_
    try simp only [List.cons_append, List.nil_append]
    refine ok_true rfl ?_
    refine ok_call (q_Neg ia (by decide)) rfl rfl ?_
    try simp only [List.cons_append, List.nil_append]
    refine ok_call (g_Minus a) rfl rfl ?_
    try simp only [List.cons_append, List.nil_append]
    refine ok_call (l3_same ba.neg (by decide)) rfl rfl ?_
    try simp only [List.cons_append, List.nil_append]
    refine ok_true rfl ?_
    refine ok_call (q_Abs ia (by decide)) rfl rfl ?_
    try simp only [List.cons_append, List.nil_append]
    refine ok_call (g_Abs a) rfl rfl ?_
    try simp only [List.cons_append, List.nil_append]
    refine ok_call (l3_same babs (by decide)) rfl rfl ?_
    try simp only [List.cons_append, List.nil_append]
    refine ok_true rfl ?_
    refine ok_call (gg) rfl rfl ?_
    try simp only [List.cons_append, List.nil_append]
    refine ok_call (gO) rfl rfl ?_
    try simp only [List.cons_append, List.nil_append]
    refine ok_call (kR) rfl rfl ?_
    try simp only [List.cons_append, List.nil_append]
    refine ok_beq rfl true (beq_self_eq_true _) ?_
    try simp only [List.cons_append, List.nil_append]
    refine ok_true rfl ?_
    refine ok_call (kS) rfl rfl ?_
    try simp only [List.cons_append, List.nil_append]
    refine ok_true rfl ?_
    refine ok_call (l3_wakes) rfl rfl ?_
    try simp only [List.cons_append, List.nil_append]
    exact ok_ret rfl rfl
  · have bdiv := ba.div bb h0
    refine ok_call (q_Div ia ib (by decide) h0) rfl rfl ?_
    try simp only [List.cons_append, List.nil_append]
    refine ok_call (g_Sign b) rfl rfl ?_
    try simp only [List.cons_append, List.nil_append]
    refine ok_eq rfl false (by rw [sign0, decide_eq_false h0]) ?_
    try simp only [List.cons_append, List.nil_append]
    refine ok_false rfl ?_
    refine ok_neq rfl false (rfl) ?_
    try simp only [List.cons_append, List.nil_append]
    refine ok_false rfl ?_
    refine ok_call (g_Div ba bb (by decide) h0) rfl rfl ?_
    try simp only [List.cons_append, List.nil_append]
    refine ok_call (l3_same bdiv (by decide)) rfl rfl ?_
    try simp only [List.cons_append, List.nil_append]
    refine ok_not rfl ?_
    try simp only [List.cons_append, List.nil_append]
    refine ok_false rfl ?_
    refine ok_call (q_Add ia ib (by decide)) rfl rfl ?_
    try simp only [List.cons_append, List.nil_append]
    refine ok_call (g_Add ba bb (by decide)) rfl rfl ?_
    try simp only [List.cons_append, List.nil_append]
    refine ok_call (l3_same badd (by decide)) rfl rfl ?_
    try simp only [List.cons_append, List.nil_append]
    refine ok_true rfl ?_
    refine ok_call (q_Sub ia ib (by decide)) rfl rfl ?_
    try simp only [List.cons_append, List.nil_append]
    refine ok_call (g_Sub ba bb (by decide)) rfl rfl ?_
    try simp only [List.cons_append, List.nil_append]
    refine ok_call (l3_same bsub (by decide)) rfl rfl ?_
    try simp only [List.cons_append, List.nil_append]
    refine ok_true rfl ?_
    refine ok_call (q_Mul ia ib (by decide)) rfl rfl ?_
    try simp only [List.cons_append, List.nil_append]
    refine ok_call (g_Mul ba bb (by decide)) rfl rfl ?_
    try simp only [List.cons_append, List.nil_append]
    refine ok_call (l3_same bmul (by decide)) rfl rfl ?_
    try simp only [List.cons_append, List.nil_append]
    refine ok_true rfl ?_
    refine ok_call (q_Cmp ia ib (by decide)) rfl rfl ?_
    try simp only [List.cons_append, List.nil_append]
    refine ok_call (g_Cmp ba bb (by decide)) rfl rfl ?_
    try simp only [List.cons_append, List.nil_append]
    refine ok_eq rfl true (beq_self_eq_true _) ?_
    try simp only [List.cons_append, List.nil_append]
    refine ok_true rfl ?_
    refine ok_call (q_Sign ia (by decide)) rfl rfl ?_
    try simp only [List.cons_append, List.nil_append]
    refine ok_call (g_Sign a) rfl rfl ?_
    try simp only [List.cons_append, List.nil_append]
    refine ok_eq rfl true (beq_self_eq_true _) ?_
    try simp only [List.cons_append, List.nil_append]
    refine ok_true rfl ?_
    refine ok_call (q_Neg ia (by decide)) rfl rfl ?_
    try simp only [List.cons_append, List.nil_append]
    refine ok_call (g_Minus a) rfl rfl ?_
    try simp only [List.cons_append, List.nil_append]
    refine ok_call (l3_same ba.neg (by decide)) rfl rfl ?_
    try simp only [List.cons_append, List.nil_append]
    refine ok_true rfl ?_
    refine ok_call (q_Abs ia (by decide)) rfl rfl ?_
    try simp only [List.cons_append, List.nil_append]
    refine ok_call (g_Abs a) rfl rfl ?_
    try simp only [List.cons_append, List.nil_append]
    refine ok_call (l3_same babs (by decide)) rfl rfl ?_
    try simp only [List.cons_append, List.nil_append]
    refine ok_true rfl ?_
    refine ok_call (gg) rfl rfl ?_
    try simp only [List.cons_append, List.nil_append]
    refine ok_call (gO) rfl rfl ?_
    try simp only [List.cons_append, List.nil_append]
    refine ok_call (kR) rfl rfl ?_
    try simp only [List.cons_append, List.nil_append]
    refine ok_beq rfl true (beq_self_eq_true _) ?_
    try simp only [List.cons_append, List.nil_append]
    refine ok_true rfl ?_
    refine ok_call (kS) rfl rfl ?_
    try simp only [List.cons_append, List.nil_append]
    refine ok_true rfl ?_
    refine ok_call (l3_wakes) rfl rfl ?_
    try simp only [List.cons_append, List.nil_append]
    exact ok_ret rfl rfl
end Go.Proofs.YtlpfbcilnfgaaaaGreatDoor


/- Contracts: package fix's From, To; the reference's (gessoref05) From, To, Byte. -/
namespace Gv
open Go Go.RowKit Gs
set_option linter.unusedVariables false
/-- the nearest number of parts -/
def toQ (a : Rat) (u : Int) : Int := if u < 1 then 0 else (a * (u : Rat) + 1 / 2).floor
def fromQ (v u : Int) : Rat := if u < 1 then 0 else (v : Rat) / (u : Rat)
/-- a color's byte -/
def byteQ (a : Rat) : Int := if a ≤ 0 then 0 else if 1 ≤ a then 255 else toQ a 255
theorem qd_one' (z : Int) : qd z 1 = (z : Rat) := by unfold qd; rw [if_neg (by decide), if_neg (by decide)]; exact Rat.mkRat_one z
theorem qd_half : qd 1 2 = 1 / 2 := by decide +kernel
theorem qd_zero : qd 0 1 = 0 := by decide +kernel
theorem b_half : Qb ((1 : Rat) / 2) 1 := .one _ (z := 1) (d := 2) (by decide +kernel) (by decide) (by decide) (by decide)
theorem b_i64 {u : Int} (h : -9223372036854775808 ≤ u) (h' : u ≤ 9223372036854775807) : Qb (u : Rat) 1 := Qb.int (zs_s (by omega)) (by decide)
theorem to_range {a : Rat} (h0 : 0 < a) (h1 : a < 1) : 0 ≤ toQ a 255 ∧ toQ a 255 ≤ 255 := by
  have e : toQ a 255 = (a * ((255 : Int) : Rat) + 1 / 2).floor := if_neg (by decide)
  rw [e]
  have c : ((255 : Int) : Rat) = 255 := rfl
  rw [c]
  have h2 := floor_le (a * 255 + 1 / 2)
  have h3 := lt_floor (a * 255 + 1 / 2)
  generalize (a * 255 + 1 / 2).floor = n at h2 h3
  have h4 : (n : Rat) < ((256 : Int) : Rat) := by have : ((256 : Int) : Rat) = 256 := rfl
                                                  rw [this]; grind
  have h5 : ((0 : Int) : Rat) < ((n + 1 : Int) : Rat) := by have : ((0 : Int) : Rat) = 0 := rfl
                                                            rw [this]; grind
  have h6 := int_lt.1 h4
  have h7 := int_lt.1 h5
  omega
theorem b_to {a : Rat} {k : Nat} (h : Qb a k) {u : Int} (h1 : -9223372036854775808 ≤ u) (h2 : u ≤ 9223372036854775807) : zs (toQ a u) ≤ k + 4 := by
  unfold toQ
  split
  · exact Nat.zero_le _
  · exact Nat.le_trans (Go.Proofs.YtlpfbcilnfgaaaaGreatDoor.q_floor_b ((h.mul (b_i64 h1 h2)).add b_half)) (by omega)
end Gv
namespace Go.Proofs.YtlpfbcilnfgaaaaGreatDoor
open Go.RowKit Gs Gv
set_option linter.unusedVariables false
theorem x_From {v u : Int} (hv : -9223372036854775808 ≤ v ∧ v ≤ 9223372036854775807) (hu : -9223372036854775808 ≤ u ∧ u ≤ 9223372036854775807) : Gv.Fn Tryz.prog 51 [.raw (.int .i64 v), .raw (.int .i64 u)] (qc (fromQ v u)) := by
  have o1 := q_Of (a := 0) (b := 1) (by decide) (by decide) (by decide) (by decide)
  rw [qd_zero] at o1
  have o2 := q_Of hv.1 hv.2 hu.1 hu.2
  refine Fn.intro mixed vc_fix_From rfl (ok_lss rfl (decide (u < 1)) rfl (ok_ite rfl (fun e => ?_) (fun e => ?_)))
  · unfold fromQ
    rw [if_pos (by simpa using e)]
    exact ok_call o1 rfl rfl (ok_ret rfl rfl)
  · have e : ¬ u < 1 := by simpa using e
    unfold fromQ
    rw [if_neg e, ← qd_div (by omega)]
    exact ok_call o2 rfl rfl (ok_ret rfl rfl)
theorem x_To {p : PV} {a : Rat} {k : Nat} {u : Int} (ha : IsQ p a k) (hk : k ≤ 40000) (hu : -9223372036854775808 ≤ u ∧ u ≤ 9223372036854775807) : Gv.Fn Tryz.prog 53 [p, .raw (.int .i64 u)] (zc (toQ a u)) := by
  have ba := ha.b
  have bu := b_i64 hu.1 hu.2
  have o1 := q_Of hu.1 hu.2 (b := 1) (by decide) (by decide)
  rw [qd_one'] at o1
  have o2 := q_Of (a := 1) (b := 2) (by decide) (by decide) (by decide) (by decide)
  rw [qd_half] at o2
  have m1 := q_Mul ha (IsQ.qc bu) (by omega)
  have bm := ba.mul bu
  have a1 := q_Add (IsQ.qc bm) (IsQ.qc b_half) (by omega)
  have bs := bm.add b_half
  have f1 := q_Floor (IsQ.qc bs) (by omega)
  have e0 : ¬ u < 1 → toQ a u = (a * (u : Rat) + 1 / 2).floor := fun e => if_neg e
  have e1 : u < 1 → toQ a u = 0 := fun e => if_pos e
  generalize (1 : Rat) / 2 = h at *
  obtain ⟨s, l, m, rfl, _⟩ := ha
  refine Fn.intro mixed vc_fix_To rfl (ok_lss rfl (decide (u < 1)) rfl (ok_ite rfl (fun e => ?_) (fun e => ?_)))
  · rw [e1 (by simpa using e)]
    exact ok_call (z_Of (v := 0) (by decide) (by decide)) rfl rfl (ok_ret rfl rfl)
  · rw [e0 (by simpa using e)]
    try simp only [List.cons_append, List.nil_append]
    refine ok_call o1 rfl rfl (ok_call m1 rfl rfl ?_)
    try simp only [List.cons_append, List.nil_append]
    refine ok_call o2 rfl rfl (ok_call a1 rfl rfl ?_)
    try simp only [List.cons_append, List.nil_append]
    exact ok_call f1 rfl rfl (ok_ret rfl rfl)
theorem h_From {v u : Int} (hv : -9223372036854775808 ≤ v ∧ v ≤ 9223372036854775807) (hu : -9223372036854775808 ≤ u ∧ u ≤ 9223372036854775807) : Gv.Fn Tryz.prog 52 [.raw (.int .i64 v), .raw (.int .i64 u)] (qf (fromQ v u)) := by
  have o1 := g_Of (a := 0) (b := 1) (by decide) (by decide) (by decide) (by decide)
  rw [qd_zero] at o1
  have o2 := g_Of hv.1 hv.2 hu.1 hu.2
  refine Fn.intro mixed vc_ref05_From rfl (ok_lss rfl (decide (u < 1)) rfl (ok_ite rfl (fun e => ?_) (fun e => ?_)))
  · unfold fromQ
    rw [if_pos (by simpa using e)]
    exact ok_call o1 rfl rfl (ok_ret rfl rfl)
  · have e : ¬ u < 1 := by simpa using e
    unfold fromQ
    rw [if_neg e, ← qd_div (by omega)]
    exact ok_call o2 rfl rfl (ok_ret rfl rfl)
theorem h_To {a : Rat} {k : Nat} {u : Int} (ba : Qb a k) (hk : k ≤ 400) (hu : -9223372036854775808 ≤ u ∧ u ≤ 9223372036854775807) : Gv.Fn Tryz.prog 54 [qf a, .raw (.int .i64 u)] (zf (toQ a u)) := by
  have bu := b_i64 hu.1 hu.2
  have o1 := g_Of hu.1 hu.2 (b := 1) (by decide) (by decide)
  rw [qd_one'] at o1
  have o2 := g_Of (a := 1) (b := 2) (by decide) (by decide) (by decide) (by decide)
  rw [qd_half] at o2
  have m1 := g_Mul ba bu (by omega)
  have bm := ba.mul bu
  have a1 := g_Add bm b_half (by omega)
  have bs := bm.add b_half
  have f1 := g_Floor bs (by omega)
  have e0 : ¬ u < 1 → toQ a u = (a * (u : Rat) + 1 / 2).floor := fun e => if_neg e
  have e1 : u < 1 → toQ a u = 0 := fun e => if_pos e
  generalize (1 : Rat) / 2 = h at *
  refine Fn.intro mixed vc_ref05_To rfl (ok_lss rfl (decide (u < 1)) rfl (ok_ite rfl (fun e => ?_) (fun e => ?_)))
  · rw [e1 (by simpa using e)]
    exact ok_call (f_Of (v := 0) (by decide) (by decide)) rfl rfl (ok_ret rfl rfl)
  · rw [e0 (by simpa using e)]
    try simp only [List.cons_append, List.nil_append]
    refine ok_call o1 rfl rfl (ok_call m1 rfl rfl ?_)
    try simp only [List.cons_append, List.nil_append]
    refine ok_call o2 rfl rfl (ok_call a1 rfl rfl ?_)
    try simp only [List.cons_append, List.nil_append]
    exact ok_call f1 rfl rfl (ok_ret rfl rfl)
theorem h_Byte {a : Rat} {k : Nat} (ba : Qb a k) (hk : k ≤ 400) : Gv.Fn Tryz.prog 56 [qf a] (.raw (.int .u8 (byteQ a))) := by
  have o1 := g_Of (a := 1) (b := 1) (by decide) (by decide) (by decide) (by decide)
  rw [qd_one'] at o1
  have b1 : Qb ((1 : Int) : Rat) 1 := b_i64 (by decide) (by decide)
  have c1 := g_Cmp ba b1 (by omega)
  have t1 := h_To (u := 255) ba hk (by decide)
  refine Fn.intro mixed vc_ref05_Byte rfl (ok_call (g_Sign a) rfl rfl (ok_leq rfl (decide (a ≤ 0)) ?_ (ok_ite rfl (fun e => ?_) (fun e => ?_))))
  · rw [Bool.eq_iff_iff, decide_eq_true_iff, decide_eq_true_iff]
    have h1 := num_pos_iff a
    constructor
    · intro h
      refine Decidable.byContradiction fun h' => ?_
      have h2 : 0 < a.num.sign := by have := h1.2 (by grind); simpa using this
      omega
    · intro h
      refine Decidable.byContradiction fun h' => ?_
      have h2 : 0 < a.num := by have : 0 < a.num.sign := by omega
                                simpa using this
      have := h1.1 h2
      grind
  · refine ok_ret ?_ rfl
    unfold byteQ
    rw [if_pos (by simpa using e)]
    rfl
  have e : ¬ a ≤ 0 := by simpa using e
  try simp only [List.cons_append, List.nil_append]
  refine ok_call o1 rfl rfl (ok_call c1 rfl rfl (ok_geq rfl (decide (1 ≤ a)) ?_ (ok_ite rfl (fun e2 => ?_) (fun e2 => ?_))))
  · rw [Bool.eq_iff_iff, decide_eq_true_iff, decide_eq_true_iff]
    have h1 := @qcmp_lt a ((1 : Int) : Rat)
    have e1 : ((1 : Int) : Rat) = 1 := rfl
    rw [e1] at h1 ⊢
    constructor
    · intro h
      refine Decidable.byContradiction fun h' => ?_
      have := h1.2 (by grind)
      omega
    · intro h
      refine Decidable.byContradiction fun h' => ?_
      have := h1.1 (by omega)
      grind
  · refine ok_ret ?_ rfl
    unfold byteQ
    rw [if_neg e, if_pos (by simpa using e2)]
    rfl
  have e2 : ¬ 1 ≤ a := by simpa using e2
  obtain ⟨r1, r2⟩ := to_range (a := a) (by grind) (by grind)
  have eB : byteQ a = toQ a 255 := by unfold byteQ; rw [if_neg e, if_neg e2]
  rw [eB]
  generalize toQ a 255 = n at *
  try simp only [List.cons_append, List.nil_append]
  refine ok_call t1 rfl rfl (ok_call (f_Sign n) rfl rfl (ok_eq rfl (decide (n = 0)) ?_ (ok_ite rfl (fun e3 => ?_) (fun e3 => ?_))))
  · rw [Bool.eq_iff_iff, decide_eq_true_iff, beq_iff_eq, Int.sign_eq_zero_iff_zero]
  · obtain rfl : n = 0 := by simpa using e3
    exact ok_ret rfl rfl
  have e3 : n ≠ 0 := by simpa using e3
  have hl : limbs 4294967296 n.natAbs = [n.natAbs] := limbs32_1 (by
    have h1 : (limbs 4294967296 n.natAbs).length ≤ 1 := limbs_len_le B32' (by omega)
    have h2 := @limbs32_len0 n.natAbs
    omega)
  try simp only [List.cons_append, List.nil_append]
  refine ok_prim (r := .ref [.raw (.int .u32 (n.natAbs : Nat))]) ?_ (ok_prim rfl (ok_cv rfl n ?_ (ok_ret rfl rfl)))
  · show Prim.ev (.idx 1) [r32 n.natAbs, .raw (.int .i64 0)] = _
    unfold r32
    rw [hl]
    rfl
  · rw [IntKind.wrap_u8]
    omega
end Go.Proofs.YtlpfbcilnfgaaaaGreatDoor


