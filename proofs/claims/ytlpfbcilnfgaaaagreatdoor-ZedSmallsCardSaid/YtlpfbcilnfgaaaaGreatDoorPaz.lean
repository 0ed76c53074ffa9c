import Derived.Test.YtlpfbcilnfgaaaaGreatDoorUA
/- What both readings of a text of digits tell; the reference's text of a number. -/
namespace Go.Proofs.YtlpfbcilnfgaaaaGreatDoor
open Go.RowKit Gs
set_option linter.unusedVariables false

theorem pow_ten_k {L K : Nat} (hL : L = 20 * K) : (18446744073709551616 : Nat) ^ K ≤ 10 ^ L := by
  rw [hL, Nat.pow_mul]
  exact Nat.pow_le_pow_left (by decide) K
/-- what both readings of a text tell -/
theorem both_Parse {s : ByteArray} (hs : s.size ≤ 800) : ∃ (z : Int) (V M : Nat), M ≤ 1000 ∧ (z = 0 ∨ (z = 11 ∧ V = 0)) ∧
    (∀ w : World, Calls Tryz.prog 113 #[.string s] w fun e w' => ∃ r, e = .returned (.tuple #[r, .int .i64 z]) ∧ CanN w' r V M ∧ Below w.heap.size w w') ∧
    (∀ w : World, Calls Tryz.prog 114 #[.string s] w fun e w' => ∃ r, e = .returned (.tuple #[r, .int .i64 z]) ∧ CanR w' r V M ∧ Below w.heap.size w w') := by
  have cn : ∀ w : World, CanN w (.slice none 0 0) 0 0 := fun w => ⟨none, 0, 0, rfl, ⟨RdN.nil _ _ _ 0 (by omega) _, Lt.nil _⟩, Nat.le_refl _⟩
  by_cases h0 : s.size = 0
  · refine ⟨11, 0, 0, by omega, .inr ⟨rfl, rfl⟩, fun w => (nat_Parse_empty h0).mono ?_, fun w => (ref_Parse_empty h0).mono ?_⟩
    · rintro e w' ⟨rfl, rfl⟩
      exact ⟨_, rfl, cn _, Below.refl _ _⟩
    · rintro e w' ⟨rfl, rfl⟩
      exact ⟨_, rfl, CanR.nil _ _, Below.refl _ _⟩
  · by_cases hz : gd (byt s) 0 = 48 ∧ 1 < s.size
    · refine ⟨11, 0, 0, by omega, .inr ⟨rfl, rfl⟩, fun w => (nat_Parse_zero hz.2 (by omega) hz.1).mono ?_, fun w => (ref_Parse_zero hz.2 (by omega) hz.1).mono ?_⟩
      · rintro e w' ⟨rfl, rfl⟩
        exact ⟨_, rfl, cn _, Below.refl _ _⟩
      · rintro e w' ⟨rfl, rfl⟩
        exact ⟨_, rfl, CanR.nil _ _, Below.refl _ _⟩
    · have hz2 : gd (byt s) 0 = 48 → s.size = 1 := fun h => by
        rcases Nat.lt_or_ge 1 s.size with h1 | h1
        · exact absurd ⟨h, h1⟩ hz
        · omega
      refine ⟨parseE (byt s), if allDig (byt s) = true then dec (byt s) else 0, s.size, by omega, ?_, fun w => (nat_Parse_ok (by omega) (by omega) hz2).mono ?_, fun w => ref_Parse_ok (by omega) (Nat.le_refl _) (by omega) hz2⟩
      · cases hd : allDig (byt s) with
        | true => exact .inl (parse_good hd).2
        | false => exact .inr ⟨(parse_bad hd).2, if_neg (by decide)⟩
      rintro e w' ⟨A1, n1, c1, rfl, h1, hb⟩
      refine ⟨_, rfl, ?_, hb⟩
      cases hd : allDig (byt s) with
      | true =>
        rw [(parse_good hd).1] at h1
        rw [if_pos rfl]
        refine CanN.of h1 (Nat.lt_of_lt_of_le (dec_lt hd) ?_)
        rw [byt_length]
        exact Nat.pow_le_pow_left (by omega) _
      | false =>
        rw [(parse_bad hd).1] at h1
        rw [if_neg (by decide)]
        exact CanN.of (x := 0) h1 (Nat.pow_pos (by omega))
theorem call_RText {w : World} {a : Value} {x K L : Nat} (h : CanR w a x K) (hK : K ≤ 1000) (hL : x < 10 ^ L) (hL2 : L ≤ 100000) :
    Calls Tryz.prog 117 #[a] w fun e w' => ∃ s, e = .returned (.string s) ∧ IsText s x ∧ Below w.heap.size w w' := by
  by_cases h0 : x = 0
  · subst h0
    refine (ref_Text_zero h).mono ?_
    rintro e w' ⟨rfl, rfl⟩
    exact ⟨_, rfl, ⟨by decide, by decide, by decide, by decide⟩, Below.refl _ _⟩
  · exact ref_Text h hK h0 hL hL2
end Go.Proofs.YtlpfbcilnfgaaaaGreatDoor


