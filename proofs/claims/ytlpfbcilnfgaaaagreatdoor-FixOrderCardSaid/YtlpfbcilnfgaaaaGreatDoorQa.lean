/- From the rows' readings to numbers, and the worlds that bear witness. -/
import Derived.Test.YtlpfbcilnfgaaaaGreatDoorCards
import Derived.Test.YtlpfbcilnfgaaaaGreatDoorTie
import Derived.Test.YtlpfbcilnfgaaaaGreatDoorK
import Derived.WalkKit
import Derived.ProofKit
import Derived.OpenShut
import Derived.Carry
import Derived.ChangeSlices
import Derived.Deep.DeepHandedRow
namespace Go.Proofs.YtlpfbcilnfgaaaaGreatDoor
open Go.ChangeShapes Go.WideShapes Go.ChangeAt Go.RowKit Gs
set_option linter.unusedVariables false

theorem own : ownKnob Tryz.prog.godebug = none := by kernel_rfl
theorem laidOut : laidOutB Tryz.prog = true := by kernel_rfl
theorem cellsU64 : Tryz.prog.cellsOf 129 = 1 := by kernel_rfl
theorem u64_nat {z : Int} (h : (Lit.int .u64 z).wf = true) : 0 ≤ z ∧ z < 18446744073709551616 := by
  have h1 : IntKind.u64.min = 0 := rfl
  have h2 : IntKind.u64.max = 18446744073709551615 := rfl
  simp only [Lit.wf, Bool.and_eq_true, decide_eq_true_eq] at h
  omega

theorem u16_nat {z : Int} (h : (Lit.int .u16 z).wf = true) : 0 ≤ z ∧ z < 65536 := by
  have h1 : IntKind.u16.min = 0 := rfl
  have h2 : IntKind.u16.max = 65535 := rfl
  simp only [Lit.wf, Bool.and_eq_true, decide_eq_true_eq] at h
  omega
theorem i64_int {z : Int} (h : (Lit.int .i64 z).wf = true) : -9223372036854775808 ≤ z ∧ z ≤ 9223372036854775807 := by
  have h1 : IntKind.i64.min = -9223372036854775808 := rfl
  have h2 : IntKind.i64.max = 9223372036854775807 := rfl
  simp only [Lit.wf, Bool.and_eq_true, decide_eq_true_eq] at h
  omega

set_option maxRecDepth 100000 in
/-- AN ARGUMENT OF TYPE []uint64 IS A ROW OF LIMBS. -/
theorem open_num {H : Type} {enc : TypeId × Value → H} {W : World} {base : Nat} {v : Value} {d : DataW H} {p : List MemPlace} (hval : Value.okWide Tryz.prog W .any base 22 v)
    (h : DataW.Trod enc Tryz.prog W 0 (fun _ => true) true 22 v d p) : ∃ A n c l, v = .slice A n c ∧ RdU W (fun _ => True) ⟨A, n, c⟩ l := by
  obtain ⟨A, n, c, rfl⟩ := okWide_slice Tryz.underlying22 hval
  obtain ⟨fuel, hf⟩ := h
  rcases open_ints Tryz.underlying22 Tryz.underlying129 cellsU64 hf with ⟨hcs, hx⟩ | ⟨a, len', cap', zs, hcs, _, hl, hm, hz, hx, hcell, hwz⟩
  · simp [Value.cells] at hcs
    obtain ⟨rfl, rfl, rfl⟩ := hcs
    exact ⟨none, 0, 0, [], rfl, RdN.nil _ _ _ 0 (by omega) _, Lt.nil _⟩
  · simp [Value.cells] at hcs
    obtain ⟨rfl, rfl, rfl⟩ := hcs
    simp only [if_true] at hz
    have hget : ∀ j, j < zs.length → ((gd (zs.map Int.toNat) j : Nat) : Int) = zs.getD j 0 := by
      intro j hj
      rw [gd_lt (by simpa using hj), List.getElem_map, List.getD_eq_getElem?_getD, List.getElem?_eq_getElem hj, Option.getD_some, Int.toNat_of_nonneg (u64_nat (hwz _ (List.getElem_mem hj))).1]
    have hz2 : zs.length = c := hz
    refine ⟨some a, n, c, (zs.map Int.toNat).take n, rfl, ⟨by rw [List.length_take, List.length_map]; show min n zs.length = n; omega, hl, by simpa [maxLen] using hm, fun _ => ⟨a, rfl, trivial, fun j hj => ?_⟩⟩, ?_⟩
    · have hj2 : j < n := hj
      rw [gd_take hj2, hget j (by omega)]
      exact hcell j (by omega)
    · intro x hx2
      obtain ⟨z, hz3, rfl⟩ := List.mem_map.1 (List.mem_of_mem_take hx2)
      have := u64_nat (hwz z hz3)
      omega

def laidObj (vs : List Value) : Obj → Obj
  | .cells _ t frozen => .cells vs.toArray t frozen
  | o => o
/-- A WORLD FOR THE WITNESSES: the settled one, both tables laid. -/
noncomputable def laidWorld (os : Os) : World :=
  { World.holding Tryz.prog os ⟨#[], #[], []⟩ with heap := ((World.holding Tryz.prog os ⟨#[], #[], []⟩).heap.modify 3 (laidObj (Go.Pinned.utf8FirstZ.map fun x => Value.int .u8 (Int.ofNat x)))).modify 4 (laidObj ([128, 191, 160, 191, 128, 159, 144, 191, 128, 143, 0, 0, 0, 0, 0, 0, 0, 0, 0, 0, 0, 0, 0, 0, 0, 0, 0, 0, 0, 0, 0, 0].map fun x => Value.int .u8 x)) }
end Go.Proofs.YtlpfbcilnfgaaaaGreatDoor
