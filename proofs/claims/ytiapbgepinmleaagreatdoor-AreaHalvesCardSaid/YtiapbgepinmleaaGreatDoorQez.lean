import Derived.Test.YtiapbgepinmleaaGreatDoorQB
import Derived.Test.YtiapbgepinmleaaGreatDoorHA
import Derived.Deep.Slices
/- From the rows' readings to what the engine speaks of: points, lines of points, arrays of three points. -/
namespace Go.Proofs.YtiapbgepinmleaaGreatDoor
open Go.ChangeShapes Go.WideShapes Go.ChangeAt Go.RowKit Gs Gv
set_option linter.unusedVariables false
theorem cellsPt : Tryz.prog.cellsOf 29 = 6 := by kernel_rfl
theorem rcs_flat (r : RP) : ∀ (j : Nat) (p : PV), r.cs[j]? = some p → p.flat = true
  | 0, p, h => by cases h; rfl
  | 1, p, h => by cases h; rfl
  | 2, p, h => by cases h; rfl
  | 3, p, h => by cases h; rfl
  | 4, p, h => by cases h; rfl
  | 5, p, h => by cases h; rfl
  | j + 6, p, h => by cases h
/-- six values that are a point's cells -/
def PtAt (W : World) (r : RP) (cs : List Value) : Prop := cs.length = 6 ∧ r.wf ∧ ∀ (j : Nat) (p : PV), r.cs[j]? = some p → ∃ v, cs[j]? = some v ∧ Rep W (fun _ => True) p v
set_option maxRecDepth 100000 in
theorem pt_cells {H : Type} {enc : TypeId × Value → H} {W : World} {fuel : Nat} {cs : List Value} {x : DataW H × List MemPlace} (hf : DataW.trod enc Tryz.prog W 0 (fun _ => true) true fuel 29 cs = some x) :
    ∃ r, PtAt W r cs := by
  obtain ⟨y0, y1, n, hx, hlen, hy0, hy1⟩ := trod_struct2 Tryz.underlying29 hf
  rw [cellsPt] at hlen
  obtain ⟨s, l, m, u, v, e0, hl, hm, hr, hfl, hr', hfl'⟩ := rat_cells hy0
  obtain ⟨s2, l2, m2, u2, v2, e1, hl2, hm2, hr2, hfl2, hr2', hfl2'⟩ := rat_cells hy1
  match cs, hlen with
  | [a, b, c, d, e, f], _ =>
    rw [cellsQ] at e0 e1
    simp at e0 e1
    obtain ⟨rfl, rfl, rfl⟩ := e0
    obtain ⟨rfl, rfl, rfl⟩ := e1
    refine ⟨⟨⟨s, l, m⟩, ⟨s2, l2, m2⟩⟩, rfl, ⟨⟨hl, hm⟩, ⟨hl2, hm2⟩⟩, fun j p hj => ?_⟩
    match j, hj with
    | 0, hj => cases hj; exact ⟨_, rfl, .raw _⟩
    | 1, hj => cases hj; exact ⟨_, rfl, hr⟩
    | 2, hj => cases hj; exact ⟨_, rfl, hr'⟩
    | 3, hj => cases hj; exact ⟨_, rfl, .raw _⟩
    | 4, hj => cases hj; exact ⟨_, rfl, hr2⟩
    | 5, hj => cases hj; exact ⟨_, rfl, hr2'⟩
set_option maxRecDepth 100000 in
/-- AN ARGUMENT OF TYPE api.Pt -/
theorem open_pt {H : Type} {enc : TypeId × Value → H} {W : World} {base : Nat} {v : Value} {d : DataW H} {p : List MemPlace} (hval : Value.okWide Tryz.prog W .any base 29 v)
    (h : DataW.Trod enc Tryz.prog W 0 (fun _ => true) true 29 v d p) : ∃ r : RP, r.wf ∧ Rep W (fun _ => True) (.agg r.cs) v := by
  obtain ⟨cs, rfl, hsz⟩ := okWide_struct Tryz.underlying29 hval
  obtain ⟨fuel, hf⟩ := h
  obtain ⟨r, h6, hw, hr⟩ := pt_cells hf
  have h6' : cs.size = 6 := by simpa [Value.cells] using h6
  refine ⟨r, hw, .agg _ _ (by rw [h6']; rfl) (rcs_flat r) (fun j p hj => ?_)⟩
  obtain ⟨u, hu, hru⟩ := hr j p hj
  have hu' : cs[j]? = some u := by simpa [Value.cells] using hu
  have : cs.getD j undef = u := by rw [Array.getD_eq_getD_getElem?, hu']; rfl
  rw [this]
  exact hru
set_option maxRecDepth 100000 in
/-- AN ARGUMENT OF TYPE []api.Pt -/
theorem open_line {H : Type} {enc : TypeId × Value → H} {W : World} {base : Nat} {v : Value} {d : DataW H} {p : List MemPlace} (hval : Value.okWide Tryz.prog W .any base 22 v)
    (h : DataW.Trod enc Tryz.prog W 0 (fun _ => true) true 22 v d p) : ∃ L : List RP, (∀ r ∈ L, r.wf) ∧ Rep W (fun _ => True) (rline L) v := by
  obtain ⟨a0, n0, c0, rfl⟩ := okWide_slice Tryz.underlying22 hval
  obtain ⟨fuel, hf⟩ := h
  rcases Go.Deep.open_slice Tryz.underlying22 hf with ⟨hcs, hx⟩ | ⟨a, len, cap, m, n, D, Pl, hcs, _, hl, hm, hmm, hx, hall⟩
  · simp [Value.cells] at hcs
    obtain ⟨rfl, rfl, rfl⟩ := hcs
    exact ⟨[], fun r h => by simp at h, .nil none 0 (by omega)⟩
  · simp [Value.cells] at hcs
    obtain ⟨rfl, rfl, rfl⟩ := hcs
    have hmm2 : m = c0 := hmm
    subst hmm2
    haveI : Inhabited (RP × List Value) := ⟨⟨⟨⟨false, [], []⟩, ⟨false, [], []⟩⟩, []⟩⟩
    obtain ⟨F, hF⟩ := Go.Deep.choose_lt (α := RP × List Value) (n := n0) (p := fun i x => W.cells? 0 (a.add (i * 6)) 6 = some x.2 ∧ PtAt W x.1 x.2) (fun i hi => by
      obtain ⟨cs', h1, h2⟩ := hall i (by omega)
      rw [cellsPt] at h1
      obtain ⟨r, hr⟩ := pt_cells h2
      exact ⟨(r, cs'), h1, hr⟩)
    have hget : ∀ (i : Nat) (e : List PV), (((List.range n0).map fun i => (F i).1).map RP.cs)[i]? = some e → i < n0 ∧ e = (F i).1.cs := by
      intro i e he
      rw [List.getElem?_map, List.getElem?_map, Option.map_eq_some_iff] at he
      obtain ⟨r, hr, rfl⟩ := he
      rw [Option.map_eq_some_iff] at hr
      obtain ⟨j, hj, rfl⟩ := hr
      have hlt := (List.getElem?_eq_some_iff.1 hj).1
      rw [List.length_range] at hlt
      rw [List.getElem?_range hlt] at hj
      cases hj
      exact ⟨hlt, rfl⟩
    refine ⟨(List.range n0).map fun i => (F i).1, fun r hr => ?_, ?_⟩
    · obtain ⟨i, hi, rfl⟩ := List.mem_map.1 hr
      exact (hF i (List.mem_range.1 hi)).2.2.1
    · have hlen : (((List.range n0).map fun i => (F i).1).map RP.cs).length = n0 := by simp
      have key := Rep.sl (w := W) (P := fun _ => True) 6 (((List.range n0).map fun i => (F i).1).map RP.cs) a m (fun i j => ((F i).2).getD j undef) (fun i e he => by obtain ⟨_, rfl⟩ := hget i e he; rfl)
        (by rw [hlen]; exact hl) (by simpa [maxLen] using hm) (fun i e he j p hj => by obtain ⟨_, rfl⟩ := hget i e he; exact rcs_flat _ j p hj)
        (fun i e he j p hj => by
          obtain ⟨hi, rfl⟩ := hget i e he
          obtain ⟨h1, h6, _, h2⟩ := hF i hi
          obtain ⟨u, hu, _⟩ := h2 j p hj
          have hj6 : j < 6 := by rw [← h6]; exact (List.getElem?_eq_some_iff.1 hu).1
          have h3 := (World.cells?_some h1).2.2 j hj6
          rw [Gv.add_add] at h3
          refine ⟨trivial, ?_⟩
          show W.cell? (a.add (i * 6 + j)) = some ((F i).2.getD j undef)
          rw [h3, List.getD, hu]
          rfl)
        (fun i e he j p hj => by
          obtain ⟨hi, rfl⟩ := hget i e he
          obtain ⟨h1, h6, _, h2⟩ := hF i hi
          obtain ⟨u, hu, hru⟩ := h2 j p hj
          show Rep W _ p ((F i).2.getD j undef)
          rw [List.getD, hu]
          exact hru)
      rw [hlen] at key
      exact key
end Go.Proofs.YtiapbgepinmleaaGreatDoor


