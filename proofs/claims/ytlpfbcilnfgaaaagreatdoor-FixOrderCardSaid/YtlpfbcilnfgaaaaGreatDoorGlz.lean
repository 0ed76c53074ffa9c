import Derived.Test.YtlpfbcilnfgaaaaGreatDoorGF
import Derived.Laws.IdiomRangeMap
import Derived.Maps.RangeRun
/- Contracts: fix.Byte: a range over a map of two entries, in whatever order. -/
namespace Gv
open Go Go.RowKit Gs
set_option linter.unusedVariables false
theorem list_exp {α : Type} {n : Nat} : ∀ {l : List α}, l.length = n + 1 → ∃ a l', l = a :: l' ∧ l'.length = n
  | a :: l', h => ⟨a, l', rfl, by simpa using h⟩
theorem list_nil {α : Type} : ∀ {l : List α}, l.length = 0 → l = []
  | [], _ => rfl
theorem map_ins {P : Program} {w : World} {t kt et : TypeId} {k k0 : IntKind} {n : Int} {b c : Nat} {es : List (Value × SV)} {ents : Array MapEntry} {v : Value} (hu : P.underlying t = some (.map kt et)) (hku : P.underlying kt = some (.int k0)) (h2 : w.heap[b]? = some (.map ents c)) (hc : c = es.length)
    (hf : mapFind k n es = some none) (h3 : ents.size = es.length) (h5 : ∀ (i : Nat) (x : Value × SV) (y : MapEntry), es[i]? = some x → ents.toList[i]? = some y → y.key = x.1) :
    (Instr.mapUpdate t (.map (some b)) (.int k n) v).run P w = .ok () { w with heap := w.heap.setIfInBounds b (.map (ents.push { key := .int k n, val := v, born := c }) (c + 1)) } := by
  subst hc
  have hfk := mapFind_none (i := 0) hf (by simpa using h3) h5 (k0 := k0)
  simp only [Instr.mapUpdate, Sem.run_bind, run_underlying hu w, Result.andThen_ok, getObj_map h2, checkKey_int hku, Instr.findKey, run_underlying hku w, hfk, Sem.run_pure, setObj_map h2]
/-- the two entries -/
def twoE : Array MapEntry := #[{ key := .int .i64 0, val := .int .u8 0, born := 0 }, { key := .int .i64 1, val := .int .u8 255, born := 1 }]
theorem rep_raw {w : World} {P : Nat → Prop} {a v : Value} (h : Rep w P (.raw a) v) : v = a := by cases h; rfl
theorem rep_tup2 {w : World} {P : Nat → Prop} {a b v : Value} (h : Rep w P (.tup [.raw a, .raw b]) v) : v = .tuple #[a, b] := by
  cases h with
  | tup _ vs hl hr =>
    have h0 := hr 0 _ rfl
    have h1 := hr 1 _ rfl
    obtain ⟨l⟩ := vs
    match l, hl with
    | [x, y], _ =>
      have e0 : x = a := by cases h0; rfl
      have e1 : y = b := by cases h1; rfl
      rw [e0, e1]
end Gv
namespace Go.Proofs.YtlpfbcilnfgaaaaGreatDoor
open Go.RowKit Gs Gv
set_option linter.unusedVariables false
theorem fn_call {f : FuncId} {args : List PV} {r : PV} (h : Gv.Fn Tryz.prog f args r) {w : World} {P0 : Nat → Prop} {vs : List Value} (hP : ∀ b, P0 b → b < w.heap.size) (hl : args.length = vs.length) (hr : ∀ (j : Nat) (p : PV) (v : Value), args[j]? = some p → vs[j]? = some v → Rep w P0 p v) :
    Calls Tryz.prog f vs.toArray w fun e w' => ∃ v, e = .returned v ∧ Rep w' (fun b => P0 b ∨ w.heap.size ≤ b) r v ∧ Below w.heap.size w w' := by
  refine (h.2 w P0 vs.toArray hP (by simpa using hl) fun j p hj => ?_).mono ?_
  · have hlt := (List.getElem?_eq_some_iff.1 hj).1
    have hv : vs[j]? = some (vs[j]'(by omega)) := List.getElem?_eq_getElem _
    have e : vs.toArray.getD j undef = vs[j]'(by omega) := by simp [Array.getD, show j < vs.length by omega]
    rw [e]
    exact hr j p _ hj hv
  · rintro e w' ⟨v, p, rfl, rfl, h1, h2⟩
    exact ⟨v, rfl, h1, h2⟩
theorem reps_c {W : World} {P0 : Nat → Prop} {p0 : PV} {v0 : Value} {ps : List PV} {vs : List Value} (h0 : Rep W P0 p0 v0) (h : ∀ (j : Nat) (p : PV) (v : Value), ps[j]? = some p → vs[j]? = some v → Rep W P0 p v) :
    ∀ (j : Nat) (p : PV) (v : Value), (p0 :: ps)[j]? = some p → (v0 :: vs)[j]? = some v → Rep W P0 p v
  | 0, p, v, h1, h2 => by cases h1; cases h2; exact h0
  | j + 1, p, v, h1, h2 => h j p v (by simpa using h1) (by simpa using h2)
theorem reps_n {W : World} {P0 : Nat → Prop} : ∀ (j : Nat) (p : PV) (v : Value), ([] : List PV)[j]? = some p → ([] : List Value)[j]? = some v → Rep W P0 p v := fun j p v h => by simp at h
theorem left_all {seen : Array Nat} (h : (leftOf twoE seen).size = 0) : 0 ∈ seen ∧ 1 ∈ seen := by
  have e : leftOf twoE seen = #[] := Array.eq_empty_of_size_eq_zero h
  unfold leftOf at e
  rw [Array.filter_eq_empty_iff] at e
  have h1 := e { key := .int .i64 0, val := .int .u8 0, born := 0 } (by simp [twoE])
  have h2 := e { key := .int .i64 1, val := .int .u8 255, born := 1 } (by simp [twoE])
  simp at h1 h2
  exact ⟨h1, h2⟩
/-- what stands at the loop's head -/
structure ByteW (w : World) (P0 : Nat → Prop) (s : Bool) (l m : List Nat) (a : Rat) (v1 : Value) (seen : Array Nat) (wr : World) : Prop where
  box : Rep wr (fun b => (P0 b ∧ b < w.heap.size) ∨ (w.heap.size ≤ b ∧ b ≠ w.heap.size + 1 ∧ b ≠ w.heap.size + 2)) (.ref [.raw (.bool s), u64s l, u64s m]) v1
  map : wr.heap[w.heap.size + 1]? = some (.map twoE 2)
  it : wr.heap[w.heap.size + 2]? = some (.mapIter (some (w.heap.size + 1)) 2 seen 2)
  bel : Below w.heap.size w wr
  t0 : 0 ∈ seen → ¬ a ≤ 0
  t1 : 1 ∈ seen → ¬ 1 ≤ a
set_option maxRecDepth 100000 in
set_option maxHeartbeats 4000000 in
theorem x_Byte {p : PV} {a : Rat} {k : Nat} (ha : IsQ p a k) (hk : k ≤ 40000) : Gv.Fn Tryz.prog 55 [p] (.raw (.int .u8 (byteQ a))) := by
  refine Fn.of ⟨_, Tryz.func55, rfl, by kernel_rfl⟩ fun w P0 vs hl hrep => ?_
  obtain ⟨v0, rfl⟩ := one_list hl
  have r1 := hrep 0 _ _ rfl rfl
  have ha0 := ha
  obtain ⟨s, l, m, rfl, _⟩ := ha0
  have r1' := r1
  cases r1
  rename_i xs lx fx qx
  have hmk : ∀ w : World, (Instr.makeMap 137 none).run Tryz.prog w = .ok (.map (some w.heap.size)) (w.alloc (.map #[] 0)) := fun _ => rfl
  obtain ⟨W1, hW1⟩ : ∃ W1, w.alloc (.cells xs 63) = W1 := ⟨_, rfl⟩
  have z1 : W1.heap.size = w.heap.size + 1 := by rw [← hW1]; simp
  have x1 : W1.heap[w.heap.size]? = some (.cells xs 63 (0, 0)) := by rw [← hW1]; exact heap_alloc_new w _
  obtain ⟨W2, hW2⟩ : ∃ W2, W1.alloc (.map #[] 0) = W2 := ⟨_, rfl⟩
  have z2 : W2.heap.size = w.heap.size + 2 := by rw [← hW2]; simp [z1]
  have m2 : W2.heap[w.heap.size + 1]? = some (.map #[] 0) := by rw [← hW2, ← z1]; exact heap_alloc_new W1 _
  obtain ⟨W3, hW3⟩ : ∃ W3, ({ W2 with heap := W2.heap.setIfInBounds (w.heap.size + 1) (.map #[{ key := .int .i64 0, val := .int .u8 0, born := 0 }] 1) } : World) = W3 := ⟨_, rfl⟩
  have i3 : (Instr.mapUpdate 137 (.map (some (w.heap.size + 1))) (.int .i64 0) (.int .u8 0)).run Tryz.prog W2 = .ok () W3 := by
    rw [← hW3]
    exact map_ins (es := []) Tryz.underlying137 Tryz.underlying2 m2 rfl rfl rfl (fun i x y h => by simp at h)
  have m3 : W3.heap[w.heap.size + 1]? = some (.map #[{ key := .int .i64 0, val := .int .u8 0, born := 0 }] 1) := by rw [← hW3]; simp [z2]
  have z3 : W3.heap.size = w.heap.size + 2 := by rw [← hW3]; simp [z2]
  obtain ⟨W4, hW4⟩ : ∃ W4, ({ W3 with heap := W3.heap.setIfInBounds (w.heap.size + 1) (.map twoE 2) } : World) = W4 := ⟨_, rfl⟩
  have i4 : (Instr.mapUpdate 137 (.map (some (w.heap.size + 1))) (.int .i64 1) (.int .u8 255)).run Tryz.prog W3 = .ok () W4 := by
    rw [← hW4]
    exact map_ins (es := [(.int .i64 0, .con (.bool true))]) Tryz.underlying137 Tryz.underlying2 m3 rfl rfl rfl (fun i x y h h' => by
      match i, h, h' with
      | 0, h, h' => cases h; cases h'; rfl)
  have m4 : W4.heap[w.heap.size + 1]? = some (.map twoE 2) := by rw [← hW4]; simp [z3]
  have z4 : W4.heap.size = w.heap.size + 2 := by rw [← hW4]; simp [z3]
  obtain ⟨W5, hW5⟩ : ∃ W5, W4.alloc (.mapIter (some (w.heap.size + 1)) 2 #[] 2) = W5 := ⟨_, rfl⟩
  have hrg := run_range_map (P := Tryz.prog) W4 137 _ _ (w.heap.size + 1) twoE 2 Tryz.underlying137 m4
  rw [z4, hW5] at hrg
  have x5 : W5.heap[w.heap.size]? = some (.cells xs 63 (0, 0)) := by
    rw [← hW5, Below.heap_alloc W4 _ _ (by omega), ← hW4]
    show (W3.heap.setIfInBounds _ _)[_]? = _
    rw [Array.getElem?_setIfInBounds_ne (by omega), ← hW3]
    show (W2.heap.setIfInBounds _ _)[_]? = _
    rw [Array.getElem?_setIfInBounds_ne (by omega), ← hW2, Below.heap_alloc W1 _ _ (by omega)]
    exact x1
  have m5 : W5.heap[w.heap.size + 1]? = some (.map twoE 2) := by rw [← hW5, Below.heap_alloc W4 _ _ (by omega)]; exact m4
  have t5 : W5.heap[w.heap.size + 2]? = some (.mapIter (some (w.heap.size + 1)) 2 #[] 2) := by rw [← hW5, ← z4]; exact heap_alloc_new W4 _
  have B5 : Below w.heap.size w W5 := by
    have b2 : Below w.heap.size w W2 := by rw [← hW2, ← hW1]; exact ((Below.refl _ w).alloc (Nat.le_refl _) _).alloc (by simp) _
    have b3 : Below w.heap.size w W3 := by
      rw [← hW3]
      exact ⟨b2.os, b2.tape, b2.output, by simpa using b2.size, fun c hc => by
        show (W2.heap.setIfInBounds _ _)[c]? = _
        rw [Array.getElem?_setIfInBounds_ne (by omega)]; exact b2.block c hc⟩
    have b4 : Below w.heap.size w W4 := by
      rw [← hW4]
      exact ⟨b3.os, b3.tape, b3.output, by simpa using b3.size, fun c hc => by
        show (W3.heap.setIfInBounds _ _)[c]? = _
        rw [Array.getElem?_setIfInBounds_ne (by omega)]; exact b3.block c hc⟩
    rw [← hW5]
    exact b4.alloc (by omega) _
  have S5 : ByteW w P0 s l m a (.pointer (some ⟨w.heap.size, 0, none⟩)) #[] W5 := by
    refine ⟨?_, m5, t5, B5, by simp, by simp⟩
    refine .ref _ _ (fun j => xs.getD j undef) fx (fun j p hj => ⟨.inr ⟨Nat.le_refl _, by show w.heap.size ≠ _; omega, by show w.heap.size ≠ _; omega⟩, ?_⟩) (fun j p hj => (qx j p hj).keep fun c hc hlt => ⟨.inl ⟨hc, hlt⟩, B5.block c hlt⟩)
    have hlt := (List.getElem?_eq_some_iff.1 hj).1
    rw [add_mid]
    simp only [World.cell?, x5]
    have : j < xs.size := by rw [← lx]; exact hlt
    simp [Array.getD, this]
  go_enter Tryz.func55, Tryz.ntmps55
  go_wp2
  go_loopw [3, 4, 5] (fun _ _ _ wr => ∃ seen, ByteW w P0 s l m a (.pointer (some ⟨w.heap.size, 0, none⟩)) seen wr) (fun _ _ _ wr => (leftOf twoE (wr.iterSeen (w.heap.size + 2))).size)
  case atStart => exact ⟨#[], S5⟩
  case round =>
    obtain ⟨seen, hS⟩ := hrel
    rcases run_next_at (P := Tryz.prog) _ 0 _ _ 2 2 seen twoE 2 hS.it hS.map (by decide) (Nat.le_refl _) with ⟨h0, hrun⟩ | ⟨e, he, w1, hal, hrun⟩
    · have hnx : ∀ ty, (Instr.next (.pointer (some ⟨w.heap.size + 2, 0, none⟩)) false ty).run Tryz.prog _ = _ := fun _ => hrun
      have hbox := hS.box
      cases hbox with
      | ref cs ad vs hf hc hr =>
        have c0 := (hc 0 _ rfl).2
        have c1 := (hc 1 _ rfl).2
        have c2 := (hc 2 _ rfl).2
        rw [add_mid] at c0 c1 c2
        have q0 := hr 0 _ rfl
        have q1 := hr 1 _ rfl
        have q2 := hr 2 _ rfl
        have hag : Rep wr (fun b => (P0 b ∧ b < w.heap.size) ∨ (w.heap.size ≤ b ∧ b ≠ w.heap.size + 1 ∧ b ≠ w.heap.size + 2)) (.agg [.raw (.bool s), u64s l, u64s m]) (.agg #[vs 0, vs 1, vs 2]) := by
          refine .agg _ _ rfl (fun j p hj => hf j p hj) (fun j p hj => ?_)
          match j, hj with
          | 0, hj => cases hj; exact q0
          | 1, hj => cases hj; exact q1
          | 2, hj => cases hj; exact q2
        obtain ⟨n0, n1⟩ := left_all h0
        have na := hS.t0 n0
        have nb := hS.t1 n1
        obtain ⟨t1, t2⟩ := to_range (a := a) (by grind) (by grind)
        have eB : byteQ a = toQ a 255 := by unfold byteQ; rw [if_neg na, if_neg nb]
        have hto := x_To (u := 255) ha (by omega) (by decide)
        have hzs := b_to (u := 255) ha.b (by decide) (by decide)
        have HB := Lib.hid hS.bel
        generalize toQ a 255 = n at hto hzs t1 t2 eB
        obtain ⟨hin, hsm⟩ := inS_of (z := n) (by omega) (by omega)
        have hw8 : IntKind.u8.wrap n = n := by rw [IntKind.wrap_u8]; omega
        have hsmall := z_Small (IsZ.zc hzs) (by omega)
        rw [hin, hsm] at hsmall
        have hagl := hag.lt
        have HE := Lib.hid eB
        clear eB hin hsm
        go_wp2_with (first
          | (go_at_call 53; refine (fn_call hto (vs := [.agg #[vs 0, vs 1, vs 2], .int .i64 255]) (fun b hb => hb.2) rfl (reps_c hagl (reps_c (.raw _) reps_n))).mono ?_; rintro e w7 ⟨v7, rfl, r7, b7⟩)
          | (go_at_call 41; refine (fn_call hsmall (vs := [v7]) (fun b hb => hb.2) rfl (reps_c r7.lt reps_n)).mono ?_; rintro e w8 ⟨v8, rfl, r8, b8⟩; obtain rfl := rep_tup2 r8))
        go_ret
        exact ⟨_, rfl, by rw [HE.out]; exact .raw _, (HB.out.trans (b7.mono HB.out.size)).trans (b8.mono (Nat.le_trans HB.out.size b7.size))⟩
    · obtain ⟨hmem, hns⟩ := mem_left he
      have hbox := hS.box
      cases hbox with
      | ref cs ad vs hf hc hr =>
        have hnx : ∀ ty, (Instr.next (.pointer (some ⟨w.heap.size + 2, 0, none⟩)) false ty).run Tryz.prog _ = _ := fun _ => hrun
        obtain ⟨w6, hw6⟩ : ∃ w6, ChangeMaps.setBlock w1 (w.heap.size + 2) (.mapIter (some (w.heap.size + 1)) 2 (seen.push e.born) 2) = w6 := ⟨_, rfl⟩
        rw [hw6] at hnx hrun
        have hsz1 : w1.heap = wr.heap := by rcases hal with rfl | rfl <;> rfl
        have hlt6 : w.heap.size + 2 < wr.heap.size := (Array.getElem?_eq_some_iff.1 hS.it).1
        have hoth : ∀ c, c ≠ w.heap.size + 2 → w6.heap[c]? = wr.heap[c]? := by
          intro c hc
          rw [← hw6, ← hsz1]
          show (w1.heap.setIfInBounds _ _)[c]? = _
          rw [Array.getElem?_setIfInBounds_ne (Ne.symm hc)]
        have hit6 : w6.heap[w.heap.size + 2]? = some (.mapIter (some (w.heap.size + 1)) 2 (seen.push e.born) 2) := by
          rw [← hw6]
          show (w1.heap.setIfInBounds _ _)[_]? = _
          rw [Array.getElem?_setIfInBounds_self_of_lt (by rw [hsz1]; exact hlt6)]
        have hmap6 : w6.heap[w.heap.size + 1]? = some (.map twoE 2) := by rw [hoth _ (by omega)]; exact hS.map
        have hz6 : w6.heap.size = wr.heap.size := by rw [← hw6, ← hsz1]; show (w1.heap.setIfInBounds _ _).size = _; simp
        have hb6 : Below w.heap.size w w6 := by
          refine ⟨?_, ?_, ?_, by rw [hz6]; exact hS.bel.size, fun c hc => by rw [hoth c (by omega)]; exact hS.bel.block c hc⟩
          · rw [← hw6]; rcases hal with rfl | rfl <;> exact hS.bel.os
          · rw [← hw6]; rcases hal with rfl | rfl <;> exact hS.bel.tape
          · rw [← hw6]; rcases hal with rfl | rfl <;> exact hS.bel.output
        have hk6 : ∀ {p : PV} {v : Value}, Rep wr (fun b => (P0 b ∧ b < w.heap.size) ∨ (w.heap.size ≤ b ∧ b ≠ w.heap.size + 1 ∧ b ≠ w.heap.size + 2)) p v → Rep w6 (fun b => (P0 b ∧ b < w.heap.size) ∨ (w.heap.size ≤ b ∧ b ≠ w.heap.size + 1 ∧ b ≠ w.heap.size + 2)) p v :=
          fun h => h.keep fun b hb _ => ⟨hb, hoth b (by omega)⟩
        have c0 := (hc 0 _ rfl).2
        have c1 := (hc 1 _ rfl).2
        have c2 := (hc 2 _ rfl).2
        rw [add_mid] at c0 c1 c2
        have d0 : w6.cell? ⟨w.heap.size, 0 + 0, none⟩ = some (vs 0) := cell_keep c0 (hoth _ (by show w.heap.size ≠ _; omega))
        have d1 : w6.cell? ⟨w.heap.size, 0 + 1, none⟩ = some (vs 1) := cell_keep c1 (hoth _ (by show w.heap.size ≠ _; omega))
        have d2 : w6.cell? ⟨w.heap.size, 0 + 2, none⟩ = some (vs 2) := cell_keep c2 (hoth _ (by show w.heap.size ≠ _; omega))
        have q0 := hk6 (hr 0 _ rfl)
        have q1 := hk6 (hr 1 _ rfl)
        have q2 := hk6 (hr 2 _ rfl)
        have hag : Rep w6 (fun b => (P0 b ∧ b < w.heap.size) ∨ (w.heap.size ≤ b ∧ b ≠ w.heap.size + 1 ∧ b ≠ w.heap.size + 2)) (.agg [.raw (.bool s), u64s l, u64s m]) (.agg #[vs 0, vs 1, vs 2]) := by
          refine .agg _ _ rfl (fun j p hj => hf j p hj) (fun j p hj => ?_)
          match j, hj with
          | 0, hj => cases hj; exact q0
          | 1, hj => cases hj; exact q1
          | 2, hj => cases hj; exact q2
        have hen := run_entry_at (P := Tryz.prog) w6 (w.heap.size + 2) (w.heap.size + 1) 2 seen twoE 2 e hit6 hmap6 hmem (by decide)
        clear hal hrun hw6
        simp only [twoE, List.mem_cons, List.mem_nil_iff, or_false] at hmem
        have of0 := q_Of (a := 0) (b := 1) (by decide) (by decide) (by decide) (by decide)
        have of1 := q_Of (a := 1) (b := 1) (by decide) (by decide) (by decide) (by decide)
        rw [qd_zero] at of0
        rw [qd_one'] at of1
        have hbox6 := hk6 hS.box
        have hl1 : w.heap.size + 1 < w6.heap.size := by omega
        have hl2 : w.heap.size + 2 < w6.heap.size := by omega
        have bn0 : Qb (0 : Rat) 1 := b0
        have bn1 : Qb ((1 : Int) : Rat) 1 := b_i64 (by decide) (by decide)
        have hg6 : w.heap.size < w6.heap.size := by omega
        rcases hmem with rfl | rfl
        · have hcm := q_Cmp ha (IsQ.qc bn0) (by omega)
          obtain ⟨c, hc0⟩ : ∃ c, qcmp a (0 : Rat) = c := ⟨_, rfl⟩
          rw [hc0] at hcm
          have HC := Lib.hid hc0
          clear hc0
          go_wp2
          go_region_with (first
            | (go_at_call 62; refine (fn_call of0 (vs := [.int .i64 0, .int .i64 1]) (P0 := fun _ => False) (fun b hb => hb.elim) rfl (reps_c (.raw _) (reps_c (.raw _) reps_n))).mono ?_; rintro e w7 ⟨v7, rfl, r7, b7⟩; have y0 : w7.cell? ⟨w.heap.size, 0 + 0, none⟩ = some (vs 0) := cell_keep d0 (b7.block w.heap.size hg6); have y1 : w7.cell? ⟨w.heap.size, 0 + 1, none⟩ = some (vs 1) := cell_keep d1 (b7.block w.heap.size hg6); have y2 : w7.cell? ⟨w.heap.size, 0 + 2, none⟩ = some (vs 2) := cell_keep d2 (b7.block w.heap.size hg6); have hag7 := Rep.lt (hag.keep (w' := w7) fun b hb hl => ⟨trivial, b7.block b hl⟩ : Rep w7 (fun _ => True) _ _); have r7' := Rep.lt (r7.mono fun _ _ => trivial : Rep w7 (fun _ => True) _ _))
            | (go_at_call 57; refine (fn_call hcm (vs := [.agg #[vs 0, vs 1, vs 2], v7]) (fun b hb => hb.2) rfl (reps_c hag7 (reps_c r7' reps_n))).mono ?_; rintro e w8 ⟨v8, rfl, r8, b8⟩; obtain rfl := rep_raw r8))
          all_goals
            have hbT : Below w.heap.size w w8 := (hb6.drew.trans (b7.mono hb6.size)).trans (b8.mono (Nat.le_trans hb6.size b7.size))
            have HT := Lib.hid hbT
            clear hbT
            rcases Int.lt_trichotomy c 0 with hc3 | hc3 | hc3
            · have k1 : ¬ c = 0 := by omega
              have k2 : ¬ 0 < c := by omega
              have eB : byteQ a = 0 := if_pos (by have := (@qcmp_le a 0).1 (by rw [HC.out]; omega); grind)
              have HE := Lib.hid eB
              clear eB
              go_wp2
              have eB := HE.out
              go_ret
              exact ⟨_, rfl, by rw [eB]; exact .raw _, HT.out⟩
            · have eB : byteQ a = 0 := if_pos (by have := (@qcmp_le a 0).1 (by rw [HC.out]; omega); grind)
              have HE := Lib.hid eB
              clear eB
              subst hc3
              go_wp2
              have eB := HE.out
              go_ret
              exact ⟨_, rfl, by rw [eB]; exact .raw _, HT.out⟩
            · have k1 : ¬ c = 0 := by omega
              have h9 : 0 < a := (@qcmp_gt a 0).1 (by rw [HC.out]; omega)
              go_wp2
              refine ⟨⟨seen.push 0, hbox6.keep fun b hb hl => ⟨hb, (b8.block b (Nat.lt_of_lt_of_le hl b7.size)).trans (b7.block b hl)⟩, ?_, ?_, HT.out, fun _ => by grind, fun h => hS.t1 (by simpa using h)⟩, ?_⟩
              · exact ((b8.block _ (Nat.lt_of_lt_of_le hl1 b7.size)).trans (b7.block _ hl1)).trans hmap6
              · exact ((b8.block _ (Nat.lt_of_lt_of_le hl2 b7.size)).trans (b7.block _ hl2)).trans hit6
              · have e8 : w8.heap[w.heap.size + 2]? = some (.mapIter (some (w.heap.size + 1)) 2 (seen.push 0) 2) := ((b8.block _ (Nat.lt_of_lt_of_le hl2 b7.size)).trans (b7.block _ hl2)).trans hit6
                unfold World.iterSeen
                rw [e8, hS.it]
                exact left_shrinks twoE seen _ he
        · have hcm := q_Cmp ha (IsQ.qc bn1) (by omega)
          obtain ⟨c, hc0⟩ : ∃ c, qcmp a ((1 : Int) : Rat) = c := ⟨_, rfl⟩
          rw [hc0] at hcm
          have HC := Lib.hid hc0
          clear hc0
          go_wp2
          go_region_with (first
            | (go_at_call 62; refine (fn_call of1 (vs := [.int .i64 1, .int .i64 1]) (P0 := fun _ => False) (fun b hb => hb.elim) rfl (reps_c (.raw _) (reps_c (.raw _) reps_n))).mono ?_; rintro e w7 ⟨v7, rfl, r7, b7⟩; have y0 : w7.cell? ⟨w.heap.size, 0 + 0, none⟩ = some (vs 0) := cell_keep d0 (b7.block w.heap.size hg6); have y1 : w7.cell? ⟨w.heap.size, 0 + 1, none⟩ = some (vs 1) := cell_keep d1 (b7.block w.heap.size hg6); have y2 : w7.cell? ⟨w.heap.size, 0 + 2, none⟩ = some (vs 2) := cell_keep d2 (b7.block w.heap.size hg6); have hag7 := Rep.lt (hag.keep (w' := w7) fun b hb hl => ⟨trivial, b7.block b hl⟩ : Rep w7 (fun _ => True) _ _); have r7' := Rep.lt (r7.mono fun _ _ => trivial : Rep w7 (fun _ => True) _ _))
            | (go_at_call 57; refine (fn_call hcm (vs := [.agg #[vs 0, vs 1, vs 2], v7]) (fun b hb => hb.2) rfl (reps_c hag7 (reps_c r7' reps_n))).mono ?_; rintro e w8 ⟨v8, rfl, r8, b8⟩; obtain rfl := rep_raw r8))
          all_goals
            have hbT : Below w.heap.size w w8 := (hb6.drew.trans (b7.mono hb6.size)).trans (b8.mono (Nat.le_trans hb6.size b7.size))
            have HT := Lib.hid hbT
            clear hbT
            rcases Int.lt_trichotomy c 0 with hc3 | hc3 | hc3
            · have k1 : ¬ c = 0 := by omega
              have k2 : ¬ 0 < c := by omega
              have e1 : ((1 : Int) : Rat) = 1 := rfl
              have h9 : a < 1 := by have := (@qcmp_lt a ((1 : Int) : Rat)).1 (by rw [HC.out]; omega); rw [e1] at this; exact this
              go_wp2
              refine ⟨⟨seen.push 1, hbox6.keep fun b hb hl => ⟨hb, (b8.block b (Nat.lt_of_lt_of_le hl b7.size)).trans (b7.block b hl)⟩, ?_, ?_, HT.out, fun h => hS.t0 (by simpa using h), fun _ => by grind⟩, ?_⟩
              · exact ((b8.block _ (Nat.lt_of_lt_of_le hl1 b7.size)).trans (b7.block _ hl1)).trans hmap6
              · exact ((b8.block _ (Nat.lt_of_lt_of_le hl2 b7.size)).trans (b7.block _ hl2)).trans hit6
              · have e8 : w8.heap[w.heap.size + 2]? = some (.mapIter (some (w.heap.size + 1)) 2 (seen.push 1) 2) := ((b8.block _ (Nat.lt_of_lt_of_le hl2 b7.size)).trans (b7.block _ hl2)).trans hit6
                unfold World.iterSeen
                rw [e8, hS.it]
                exact left_shrinks twoE seen _ he
            · have e1 : ((1 : Int) : Rat) = 1 := rfl
              have h9 : 1 ≤ a := by
                refine Decidable.byContradiction fun h => ?_
                have := (@qcmp_lt a ((1 : Int) : Rat)).2 (by rw [e1]; grind)
                rw [HC.out] at this
                omega
              have eB : byteQ a = 255 := by unfold byteQ; rw [if_neg (by grind), if_pos h9]
              have HE := Lib.hid eB
              clear eB e1 h9
              subst hc3
              go_wp2
              have eB := HE.out
              go_ret
              exact ⟨_, rfl, by rw [eB]; exact .raw _, HT.out⟩
            · have k1 : ¬ c = 0 := by omega
              have e1 : ((1 : Int) : Rat) = 1 := rfl
              have h9 : 1 ≤ a := by
                refine Decidable.byContradiction fun h => ?_
                have := (@qcmp_lt a ((1 : Int) : Rat)).2 (by rw [e1]; grind)
                rw [HC.out] at this
                omega
              have eB : byteQ a = 255 := by unfold byteQ; rw [if_neg (by grind), if_pos h9]
              have HE := Lib.hid eB
              clear eB e1 h9
              go_wp2
              have eB := HE.out
              go_ret
              exact ⟨_, rfl, by rw [eB]; exact .raw _, HT.out⟩
end Go.Proofs.YtlpfbcilnfgaaaaGreatDoor


