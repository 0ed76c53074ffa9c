import Derived.Test.YtlpfbcilnfgaaaaGreatDoorUA
import Derived.Test.YtlpfbcilnfgaaaaGreatDoorEB
import Derived.Test.YtlpfbcilnfgaaaaGreatDoorOb
import Derived.Test.YtlpfbcilnfgaaaaGreatDoorNs
import Derived.Test.YtlpfbcilnfgaaaaGreatDoorVA
/- What both readings of a text of digits tell; the reference's text of a number. -/
namespace Go.Proofs.YtlpfbcilnfgaaaaGreatDoor
open Go.RowKit Gs
set_option linter.unusedVariables false

theorem pow_ten_k {L K : Nat} (hL : L = 20 * K) : (18446744073709551616 : Nat) ^ K ≤ 10 ^ L := by
  rw [hL, Nat.pow_mul]
  exact Nat.pow_le_pow_left (by decide) K
/-- what both readings of a text tell -/
theorem both_Parse {s : ByteArray} (hs : s.size ≤ 800) : ∃ (z : Int) (V M : Nat), M ≤ 1000 ∧ (z = 0 ∨ (z = 11 ∧ V = 0)) ∧
    (∀ w : World, Calls Tryz.prog 113 #[.string s] w fun e w' => ∃ r, e = .returned (.tuple #[r, .int .i64 z]) ∧ CanN w' r V M ∧ Below w.heap.size w w') ∧
    (∀ w : World, Calls Tryz.prog 114 #[.string s] w fun e w' => ∃ r, e = .returned (.tuple #[r, .int .i64 z]) ∧ CanR w' r V M ∧ Below w.heap.size w w') := by
  have cn : ∀ w : World, CanN w (.slice none 0 0) 0 0 := fun w => ⟨none, 0, 0, rfl, ⟨RdN.nil _ _ _ 0 (by omega) _, Lt.nil _⟩, Nat.le_refl _⟩
  by_cases h0 : s.size = 0
  · refine ⟨11, 0, 0, by omega, .inr ⟨rfl, rfl⟩, fun w => (nat_Parse_empty h0).mono ?_, fun w => (ref_Parse_empty h0).mono ?_⟩
    · rintro e w' ⟨rfl, rfl⟩
      exact ⟨_, rfl, cn _, Below.refl _ _⟩
    · rintro e w' ⟨rfl, rfl⟩
      exact ⟨_, rfl, CanR.nil _ _, Below.refl _ _⟩
  · by_cases hz : gd (byt s) 0 = 48 ∧ 1 < s.size
    · refine ⟨11, 0, 0, by omega, .inr ⟨rfl, rfl⟩, fun w => (nat_Parse_zero hz.2 (by omega) hz.1).mono ?_, fun w => (ref_Parse_zero hz.2 (by omega) hz.1).mono ?_⟩
      · rintro e w' ⟨rfl, rfl⟩
        exact ⟨_, rfl, cn _, Below.refl _ _⟩
      · rintro e w' ⟨rfl, rfl⟩
        exact ⟨_, rfl, CanR.nil _ _, Below.refl _ _⟩
    · have hz2 : gd (byt s) 0 = 48 → s.size = 1 := fun h => by
        rcases Nat.lt_or_ge 1 s.size with h1 | h1
        · exact absurd ⟨h, h1⟩ hz
        · omega
      refine ⟨parseE (byt s), if allDig (byt s) = true then dec (byt s) else 0, s.size, by omega, ?_, fun w => (nat_Parse_ok (by omega) (by omega) hz2).mono ?_, fun w => ref_Parse_ok (by omega) (Nat.le_refl _) (by omega) hz2⟩
      · cases hd : allDig (byt s) with
        | true => exact .inl (parse_good hd).2
        | false => exact .inr ⟨(parse_bad hd).2, if_neg (by decide)⟩
      rintro e w' ⟨A1, n1, c1, rfl, h1, hb⟩
      refine ⟨_, rfl, ?_, hb⟩
      cases hd : allDig (byt s) with
      | true =>
        rw [(parse_good hd).1] at h1
        rw [if_pos rfl]
        refine CanN.of h1 (Nat.lt_of_lt_of_le (dec_lt hd) ?_)
        rw [byt_length]
        exact Nat.pow_le_pow_left (by omega) _
      | false =>
        rw [(parse_bad hd).1] at h1
        rw [if_neg (by decide)]
        exact CanN.of (x := 0) h1 (Nat.pow_pos (by omega))
theorem call_RText {w : World} {a : Value} {x K L : Nat} (h : CanR w a x K) (hK : K ≤ 1000) (hL : x < 10 ^ L) (hL2 : L ≤ 100000) :
    Calls Tryz.prog 117 #[a] w fun e w' => ∃ s, e = .returned (.string s) ∧ IsText s x ∧ Below w.heap.size w w' := by
  by_cases h0 : x = 0
  · subst h0
    refine (ref_Text_zero h).mono ?_
    rintro e w' ⟨rfl, rfl⟩
    exact ⟨_, rfl, ⟨by decide, by decide, by decide, by decide⟩, Below.refl _ _⟩
  · exact ref_Text h hK h0 hL hL2
end Go.Proofs.YtlpfbcilnfgaaaaGreatDoor


/- Numbers in the engine's words: what a value of limbs says; the contracts of package nat and of the reference's numbers, as the engine takes them. -/
namespace Gv
open Go Go.RowKit Gs
set_option linter.unusedVariables false

/-- a row of whole numbers -/
def rowP (k : IntKind) (l : List Nat) : PV := .sl (l.map fun (n : Nat) => [PV.raw (.int k (n : Int))])
abbrev u64s (l : List Nat) : PV := rowP .u64 l
abbrev u32s (l : List Nat) : PV := rowP .u32 l
/-- a number, good -/
def nat (x : Nat) : PV := u64s (limbs 18446744073709551616 x)
/-- the reference's -/
def r32 (x : Nat) : PV := u32s (limbs 4294967296 x)

theorem rep_row {w : World} {P : Nat → Prop} {k : IntKind} {l : List Nat} {v : Value} (h : Rep w P (rowP k l) v) : ∃ A n c, v = .slice A n c ∧ RdN k w P ⟨A, n, c⟩ l := by
  unfold rowP at h
  generalize hes : (l.map fun (n : Nat) => [PV.raw (.int k (n : Int))]) = es at h
  cases h with
  | nil A c hc =>
    obtain rfl : l = [] := List.map_eq_nil_iff.1 hes
    exact ⟨A, 0, c, rfl, RdN.nil _ _ _ c hc _⟩
  | sl k' _ ad c vs hk h1 h2 hf hc hr =>
    subst hes
    have hlen : (l.map fun (n : Nat) => [PV.raw (.int k (n : Int))]).length = l.length := by simp
    rw [hlen] at h1 ⊢
    refine ⟨some ad, l.length, c, rfl, rfl, h1, h2, fun hn => ⟨ad, rfl, ?_, fun j hj => ?_⟩⟩
    · have h3 := hc 0 [.raw (.int k (l[0] : Int))] (by rw [List.getElem?_map, List.getElem?_eq_getElem (show 0 < l.length from hn)]; rfl) 0 _ rfl
      exact h3.1
    · have hj' : j < l.length := hj
      have hget : (l.map fun (n : Nat) => [PV.raw (.int k (n : Int))])[j]? = some [.raw (.int k (l[j] : Int))] := by rw [List.getElem?_map, List.getElem?_eq_getElem hj']; rfl
      have h3 := (hc j _ hget 0 _ rfl).2
      have h4 := hr j _ hget 0 _ rfl
      have h5 := hk j _ hget
      simp only [List.length_cons, List.length_nil] at h5
      subst h5
      generalize hu : vs j 0 = u at h3 h4
      cases h4
      rw [gd_lt hj']
      simpa using h3
theorem row_rep {w : World} {P : Nat → Prop} {k : IntKind} {l : List Nat} {A : Option Addr} {n c : Nat} (h : RdN k w P ⟨A, n, c⟩ l) : Rep w P (rowP k l) (.slice A n c) := by
  have hlen := h.len
  have hcap := h.cap
  have htop := h.top
  simp only at hlen hcap htop
  subst hlen
  rcases Nat.eq_zero_or_pos l.length with h0 | h0
  · obtain rfl := List.length_eq_zero_iff.1 h0
    exact .nil A c htop
  · obtain ⟨ad, e, hP, hc⟩ := h.cells h0
    simp only at e
    subst e
    unfold rowP
    have hl2 : (l.map fun (n : Nat) => [PV.raw (.int k (n : Int))]).length = l.length := by simp
    have key : ∀ (i : Nat) (e : List PV), (l.map fun (n : Nat) => [PV.raw (.int k (n : Int))])[i]? = some e → ∀ (j : Nat) (p : PV), e[j]? = some p → i < l.length ∧ j = 0 ∧ e = [.raw (.int k (gd l i : Int))] ∧ p = .raw (.int k (gd l i : Int)) := by
      intro i e hi j p hj
      rw [List.getElem?_map, Option.map_eq_some_iff] at hi
      obtain ⟨n, hn, rfl⟩ := hi
      have hlt := (List.getElem?_eq_some_iff.1 hn).1
      have hgd : n = gd l i := by rw [gd_lt hlt]; exact (List.getElem?_eq_some_iff.1 hn).2.symm
      subst hgd
      cases j with
      | zero => simp at hj; exact ⟨hlt, rfl, rfl, hj.symm⟩
      | succ j => simp at hj
    have := Rep.sl (w := w) (P := P) 1 (l.map fun (n : Nat) => [PV.raw (.int k (n : Int))]) ad c (fun i _ => .int k (gd l i : Int)) (fun i e hi => ?_) (by rw [hl2]; exact hcap) htop (fun i e hi j p hj => ?_) (fun i e hi j p hj => ?_) (fun i e hi j p hj => ?_)
    · rwa [hl2] at this
    · rw [List.getElem?_map, Option.map_eq_some_iff] at hi
      obtain ⟨n, _, rfl⟩ := hi
      rfl
    · obtain ⟨_, _, _, rfl⟩ := key i e hi j p hj; rfl
    · obtain ⟨h1, rfl, _, _⟩ := key i e hi j p hj
      exact ⟨hP, by simpa using hc i h1⟩
    · obtain ⟨_, _, _, rfl⟩ := key i e hi j p hj; exact .raw _

/-- a row of limbs that make a number; at most k of them -/
def IsN (p : PV) (x k : Nat) : Prop := ∃ l, p = u64s l ∧ Lt 18446744073709551616 l ∧ val 18446744073709551616 l = x ∧ l.length ≤ k
/-- how many limbs a number has -/
def sz (x : Nat) : Nat := (limbs 18446744073709551616 x).length
theorem sz_le {x k : Nat} (h : x < 18446744073709551616 ^ k) : sz x ≤ k := limbs_len_le B64 h
theorem lt_sz (x : Nat) : x < 18446744073709551616 ^ sz x := by
  have := val_lt (limbs_lt B64 x)
  rwa [val_limbs B64] at this
theorem sz_zero : sz 0 = 0 := rfl
theorem sz_mono {x y : Nat} (h : x ≤ y) : sz x ≤ sz y := sz_le (Nat.lt_of_le_of_lt h (lt_sz y))
theorem sz_add {x y a b : Nat} (h : sz x ≤ a) (h' : sz y ≤ b) : sz (x + y) ≤ a + b + 1 := by
  refine sz_le (Nat.lt_of_lt_of_le (pow_add_lt (lt_sz x) (lt_sz y)) (Nat.pow_le_pow_right (by omega) (by omega)))
theorem sz_mul {x y a b : Nat} (h : sz x ≤ a) (h' : sz y ≤ b) : sz (x * y) ≤ a + b :=
  sz_le (Nat.lt_of_lt_of_le (pow_mul_lt (lt_sz x) (lt_sz y)) (Nat.pow_le_pow_right (by omega) (by omega)))
theorem sz_small {x : Nat} (h : x < 18446744073709551616) : sz x ≤ 1 := sz_le (by simpa using h)
theorem IsN.nat {x k : Nat} (h : sz x ≤ k) : IsN (nat x) x k := ⟨_, rfl, limbs_lt B64 x, val_limbs B64 x, h⟩
theorem IsN.mk {l : List Nat} {k : Nat} (h : Lt 18446744073709551616 l) (hk : l.length ≤ k) : IsN (u64s l) (val 18446744073709551616 l) k := ⟨l, rfl, h, rfl, hk⟩
theorem IsN.nil : IsN (.sl []) 0 0 := ⟨[], rfl, Lt.nil _, rfl, Nat.le_refl _⟩
theorem IsN.sz {p : PV} {x k : Nat} (h : IsN p x k) : sz x ≤ k := by
  obtain ⟨l, _, h1, rfl, h2⟩ := h
  exact sz_le (Nat.lt_of_lt_of_le (val_lt h1) (Nat.pow_le_pow_right (by omega) h2))
theorem IsN.more {p : PV} {x k k' : Nat} (h : IsN p x k) (hk : k ≤ k') : IsN p x k' := by
  obtain ⟨l, h0, h1, h2, h3⟩ := h
  exact ⟨l, h0, h1, h2, Nat.le_trans h3 hk⟩
theorem IsN.val {p : PV} {x k : Nat} (h : IsN p x k) {w : World} {P : Nat → Prop} {v : Value} (hr : Rep w P p v) : ∃ A n c l, v = .slice A n c ∧ RdU w P ⟨A, n, c⟩ l ∧ Gs.val 18446744073709551616 l = x ∧ n ≤ k := by
  obtain ⟨l, rfl, h1, h2, h3⟩ := h
  obtain ⟨A, n, c, rfl, hr'⟩ := rep_row hr
  refine ⟨A, n, c, l, rfl, ⟨hr', h1⟩, h2, ?_⟩
  have := hr'.len
  simp only at this
  omega
theorem r32_val {x : Nat} {w : World} {P : Nat → Prop} {v : Value} (hr : Rep w P (r32 x) v) : ∃ A n c, v = .slice A n c ∧ R32 w P ⟨A, n, c⟩ (limbs 4294967296 x) := by
  obtain ⟨A, n, c, rfl, hr'⟩ := rep_row hr
  exact ⟨A, n, c, rfl, hr', limbs_lt B32 x⟩

/-- a contract, from calls -/
theorem Fn.of {P : Program} {f : FuncId} {args : List PV} {r : PV} (he : ∃ fn, P.funcs[f]? = some fn ∧ fn.body.isSome = true ∧ (fn.name == "runtime.NumGoroutine") = false)
    (h : ∀ (w : World) (P0 : Nat → Prop) (vs : List Value), vs.length = args.length → (∀ (j : Nat) (p : PV) (v : Value), args[j]? = some p → vs[j]? = some v → Rep w P0 p v) →
      Calls P f vs.toArray w fun e w' => ∃ v, e = .returned v ∧ Rep w' (fun b => P0 b ∨ w.heap.size ≤ b) r v ∧ Below w.heap.size w w') : Fn P f args r := by
  refine ⟨he, fun w P0 vs hP hl hr => ?_⟩
  have := h w P0 vs.toList (by simpa using hl.symm) fun j p v hp hv => by
    have := hr j p hp
    have hlt := (List.getElem?_eq_some_iff.1 hv).1
    simp only [Array.length_toList] at hlt
    have e : vs.getD j undef = v := by
      simp [Array.getElem?_toList] at hv
      rw [Array.getElem?_eq_getElem hlt] at hv
      simp [Array.getD, hlt]
      exact Option.some.inj hv
    rwa [e] at this
  rw [Array.toArray_toList] at this
  refine this.mono ?_
  rintro e w' ⟨v, rfl, h1, h2⟩
  exact ⟨v, r, rfl, rfl, h1, h2⟩
theorem two_list {vs : List Value} (h : vs.length = 2) : ∃ a b, vs = [a, b] := by
  match vs, h with
  | [a, b], _ => exact ⟨a, b, rfl⟩
theorem one_list {vs : List Value} (h : vs.length = 1) : ∃ a, vs = [a] := by
  match vs, h with
  | [a], _ => exact ⟨a, rfl⟩
end Gv
namespace Go.Proofs.YtlpfbcilnfgaaaaGreatDoor
open Go.RowKit Gs Gv
set_option linter.unusedVariables false
theorem mixed : Tryz.prog.follows .mixedOrders = true := by kernel_rfl
section
variable {p q : PV} {x y k k' : Nat}
theorem n_Add (h : IsN p x k) (h' : IsN q y k') (hk : k ≤ 1000000) (hk' : k' ≤ 1000000) : Gv.Fn Tryz.prog 100 [p, q] (nat (x + y)) := by
  refine Fn.of ⟨_, Tryz.func100, rfl, by kernel_rfl⟩ fun w P0 vs hl hr => ?_
  obtain ⟨a, b, rfl⟩ := two_list hl
  obtain ⟨A, n, c, l, rfl, h1, h2, h3⟩ := h.val (hr 0 _ _ rfl rfl)
  obtain ⟨A', n', c', l', rfl, h1', h2', h3'⟩ := h'.val (hr 1 _ _ rfl rfl)
  refine (nat_Add h1 h1' (by omega) (by omega)).mono ?_
  rintro e w' ⟨A1, n1, c1, rfl, h4, hb⟩
  rw [h2, h2'] at h4
  exact ⟨_, rfl, row_rep (h4.rd.mono fun b hb => .inr hb), hb⟩
theorem n_Mul (h : IsN p x k) (h' : IsN q y k') (hk : k ≤ 1000000) (hk' : k' ≤ 1000000) : Gv.Fn Tryz.prog 106 [p, q] (nat (x * y)) := by
  refine Fn.of ⟨_, Tryz.func106, rfl, by kernel_rfl⟩ fun w P0 vs hl hr => ?_
  obtain ⟨a, b, rfl⟩ := two_list hl
  obtain ⟨A, n, c, l, rfl, h1, h2, h3⟩ := h.val (hr 0 _ _ rfl rfl)
  obtain ⟨A', n', c', l', rfl, h1', h2', h3'⟩ := h'.val (hr 1 _ _ rfl rfl)
  refine (nat_Mul h1 h1' (by omega) (by omega)).mono ?_
  rintro e w' ⟨A1, n1, c1, rfl, h4, hb⟩
  rw [h2, h2'] at h4
  exact ⟨_, rfl, row_rep (h4.rd.mono fun b hb => .inr hb), hb⟩
theorem n_Cmp (h : IsN p x k) (h' : IsN q y k') (hk : k ≤ 1000000) (hk' : k' ≤ 1000000) : Gv.Fn Tryz.prog 101 [p, q] (.raw (.int .i64 (cmpI x y))) := by
  refine Fn.of ⟨_, Tryz.func101, rfl, by kernel_rfl⟩ fun w P0 vs hl hr => ?_
  obtain ⟨a, b, rfl⟩ := two_list hl
  obtain ⟨A, n, c, l, rfl, h1, h2, h3⟩ := h.val (hr 0 _ _ rfl rfl)
  obtain ⟨A', n', c', l', rfl, h1', h2', h3'⟩ := h'.val (hr 1 _ _ rfl rfl)
  refine (nat_Cmp h1 h1' (by omega) (by omega)).mono ?_
  rintro e w' ⟨rfl, hb⟩
  rw [h2, h2']
  exact ⟨_, rfl, .raw _, hb⟩
theorem n_Sub (h : IsN p x k) (h' : IsN q y k') (hk : k ≤ 1000000) (hk' : k' ≤ 1000000) (hle : y ≤ x) : Gv.Fn Tryz.prog 102 [p, q] (.tup [nat (x - y), .raw (.int .i64 0)]) := by
  refine Fn.of ⟨_, Tryz.func102, rfl, by kernel_rfl⟩ fun w P0 vs hl hr => ?_
  obtain ⟨a, b, rfl⟩ := two_list hl
  obtain ⟨A, n, c, l, rfl, h1, h2, h3⟩ := h.val (hr 0 _ _ rfl rfl)
  obtain ⟨A', n', c', l', rfl, h1', h2', h3'⟩ := h'.val (hr 1 _ _ rfl rfl)
  refine (nat_Sub h1 h1' (by omega) (by omega) (by rw [h2, h2']; exact hle)).mono ?_
  rintro e w' ⟨A1, n1, c1, rfl, h4, hb⟩
  rw [h2, h2'] at h4
  refine ⟨_, rfl, .tup _ _ rfl fun j p hj => ?_, hb⟩
  match j, hj with
  | 0, hj => cases hj; exact row_rep (h4.rd.mono fun b hb => .inr hb)
  | 1, hj => cases hj; exact .raw _
theorem n_DivMod (h : IsN p x k) (h' : IsN q y k') (hk : k ≤ 1000000) (hk' : k' ≤ 1000000) (hy : y ≠ 0) : Gv.Fn Tryz.prog 94 [p, q] (.tup [nat (x / y), nat (x % y), .raw (.int .i64 0)]) := by
  refine Fn.of ⟨_, Tryz.func94, rfl, by kernel_rfl⟩ fun w P0 vs hl hr => ?_
  obtain ⟨a, b, rfl⟩ := two_list hl
  obtain ⟨A, n, c, l, rfl, h1, h2, h3⟩ := h.val (hr 0 _ _ rfl rfl)
  obtain ⟨A', n', c', l', rfl, h1', h2', h3'⟩ := h'.val (hr 1 _ _ rfl rfl)
  refine (nat_DivMod h1 h1' (by omega) (by omega) (by rw [h2']; exact hy)).mono ?_
  rintro e w' ⟨A1, n1, c1, A2, n2, c2, rfl, h4, h5, hb⟩
  rw [h2, h2'] at h4 h5
  refine ⟨_, rfl, .tup _ _ rfl fun j p hj => ?_, hb⟩
  match j, hj with
  | 0, hj => cases hj; exact row_rep (h4.rd.mono fun b hb => .inr hb)
  | 1, hj => cases hj; exact row_rep (h5.rd.mono fun b hb => .inr hb)
  | 2, hj => cases hj; exact .raw _
theorem n_DivMod_zero (h : IsN p x k) (h' : IsN q 0 k') (hk : k ≤ 1000000) (hk' : k' ≤ 1000000) : Gv.Fn Tryz.prog 94 [p, q] (.tup [nat 0, nat 0, .raw (.int .i64 12)]) := by
  refine Fn.of ⟨_, Tryz.func94, rfl, by kernel_rfl⟩ fun w P0 vs hl hr => ?_
  obtain ⟨a, b, rfl⟩ := two_list hl
  obtain ⟨A, n, c, l, rfl, h1, h2, h3⟩ := h.val (hr 0 _ _ rfl rfl)
  obtain ⟨A', n', c', l', rfl, h1', h2', h3'⟩ := h'.val (hr 1 _ _ rfl rfl)
  refine (nat_DivMod_zero h1 h1' (by omega) (by omega) h2').mono ?_
  rintro e w' ⟨rfl, hb⟩
  refine ⟨_, rfl, .tup _ _ rfl fun j p hj => ?_, hb⟩
  match j, hj with
  | 0, hj => cases hj; exact .nil none 0 (by omega)
  | 1, hj => cases hj; exact .nil none 0 (by omega)
  | 2, hj => cases hj; exact .raw _
theorem n_Gcd (h : IsN p x k) (h' : IsN q y k') (hk : k ≤ 1000000) (hk' : k' ≤ 1000000) : Gv.Fn Tryz.prog 126 [p, q] (nat (Nat.gcd x y)) := by
  refine Fn.of ⟨_, Tryz.func126, rfl, by kernel_rfl⟩ fun w P0 vs hl hr => ?_
  obtain ⟨a, b, rfl⟩ := two_list hl
  obtain ⟨A, n, c, l, rfl, h1, h2, h3⟩ := h.val (hr 0 _ _ rfl rfl)
  obtain ⟨A', n', c', l', rfl, h1', h2', h3'⟩ := h'.val (hr 1 _ _ rfl rfl)
  refine (nat_Gcd h1 h1' (by omega) (by omega)).mono ?_
  rintro e w' ⟨A1, n1, c1, rfl, h4, hb⟩
  rw [h2, h2'] at h4
  exact ⟨_, rfl, row_rep (h4.rd.mono fun b hb => .inr hb), hb⟩
theorem n_Of (v : Nat) (hv : v < 18446744073709551616) : Gv.Fn Tryz.prog 112 [.raw (.int .u64 v)] (nat v) := by
  refine Fn.of ⟨_, Tryz.func112, rfl, by kernel_rfl⟩ fun w P0 vs hl hr => ?_
  obtain ⟨a, rfl⟩ := one_list hl
  have := hr 0 _ _ rfl rfl
  cases this
  refine (nat_Of v hv w).mono ?_
  rintro e w' ⟨A1, n1, c1, rfl, h4, hb⟩
  exact ⟨_, rfl, row_rep (h4.rd.mono fun b hb => .inr hb), hb⟩
theorem n_Good {l : List Nat} (h : Lt 18446744073709551616 l) (hk : l.length ≤ 1000000) : Gv.Fn Tryz.prog 111 [u64s l] (.raw (.bool (goodB l))) := by
  refine Fn.of ⟨_, Tryz.func111, rfl, by kernel_rfl⟩ fun w P0 vs hl hr => ?_
  obtain ⟨a, rfl⟩ := one_list hl
  obtain ⟨A, n, c, rfl, h1⟩ := rep_row (hr 0 _ _ rfl rfl)
  have := h1.len
  simp only at this
  refine (nat_Good ⟨h1, h⟩ (by omega)).mono ?_
  rintro e w' ⟨rfl, hb⟩
  exact ⟨_, rfl, .raw _, hb⟩
theorem n_Bits (h : IsN p x k) (hk : k ≤ 1000000) : Gv.Fn Tryz.prog 152 [p] (.raw (.int .i64 (blen x : Nat))) := by
  refine Fn.of ⟨_, Tryz.func152, rfl, by kernel_rfl⟩ fun w P0 vs hl hr => ?_
  obtain ⟨a, rfl⟩ := one_list hl
  obtain ⟨A, n, c, l, rfl, h1, h2, h3⟩ := h.val (hr 0 _ _ rfl rfl)
  refine (nat_Bits h1 (by omega)).mono ?_
  rintro e w' ⟨rfl, rfl⟩
  rw [h2]
  exact ⟨_, rfl, .raw _, Below.refl _ _⟩
theorem k_Nats {l m : List Nat} (h : Lt 18446744073709551616 l) (h' : Lt 18446744073709551616 m) : Gv.Fn Tryz.prog 98 [u64s l, u64s m] (.raw (.bool (decide (l = m)))) := by
  refine Fn.of ⟨_, Tryz.func98, rfl, by kernel_rfl⟩ fun w P0 vs hl hr => ?_
  obtain ⟨a, b, rfl⟩ := two_list hl
  obtain ⟨A, n, c, rfl, h1⟩ := rep_row (hr 0 _ _ rfl rfl)
  obtain ⟨A', n', c', rfl, h1'⟩ := rep_row (hr 1 _ _ rfl rfl)
  refine (keep_Nats ⟨h1, h⟩ ⟨h1', h'⟩).mono ?_
  rintro e w' ⟨rfl, hb⟩
  exact ⟨_, rfl, .raw _, hb⟩

/-! the reference's -/
theorem r_In (h : IsN p x k) (hk : k ≤ 1000000) : Gv.Fn Tryz.prog 92 [p] (r32 x) := by
  refine Fn.of ⟨_, Tryz.func92, rfl, by kernel_rfl⟩ fun w P0 vs hl hr => ?_
  obtain ⟨a, rfl⟩ := one_list hl
  obtain ⟨A, n, c, l, rfl, h1, h2, h3⟩ := h.val (hr 0 _ _ rfl rfl)
  refine (ref_In h1 (by omega)).mono ?_
  rintro e w' ⟨A1, n1, c1, rfl, h4, hb⟩
  rw [h2] at h4
  exact ⟨_, rfl, row_rep (h4.rd.mono fun b hb => .inr hb), hb⟩
/-- how many limbs of 32 bits -/
theorem sz32 {x k : Nat} (h : sz x ≤ k) : (limbs 4294967296 x).length ≤ 2 * k := by
  refine limbs_len_le B32 ?_
  rw [← pow64_32]
  exact Nat.lt_of_lt_of_le (lt_sz x) (Nat.pow_le_pow_right (by omega) h)
theorem r32_len {x k n c : Nat} {A : Option Addr} {w : World} {P : Nat → Prop} (h : R32 w P ⟨A, n, c⟩ (limbs 4294967296 x)) (hk : sz x ≤ k) : n ≤ 2 * k := by
  have h1 := h.rd.len
  have h2 := sz32 hk
  simp only at h1
  omega
theorem r_Out (hk : sz x ≤ 400000) : Gv.Fn Tryz.prog 99 [r32 x] (nat x) := by
  refine Fn.of ⟨_, Tryz.func99, rfl, by kernel_rfl⟩ fun w P0 vs hl hr => ?_
  obtain ⟨a, rfl⟩ := one_list hl
  obtain ⟨A, n, c, rfl, h1⟩ := r32_val (hr 0 _ _ rfl rfl)
  have := r32_len h1 hk
  refine (ref_Out h1 (by omega)).mono ?_
  rintro e w' ⟨A1, n1, c1, rfl, h4, hb⟩
  exact ⟨_, rfl, row_rep (h4.rd.mono fun b hb => .inr hb), hb⟩
theorem r_Cmp (hk : sz x ≤ 400000) (hk' : sz y ≤ 400000) : Gv.Fn Tryz.prog 104 [r32 x, r32 y] (.raw (.int .i64 (cmpI x y))) := by
  refine Fn.of ⟨_, Tryz.func104, rfl, by kernel_rfl⟩ fun w P0 vs hl hr => ?_
  obtain ⟨a, b, rfl⟩ := two_list hl
  obtain ⟨A, n, c, rfl, h1⟩ := r32_val (hr 0 _ _ rfl rfl)
  obtain ⟨A', n', c', rfl, h1'⟩ := r32_val (hr 1 _ _ rfl rfl)
  have h2 := r32_len h1 hk
  have h3 := r32_len h1' hk'
  refine (ref_Cmp h1 h1' (by omega) (by omega)).mono ?_
  rintro e w' ⟨rfl, hb⟩
  exact ⟨_, rfl, .raw _, hb⟩
theorem r_Add (hk : sz x ≤ 400000) (hk' : sz y ≤ 400000) : Gv.Fn Tryz.prog 103 [r32 x, r32 y] (r32 (x + y)) := by
  refine Fn.of ⟨_, Tryz.func103, rfl, by kernel_rfl⟩ fun w P0 vs hl hr => ?_
  obtain ⟨a, b, rfl⟩ := two_list hl
  obtain ⟨A, n, c, rfl, h1⟩ := r32_val (hr 0 _ _ rfl rfl)
  obtain ⟨A', n', c', rfl, h1'⟩ := r32_val (hr 1 _ _ rfl rfl)
  have h2 := r32_len h1 hk
  have h3 := r32_len h1' hk'
  refine (ref_Add h1 h1' (by omega) (by omega)).mono ?_
  rintro e w' ⟨A1, n1, c1, rfl, h4, hb⟩
  exact ⟨_, rfl, row_rep (h4.rd.mono fun b hb => .inr hb), hb⟩
theorem r_Sub (hk : sz x ≤ 400000) (hle : y ≤ x) : Gv.Fn Tryz.prog 105 [r32 x, r32 y] (r32 (x - y)) := by
  refine Fn.of ⟨_, Tryz.func105, rfl, by kernel_rfl⟩ fun w P0 vs hl hr => ?_
  obtain ⟨a, b, rfl⟩ := two_list hl
  obtain ⟨A, n, c, rfl, h1⟩ := r32_val (hr 0 _ _ rfl rfl)
  obtain ⟨A', n', c', rfl, h1'⟩ := r32_val (hr 1 _ _ rfl rfl)
  have h2 := r32_len h1 hk
  refine (ref_Sub h1 h1' (by omega) hle).mono ?_
  rintro e w' ⟨A1, n1, c1, rfl, h4, hb⟩
  exact ⟨_, rfl, row_rep (h4.rd.mono fun b hb => .inr hb), hb⟩
theorem r_Mul (hk : sz x ≤ 400000) (hk' : sz y ≤ 400000) : Gv.Fn Tryz.prog 107 [r32 x, r32 y] (r32 (x * y)) := by
  refine Fn.of ⟨_, Tryz.func107, rfl, by kernel_rfl⟩ fun w P0 vs hl hr => ?_
  obtain ⟨a, b, rfl⟩ := two_list hl
  obtain ⟨A, n, c, rfl, h1⟩ := r32_val (hr 0 _ _ rfl rfl)
  obtain ⟨A', n', c', rfl, h1'⟩ := r32_val (hr 1 _ _ rfl rfl)
  have h2 := r32_len h1 hk
  have h3 := r32_len h1' hk'
  refine (ref_Mul h1 h1' (by omega) (by omega)).mono ?_
  rintro e w' ⟨A1, n1, c1, rfl, h4, hb⟩
  exact ⟨_, rfl, row_rep (h4.rd.mono fun b hb => .inr hb), hb⟩
theorem r_Of (v : Nat) (hv : v < 18446744073709551616) : Gv.Fn Tryz.prog 115 [.raw (.int .u64 v)] (r32 v) := by
  refine Fn.of ⟨_, Tryz.func115, rfl, by kernel_rfl⟩ fun w P0 vs hl hr => ?_
  obtain ⟨a, rfl⟩ := one_list hl
  have := hr 0 _ _ rfl rfl
  cases this
  refine (ref_Of_new v hv w).mono ?_
  rintro e w' ⟨A1, n1, c1, rfl, h4, hb⟩
  exact ⟨_, rfl, row_rep (h4.rd.mono fun b hb => .inr hb), hb⟩
theorem CanF.rep {G : Nat → Prop} {w : World} {v : Value} {x K : Nat} (h : CanF G w v x K) : Rep w G (r32 x) v := by
  obtain ⟨A, n, c, rfl, hr, _⟩ := h
  exact row_rep hr.rd
theorem r_DivMod (hk : sz x ≤ 500) (hk' : sz y ≤ 500) (hy : 0 < y) : Gv.Fn Tryz.prog 96 [r32 x, r32 y] (.agg [r32 (x / y), r32 (x % y)]) := by
  refine Fn.of ⟨_, Tryz.func96, rfl, by kernel_rfl⟩ fun w P0 vs hl hr => ?_
  obtain ⟨a, b, rfl⟩ := two_list hl
  obtain ⟨A, n, c, rfl, h1⟩ := r32_val (hr 0 _ _ rfl rfl)
  obtain ⟨A', n', c', rfl, h1'⟩ := r32_val (hr 1 _ _ rfl rfl)
  have h2 := r32_len h1 hk
  have h3 := r32_len h1' hk'
  have key : Calls Tryz.prog 96 #[.slice A n c, .slice A' n' c'] w fun e w' => ∃ q r, e = .returned (.agg #[q, r]) ∧ CanF (fun b => P0 b ∨ w.heap.size ≤ b) w' q (x / y) n ∧ (∃ N, CanF (fun b => P0 b ∨ w.heap.size ≤ b) w' r (x % y) N) ∧ Below w.heap.size w w' := by
    have ha : CanF P0 w (.slice A n c) x n := ⟨A, n, c, rfl, h1, Nat.le_refl _⟩
    have hb : CanR w (.slice A' n' c') y n' := ⟨A', n', c', rfl, h1'.mono fun _ _ => trivial, Nat.le_refl _⟩
    rcases Nat.lt_or_ge x y with hlt | hge
    · refine (ref_DivMod_lessF ha hb (by omega) (by omega) hlt).mono ?_
      rintro e w' ⟨q, r, he, h4, h5, hb⟩
      exact ⟨q, r, he, h4, ⟨_, h5⟩, hb⟩
    · by_cases h1n : n' ≤ 1
      · have hl' : (limbs 4294967296 y).length = n' := h1'.rd.len
        have hy1 : y < 4294967296 ^ 1 := lt_of_limbs_len B32 (by omega)
        refine (ref_DivMod_oneF ha.r (CanR.tight hb hy1) (by omega) hy hge).mono ?_
        rintro e w' ⟨q, r, he, h4, h5, hb⟩
        exact ⟨q, r, he, h4.mono fun b hb => .inr hb, ⟨_, h5.mono fun b hb => .inr hb⟩, hb⟩
      · refine (ref_DivMod_longF (N := n') h1 h1' (by omega) (Nat.le_refl _) (by omega) (by omega) hge).mono ?_
        rintro e w' ⟨q, r, he, h4, h5, hb⟩
        exact ⟨q, r, he, h4.mono fun b hb => .inr hb, ⟨_, h5.mono fun b hb => .inr hb⟩, hb⟩
  refine key.mono ?_
  rintro e w' ⟨u, v, rfl, h4, ⟨N, h5⟩, hb⟩
  refine ⟨_, rfl, .agg _ _ rfl (fun j p hj => ?_) (fun j p hj => ?_), hb⟩
  · match j, hj with
    | 0, hj => cases hj; rfl
    | 1, hj => cases hj; rfl
  · match j, hj with
    | 0, hj => cases hj; exact CanF.rep h4
    | 1, hj => cases hj; exact CanF.rep h5
end
end Go.Proofs.YtlpfbcilnfgaaaaGreatDoor


/- Whole numbers with a sign: what a value of api.Int (or of the reference's Int) tells; plain laws. -/
namespace Gs
open Go Go.RowKit Go.Proofs.YtlpfbcilnfgaaaaGreatDoor

/-- a sign, and a number -/
def sg (s : Bool) (x : Nat) : Int := if s then -(x : Int) else (x : Int)
theorem sg_true (x : Nat) : sg true x = -(x : Int) := rfl
theorem sg_false (x : Nat) : sg false x = (x : Int) := rfl
theorem sg_abs (s : Bool) (x : Nat) : (sg s x).natAbs = x := by cases s <;> simp [sg]
theorem sg_zero (s : Bool) : sg s 0 = 0 := by cases s <;> rfl
theorem sg_lt (s : Bool) (x : Nat) : decide (sg s x < 0) = (s && decide (0 < x)) := by
  cases s
  · rw [sg_false, Bool.false_and, decide_eq_false_iff_not]; omega
  · rw [sg_true, Bool.true_and, Bool.eq_iff_iff, decide_eq_true_iff, decide_eq_true_iff]; omega
theorem sg_of (z : Int) : sg (decide (z < 0)) z.natAbs = z := by
  by_cases h : z < 0
  · rw [decide_eq_true h, sg_true]; omega
  · rw [decide_eq_false h, sg_false]; omega
theorem sg_not (s : Bool) (x : Nat) : sg (!s) x = -sg s x := by cases s <;> simp [sg]
theorem sg_mul (s t : Bool) (x y : Nat) : sg (s != t) (x * y) = sg s x * sg t y := by
  cases s <;> cases t <;> simp [sg, Int.natCast_mul, Int.neg_mul, Int.mul_neg]
theorem sg_add (s : Bool) (x y : Nat) : sg s (x + y) = sg s x + sg s y := by
  cases s <;> simp [sg, Int.natCast_add] <;> omega
theorem sg_sub (s t : Bool) (x y : Nat) (h : s ≠ t) (hle : y ≤ x) : sg s (x - y) = sg s x + sg t y := by
  cases s <;> cases t <;> simp [sg] at h ⊢ <;> omega
theorem sg_sub' (s t : Bool) (x y : Nat) (h : s ≠ t) (hle : x ≤ y) : sg t (y - x) = sg s x + sg t y := by
  cases s <;> cases t <;> simp [sg] at h ⊢ <;> omega
theorem sg_nat (x : Nat) : sg false x = (x : Int) := rfl

theorem CanN.tight {w v x K K'} (h : CanN w v x K) (hx : x < 18446744073709551616 ^ K') : CanN w v x K' := by
  obtain ⟨A, n, c, rfl, hr, hn⟩ := h
  exact CanN.of hr hx
theorem Num.tight {w v x K K'} (h : Num w v x K) (hk : K ≤ K') : Num w v x K' := by
  obtain ⟨A, n, c, l, rfl, hr, hv, hn⟩ := h
  exact ⟨A, n, c, l, rfl, hr, hv, Nat.le_trans hn hk⟩
theorem CanN.lt {w v x K} (h : CanN w v x K) : x < 18446744073709551616 ^ K := h.num.lt
theorem CanN.nil (w : World) (K : Nat) : CanN w (.slice none 0 0) 0 K := ⟨none, 0, 0, rfl, ⟨RdN.nil _ _ _ 0 (by omega) _, Lt.nil _⟩, Nat.zero_le _⟩

/-- v is a sign and limbs that make the number z; at most K limbs -/
def ZNum (w : World) (v : Value) (z : Int) (K : Nat) : Prop := ∃ s m x, v = .agg #[.bool s, m] ∧ Num w m x K ∧ sg s x = z
/-- the same, good -/
def ZCan (w : World) (v : Value) (z : Int) (K : Nat) : Prop := ∃ m, v = .agg #[.bool (decide (z < 0)), m] ∧ CanN w m z.natAbs K
/-- the reference's -/
def ZRef (w : World) (v : Value) (z : Int) (K : Nat) : Prop := ∃ m, v = .agg #[.bool (decide (z < 0)), m] ∧ CanR w m z.natAbs K
/-- just these limbs -/
def ZRaw (w : World) (v : Value) (s : Bool) (l : List Nat) : Prop := ∃ m, v = .agg #[.bool s, m] ∧ RawN w m l
theorem ZNum.below {w w' v z K} (h : ZNum w v z K) (hb : Below w.heap.size w w') : ZNum w' v z K := by
  obtain ⟨s, m, x, e, hm, hz⟩ := h
  exact ⟨s, m, x, e, hm.below hb, hz⟩
theorem ZCan.below {w w' v z K} (h : ZCan w v z K) (hb : Below w.heap.size w w') : ZCan w' v z K := by
  obtain ⟨m, e, hm⟩ := h
  exact ⟨m, e, hm.below hb⟩
theorem ZRef.below {w w' v z K} (h : ZRef w v z K) (hb : Below w.heap.size w w') : ZRef w' v z K := by
  obtain ⟨m, e, hm⟩ := h
  exact ⟨m, e, hm.below hb⟩
theorem ZRaw.below {w w' v s l} (h : ZRaw w v s l) (hb : Below w.heap.size w w') : ZRaw w' v s l := by
  obtain ⟨m, e, hm⟩ := h
  exact ⟨m, e, hm.below hb⟩
theorem ZCan.num {w v z K} (h : ZCan w v z K) : ZNum w v z K := by
  obtain ⟨m, e, hm⟩ := h
  exact ⟨_, m, _, e, hm.num, sg_of z⟩
theorem ZRaw.num {w v s l x K} (h : ZRaw w v s l) (hx : val 18446744073709551616 l = x) (hl : l.length ≤ K) : ZNum w v (sg s x) K := by
  obtain ⟨m, e, hm⟩ := h
  exact ⟨s, m, x, e, hm.num' hx hl, rfl⟩
theorem ZNum.lt {w v z K} (h : ZNum w v z K) : z.natAbs < 18446744073709551616 ^ K := by
  obtain ⟨s, m, x, e, hm, rfl⟩ := h
  rw [sg_abs]
  exact hm.lt
theorem ZCan.lt {w v z K} (h : ZCan w v z K) : z.natAbs < 18446744073709551616 ^ K := h.num.lt
theorem ZRef.lt {w v z K} (h : ZRef w v z K) : z.natAbs < 4294967296 ^ K := by
  obtain ⟨m, e, hm⟩ := h
  exact hm.lt
theorem ZCan.tight {w v z K K'} (h : ZCan w v z K) (hx : z.natAbs < 18446744073709551616 ^ K') : ZCan w v z K' := by
  obtain ⟨m, e, hm⟩ := h
  exact ⟨m, e, hm.tight hx⟩
theorem ZRef.tight {w v z K K'} (h : ZRef w v z K) (hx : z.natAbs < 4294967296 ^ K') : ZRef w v z K' := by
  obtain ⟨m, e, hm⟩ := h
  exact ⟨m, e, CanR.tight hm hx⟩
theorem ZNum.mk {w m x K} (s : Bool) (h : Num w m x K) : ZNum w (.agg #[.bool s, m]) (sg s x) K := ⟨s, m, x, rfl, h, rfl⟩
theorem ZCan.mk {w m x K} {s t : Bool} (h : CanN w m x K) (ht : t = (s && decide (0 < x))) : ZCan w (.agg #[.bool t, m]) (sg s x) K := ⟨m, by rw [ht, sg_lt], by rw [sg_abs]; exact h⟩
theorem ZRef.mk {w m x K} {s t : Bool} (h : CanR w m x K) (ht : t = (s && decide (0 < x))) : ZRef w (.agg #[.bool t, m]) (sg s x) K := ⟨m, by rw [ht, sg_lt], by rw [sg_abs]; exact h⟩

/-- a block without numbers: a struct's box -/
def NoI (w : World) (b : Nat) : Prop := ∃ cs T fr, w.heap[b]? = some (.cells cs T fr) ∧ ∀ v ∈ cs, ∀ k i, v ≠ .int k i
/-- all but this block is as it was -/
def Off (b : Nat) (w w1 : World) : Prop := ∀ j, j ≠ b → w1.heap[j]? = w.heap[j]?
theorem Off.set (w : World) (b o : Nat) (p : Value) : Off b w (w.setCell ⟨b, o, none⟩ p) := fun j hj => set_heap _ (by exact hj)
theorem Off.trans {b : Nat} {w w1 w2 : World} (h : Off b w w1) (h' : Off b w1 w2) : Off b w w2 := fun j hj => (h' j hj).trans (h j hj)
theorem Off.set2 (w : World) (b : Nat) (p q : Value) : Off b w ((w.setCell ⟨b, 0, none⟩ p).setCell ⟨b, 1, none⟩ q) := (Off.set w b 0 p).trans (Off.set _ b 1 q)
theorem Off.set3 (w : World) (b : Nat) (p q r : Value) : Off b w (((w.setCell ⟨b, 0, none⟩ p).setCell ⟨b, 1, none⟩ q).setCell ⟨b, 2, none⟩ r) := (Off.set2 w b p q).trans (Off.set _ b 2 r)
theorem RdN.off {k w P s l b} (h : RdN k w P s l) (hn : NoI w b) : RdN k w (fun j => P j ∧ j ≠ b) s l := by
  refine ⟨h.len, h.cap, h.top, fun h0 => ?_⟩
  obtain ⟨ad, e, hp, hc⟩ := h.cells h0
  refine ⟨ad, e, ⟨hp, fun hb => ?_⟩, hc⟩
  obtain ⟨cs, T, fr, hB, hv⟩ := hn
  have h1 := hc 0 h0
  have h2 : (ad.add 0).block = b := (add_block ad 0).trans hb
  unfold World.cell? at h1
  rw [h2, hB] at h1
  simp only at h1
  split at h1
  · cases h1
  · exact hv _ (Array.mem_of_getElem? h1) _ _ rfl
theorem RdN.offs {k w w1 P s l b} (h : RdN k w P s l) (hn : NoI w b) (ho : Off b w w1) : RdN k w1 P s l := ((h.off hn).keep fun j hj _ => ho j hj.2).mono fun _ hj => hj.1
theorem Num.off {w w1 v x K b} (h : Num w v x K) (hn : NoI w b) (ho : Off b w w1) : Num w1 v x K := by
  obtain ⟨A, n, c, l, e, hr, hv, hk⟩ := h
  exact ⟨A, n, c, l, e, ⟨hr.rd.offs hn ho, hr.lt⟩, hv, hk⟩
theorem CanN.off {w w1 v x K b} (h : CanN w v x K) (hn : NoI w b) (ho : Off b w w1) : CanN w1 v x K := by
  obtain ⟨A, n, c, e, hr, hk⟩ := h
  exact ⟨A, n, c, e, ⟨hr.rd.offs hn ho, hr.lt⟩, hk⟩
theorem CanR.off {w w1 v x K b} (h : CanR w v x K) (hn : NoI w b) (ho : Off b w w1) : CanR w1 v x K := by
  obtain ⟨A, n, c, e, hr, hk⟩ := h
  exact ⟨A, n, c, e, ⟨hr.rd.offs hn ho, hr.lt⟩, hk⟩
theorem RawN.off {w w1 v l b} (h : RawN w v l) (hn : NoI w b) (ho : Off b w w1) : RawN w1 v l := by
  obtain ⟨A, n, c, e, hr⟩ := h
  exact ⟨A, n, c, e, ⟨hr.rd.offs hn ho, hr.lt⟩⟩
/-- a struct's box: a sign, and a slice -/
def Bx (W : World) (b : Nat) (s : Bool) (A : Option Addr) (n c : Nat) (T : TypeId) : Prop := W.heap[b]? = some (.cells #[.bool s, .slice A n c] T (0, 0))
theorem Bx.no {W b s A n c T} (h : Bx W b s A n c T) : NoI W b := ⟨_, _, _, h, fun v hv k i => by
  simp only [List.mem_toArray, List.mem_cons, List.mem_nil_iff, or_false] at hv
  rcases hv with rfl | rfl <;> intro e <;> cases e⟩
theorem Bx.at {W b s A n c T} (h : Bx W b s A n c T) : W.cell? ⟨b, 0, none⟩ = some (.bool s) ∧ W.cell? ⟨b, 1, none⟩ = some (.slice A n c) := two_at h
theorem Bx.fr {W b s A n c T} (h : Bx W b s A n c T) : W.frozen? ⟨b, 0, none⟩ = false ∧ W.frozen? ⟨b, 1, none⟩ = false := by
  unfold Bx at h
  simp [World.frozen?, h]
theorem Bx.new (w : World) (s A n c T) : Bx (w.alloc (.cells #[.bool s, .slice A n c] T)) w.heap.size s A n c T := heap_alloc_new w _
theorem Bx.lt {W b s A n c T} (h : Bx W b s A n c T) : b < W.heap.size := by
  unfold Bx at h
  exact (Array.getElem?_eq_some_iff.1 h).1
theorem Bx.below {W W' b s A n c T} (h : Bx W b s A n c T) (hb : Below W.heap.size W W') : Bx W' b s A n c T := (hb.block b h.lt).trans h
theorem Bx.alloc {W b s A n c T} (h : Bx W b s A n c T) (o : Obj) : Bx (W.alloc o) b s A n c T := h.below ((Below.refl _ W).alloc (Nat.le_refl _) o)
theorem Bx.store {W b s A n c T} (h : Bx W b s A n c T) (s' : Bool) (A' : Option Addr) (n' c' : Nat) : Bx ((W.setCell ⟨b, 0, none⟩ (.bool s')).setCell ⟨b, 1, none⟩ (.slice A' n' c')) b s' A' n' c' T := two_cells h _ _
theorem Bx.off {W W' b b' s A n c T} (h : Bx W b s A n c T) (ho : Off b' W W') (hne : b ≠ b') : Bx W' b s A n c T := (ho b hne).trans h

theorem ZNum.off {w w1 v z K b} (h : ZNum w v z K) (hn : NoI w b) (ho : Off b w w1) : ZNum w1 v z K := by
  obtain ⟨s, m, x, e, hm, hz⟩ := h
  exact ⟨s, m, x, e, hm.off hn ho, hz⟩
theorem ZCan.off {w w1 v z K b} (h : ZCan w v z K) (hn : NoI w b) (ho : Off b w w1) : ZCan w1 v z K := by
  obtain ⟨m, e, hm⟩ := h
  exact ⟨m, e, hm.off hn ho⟩
theorem ZRef.off {w w1 v z K b} (h : ZRef w v z K) (hn : NoI w b) (ho : Off b w w1) : ZRef w1 v z K := by
  obtain ⟨m, e, hm⟩ := h
  exact ⟨m, e, hm.off hn ho⟩
theorem ZRaw.off {w w1 v s l b} (h : ZRaw w v s l) (hn : NoI w b) (ho : Off b w w1) : ZRaw w1 v s l := by
  obtain ⟨m, e, hm⟩ := h
  exact ⟨m, e, hm.off hn ho⟩
theorem ZNum.alloc {w v z K} (h : ZNum w v z K) (o : Obj) : ZNum (w.alloc o) v z K := h.below ((Below.refl _ w).alloc (Nat.le_refl _) o)
theorem ZCan.alloc {w v z K} (h : ZCan w v z K) (o : Obj) : ZCan (w.alloc o) v z K := h.below ((Below.refl _ w).alloc (Nat.le_refl _) o)
theorem ZRef.alloc {w v z K} (h : ZRef w v z K) (o : Obj) : ZRef (w.alloc o) v z K := h.below ((Below.refl _ w).alloc (Nat.le_refl _) o)
theorem ZRaw.alloc {w v s l} (h : ZRaw w v s l) (o : Obj) : ZRaw (w.alloc o) v s l := h.below ((Below.refl _ w).alloc (Nat.le_refl _) o)

theorem Bx.new' (w : World) (s A n c T) {b : Nat} (hb : b = w.heap.size) : Bx (w.alloc (.cells #[.bool s, .slice A n c] T)) b s A n c T := by
  subst hb
  exact Bx.new w s A n c T
theorem ZCan.open {w v z K} (h : ZCan w v z K) : ∃ t A n c, v = .agg #[.bool t, .slice A n c] ∧ Hid (t = decide (z < 0)) ∧ Hid (CanN w (.slice A n c) z.natAbs K) := by
  obtain ⟨m, rfl, hm⟩ := h
  have h0 := hm
  obtain ⟨A, n, c, rfl, hr, hk⟩ := hm
  exact ⟨_, A, n, c, rfl, Lib.hid rfl, Lib.hid h0⟩
theorem ZCan.shut {w t m K} {z : Int} (ht : Hid (t = decide (z < 0))) (hm : CanN w m z.natAbs K) : ZCan w (.agg #[.bool t, m]) z K := ⟨m, by rw [ht.out], hm⟩
theorem ZRef.open {w v z K} (h : ZRef w v z K) : ∃ t A n c, v = .agg #[.bool t, .slice A n c] ∧ Hid (t = decide (z < 0)) ∧ Hid (CanR w (.slice A n c) z.natAbs K) := by
  obtain ⟨m, rfl, hm⟩ := h
  have h0 := hm
  obtain ⟨A, n, c, rfl, hr, hk⟩ := hm
  exact ⟨_, A, n, c, rfl, Lib.hid rfl, Lib.hid h0⟩
theorem ZRef.shut {w t m K} {z : Int} (ht : Hid (t = decide (z < 0))) (hm : CanR w m z.natAbs K) : ZRef w (.agg #[.bool t, m]) z K := ⟨m, by rw [ht.out], hm⟩
theorem ZNum.open {w v z K} (h : ZNum w v z K) : ∃ s A n c x, v = .agg #[.bool s, .slice A n c] ∧ Hid (sg s x = z) ∧ Hid (Num w (.slice A n c) x K) := by
  obtain ⟨s, m, x, rfl, hm, hz⟩ := h
  have h0 := hm
  obtain ⟨A, n, c, l, rfl, hr, hv, hk⟩ := hm
  exact ⟨s, A, n, c, x, rfl, Lib.hid hz, Lib.hid h0⟩
theorem ZRaw.open {w v s l} (h : ZRaw w v s l) : ∃ A n c, v = .agg #[.bool s, .slice A n c] ∧ Hid (RawN w (.slice A n c) l) := by
  obtain ⟨m, rfl, hm⟩ := h
  have h0 := hm
  obtain ⟨A, n, c, rfl, hr⟩ := hm
  exact ⟨A, n, c, rfl, Lib.hid h0⟩

theorem Num.drew {w v x K} (h : Num w v x K) : Num w.drew v x K := h.below (Below.refl _ w).drew
theorem CanN.drew {w v x K} (h : CanN w v x K) : CanN w.drew v x K := h.below (Below.refl _ w).drew
theorem CanR.drew {w v x K} (h : CanR w v x K) : CanR w.drew v x K := h.below (Below.refl _ w).drew
theorem RawN.drew {w v l} (h : RawN w v l) : RawN w.drew v l := h.below (Below.refl _ w).drew
theorem ZNum.drew {w v z K} (h : ZNum w v z K) : ZNum w.drew v z K := h.below (Below.refl _ w).drew
theorem ZCan.drew {w v z K} (h : ZCan w v z K) : ZCan w.drew v z K := h.below (Below.refl _ w).drew
theorem ZRef.drew {w v z K} (h : ZRef w v z K) : ZRef w.drew v z K := h.below (Below.refl _ w).drew
theorem ZRaw.drew {w v s l} (h : ZRaw w v s l) : ZRaw w.drew v s l := h.below (Below.refl _ w).drew
theorem Bx.drew {W b s A n c T} (h : Bx W b s A n c T) : Bx W.drew b s A n c T := h.below (Below.refl _ W).drew

/-- the quotient, cut downward, and the rest -/
def zq (x y : Int) : Int := sg (decide (x < 0) != decide (y < 0)) (x.natAbs / y.natAbs) - (if (decide (x < 0) != decide (y < 0)) = true ∧ 0 < x.natAbs % y.natAbs then 1 else 0)
def zr (x y : Int) : Int := x - zq x y * y
theorem zq_lt (x y : Int) {B K : Nat} (hB : 1 < B) (h : x.natAbs < B ^ K) : (zq x y).natAbs < B ^ (K + 1) := by
  have h1 : x.natAbs / y.natAbs < B ^ K := Nat.lt_of_le_of_lt (Nat.div_le_self _ _) h
  have h2 : (sg (decide (x < 0) != decide (y < 0)) (x.natAbs / y.natAbs)).natAbs = x.natAbs / y.natAbs := sg_abs _ _
  have h3 : B ^ K * 2 ≤ B ^ (K + 1) := by rw [Nat.pow_succ]; exact Nat.mul_le_mul_left _ hB
  unfold zq
  generalize sg (decide (x < 0) != decide (y < 0)) (x.natAbs / y.natAbs) = t at *
  split <;> omega
/-- the rest has the divisor's sign, and is less -/
theorem zr_eq (x y : Int) (hy : y ≠ 0) : zr x y = if y < 0 then (if 0 < x then (if x.natAbs % y.natAbs = 0 then 0 else (x.natAbs % y.natAbs : Nat) + y) else -((x.natAbs % y.natAbs : Nat) : Int)) else (if x < 0 then (if x.natAbs % y.natAbs = 0 then 0 else y - (x.natAbs % y.natAbs : Nat)) else ((x.natAbs % y.natAbs : Nat) : Int)) := by
  have hd := Nat.div_add_mod x.natAbs y.natAbs
  have hd' : ((x.natAbs / y.natAbs : Nat) : Int) * (y.natAbs : Int) + ((x.natAbs % y.natAbs : Nat) : Int) = (x.natAbs : Int) := by
    rw [← Int.natCast_mul, ← Int.natCast_add, Nat.mul_comm, hd]
  have hm := Nat.mod_lt x.natAbs (show 0 < y.natAbs by omega)
  unfold zr zq
  generalize ((x.natAbs / y.natAbs : Nat)) = q at *
  generalize ((x.natAbs % y.natAbs : Nat)) = r at *
  by_cases hx : x < 0 <;> by_cases hy2 : y < 0
  · have e1 : (y.natAbs : Int) = -y := by omega
    have e2 : (x.natAbs : Int) = -x := by omega
    rw [e1, e2, Int.mul_neg] at hd'
    simp only [hx, hy2, decide_true, bne_self_eq_false, if_true, Bool.false_eq_true, false_and, if_false, sg_false, Int.sub_zero, show ¬ 0 < x by omega]
    omega
  · have e1 : (y.natAbs : Int) = y := by omega
    have e2 : (x.natAbs : Int) = -x := by omega
    rw [e1, e2] at hd'
    have e3 : ∀ k : Int, (-(q : Int) - k) * y = -((q : Int) * y) - k * y := fun k => by rw [Int.sub_mul, Int.neg_mul]
    simp only [hx, hy2, decide_true, decide_false, if_true, if_false, sg_true, show (true != false) = true from rfl, true_and]
    rw [e3]
    by_cases h0 : r = 0
    · rw [if_neg (by omega), if_pos h0, Int.zero_mul]; omega
    · rw [if_pos (by omega), if_neg h0, Int.one_mul]; omega
  · have e1 : (y.natAbs : Int) = -y := by omega
    have e2 : (x.natAbs : Int) = x := by omega
    rw [e1, e2, Int.mul_neg] at hd'
    have e3 : ∀ k : Int, (-(q : Int) - k) * y = -((q : Int) * y) - k * y := fun k => by rw [Int.sub_mul, Int.neg_mul]
    simp only [hx, hy2, decide_true, decide_false, if_true, if_false, sg_true, show (false != true) = true from rfl, true_and]
    rw [e3]
    by_cases h0 : r = 0
    · rw [if_neg (by omega), Int.zero_mul]
      split
      · (try rw [if_pos h0]); omega
      · omega
    · rw [if_pos (by omega), Int.one_mul]
      split
      · (try rw [if_neg h0]); omega
      · exfalso
        have : x = 0 := by omega
        subst this
        have hq : (0 : Int) ≤ (q : Int) * -y := Int.mul_nonneg (by omega) (by omega)
        rw [Int.mul_neg] at hq
        omega
  · have e1 : (y.natAbs : Int) = y := by omega
    have e2 : (x.natAbs : Int) = x := by omega
    rw [e1, e2] at hd'
    simp only [hx, hy2, decide_false, bne_self_eq_false, if_false, Bool.false_eq_true, false_and, sg_false, Int.sub_zero]
    omega
theorem zr_pos (x : Int) {y : Int} (hy : 0 < y) : 0 ≤ zr x y ∧ zr x y < y := by
  have hm := Nat.mod_lt x.natAbs (show 0 < y.natAbs by omega)
  rw [zr_eq x y (by omega), if_neg (by omega)]
  split
  · split <;> omega
  · omega
theorem zr_neg (x : Int) {y : Int} (hy : y < 0) : zr x y ≤ 0 ∧ y < zr x y := by
  have hm := Nat.mod_lt x.natAbs (show 0 < y.natAbs by omega)
  rw [zr_eq x y (by omega), if_pos (by omega)]
  split
  · split <;> omega
  · omega
theorem zr_abs (x : Int) {y : Int} (hy : y ≠ 0) : (zr x y).natAbs < y.natAbs := by
  rcases Int.lt_or_gt_of_ne hy with h | h
  · have := zr_neg x h; omega
  · have := zr_pos x h; omega
theorem zq_mul (x y : Int) : zq x y * y + zr x y = x := by unfold zr; omega

/-- the text of a number with its sign -/
def ZText (s : ByteArray) (z : Int) : Prop := ∃ t, IsText t z.natAbs ∧ s = if z < 0 then (⟨#[45]⟩ : ByteArray) ++ t else t
end Gs


/- Whole numbers with a sign in the engine's words; package zed's contracts. -/
namespace Gv
open Go Go.RowKit Gs
set_option linter.unusedVariables false

/-! steps of a condition -/
section
variable {P : Program} {R : PV → Prop} {ρ : List PV} {C : List (List PV → Prop)} {k : VC}
theorem ok_call {f : FuncId} {args : List SV} {sh : RSh} {ps : List PV} {r : PV} (h : Fn P f ps r) (hp : pvs ρ args = ps) (hf : fitsR sh r = true) (hk : k.ok P R (ρ ++ [r]) C) : (VC.call f args sh k).ok P R ρ C := ⟨r, by rw [hp]; exact h, hf, hk⟩
theorem ok_prim {p : Prim} {args : List SV} {r : PV} (h : p.ev (pvs ρ args) = some r) (hk : k.ok P R (ρ ++ [r]) C) : (VC.prim p args k).ok P R ρ C := ⟨r, h, hk⟩
theorem ok_ite {c : SV} {a b : VC} {t : Bool} (h : pv ρ c = .raw (.bool t)) (h1 : t = true → a.ok P R ρ C) (h2 : t = false → b.ok P R ρ C) : (VC.ite c a b).ok P R ρ C := ⟨t, h, h1, h2⟩
theorem ok_ret {s : SV} {r : PV} (h : R r) (hs : pv ρ s = r) : (VC.ret s).ok P R ρ C := by show R (pv ρ s); rw [hs]; exact h
end

/-- a whole number, good -/
def zc (z : Int) : PV := .agg [.raw (.bool (decide (z < 0))), nat z.natAbs]
/-- a sign, and limbs that make the number z; at most k limbs -/
def IsZ (p : PV) (z : Int) (k : Nat) : Prop := ∃ s l, p = .agg [.raw (.bool s), u64s l] ∧ Lt 18446744073709551616 l ∧ sg s (val 18446744073709551616 l) = z ∧ l.length ≤ k
def zs (z : Int) : Nat := sz z.natAbs
theorem IsZ.zc {z : Int} {k : Nat} (h : zs z ≤ k) : IsZ (zc z) z k := ⟨_, _, rfl, limbs_lt B64 _, by rw [val_limbs B64, sg_of], h⟩
theorem IsZ.zs {p : PV} {z : Int} {k : Nat} (h : IsZ p z k) : zs z ≤ k := by
  obtain ⟨s, l, _, h1, rfl, h2⟩ := h
  unfold Gv.zs
  rw [sg_abs]
  exact sz_le (Nat.lt_of_lt_of_le (val_lt h1) (Nat.pow_le_pow_right (by omega) h2))
theorem zc_sg {s : Bool} {x : Nat} : zc (sg s x) = .agg [.raw (.bool (s && decide (0 < x))), nat x] := by unfold zc; rw [sg_lt, sg_abs]
theorem sz_pos {x : Nat} : decide ((sz x : Int) > 0) = decide (0 < x) := by
  rw [Bool.eq_iff_iff, decide_eq_true_iff, decide_eq_true_iff]
  have := limbs_len_zero B64 x
  unfold sz
  omega
theorem zs_add {x y : Int} {a b : Nat} (h : zs x ≤ a) (h' : zs y ≤ b) : zs (x + y) ≤ a + b + 1 :=
  Nat.le_trans (sz_mono (by omega : (x + y).natAbs ≤ x.natAbs + y.natAbs)) (sz_add h h')
theorem zs_sub {x y : Int} {a b : Nat} (h : zs x ≤ a) (h' : zs y ≤ b) : zs (x - y) ≤ a + b + 1 :=
  Nat.le_trans (sz_mono (by omega : (x - y).natAbs ≤ x.natAbs + y.natAbs)) (sz_add h h')
theorem zs_mul {x y : Int} {a b : Nat} (h : zs x ≤ a) (h' : zs y ≤ b) : zs (x * y) ≤ a + b := by
  unfold zs
  rw [Int.natAbs_mul]
  exact sz_mul h h'
theorem zs_neg {x : Int} {a : Nat} (h : zs x ≤ a) : zs (-x) ≤ a := by unfold zs; rw [Int.natAbs_neg]; exact h
end Gv
namespace Go.Proofs.YtlpfbcilnfgaaaaGreatDoor
open Go.RowKit Gs Gv
set_option linter.unusedVariables false
theorem z_made {s : Bool} {q : PV} {x k : Nat} (h : IsN q x k) (hk : k ≤ 1000000) : Gv.Fn Tryz.prog 95 [.raw (.bool s), q] (zc (sg s x)) := by
  have h0 := h
  obtain ⟨l, rfl, h1, h2, h3⟩ := h
  refine Fn.intro mixed vc_zed_made rfl ?_
  refine ok_call (n_Add h0 IsN.nil hk (by decide)) rfl rfl ?_
  refine ok_ite rfl ?_ ?_
  · rintro rfl
    refine ok_prim rfl (ok_prim rfl (ok_ret rfl ?_))
    rw [zc_sg]
    show PV.agg [.raw (.bool (decide (((((limbs 18446744073709551616 (x + 0)).map fun (n : Nat) => [PV.raw (.int .u64 (n : Int))]).length : Nat) : Int) > 0))), nat (x + 0)] = _
    rw [List.length_map, ← sz_pos]
    rfl
  · rintro rfl
    refine ok_ret rfl ?_
    rw [zc_sg]
    rfl
theorem z_good {p : PV} {z : Int} {k : Nat} (h : IsZ p z k) (hk : k ≤ 1000000) : Gv.Fn Tryz.prog 93 [p] (zc z) := by
  obtain ⟨s, l, rfl, h1, h2, h3⟩ := h
  refine Fn.intro mixed vc_zed_good rfl ?_
  refine ok_call (z_made ⟨l, rfl, h1, rfl, h3⟩ hk) rfl rfl (ok_ret rfl ?_)
  rw [h2]
  rfl
theorem z_Neg {p : PV} {z : Int} {k : Nat} (h : IsZ p z k) (hk : k ≤ 1000000) : Gv.Fn Tryz.prog 37 [p] (zc (-z)) := by
  obtain ⟨s, l, rfl, h1, h2, h3⟩ := h
  refine Fn.intro mixed vc_zed_Neg rfl ?_
  refine ok_prim rfl (ok_call (z_made ⟨l, rfl, h1, rfl, h3⟩ hk) rfl rfl (ok_ret rfl ?_))
  rw [sg_not, h2]
  rfl
theorem z_Mul {p q : PV} {x y : Int} {k k' : Nat} (h : IsZ p x k) (h' : IsZ q y k') (hk : k ≤ 400000) (hk' : k' ≤ 400000) : Gv.Fn Tryz.prog 32 [p, q] (zc (x * y)) := by
  obtain ⟨s, l, rfl, h1, h2, h3⟩ := h
  obtain ⟨s', l', rfl, h1', h2', h3'⟩ := h'
  refine Fn.intro mixed vc_zed_Mul rfl ?_
  refine ok_prim rfl (ok_call (n_Mul ⟨l, rfl, h1, rfl, h3⟩ ⟨l', rfl, h1', rfl, h3'⟩ (by omega) (by omega)) rfl rfl ?_)
  refine ok_call (z_made (IsN.nat (sz_mul (IsN.mk h1 h3).sz (IsN.mk h1' h3').sz)) (by omega)) rfl rfl (ok_ret rfl ?_)
  rw [sg_mul, h2, h2']
  rfl
/-- signs that are told -/
theorem zc_nat (z : Int) : IsN (nat z.natAbs) z.natAbs (zs z) := IsN.nat (Nat.le_refl _)
theorem z_Add {p q : PV} {x y : Int} {k k' : Nat} (h : IsZ p x k) (h' : IsZ q y k') (hk : k ≤ 400000) (hk' : k' ≤ 400000) : Gv.Fn Tryz.prog 28 [p, q] (zc (x + y)) := by
  have hx := h.zs
  have hy := h'.zs
  have h0 := h
  have h0' := h'
  obtain ⟨s, l, rfl, h1, h2, h3⟩ := h
  obtain ⟨s', l', rfl, h1', h2', h3'⟩ := h'
  refine Fn.intro mixed vc_zed_Add rfl ?_
  refine ok_call (z_good h0 (by omega)) rfl rfl (ok_call (z_good h0' (by omega)) rfl rfl (ok_prim rfl (ok_ite rfl (fun hs => ?_) (fun hs => ?_))))
  · refine ok_call (n_Add (zc_nat x) (zc_nat y) (by omega) (by omega)) rfl rfl ?_
    refine ok_call (z_made (IsN.nat (sz_add (a := k) (b := k') hx hy)) (by omega)) rfl rfl (ok_ret rfl ?_)
    have e : decide (x < 0) = decide (y < 0) := by simpa using hs
    rw [sg_add, sg_of, e, sg_of]
    rfl
  · have e : decide (x < 0) ≠ decide (y < 0) := by simpa using hs
    refine ok_call (n_Cmp (zc_nat x) (zc_nat y) (by omega) (by omega)) rfl rfl (ok_prim rfl (ok_ite rfl (fun hc => ?_) (fun hc => ?_)))
    · have hlt : x.natAbs < y.natAbs := by
        have : cmpI (x.natAbs : Nat) (y.natAbs : Nat) < 0 := by simpa using hc
        unfold cmpI at this
        split at this
        · omega
        · split at this <;> omega
      refine ok_call (n_Sub (zc_nat y) (zc_nat x) (by omega) (by omega) (by omega)) rfl rfl ?_
      refine ok_call (z_made (IsN.nat (k := k') (Nat.le_trans (sz_mono (Nat.sub_le _ _)) hy)) (by omega)) rfl rfl (ok_ret rfl ?_)
      rw [sg_sub' _ _ _ _ e (by omega), sg_of, sg_of]
      rfl
    · have hle : y.natAbs ≤ x.natAbs := by
        have : ¬ cmpI (x.natAbs : Nat) (y.natAbs : Nat) < 0 := by simpa using hc
        unfold cmpI at this
        split at this
        · omega
        · omega
      refine ok_call (n_Sub (zc_nat x) (zc_nat y) (by omega) (by omega) hle) rfl rfl ?_
      refine ok_call (z_made (IsN.nat (k := k) (Nat.le_trans (sz_mono (Nat.sub_le _ _)) hx)) (by omega)) rfl rfl (ok_ret rfl ?_)
      rw [sg_sub _ _ _ _ e hle, sg_of, sg_of]
      rfl
theorem z_Sub {p q : PV} {x y : Int} {k k' : Nat} (h : IsZ p x k) (h' : IsZ q y k') (hk : k ≤ 400000) (hk' : k' ≤ 400000) : Gv.Fn Tryz.prog 30 [p, q] (zc (x - y)) := by
  have h0 := h
  have h0' := h'
  have hy := zs_neg h'.zs
  obtain ⟨s, l, rfl, h1, h2, h3⟩ := h
  obtain ⟨s', l', rfl, h1', h2', h3'⟩ := h'
  refine Fn.intro mixed vc_zed_Sub rfl ?_
  refine ok_call (z_Neg h0' (by omega)) rfl rfl (ok_call (z_Add h0 (IsZ.zc hy) hk hk') rfl rfl (ok_ret rfl ?_))
  rw [Int.sub_eq_add_neg]
  rfl
theorem z_Of {v : Int} (h1 : -9223372036854775808 ≤ v) (h2 : v ≤ 9223372036854775807) : Gv.Fn Tryz.prog 40 [.raw (.int .i64 v)] (zc v) := by
  refine Fn.intro mixed vc_zed_Of rfl ?_
  refine ok_prim rfl (ok_ite rfl (fun hs => ?_) (fun hs => ?_))
  · have hv : v < 0 := by simpa using hs
    refine ok_prim rfl (ok_prim rfl (ok_prim rfl (ok_prim rfl ?_)))
    have e : IntKind.u64.wrap (IntKind.u64.wrap (IntKind.i64.wrap (0 - IntKind.i64.wrap (v + 1))) + 1) = ((v.natAbs : Nat) : Int) := by
      rw [IntWalk.i64_in (v + 1) (by omega), IntWalk.i64_in _ (by omega), IntKind.wrap_u64, IntKind.wrap_u64]
      omega
    refine ok_call (ps := [.raw (.int .u64 ((v.natAbs : Nat) : Int))]) (n_Of v.natAbs (by omega)) (by rw [← e]; rfl) rfl ?_
    refine ok_call (z_made (IsN.nat (sz_small (by omega))) (by decide)) rfl rfl (ok_ret rfl ?_)
    rw [sg_true, show -(v.natAbs : Int) = v by omega]
    rfl
  · have hv : 0 ≤ v := by simpa using hs
    refine ok_prim rfl ?_
    have e : IntKind.u64.wrap v = ((v.natAbs : Nat) : Int) := by
      rw [IntKind.wrap_u64]
      omega
    refine ok_call (ps := [.raw (.int .u64 ((v.natAbs : Nat) : Int))]) (n_Of v.natAbs (by omega)) (by rw [← e]; rfl) rfl ?_
    refine ok_call (z_made (IsN.nat (sz_small (by omega))) (by decide)) rfl rfl (ok_ret rfl ?_)
    rw [sg_false, show (v.natAbs : Int) = v by omega]
    rfl
end Go.Proofs.YtlpfbcilnfgaaaaGreatDoor


/- Texts of numbers in the engine's words: package nat's and the reference's Text and Parse, gessokeep.Nat. -/
namespace Gv
open Go Go.RowKit Gs
set_option linter.unusedVariables false

theorem text_ex (x : Nat) : ∃ s, IsText s x := by
  rcases Nat.eq_zero_or_pos x with rfl | hx
  · exact ⟨⟨#[48]⟩, by decide, by decide, by decide, by decide⟩
  · have hlt : x < 10 ^ x := Nat.lt_pow_self (by omega)
    obtain ⟨h1, h2, h3⟩ := dropZ (digs x x) (allDig_digs x x)
    rw [dec_digs, Nat.mod_eq_of_lt hlt] at h2
    generalize (digs x x).dropWhile (· == 48) = D at h1 h2 h3
    have hb : byt ⟨(D.map fun d => UInt8.ofNat d).toArray⟩ = D := by
      unfold byt
      simp only [List.map_map]
      have : ∀ d ∈ D, ((fun x : UInt8 => x.toNat) ∘ fun d => UInt8.ofNat d) d = d := by
        intro d hd
        have := List.all_eq_true.1 h1 d hd
        simp only [isDig, Bool.and_eq_true, decide_eq_true_eq] at this
        simp only [Function.comp, UInt8.toNat_ofNat']
        omega
      rw [List.map_congr_left this, List.map_id']
    refine ⟨⟨(D.map fun d => UInt8.ofNat d).toArray⟩, ?_, ?_, ?_, ?_⟩
    · rw [hb]; exact h1
    · rw [hb]; exact h2
    · rw [← byt_length, hb]
      rcases Nat.eq_zero_or_pos D.length with h0 | h0
      · rw [List.length_eq_zero_iff.1 h0] at h2
        rw [← h2] at hx
        exact absurd hx (by decide)
      · exact h0
    · rw [hb]
      intro h0
      refine absurd h0 (h3 ?_)
      rintro rfl
      rw [← h2] at hx
      exact absurd hx (by decide)
/-- the text of a number -/
noncomputable def txt (x : Nat) : ByteArray := Classical.choose (text_ex x)
theorem txt_is (x : Nat) : IsText (txt x) x := Classical.choose_spec (text_ex x)
theorem txt_eq {s : ByteArray} {x : Nat} (h : IsText s x) : s = txt x := h.unique (txt_is x)
theorem txt_size {x k : Nat} (h : sz x ≤ k) : (txt x).size ≤ 20 * k + 1 := by
  have h1 : x < 10 ^ (20 * k + 1) := by
    refine Nat.lt_of_lt_of_le (lt_sz x) (Nat.le_trans (Nat.pow_le_pow_right (by omega) h) (Nat.le_trans (Go.Proofs.YtlpfbcilnfgaaaaGreatDoor.pow_ten_k rfl) (Nat.pow_le_pow_right (by omega) (by omega))))
  exact (txt_is x).size_le h1 (by omega)

/-- a text of digits -/
def pOk (s : ByteArray) : Bool := decide (0 < s.size) && (gd (byt s) 0 != 48 || decide (s.size = 1)) && allDig (byt s)
def pV (s : ByteArray) : Nat := if pOk s then dec (byt s) else 0
def pE (s : ByteArray) : Int := if pOk s then 0 else 11
theorem pV_lt (s : ByteArray) : sz (pV s) ≤ s.size := by
  refine sz_le ?_
  unfold pV
  split
  · rename_i h
    unfold pOk at h
    simp only [Bool.and_eq_true] at h
    have := dec_lt h.2
    rw [byt_length] at this
    exact Nat.lt_of_lt_of_le this (Nat.pow_le_pow_left (by omega) _)
  · exact Nat.pow_pos (by omega)
theorem p_text {s : ByteArray} {x : Nat} (h : IsText s x) : pOk s = true ∧ pV s = x ∧ pE s = 0 := by
  have e : pOk s = true := by
    unfold pOk
    rw [h.1, decide_eq_true h.2.2.1]
    by_cases h0 : gd (byt s) 0 = 48
    · simp [h.2.2.2 h0]
    · simp [h0]
  refine ⟨e, ?_, ?_⟩
  · unfold pV; rw [if_pos e]; exact h.2.1
  · unfold pE; rw [if_pos e]
end Gv
namespace Go.Proofs.YtlpfbcilnfgaaaaGreatDoor
open Go.RowKit Gs Gv
set_option linter.unusedVariables false
theorem n_Text {p : PV} {x k : Nat} (h : IsN p x k) (hk : k ≤ 50000) : Gv.Fn Tryz.prog 116 [p] (.raw (.string (txt x))) := by
  refine Fn.of ⟨_, Tryz.func116, rfl, by kernel_rfl⟩ fun w P0 vs hl hr => ?_
  obtain ⟨a, rfl⟩ := one_list hl
  obtain ⟨A, n, c, l, rfl, h1, h2, h3⟩ := h.val (hr 0 _ _ rfl rfl)
  have hx : val 18446744073709551616 l < 10 ^ (20 * k) := by
    rw [h2]
    exact Nat.lt_of_lt_of_le (lt_sz x) (Nat.le_trans (Nat.pow_le_pow_right (by omega) h.sz) (pow_ten_k rfl))
  refine (nat_Text h1 (by omega) hx (by omega)).mono ?_
  rintro e w' ⟨s, rfl, hs, hb⟩
  rw [h2] at hs
  rw [txt_eq hs]
  exact ⟨_, rfl, .raw _, hb⟩
theorem r_Text {x k : Nat} (hk : sz x ≤ k) (hk2 : k ≤ 500) : Gv.Fn Tryz.prog 117 [r32 x] (.raw (.string (txt x))) := by
  refine Fn.of ⟨_, Tryz.func117, rfl, by kernel_rfl⟩ fun w P0 vs hl hr => ?_
  obtain ⟨a, rfl⟩ := one_list hl
  obtain ⟨A, n, c, rfl, h1⟩ := r32_val (hr 0 _ _ rfl rfl)
  have hlt : x < 18446744073709551616 ^ k := Nat.lt_of_lt_of_le (lt_sz x) (Nat.pow_le_pow_right (by omega) hk)
  have hx : x < 10 ^ (20 * k) := Nat.lt_of_lt_of_le hlt (pow_ten_k rfl)
  have hx2 : x < 4294967296 ^ (2 * k) := by rw [← pow64_32]; exact hlt
  refine (call_RText (CanR.of h1 hx2) (by omega) hx (by omega)).mono ?_
  rintro e w' ⟨s, rfl, hs, hb⟩
  rw [txt_eq hs]
  exact ⟨_, rfl, .raw _, hb⟩
theorem rep_nil64 (w : World) (P : Nat → Prop) : Rep w P (nat 0) (.slice none 0 0) := .nil none 0 (by omega)
theorem rep_nil32 (w : World) (P : Nat → Prop) : Rep w P (r32 0) (.slice none 0 0) := .nil none 0 (by omega)
theorem rep_two {w : World} {P : Nat → Prop} {p q : PV} {a b : Value} (h : Rep w P p a) (h' : Rep w P q b) : Rep w P (.tup [p, q]) (.tuple #[a, b]) := by
  refine .tup _ _ rfl fun j p hj => ?_
  match j, hj with
  | 0, hj => cases hj; exact h
  | 1, hj => cases hj; exact h'
theorem pOk_cases {s : ByteArray} (h0 : s.size ≠ 0) (hz : ¬(gd (byt s) 0 = 48 ∧ 1 < s.size)) : pOk s = allDig (byt s) ∧ (gd (byt s) 0 = 48 → s.size = 1) := by
  have hz2 : gd (byt s) 0 = 48 → s.size = 1 := fun h => by
    rcases Nat.lt_or_ge 1 s.size with h1 | h1
    · exact absurd ⟨h, h1⟩ hz
    · omega
  refine ⟨?_, hz2⟩
  unfold pOk
  rw [decide_eq_true (show 0 < s.size by omega)]
  by_cases h : gd (byt s) 0 = 48
  · simp [hz2 h]
  · simp [h]
theorem pOk_empty {s : ByteArray} (h : s.size = 0) : pOk s = false := by unfold pOk; simp [h]
theorem pOk_zero {s : ByteArray} (h : gd (byt s) 0 = 48 ∧ 1 < s.size) : pOk s = false := by
  unfold pOk
  rw [h.1]
  simp [show ¬ s.size = 1 by omega]
theorem n_Parse {s : ByteArray} (hs : s.size ≤ 20000) : Gv.Fn Tryz.prog 113 [.raw (.string s)] (.tup [nat (pV s), .raw (.int .i64 (pE s))]) := by
  refine Fn.of ⟨_, Tryz.func113, rfl, by kernel_rfl⟩ fun w P0 vs hl hr => ?_
  obtain ⟨a, rfl⟩ := one_list hl
  have := hr 0 _ _ rfl rfl
  cases this
  have hbad : pOk s = false → pV s = 0 ∧ pE s = 11 := fun h => by unfold pV pE; rw [h]; exact ⟨rfl, rfl⟩
  by_cases h0 : s.size = 0
  · refine (nat_Parse_empty h0).mono ?_
    rintro e w' ⟨rfl, rfl⟩
    obtain ⟨e1, e2⟩ := hbad (pOk_empty h0)
    rw [e1, e2]
    exact ⟨_, rfl, rep_two (rep_nil64 _ _) (.raw _), Below.refl _ _⟩
  · by_cases hz : gd (byt s) 0 = 48 ∧ 1 < s.size
    · refine (nat_Parse_zero hz.2 (by omega) hz.1).mono ?_
      rintro e w' ⟨rfl, rfl⟩
      obtain ⟨e1, e2⟩ := hbad (pOk_zero hz)
      rw [e1, e2]
      exact ⟨_, rfl, rep_two (rep_nil64 _ _) (.raw _), Below.refl _ _⟩
    · obtain ⟨hp, hz2⟩ := pOk_cases h0 hz
      refine (nat_Parse_ok (by omega) (by omega) hz2).mono ?_
      rintro e w' ⟨A1, n1, c1, rfl, h1, hb⟩
      refine ⟨_, rfl, ?_, hb⟩
      cases hd : allDig (byt s) with
      | true =>
        obtain ⟨e1, e2⟩ := parse_good hd
        rw [e1] at h1
        rw [e2]
        unfold pV pE
        rw [hp, hd]
        exact rep_two (row_rep (h1.rd.mono fun b hb => .inr hb)) (.raw _)
      | false =>
        obtain ⟨e1, e2⟩ := parse_bad hd
        rw [e1] at h1
        rw [e2]
        unfold pV pE
        rw [hp, hd]
        exact rep_two (row_rep (h1.rd.mono fun b hb => .inr hb)) (.raw _)
theorem r_Parse {s : ByteArray} (hs : s.size ≤ 1000) : Gv.Fn Tryz.prog 114 [.raw (.string s)] (.tup [r32 (pV s), .raw (.int .i64 (pE s))]) := by
  refine Fn.of ⟨_, Tryz.func114, rfl, by kernel_rfl⟩ fun w P0 vs hl hr => ?_
  obtain ⟨a, rfl⟩ := one_list hl
  have := hr 0 _ _ rfl rfl
  cases this
  have hbad : pOk s = false → pV s = 0 ∧ pE s = 11 := fun h => by unfold pV pE; rw [h]; exact ⟨rfl, rfl⟩
  by_cases h0 : s.size = 0
  · refine (ref_Parse_empty h0).mono ?_
    rintro e w' ⟨rfl, rfl⟩
    obtain ⟨e1, e2⟩ := hbad (pOk_empty h0)
    rw [e1, e2]
    exact ⟨_, rfl, rep_two (rep_nil32 _ _) (.raw _), Below.refl _ _⟩
  · by_cases hz : gd (byt s) 0 = 48 ∧ 1 < s.size
    · refine (ref_Parse_zero hz.2 (by omega) hz.1).mono ?_
      rintro e w' ⟨rfl, rfl⟩
      obtain ⟨e1, e2⟩ := hbad (pOk_zero hz)
      rw [e1, e2]
      exact ⟨_, rfl, rep_two (rep_nil32 _ _) (.raw _), Below.refl _ _⟩
    · obtain ⟨hp, hz2⟩ := pOk_cases h0 hz
      refine (ref_Parse_okF (by omega) (Nat.le_refl _) hs hz2).mono ?_
      rintro e w' ⟨r, rfl, h1, hb⟩
      refine ⟨_, rfl, rep_two (.mono ?_ fun b hb => .inr hb) ?_, hb⟩
      · have := CanF.rep h1
        unfold pV
        rw [hp]
        exact this
      · have e : parseE (byt s) = pE s := by unfold parseE pE; rw [hp]
        rw [e]
        exact .raw _
theorem k_Nat {l : List Nat} (h : Lt 18446744073709551616 l) (hk : l.length ≤ 1000000) : Gv.Fn Tryz.prog 97 [u64s l] (u64s l) := by
  refine Fn.of ⟨_, Tryz.func97, rfl, by kernel_rfl⟩ fun w P0 vs hl hr => ?_
  obtain ⟨a, rfl⟩ := one_list hl
  obtain ⟨A, n, c, rfl, h1⟩ := rep_row (hr 0 _ _ rfl rfl)
  have hlen := h1.len
  simp only at hlen
  refine (keep_NatF ⟨h1, h⟩ (by omega)).mono ?_
  rintro e w' ⟨A1, n1, c1, rfl, h2, hb⟩
  exact ⟨_, rfl, row_rep (h2.rd.mono fun b hb => .inr hb), hb⟩
end Go.Proofs.YtlpfbcilnfgaaaaGreatDoor


/- Package zed's contracts, the rest: Sign Cmp Good Small Text Parse DivMod. -/
namespace Gv
open Go Go.RowKit Gs
set_option linter.unusedVariables false
/-- texts of whole numbers -/
noncomputable def ztxt (z : Int) : ByteArray := if z < 0 then (⟨#[45]⟩ : ByteArray) ++ txt z.natAbs else txt z.natAbs
theorem ztxt_neg {z : Int} (h : z < 0) : ztxt z = (⟨#[45]⟩ : ByteArray) ++ txt z.natAbs := if_pos h
theorem ztxt_pos {z : Int} (h : ¬ z < 0) : ztxt z = txt z.natAbs := if_neg h
/-- does a text begin with a minus; what stands behind it -/
def zN (s : ByteArray) : Bool := decide (0 < s.size) && (gd (byt s) 0 == 45)
def zT (s : ByteArray) : ByteArray := if zN s = true then s.extract 1 s.size else s
def zOk (s : ByteArray) : Bool := decide (s.size ≤ 20000) && (pOk (zT s) && !(zN s && decide (pV (zT s) = 0)))
def zV (s : ByteArray) : Int := if zOk s = true then sg (zN s) (pV (zT s)) else 0
def zE (s : ByteArray) : Int := if 20000 < s.size then 2 else if zOk s = true then 0 else 11
theorem zc_zero : zc 0 = .agg [.raw (.bool false), .sl []] := rfl
theorem zT_size (s : ByteArray) : (zT s).size ≤ s.size := by
  unfold zT
  split
  · rw [ByteArray.size_extract]; omega
  · exact Nat.le_refl _
def inS (z : Int) : Bool := decide (-9223372036854775808 ≤ z) && decide (z ≤ 9223372036854775807)
def smV (z : Int) : Int := if inS z = true then z else 0
theorem limbs_big {x : Nat} (h : 18446744073709551616 ≤ x) : 1 < (limbs 18446744073709551616 x).length := by
  have h1 : ¬ (limbs 18446744073709551616 x).length ≤ 1 := fun hle => by
    have h2 := lt_sz x
    unfold sz at h2
    have h3 : (18446744073709551616 : Nat) ^ (limbs 18446744073709551616 x).length ≤ 18446744073709551616 ^ 1 := Nat.pow_le_pow_right (by omega) hle
    rw [Nat.pow_one] at h3
    omega
  omega
theorem limbs_1 {x : Nat} (h0 : 0 < x) (h : x < 18446744073709551616) : limbs 18446744073709551616 x = [x] := by
  have h1 := limbs_lt B64 x
  have h2 : val 18446744073709551616 (limbs 18446744073709551616 x) = x := val_limbs B64 x
  have h3 : (limbs 18446744073709551616 x).length ≤ 1 := sz_small h
  have h4 := limbs_len_zero B64 x
  generalize limbs 18446744073709551616 x = l at *
  match l, h3 with
  | [], _ => exact absurd (h4.1 rfl) (by omega)
  | [a], _ =>
    have : val 18446744073709551616 [a] = a := by simp [val]
    rw [this] at h2
    rw [h2]
theorem rowP_len (k : IntKind) (l : List Nat) : Prim.ev .len [rowP k l] = some (.raw (.int .i64 (l.length : Nat))) := by
  unfold rowP
  simp [Prim.ev]
theorem nat_len (x : Nat) : Prim.ev .len [nat x] = some (.raw (.int .i64 (sz x : Nat))) := rowP_len _ _
theorem sz_eq0 {x : Nat} : sz x = 0 ↔ x = 0 := limbs_len_zero B64 x
end Gv
namespace Go.Proofs.YtlpfbcilnfgaaaaGreatDoor
open Go.RowKit Gs Gv
set_option linter.unusedVariables false
theorem z_below (z : Int) : Gv.Fn Tryz.prog 108 [zc z] (.raw (.bool (decide (z < 0)))) := Fn.intro mixed vc_zed_number_below rfl (ok_ret rfl rfl)
theorem z_nought (z : Int) : Gv.Fn Tryz.prog 109 [zc z] (.raw (.bool (decide (z = 0)))) := by
  refine Fn.intro mixed vc_zed_number_nought rfl (ok_prim (nat_len z.natAbs) (ok_prim rfl (ok_ret ?_ rfl)))
  show PV.raw (.bool (((sz z.natAbs : Nat) : Int) == 0)) = _
  congr 2
  have := @sz_eq0 z.natAbs
  rw [Bool.eq_iff_iff, decide_eq_true_iff, beq_iff_eq]
  omega
theorem z_Sign {p : PV} {z : Int} {k : Nat} (h : IsZ p z k) (hk : k ≤ 1000000) : Gv.Fn Tryz.prog 36 [p] (.raw (.int .i64 z.sign)) := by
  have h0 := h
  obtain ⟨s, l, rfl, h1, h2, h3⟩ := h
  refine Fn.intro mixed vc_zed_Sign rfl ?_
  refine ok_call (z_good h0 hk) rfl rfl (ok_call (z_below z) rfl rfl (ok_ite rfl (fun hs => ?_) (fun hs => ?_)))
  · refine ok_ret ?_ rfl
    have : z < 0 := by simpa using hs
    rw [Int.sign_eq_neg_one_of_neg this]
    rfl
  · refine ok_call (z_nought z) rfl rfl (ok_ite rfl (fun hn => ?_) (fun hn => ?_))
    · refine ok_ret ?_ rfl
      have : z = 0 := by simpa using hn
      rw [this]
      rfl
    · refine ok_ret ?_ rfl
      have h5 : ¬ z < 0 := by simpa using hs
      have h6 : ¬ z = 0 := by simpa using hn
      rw [Int.sign_eq_one_of_pos (by omega)]
      rfl
theorem z_Cmp {p q : PV} {x y : Int} {k k' : Nat} (h : IsZ p x k) (h' : IsZ q y k') (hk : k ≤ 400000) (hk' : k' ≤ 400000) : Gv.Fn Tryz.prog 34 [p, q] (.raw (.int .i64 (x - y).sign)) := by
  have h0 := h
  have h0' := h'
  have hb := zs_sub h.zs h'.zs
  obtain ⟨s, l, rfl, h1, h2, h3⟩ := h
  obtain ⟨s', l', rfl, h1', h2', h3'⟩ := h'
  exact Fn.intro mixed vc_zed_Cmp rfl (ok_call (z_Sub h0 h0' hk hk') rfl rfl (ok_call (z_Sign (IsZ.zc hb) (by omega)) rfl rfl (ok_ret rfl rfl)))
theorem z_Good {s : Bool} {l : List Nat} (h : Lt 18446744073709551616 l) (hk : l.length ≤ 1000000) : Gv.Fn Tryz.prog 39 [.agg [.raw (.bool s), u64s l]] (.raw (.bool (goodB l && (!s || decide (0 < l.length))))) := by
  refine Fn.intro mixed vc_zed_Good rfl (ok_call (n_Good h hk) rfl rfl (ok_ite rfl (fun hs => ?_) (fun hs => ?_)))
  · rw [hs]
    refine ok_prim rfl (ok_ite rfl (fun hn => ?_) (fun hn => ?_))
    · rw [hn]
      exact ok_ret rfl rfl
    · refine ok_prim (rowP_len _ _) (ok_prim rfl (ok_ret ?_ rfl))
      rw [hn]
      show PV.raw (.bool (decide (((l.length : Nat) : Int) > 0))) = PV.raw (.bool (true && (false || decide (0 < l.length))))
      simp
  · rw [hs]
    exact ok_ret rfl rfl
theorem z_Text {p : PV} {z : Int} {k : Nat} (h : IsZ p z k) (hk : k ≤ 50000) : Gv.Fn Tryz.prog 45 [p] (.raw (.string (ztxt z))) := by
  have h0 := h
  obtain ⟨s, l, rfl, h1, h2, h3⟩ := h
  have ha : val 18446744073709551616 l = z.natAbs := by rw [← h2, sg_abs]
  have hn : IsN (u64s l) z.natAbs k := ⟨l, rfl, h1, ha, h3⟩
  refine Fn.intro mixed vc_zed_Text rfl ?_
  refine ok_call (z_Sign h0 (by omega)) rfl rfl (ok_prim rfl (ok_ite rfl (fun hs => ?_) (fun hs => ?_)))
  · have hz : z < 0 := by
      have : z.sign < 0 := by simpa using hs
      exact Int.sign_neg_iff.1 this
    refine ok_call (n_Text hn hk) rfl rfl (ok_prim (r := .raw (.string (ztxt z))) ?_ (ok_ret rfl rfl))
    have hsz := txt_size (show sz z.natAbs ≤ k from h0.zs)
    rw [ztxt_neg hz]
    have e : (⟨#[45]⟩ : ByteArray).size + (txt z.natAbs).size ≤ 9223372036854775807 := by
      have : (⟨#[45]⟩ : ByteArray).size = 1 := rfl
      omega
    show ((if (⟨#[45]⟩ : ByteArray).size + (txt z.natAbs).size ≤ 9223372036854775807 then some (Value.string ((⟨#[45]⟩ : ByteArray) ++ txt z.natAbs)) else none).map PV.raw) = _
    rw [if_pos e]
    rfl
  · have hz : ¬ z < 0 := fun hz => by
      have : ¬ z.sign < 0 := by simpa using hs
      exact this (Int.sign_neg_iff.2 hz)
    refine ok_call (n_Text hn hk) rfl rfl (ok_ret ?_ rfl)
    rw [ztxt_pos hz]
    rfl
theorem z_DivMod_zero {p q : PV} {x : Int} {k k' : Nat} (h : IsZ p x k) (h' : IsZ q 0 k') (hk : k ≤ 400000) (hk' : k' ≤ 400000) : Gv.Fn Tryz.prog 21 [p, q] (.tup [zc 0, zc 0, .raw (.int .i64 12)]) := by
  have hx := h.zs
  have h0 := h
  have h0' := h'
  obtain ⟨s, l, rfl, h1, h2, h3⟩ := h
  obtain ⟨s', l', rfl, h1', h2', h3'⟩ := h'
  refine Fn.intro mixed vc_zed_DivMod rfl ?_
  refine ok_call (z_good h0 (by omega)) rfl rfl (ok_call (z_good h0' (by omega)) rfl rfl ?_)
  refine ok_call (n_DivMod_zero (zc_nat x) (zc_nat 0) (by omega) (by decide)) rfl rfl (ok_prim rfl (ok_ite rfl (fun hs => ?_) (fun hs => absurd hs (by decide))))
  exact ok_ret rfl rfl
theorem zs_zq {x y : Int} {k : Nat} (h : zs x ≤ k) : zs (zq x y) ≤ k + 1 :=
  sz_le (zq_lt x y (by omega) (Nat.lt_of_lt_of_le (lt_sz _) (Nat.pow_le_pow_right (by omega) h)))
theorem zs_zr {x y : Int} {k : Nat} (hy : y ≠ 0) (h : zs y ≤ k) : zs (zr x y) ≤ k := Nat.le_trans (sz_mono (Nat.le_of_lt (zr_abs x hy))) h
theorem z_DivMod {p q : PV} {x y : Int} {k k' : Nat} (h : IsZ p x k) (h' : IsZ q y k') (hk : k ≤ 100000) (hk' : k' ≤ 100000) (hy0 : y ≠ 0) : Gv.Fn Tryz.prog 21 [p, q] (.tup [zc (zq x y), zc (zr x y), .raw (.int .i64 0)]) := by
  have hx := h.zs
  have hy := h'.zs
  have h0 := h
  have h0' := h'
  obtain ⟨s, l, rfl, h1, h2, h3⟩ := h
  obtain ⟨s', l', rfl, h1', h2', h3'⟩ := h'
  have hq : sz (x.natAbs / y.natAbs) ≤ k := Nat.le_trans (sz_mono (Nat.div_le_self _ _)) hx
  have hq2 : ∀ s, zs (sg s (x.natAbs / y.natAbs)) ≤ k := fun s => by unfold zs; rw [sg_abs]; exact hq
  have hq3 := zs_zq (y := y) hx
  have h1s : zs 1 ≤ 1 := sz_small (by decide)
  -- the quotient is told; the rest
  have fin : ∀ {ρ : List PV} {i j n m : Nat} {sh : RSh}, ρ[i]? = some (zc x) → ρ[j]? = some (zc y) → ρ[n]? = some (zc (zq x y)) → ρ.length = m → sh = .one (.ag 2) →
      (VC.call 32 [.agg [.cel (.at n) 0, .cel (.at n) 1], .agg [.cel (.at j) 0, .cel (.at j) 1]] sh (.call 30 [.agg [.cel (.at i) 0, .cel (.at i) 1], .agg [.cel (.at m) 0, .cel (.at m) 1]] sh (.ret (.tup [.agg [.cel (.at n) 0, .cel (.at n) 1], .agg [.cel (.at (m + 1)) 0, .cel (.at (m + 1)) 1], .con (.int .i64 0)])))).ok Tryz.prog (· = .tup [zc (zq x y), zc (zr x y), .raw (.int .i64 0)]) ρ [] := by
    intro ρ i j n m sh hi hj hn hm hsh
    subst hsh
    have cell : ∀ {ρ : List PV} {i : Nat} {z : Int}, ρ[i]? = some (zc z) → den ρ (.agg [.cel (.at i) 0, .cel (.at i) 1]) = some (zc z) := by
      intro ρ i z h
      simp only [den, dens, h, zc]
      rfl
    have hi' : i < ρ.length := (List.getElem?_eq_some_iff.1 hi).1
    have hn' : n < ρ.length := (List.getElem?_eq_some_iff.1 hn).1
    refine ok_call (z_Mul (IsZ.zc hq3) (IsZ.zc hy) (by omega) (by omega)) ?_ rfl ?_
    · simp only [pvs, List.map_cons, List.map_nil, Gv.pv, cell hn, cell hj, Option.getD_some]
    have gm : (ρ ++ [zc (zq x y * y)])[m]? = some (zc (zq x y * y)) := by subst hm; simp
    have gi : (ρ ++ [zc (zq x y * y)])[i]? = some (zc x) := getElem?_app hi
    refine ok_call (z_Sub (IsZ.zc hx) (IsZ.zc (zs_mul hq3 hy)) (by omega) (by omega)) ?_ rfl ?_
    · simp only [pvs, List.map_cons, List.map_nil, Gv.pv, cell gi, cell gm, Option.getD_some]
    have gn : (ρ ++ [zc (zq x y * y)] ++ [zc (x - zq x y * y)])[n]? = some (zc (zq x y)) := getElem?_app (getElem?_app hn)
    have gm1 : (ρ ++ [zc (zq x y * y)] ++ [zc (x - zq x y * y)])[m + 1]? = some (zc (x - zq x y * y)) := by subst hm; simp
    refine ok_ret (r := .tup [zc (zq x y), zc (zr x y), .raw (.int .i64 0)]) rfl ?_
    simp only [Gv.pv, den, dens, gn, gm1]
    rfl
  refine Fn.intro mixed vc_zed_DivMod rfl ?_
  refine ok_call (z_good h0 (by omega)) rfl rfl (ok_call (z_good h0' (by omega)) rfl rfl ?_)
  refine ok_call (n_DivMod (zc_nat x) (zc_nat y) (by omega) (by omega) (by omega)) rfl rfl (ok_prim rfl (ok_ite rfl (fun hs => absurd hs (by decide)) (fun _ => ?_)))
  refine ok_prim rfl (ok_call (z_made (IsN.nat hq) (by omega)) rfl rfl (ok_prim rfl (ok_ite rfl (fun hs => ?_) (fun hs => ?_))))
  · refine ok_prim (nat_len _) (ok_prim rfl (ok_ite rfl (fun hr => ?_) (fun hr => ?_)))
    · have hr' : 0 < x.natAbs % y.natAbs := by
        have h9 : ((sz (x.natAbs % y.natAbs) : Nat) : Int) > 0 := by simpa using hr
        have := @sz_eq0 (x.natAbs % y.natAbs)
        omega
      refine ok_call (z_Of (v := 1) (by decide) (by decide)) rfl rfl (ok_call (z_Sub (IsZ.zc (hq2 _)) (IsZ.zc h1s) (by omega) (by omega)) rfl rfl ?_)
      refine fin (i := 2) (j := 3) (n := 12) (m := 13) rfl rfl ?_ rfl rfl
      have : zq x y = sg (decide (x < 0) != decide (y < 0)) (x.natAbs / y.natAbs) - 1 := by
        unfold zq
        rw [if_pos ⟨hs, hr'⟩]
      rw [this]
      rfl
    · have hr' : ¬ 0 < x.natAbs % y.natAbs := by
        have h9 : ¬ ((sz (x.natAbs % y.natAbs) : Nat) : Int) > 0 := by simpa using hr
        have := @sz_eq0 (x.natAbs % y.natAbs)
        omega
      refine fin (i := 2) (j := 3) (n := 7) (m := 11) rfl rfl ?_ rfl rfl
      have : zq x y = sg (decide (x < 0) != decide (y < 0)) (x.natAbs / y.natAbs) := by
        unfold zq
        rw [if_neg (fun h => hr' h.2), Int.sub_zero]
      rw [this]
      rfl
  · refine fin (i := 2) (j := 3) (n := 7) (m := 9) rfl rfl ?_ rfl rfl
    have : zq x y = sg (decide (x < 0) != decide (y < 0)) (x.natAbs / y.natAbs) := by
      unfold zq
      rw [if_neg (fun h => by rw [h.1] at hs; cases hs), Int.sub_zero]
    rw [this]
    rfl
set_option maxHeartbeats 4000000 in
theorem z_Small {p : PV} {z : Int} {k : Nat} (h : IsZ p z k) (hk : k ≤ 400000) : Gv.Fn Tryz.prog 41 [p] (.tup [.raw (.int .i64 (smV z)), .raw (.bool (inS z))]) := by
  have h0 := h
  obtain ⟨s, l, rfl, h1, h2, h3⟩ := h
  refine Fn.intro mixed vc_zed_Small rfl ?_
  refine ok_call (z_good h0 (by omega)) rfl rfl (ok_prim (nat_len z.natAbs) (ok_prim rfl (ok_ite rfl (fun hs => ?_) (fun hs => ?_))))
  · have hz : z = 0 := by
      have h9 : ((sz z.natAbs : Nat) : Int) = 0 := by simpa using hs
      have := @sz_eq0 z.natAbs
      omega
    subst hz
    exact ok_ret rfl rfl
  have hz : z ≠ 0 := fun e => by
    have h9 : ¬ ((sz z.natAbs : Nat) : Int) = 0 := by simpa using hs
    have := @sz_eq0 z.natAbs
    omega
  have hno : inS z = false → smV z = 0 := fun e => by unfold smV; rw [if_neg (by rw [e]; decide)]
  have hyes : inS z = true → smV z = z := fun e => by unfold smV; rw [if_pos e]
  refine ok_prim (nat_len z.natAbs) (ok_prim rfl (ok_ite rfl (fun hl => ?_) (fun hl => ?_)))
  · try simp only [List.cons_append, List.nil_append]
    have h9 : ((sz z.natAbs : Nat) : Int) > 1 := by simpa using hl
    have h8 : inS z = false := by
      rcases Nat.lt_or_ge z.natAbs 18446744073709551616 with h | h
      · have := sz_small h; omega
      · unfold inS
        rw [Bool.and_eq_false_iff, decide_eq_false_iff_not, decide_eq_false_iff_not]
        omega
    rw [hno h8, h8]
    exact ok_ret rfl rfl
  have h9 : ¬ ((sz z.natAbs : Nat) : Int) > 1 := by simpa using hl
  have hlt : z.natAbs < 18446744073709551616 := by
    rcases Nat.lt_or_ge z.natAbs 18446744073709551616 with h | h
    · exact h
    · have := limbs_big h
      unfold sz at h9
      omega
  have hn : nat z.natAbs = .sl [[.raw (.int .u64 (z.natAbs : Nat))]] := by
    unfold nat
    rw [limbs_1 (by omega) hlt]
    rfl
  have hidx : Prim.ev (.idx 1) [nat z.natAbs, .raw (.int .i64 0)] = some (.ref [.raw (.int .u64 (z.natAbs : Nat))]) := by rw [hn]; rfl
  refine ok_prim hidx (ok_prim rfl (ok_prim rfl (ok_ite rfl (fun ha => ?_) (fun ha => ?_))))
  · try simp only [List.cons_append, List.nil_append]
    have h7 : (z.natAbs : Int) > 9223372036854775808 := by simpa using ha
    have h8 : inS z = false := by
      unfold inS
      rw [Bool.and_eq_false_iff, decide_eq_false_iff_not, decide_eq_false_iff_not]
      omega
    rw [hno h8, h8]
    exact ok_ret rfl rfl
  have h7 : ¬ (z.natAbs : Int) > 9223372036854775808 := by simpa using ha
  have e64 : ∀ n : Int, IntKind.i64.wrap n = IntKind.i64.wrap n := fun _ => rfl
  refine ok_prim hidx (ok_prim rfl (ok_prim rfl (ok_ite rfl (fun hb => ?_) (fun hb => ?_))))
  · try simp only [List.cons_append, List.nil_append]
    have h6 : (z.natAbs : Int) = 9223372036854775808 := by simpa using hb
    refine ok_prim rfl (ok_ite rfl (fun hc => ?_) (fun hc => ?_))
    · try simp only [List.cons_append, List.nil_append]
      have h5 : ¬ z < 0 := by simpa using hc
      have h8 : inS z = false := by
        unfold inS
        rw [Bool.and_eq_false_iff, decide_eq_false_iff_not, decide_eq_false_iff_not]
        omega
      rw [hno h8, h8]
      exact ok_ret rfl rfl
    · try simp only [List.cons_append, List.nil_append]
      have h5 : z < 0 := by simpa using hc
      have h8 : inS z = true := by
        unfold inS
        rw [Bool.and_eq_true, decide_eq_true_iff, decide_eq_true_iff]
        omega
      have h4 : z = -9223372036854775808 := by omega
      refine ok_prim hidx (ok_prim rfl (ok_prim rfl (ok_ite rfl (fun _ => ?_) (fun hd => ?_))))
      · have : smV z = -9223372036854775808 := by rw [hyes h8, h4]
        rw [this, h8]
        exact ok_ret rfl rfl
      · exact absurd h6 (by simpa using hd)
  · try simp only [List.cons_append, List.nil_append]
    have h6 : ¬ (z.natAbs : Int) = 9223372036854775808 := by simpa using hb
    have h8 : inS z = true := by
      unfold inS
      rw [Bool.and_eq_true, decide_eq_true_iff, decide_eq_true_iff]
      omega
    refine ok_prim hidx (ok_prim rfl (ok_prim rfl (ok_ite rfl (fun hd => ?_) (fun _ => ?_))))
    · exact absurd (by simpa using hd) h6
    refine ok_ite rfl (fun hc => ?_) (fun hc => ?_)
    · try simp only [List.cons_append, List.nil_append]
      have h5 : z < 0 := by simpa using hc
      refine ok_prim hidx (ok_prim rfl (ok_prim rfl (ok_prim rfl (ok_ret ?_ rfl))))
      try simp only [List.cons_append, List.nil_append]
      rw [hyes h8, h8]
      show PV.tup [.raw (.int .i64 (IntKind.i64.wrap (0 - IntKind.i64.wrap ((z.natAbs : Nat) : Int)))), .raw (.bool true)] = _
      rw [IntWalk.i64_in ((z.natAbs : Nat) : Int) (by omega), IntWalk.i64_in _ (by omega)]
      congr 4
      omega
    · try simp only [List.cons_append, List.nil_append]
      have h5 : ¬ z < 0 := by simpa using hc
      refine ok_prim hidx (ok_prim rfl (ok_prim rfl (ok_ret ?_ rfl)))
      try simp only [List.cons_append, List.nil_append]
      rw [hyes h8, h8]
      show PV.tup [.raw (.int .i64 (IntKind.i64.wrap ((z.natAbs : Nat) : Int))), .raw (.bool true)] = _
      rw [IntWalk.i64_in ((z.natAbs : Nat) : Int) (by omega)]
      congr 4
      omega
end Go.Proofs.YtlpfbcilnfgaaaaGreatDoor


/- Package zed's Parse. -/
namespace Gv
open Go Go.RowKit Gs
set_option linter.unusedVariables false
theorem str_ne (s : ByteArray) : (!(s.toList == (⟨#[]⟩ : ByteArray).toList)) = decide (0 < s.size) := by
  rw [ByteArray.toList_eq, ByteArray.toList_eq]
  have e : s.size = s.data.toList.length := rfl
  rw [e]
  cases s.data.toList with
  | nil => rfl
  | cons a l => simp
theorem six0 {s : ByteArray} (h : 0 < s.size) : Prim.ev .six [.raw (.string s), .raw (.int .i64 0)] = some (.raw (.int .u8 (gd (byt s) 0 : Nat))) := by
  have h1 : s[0]? = some (s[0]'h) := getElem?_pos _ _ _
  have h2 := byt_get s 0 h
  show (match s[0]? with
    | some b => some (PV.raw (.int .u8 (b.toNat : Int)))
    | none => none) = _
  rw [h1, ← h2]
theorem ssl1 {s : ByteArray} (h : 0 < s.size) : Prim.ev (.ssl true false) [.raw (.string s), .raw (.int .i64 1)] = some (.raw (.string (s.extract 1 s.size))) := by
  show (if 1 ≤ s.size ∧ s.size ≤ s.size then some (PV.raw (.string (s.extract 1 s.size))) else none) = _
  rw [if_pos ⟨h, Nat.le_refl _⟩]
theorem zOk_bad {s : ByteArray} (hs : s.size ≤ 20000) (h : pOk (zT s) = false) : zV s = 0 ∧ zE s = 11 ∧ pE (zT s) = 11 := by
  have e : zOk s = false := by unfold zOk; rw [h]; simp
  unfold zV zE pE
  rw [e, h, if_neg (show ¬ 20000 < s.size by omega)]
  exact ⟨rfl, rfl, rfl⟩
theorem zOk_nil {s : ByteArray} (hs : s.size ≤ 20000) (hn : zN s = true) (h : pV (zT s) = 0) : zV s = 0 ∧ zE s = 11 := by
  have e : zOk s = false := by unfold zOk; rw [hn, h]; simp
  unfold zV zE
  rw [e, if_neg (show ¬ 20000 < s.size by omega)]
  exact ⟨rfl, rfl⟩
theorem zOk_good {s : ByteArray} (hs : s.size ≤ 20000) (h : pOk (zT s) = true) (hn : ¬ (zN s = true ∧ pV (zT s) = 0)) : zV s = sg (zN s) (pV (zT s)) ∧ zE s = 0 ∧ pE (zT s) = 0 := by
  have e : zOk s = true := by
    unfold zOk
    rw [h, decide_eq_true hs]
    cases hN : zN s
    · simp
    · have : ¬ pV (zT s) = 0 := fun e => hn ⟨hN, e⟩
      simp [this]
  unfold zV zE pE
  rw [e, h, if_neg (show ¬ 20000 < s.size by omega)]
  exact ⟨rfl, rfl, rfl⟩
theorem zOk_long {s : ByteArray} (hs : 20000 < s.size) : zV s = 0 ∧ zE s = 2 := by
  have e : zOk s = false := by unfold zOk; rw [decide_eq_false (show ¬ s.size ≤ 20000 by omega)]; rfl
  unfold zV zE
  rw [e, if_pos hs]
  exact ⟨rfl, rfl⟩
end Gv
namespace Go.Proofs.YtlpfbcilnfgaaaaGreatDoor
open Go.RowKit Gs Gv
set_option linter.unusedVariables false
set_option maxHeartbeats 4000000 in
theorem z_Parse (s : ByteArray) : Gv.Fn Tryz.prog 42 [.raw (.string s)] (.tup [zc (zV s), .raw (.int .i64 (zE s))]) := by
  refine Fn.intro mixed vc_zed_Parse rfl (ok_prim rfl (ok_prim rfl (ok_ite rfl (fun hl => ?_) (fun hl => ?_))))
  · have h20 : 20000 < s.size := by
      have : (s.size : Int) > 20000 := by simpa using hl
      omega
    obtain ⟨e1, e2⟩ := zOk_long h20
    rw [e1, e2]
    exact ok_ret rfl rfl
  have h20 : s.size ≤ 20000 := by
    have : ¬ (s.size : Int) > 20000 := by simpa using hl
    omega
  have ht20 : (zT s).size ≤ 20000 := Nat.le_trans (zT_size s) h20
  clear hl
  -- what is behind the reading
  have hmade : ∀ n, Gv.Fn Tryz.prog 95 [.raw (.bool n), nat (pV (zT s))] (zc (sg n (pV (zT s)))) := fun n => z_made (IsN.nat (pV_lt _)) (by omega)
  have hE : (pE (zT s) == 0) = pOk (zT s) := by unfold pE; cases pOk (zT s) <;> rfl
  have hE' : (pE (zT s) != 0) = !pOk (zT s) := by unfold pE; cases pOk (zT s) <;> rfl
  have hlen : (((sz (pV (zT s)) : Nat) : Int) == 0) = decide (pV (zT s) = 0) := by
    rw [Bool.eq_iff_iff, beq_iff_eq, decide_eq_true_iff]
    have := @sz_eq0 (pV (zT s))
    omega
  refine ok_prim (r := .raw (.bool (decide (0 < s.size)))) (by rw [← str_ne]; rfl) (ok_ite rfl (fun h0 => ?_) (fun h0 => ?_))
  · have h0' : 0 < s.size := by simpa using h0
    refine ok_prim (six0 h0') (ok_prim rfl (ok_ite (t := zN s) ?_ (fun hn => ?_) (fun hn => ?_)))
    · show PV.raw (.bool (((gd (byt s) 0 : Nat) : Int) == 45)) = _
      unfold zN
      rw [h0, Bool.true_and]
      congr 2
      rw [Bool.eq_iff_iff, beq_iff_eq, beq_iff_eq]
      omega
    · have hN : (((gd (byt s) 0 : Nat) : Int) == 45) = true := by
        unfold zN at hn
        rw [h0, Bool.true_and, beq_iff_eq] at hn
        rw [hn]
        rfl
      have hT : zT s = s.extract 1 s.size := if_pos hn
      refine ok_prim (ssl1 h0') ?_
      rw [← hT]
      refine ok_call (n_Parse ht20) rfl rfl (ok_prim rfl (ok_ite (t := pOk (zT s)) (by rw [← hE]; rfl) (fun hp => ?_) (fun hp => ?_)))
      · refine ok_ite (t := true) (by rw [← hN]; rfl) (fun _ => ?_) (fun h => by cases h)
        refine ok_prim (nat_len _) (ok_prim rfl (ok_ite (t := decide (pV (zT s) = 0)) (by rw [← hlen]; rfl) (fun hz => ?_) (fun hz => ?_)))
        · obtain ⟨e1, e2⟩ := zOk_nil h20 hn (by simpa using hz)
          rw [e1, e2]
          exact ok_ret rfl rfl
        · obtain ⟨e1, e2, e3⟩ := zOk_good h20 hp (fun h => by simp [h.2] at hz)
          refine ok_prim rfl (ok_ite (t := false) (by rw [← Bool.not_true, ← hp, ← hE']; rfl) (fun h => by cases h) (fun _ => ?_))
          rw [e1, e2, hn]
          exact ok_call (hmade true) (by rw [← hN]; rfl) rfl (ok_ret rfl rfl)
      · obtain ⟨e1, e2, e3⟩ := zOk_bad h20 hp
        refine ok_prim rfl (ok_ite (t := true) (by rw [← Bool.not_false, ← hp, ← hE']; rfl) (fun _ => ?_) (fun h => by cases h))
        rw [e1, e2]
        refine ok_ret rfl ?_
        rw [← e3]
        rfl
    · have hN : (((gd (byt s) 0 : Nat) : Int) == 45) = false := by
        unfold zN at hn
        rw [h0, Bool.true_and, beq_eq_false_iff_ne] at hn
        rw [beq_eq_false_iff_ne]
        omega
      have hT : zT s = s := if_neg (by rw [hn]; decide)
      have hP : Gv.Fn Tryz.prog 113 [.raw (.string s)] (.tup [nat (pV (zT s)), .raw (.int .i64 (pE (zT s)))]) := by
        rw [hT]
        exact n_Parse h20
      refine ok_call hP rfl rfl (ok_prim rfl (ok_ite (t := pOk (zT s)) (by rw [← hE]; rfl) (fun hp => ?_) (fun hp => ?_)))
      · refine ok_ite (t := false) (by rw [← hN]; rfl) (fun h => by cases h) (fun _ => ?_)
        obtain ⟨e1, e2, e3⟩ := zOk_good h20 hp (fun h => by rw [h.1] at hn; cases hn)
        refine ok_prim rfl (ok_ite (t := false) (by rw [← Bool.not_true, ← hp, ← hE']; rfl) (fun h => by cases h) (fun _ => ?_))
        rw [e1, e2, hn]
        exact ok_call (hmade false) (by rw [← hN]; rfl) rfl (ok_ret rfl rfl)
      · obtain ⟨e1, e2, e3⟩ := zOk_bad h20 hp
        refine ok_prim rfl (ok_ite (t := true) (by rw [← Bool.not_false, ← hp, ← hE']; rfl) (fun _ => ?_) (fun h => by cases h))
        rw [e1, e2]
        refine ok_ret rfl ?_
        rw [← e3]
        rfl
  · have hn : zN s = false := by unfold zN; rw [h0]; rfl
    have hT : zT s = s := if_neg (by rw [hn]; decide)
    have hP : Gv.Fn Tryz.prog 113 [.raw (.string s)] (.tup [nat (pV (zT s)), .raw (.int .i64 (pE (zT s)))]) := by
      rw [hT]
      exact n_Parse h20
    refine ok_call hP rfl rfl (ok_prim rfl (ok_ite (t := pOk (zT s)) (by rw [← hE]; rfl) (fun hp => ?_) (fun hp => ?_)))
    · obtain ⟨e1, e2, e3⟩ := zOk_good h20 hp (fun h => by rw [h.1] at hn; cases hn)
      refine ok_prim rfl (ok_ite (t := false) (by rw [← Bool.not_true, ← hp, ← hE']; rfl) (fun h => by cases h) (fun _ => ?_))
      rw [e1, e2, hn]
      exact ok_call (hmade false) rfl rfl (ok_ret rfl rfl)
    · obtain ⟨e1, e2, e3⟩ := zOk_bad h20 hp
      refine ok_prim rfl (ok_ite (t := true) (by rw [← Bool.not_false, ← hp, ← hE']; rfl) (fun _ => ?_) (fun h => by cases h))
      rw [e1, e2]
      refine ok_ret rfl ?_
      rw [← e3]
      rfl
end Go.Proofs.YtlpfbcilnfgaaaaGreatDoor


/- The reference's whole numbers (gessoref02), gessokeep.Int and Ints, the laws' helpers: contracts by the engine. -/
namespace Gv
open Go Go.RowKit Gs
set_option linter.unusedVariables false
/-- the reference's whole number -/
def zf (z : Int) : PV := .agg [.raw (.bool (decide (z < 0))), r32 z.natAbs]
theorem zf_sg {s : Bool} {x : Nat} : zf (sg s x) = .agg [.raw (.bool (s && decide (0 < x))), r32 x] := by unfold zf; rw [sg_lt, sg_abs]
theorem r32_len0 {x : Nat} : decide (((limbs 4294967296 x).length : Int) > 0) = decide (0 < x) := by
  rw [Bool.eq_iff_iff, decide_eq_true_iff, decide_eq_true_iff]
  have := limbs_len_zero B32 x
  omega
theorem r32_len1 {x : Nat} : (((limbs 4294967296 x).length : Int) == 0) = decide (x = 0) := by
  rw [Bool.eq_iff_iff, beq_iff_eq, decide_eq_true_iff]
  have := limbs_len_zero B32 x
  omega
end Gv
namespace Go.Proofs.YtlpfbcilnfgaaaaGreatDoor
open Go.RowKit Gs Gv
set_option linter.unusedVariables false
theorem f_made {s : Bool} {x : Nat} : Gv.Fn Tryz.prog 91 [.raw (.bool s), r32 x] (zf (sg s x)) := by
  refine Fn.intro mixed vc_ref02_made rfl (ok_ite rfl ?_ ?_)
  · rintro rfl
    refine ok_prim (rowP_len _ _) (ok_prim rfl (ok_ret rfl ?_))
    rw [zf_sg, ← r32_len0]
    rfl
  · rintro rfl
    refine ok_ret rfl ?_
    rw [zf_sg]
    rfl
theorem f_In {p : PV} {z : Int} {k : Nat} (h : IsZ p z k) (hk : k ≤ 1000000) : Gv.Fn Tryz.prog 20 [p] (zf z) := by
  obtain ⟨s, l, rfl, h1, h2, h3⟩ := h
  refine Fn.intro mixed vc_ref02_In rfl (ok_call (r_In ⟨l, rfl, h1, rfl, h3⟩ hk) rfl rfl (ok_call f_made rfl rfl (ok_ret rfl ?_)))
  rw [h2]
  rfl
theorem f_Out {z : Int} (hk : zs z ≤ 400000) : Gv.Fn Tryz.prog 27 [zf z] (zc z) :=
  Fn.intro mixed vc_ref02_Out rfl (ok_call (r_Out hk) rfl rfl (ok_ret rfl rfl))
theorem f_Of {v : Int} (h1 : -9223372036854775808 ≤ v) (h2 : v ≤ 9223372036854775807) : Gv.Fn Tryz.prog 44 [.raw (.int .i64 v)] (zf v) := by
  refine Fn.intro mixed vc_ref02_Of rfl (ok_prim rfl (ok_ite rfl (fun hs => ?_) (fun hs => ?_)))
  · have hv : v < 0 := by simpa using hs
    refine ok_prim rfl (ok_prim rfl (ok_prim rfl (ok_prim rfl ?_)))
    have e : IntKind.u64.wrap (IntKind.u64.wrap (IntKind.i64.wrap (0 - IntKind.i64.wrap (v + 1))) + 1) = ((v.natAbs : Nat) : Int) := by
      rw [IntWalk.i64_in (v + 1) (by omega), IntWalk.i64_in _ (by omega), IntKind.wrap_u64, IntKind.wrap_u64]
      omega
    refine ok_call (ps := [.raw (.int .u64 ((v.natAbs : Nat) : Int))]) (r_Of v.natAbs (by omega)) (by rw [← e]; rfl) rfl ?_
    refine ok_call f_made rfl rfl (ok_ret rfl ?_)
    rw [sg_true, show -(v.natAbs : Int) = v by omega]
    rfl
  · have hv : 0 ≤ v := by simpa using hs
    refine ok_prim rfl ?_
    have e : IntKind.u64.wrap v = ((v.natAbs : Nat) : Int) := by
      rw [IntKind.wrap_u64]
      omega
    refine ok_call (ps := [.raw (.int .u64 ((v.natAbs : Nat) : Int))]) (r_Of v.natAbs (by omega)) (by rw [← e]; rfl) rfl ?_
    refine ok_call f_made rfl rfl (ok_ret rfl ?_)
    rw [sg_false, show (v.natAbs : Int) = v by omega]
    rfl
theorem f_Sign (z : Int) : Gv.Fn Tryz.prog 22 [zf z] (.raw (.int .i64 z.sign)) := by
  refine Fn.intro mixed vc_ref02_Int_Sign rfl (ok_prim (rowP_len _ _) (ok_prim rfl (ok_ite (t := decide (z.natAbs = 0)) (by rw [← r32_len1]; rfl) (fun hs => ?_) (fun hs => ?_))))
  · have : z = 0 := by
      have : z.natAbs = 0 := by simpa using hs
      omega
    rw [this]
    exact ok_ret rfl rfl
  · have h0 : z ≠ 0 := by
      have : ¬ z.natAbs = 0 := by simpa using hs
      omega
    refine ok_ite rfl (fun hn => ?_) (fun hn => ?_)
    · have : z < 0 := by simpa using hn
      rw [Int.sign_eq_neg_one_of_neg this]
      exact ok_ret rfl rfl
    · have : ¬ z < 0 := by simpa using hn
      rw [Int.sign_eq_one_of_pos (by omega)]
      exact ok_ret rfl rfl
theorem f_Minus (z : Int) : Gv.Fn Tryz.prog 38 [zf z] (zf (-z)) := by
  refine Fn.intro mixed vc_ref02_Int_Minus rfl (ok_prim rfl (ok_call f_made rfl rfl (ok_ret rfl ?_)))
  rw [sg_not, sg_of]
  rfl
theorem f_Add {x y : Int} (hx : zs x ≤ 200000) (hy : zs y ≤ 200000) : Gv.Fn Tryz.prog 29 [zf x, zf y] (zf (x + y)) := by
  have hx' : sz x.natAbs ≤ 200000 := hx
  have hy' : sz y.natAbs ≤ 200000 := hy
  refine Fn.intro mixed vc_ref02_Add rfl (ok_prim rfl (ok_ite rfl (fun hs => ?_) (fun hs => ?_)))
  · refine ok_call (r_Add (by omega) (by omega)) rfl rfl (ok_call f_made rfl rfl (ok_ret rfl ?_))
    have e : decide (x < 0) = decide (y < 0) := by simpa using hs
    rw [sg_add, sg_of, e, sg_of]
    rfl
  · have e : decide (x < 0) ≠ decide (y < 0) := by simpa using hs
    refine ok_call (r_Cmp (by omega) (by omega)) rfl rfl (ok_prim rfl (ok_ite rfl (fun hc => ?_) (fun hc => ?_)))
    · have hle : y.natAbs ≤ x.natAbs := by
        have : cmpI (x.natAbs : Nat) (y.natAbs : Nat) ≥ 0 := by simpa using hc
        unfold cmpI at this
        split at this
        · omega
        · omega
      refine ok_call (r_Sub (by omega) hle) rfl rfl (ok_call f_made rfl rfl (ok_ret rfl ?_))
      rw [sg_sub _ _ _ _ e hle, sg_of, sg_of]
      rfl
    · have hlt : x.natAbs < y.natAbs := by
        have : ¬ cmpI (x.natAbs : Nat) (y.natAbs : Nat) ≥ 0 := by simpa using hc
        unfold cmpI at this
        split at this
        · omega
        · split at this <;> omega
      refine ok_call (r_Sub (by omega) (by omega)) rfl rfl (ok_call f_made rfl rfl (ok_ret rfl ?_))
      rw [sg_sub' _ _ _ _ e (by omega), sg_of, sg_of]
      rfl
theorem f_Sub {x y : Int} (hx : zs x ≤ 200000) (hy : zs y ≤ 200000) : Gv.Fn Tryz.prog 31 [zf x, zf y] (zf (x - y)) := by
  refine Fn.intro mixed vc_ref02_Sub rfl (ok_call (f_Minus y) rfl rfl (ok_call (f_Add hx (zs_neg hy)) rfl rfl (ok_ret rfl ?_)))
  rw [Int.sub_eq_add_neg]
  rfl
theorem f_Cmp {x y : Int} (hx : zs x ≤ 200000) (hy : zs y ≤ 200000) : Gv.Fn Tryz.prog 35 [zf x, zf y] (.raw (.int .i64 (x - y).sign)) :=
  Fn.intro mixed vc_ref02_Cmp rfl (ok_call (f_Sub hx hy) rfl rfl (ok_call (f_Sign _) rfl rfl (ok_ret rfl rfl)))
theorem f_Mul {x y : Int} (hx : zs x ≤ 200000) (hy : zs y ≤ 200000) : Gv.Fn Tryz.prog 33 [zf x, zf y] (zf (x * y)) := by
  have hx' : sz x.natAbs ≤ 200000 := hx
  have hy' : sz y.natAbs ≤ 200000 := hy
  refine Fn.intro mixed vc_ref02_Mul rfl (ok_prim rfl (ok_call (r_Mul (by omega) (by omega)) rfl rfl (ok_call f_made rfl rfl (ok_ret rfl ?_))))
  rw [sg_mul, sg_of, sg_of]
  rfl
theorem f_DivMod {x y : Int} (hx : zs x ≤ 500) (hy : zs y ≤ 500) (hy0 : y ≠ 0) : Gv.Fn Tryz.prog 23 [zf x, zf y] (.agg [.raw (.bool (decide (zq x y < 0))), r32 (zq x y).natAbs, .raw (.bool (decide (zr x y < 0))), r32 (zr x y).natAbs]) := by
  have hx' : sz x.natAbs ≤ 500 := hx
  have hy' : sz y.natAbs ≤ 500 := hy
  have hq : ∀ s, zs (sg s (x.natAbs / y.natAbs)) ≤ 500 := fun s => by unfold zs; rw [sg_abs]; exact Nat.le_trans (sz_mono (Nat.div_le_self _ _)) hx
  have hq3 := zs_zq (y := y) hx
  have h1s : zs 1 ≤ 1 := sz_small (by decide)
  refine Fn.intro mixed vc_ref02_DivMod rfl (ok_call (r_DivMod hx' hy' (by omega)) rfl rfl (ok_prim rfl (ok_call f_made rfl rfl (ok_prim (rowP_len _ _) (ok_prim rfl (ok_ite (t := decide (0 < x.natAbs % y.natAbs)) (by rw [← r32_len0]; rfl) (fun hr => ?_) (fun hr => ?_)))))))
  · have hr' : 0 < x.natAbs % y.natAbs := by simpa using hr
    refine ok_prim rfl (ok_ite rfl (fun hs => ?_) (fun hs => ?_))
    · have e : sg (decide (x < 0) != decide (y < 0)) (x.natAbs / y.natAbs) - 1 = zq x y := by
        unfold zq
        rw [if_pos ⟨hs, hr'⟩]
      refine ok_call (f_Of (v := 1) (by decide) (by decide)) rfl rfl ?_
      refine ok_call (f_Sub (x := sg (decide (x < 0) != decide (y < 0)) (x.natAbs / y.natAbs)) (y := 1) (Nat.le_trans (hq _) (by decide)) (by decide)) rfl rfl ?_
      rw [e]
      refine ok_call (f_Mul (x := zq x y) (y := y) (by omega) (by omega)) rfl rfl (ok_call (f_Sub (x := x) (y := zq x y * y) (by omega) (Nat.le_trans (zs_mul hq3 hy) (by decide))) rfl rfl (ok_ret rfl rfl))
    · have e : sg (decide (x < 0) != decide (y < 0)) (x.natAbs / y.natAbs) = zq x y := by
        unfold zq
        rw [if_neg (fun h => by rw [h.1] at hs; cases hs), Int.sub_zero]
      rw [e]
      refine ok_call (f_Mul (x := zq x y) (y := y) (by omega) (by omega)) rfl rfl (ok_call (f_Sub (x := x) (y := zq x y * y) (by omega) (Nat.le_trans (zs_mul hq3 hy) (by decide))) rfl rfl (ok_ret rfl rfl))
  · have hr' : ¬ 0 < x.natAbs % y.natAbs := by simpa using hr
    have e : sg (decide (x < 0) != decide (y < 0)) (x.natAbs / y.natAbs) = zq x y := by
      unfold zq
      rw [if_neg (fun h => hr' h.2), Int.sub_zero]
    rw [e]
    refine ok_call (f_Mul (x := zq x y) (y := y) (by omega) (by omega)) rfl rfl (ok_call (f_Sub (x := x) (y := zq x y * y) (by omega) (Nat.le_trans (zs_mul hq3 hy) (by decide))) rfl rfl (ok_ret rfl rfl))
theorem cat_ev {a b : ByteArray} (h : a.size + b.size ≤ 9223372036854775807) : Prim.ev (.op2 .add false) [.raw (.string a), .raw (.string b)] = some (.raw (.string (a ++ b))) := by
  show ((if a.size + b.size ≤ 9223372036854775807 then some (Value.string (a ++ b)) else none).map PV.raw) = _
  rw [if_pos h]
  rfl
theorem f_Text {z : Int} (hz : zs z ≤ 500) : Gv.Fn Tryz.prog 46 [zf z] (.raw (.string (ztxt z))) := by
  have hsz := txt_size (show sz z.natAbs ≤ 500 from hz)
  refine Fn.intro mixed vc_ref02_Text rfl (ok_ite rfl (fun hs => ?_) (fun hs => ?_))
  · have h0 : z < 0 := by simpa using hs
    rw [ztxt_neg h0]
    refine ok_call (r_Text hz (Nat.le_refl _)) rfl rfl (ok_prim (cat_ev ?_) (ok_ret rfl rfl))
    have : (⟨#[45]⟩ : ByteArray).size = 1 := rfl
    omega
  · have h0 : ¬ z < 0 := by simpa using hs
    rw [ztxt_pos h0]
    exact ok_call (r_Text hz (Nat.le_refl _)) rfl rfl (ok_ret rfl rfl)
theorem k_Int {s : Bool} {l : List Nat} (h : Lt 18446744073709551616 l) (hk : l.length ≤ 1000000) : Gv.Fn Tryz.prog 25 [.agg [.raw (.bool s), u64s l]] (.agg [.raw (.bool s), u64s l]) :=
  Fn.intro mixed vc_keep_Int rfl (ok_call (k_Nat h hk) rfl rfl (ok_ret rfl rfl))
theorem k_Ints {s t : Bool} {l m : List Nat} (h : Lt 18446744073709551616 l) (h' : Lt 18446744073709551616 m) : Gv.Fn Tryz.prog 26 [.agg [.raw (.bool s), u64s l], .agg [.raw (.bool t), u64s m]] (.raw (.bool (s == t && decide (l = m)))) := by
  refine Fn.intro mixed vc_keep_Ints rfl (ok_prim rfl (ok_ite rfl (fun hs => ?_) (fun hs => ?_)))
  · rw [hs, Bool.true_and]
    exact ok_call (k_Nats h h') rfl rfl (ok_ret rfl rfl)
  · rw [hs, Bool.false_and]
    exact ok_ret rfl rfl
theorem k_Ints_same (z : Int) : Gv.Fn Tryz.prog 26 [zc z, zc z] (.raw (.bool true)) := by
  have := k_Ints (s := decide (z < 0)) (t := decide (z < 0)) (limbs_lt B64 z.natAbs) (limbs_lt B64 z.natAbs)
  rwa [decide_eq_true rfl, Bool.and_true, beq_self_eq_true] at this
end Go.Proofs.YtlpfbcilnfgaaaaGreatDoor


/- Steps of a condition, and plain laws of whole numbers that the laws above zed use, too; the reference's Parse of whole numbers. (Taken out of XFg..XFk, so that claims above zed need not bear the laws of zed.) -/
namespace Gv
open Go Go.RowKit Gs
set_option linter.unusedVariables false
section
variable {P : Program} {R : PV → Prop} {ρ : List PV} {C : List (List PV → Prop)} {k : VC} {args : List SV} {kk : IntKind} {a b : Int}
theorem ok_true {c : SV} {x y : VC} (h : pv ρ c = .raw (.bool true)) (h1 : x.ok P R ρ C) : (VC.ite c x y).ok P R ρ C := ⟨true, h, fun _ => h1, fun h => by cases h⟩
theorem ok_false {c : SV} {x y : VC} (h : pv ρ c = .raw (.bool false)) (h1 : y.ok P R ρ C) : (VC.ite c x y).ok P R ρ C := ok_ite h (fun h => Bool.noConfusion h) fun _ => h1
theorem ok_eq (hp : pvs ρ args = [.raw (.int kk a), .raw (.int kk b)]) (t : Bool) (h : (a == b) = t) (hk : k.ok P R (ρ ++ [.raw (.bool t)]) C) : (VC.prim (.op2 .eql false) args k).ok P R ρ C := by
  refine ⟨_, ?_, hk⟩
  rw [hp, ← h]
  show ((if kk = kk then some (Value.bool (a == b)) else none).map PV.raw) = _
  rw [if_pos rfl]
  rfl
theorem ok_neq (hp : pvs ρ args = [.raw (.int kk a), .raw (.int kk b)]) (t : Bool) (h : (a != b) = t) (hk : k.ok P R (ρ ++ [.raw (.bool t)]) C) : (VC.prim (.op2 .neq false) args k).ok P R ρ C := by
  refine ⟨_, ?_, hk⟩
  rw [hp, ← h]
  show ((if kk = kk then some (Value.bool (a != b)) else none).map PV.raw) = _
  rw [if_pos rfl]
  rfl
theorem ok_gtr (hp : pvs ρ args = [.raw (.int kk a), .raw (.int kk b)]) (t : Bool) (h : decide (a > b) = t) (hk : k.ok P R (ρ ++ [.raw (.bool t)]) C) : (VC.prim (.op2 .gtr false) args k).ok P R ρ C := by
  refine ⟨_, ?_, hk⟩
  rw [hp, ← h]
  show ((if kk = kk then some (Value.bool (decide (a > b))) else none).map PV.raw) = _
  rw [if_pos rfl]
  rfl
theorem ok_seq {a b : ByteArray} (hp : pvs ρ args = [.raw (.string a), .raw (.string b)]) (h : a = b) (hk : k.ok P R (ρ ++ [.raw (.bool true)]) C) : (VC.prim (.op2 .eql false) args k).ok P R ρ C := by
  refine ⟨_, ?_, hk⟩
  rw [hp, h]
  show some (PV.raw (.bool (b.toList == b.toList))) = _
  rw [beq_self_eq_true]
theorem ok_beq {a b : Bool} (hp : pvs ρ args = [.raw (.bool a), .raw (.bool b)]) (t : Bool) (h : (a == b) = t) (hk : k.ok P R (ρ ++ [.raw (.bool t)]) C) : (VC.prim (.op2 .eql true) args k).ok P R ρ C := by
  refine ⟨_, ?_, hk⟩
  rw [hp, ← h]
  rfl
/-- a call whose arguments are told -/
theorem ok_callR {f : FuncId} {args : List SV} {sh : RSh} {ps : List PV} {r r' : PV} (h : Fn P f ps r) (e : r = r') (hp : pvs ρ args = ps) (hf : fitsR sh r' = true) (hk : k.ok P R (ρ ++ [r']) C) : (VC.call f args sh k).ok P R ρ C := by subst e; exact ⟨r, by rw [hp]; exact h, hf, hk⟩
end
theorem zs_small {v : Int} (h : v.natAbs < 18446744073709551616) : zs v ≤ 1 := sz_small h
theorem IsZ.s {v : Int} (h : v.natAbs < 18446744073709551616) : IsZ (Gv.zc v) v 1 := IsZ.zc (zs_small h)
theorem val_inj_len : ∀ {l m : List Nat}, l.length = m.length → Lt 18446744073709551616 l → Lt 18446744073709551616 m → val 18446744073709551616 l = val 18446744073709551616 m → l = m
  | [], [], _, _, _, _ => rfl
  | [], _ :: _, h, _, _, _ => by simp at h
  | _ :: _, [], h, _, _, _ => by simp at h
  | x :: l, y :: m, h, h1, h2, h3 => by
    have e1 : x < 18446744073709551616 := h1 x (by simp)
    have e2 : y < 18446744073709551616 := h2 y (by simp)
    simp only [val] at h3
    have e3 : val 18446744073709551616 l = val 18446744073709551616 m := by omega
    rw [val_inj_len (by simpa using h) (fun z hz => h1 z (by simp [hz])) (fun z hz => h2 z (by simp [hz])) e3, show x = y by omega]
/-- a good number is the one that its number comes to -/
theorem good_same {s : Bool} {l : List Nat} (hl : Lt 18446744073709551616 l) : (Go.Proofs.YtlpfbcilnfgaaaaGreatDoor.goodB l && (!s || decide (0 < l.length))) = (s == (s && decide (0 < val 18446744073709551616 l)) && decide (l = limbs 18446744073709551616 (val 18446744073709551616 l))) := by
  have hg : Go.Proofs.YtlpfbcilnfgaaaaGreatDoor.goodB l = decide (l = limbs 18446744073709551616 (val 18446744073709551616 l)) := by
    unfold Go.Proofs.YtlpfbcilnfgaaaaGreatDoor.goodB Gs.nl
    rw [Bool.eq_iff_iff, decide_eq_true_iff, decide_eq_true_iff]
    exact ⟨fun h => val_inj_len h.symm hl (limbs_lt B64 _) (val_limbs B64 _).symm, fun h => by rw [← h]⟩
  rw [hg]
  by_cases he : l = limbs 18446744073709551616 (val 18446744073709551616 l)
  · have h0 := limbs_len_zero B64 (val 18446744073709551616 l)
    rw [← he] at h0
    rw [decide_eq_true he, Bool.true_and, Bool.and_true]
    cases s
    · rfl
    · rw [Bool.true_and, Bool.not_true, Bool.false_or, Bool.eq_iff_iff, decide_eq_true_iff, beq_iff_eq, eq_comm, decide_eq_true_iff]
      omega
  · rw [decide_eq_false he, Bool.false_and, Bool.and_false]
theorem ztxt_m4 : ztxt (-4) = ⟨#[45, 52]⟩ := by
  rw [ztxt_neg (by decide), ← txt_eq (s := ⟨#[52]⟩) (x := (-4 : Int).natAbs) ⟨by decide, by decide, by decide, by decide⟩]
  rfl
theorem ztxt_1 : ztxt 1 = ⟨#[49]⟩ := by
  rw [ztxt_pos (by decide), ← txt_eq (s := ⟨#[49]⟩) (x := (1 : Int).natAbs) ⟨by decide, by decide, by decide, by decide⟩]
theorem ztxt_m1 : ztxt (-1) = ⟨#[45, 49]⟩ := by
  rw [ztxt_neg (by decide), ← txt_eq (s := ⟨#[49]⟩) (x := (-1 : Int).natAbs) ⟨by decide, by decide, by decide, by decide⟩]
  rfl
end Gv
namespace Gv
open Go Go.RowKit Gs
set_option linter.unusedVariables false
section
variable {P : Program} {R : PV → Prop} {ρ : List PV} {C : List (List PV → Prop)} {k : VC} {args : List SV} {kk : IntKind} {a b : Int}
theorem ok_leq (hp : pvs ρ args = [.raw (.int kk a), .raw (.int kk b)]) (t : Bool) (h : decide (a ≤ b) = t) (hk : k.ok P R (ρ ++ [.raw (.bool t)]) C) : (VC.prim (.op2 .leq false) args k).ok P R ρ C := by
  refine ⟨_, ?_, hk⟩
  rw [hp, ← h]
  show ((if kk = kk then some (Value.bool (decide (a ≤ b))) else none).map PV.raw) = _
  rw [if_pos rfl]
  rfl
theorem ok_geq (hp : pvs ρ args = [.raw (.int kk a), .raw (.int kk b)]) (t : Bool) (h : decide (a ≥ b) = t) (hk : k.ok P R (ρ ++ [.raw (.bool t)]) C) : (VC.prim (.op2 .geq false) args k).ok P R ρ C := by
  refine ⟨_, ?_, hk⟩
  rw [hp, ← h]
  show ((if kk = kk then some (Value.bool (decide (a ≥ b))) else none).map PV.raw) = _
  rw [if_pos rfl]
  rfl
theorem ok_lss (hp : pvs ρ args = [.raw (.int kk a), .raw (.int kk b)]) (t : Bool) (h : decide (a < b) = t) (hk : k.ok P R (ρ ++ [.raw (.bool t)]) C) : (VC.prim (.op2 .lss false) args k).ok P R ρ C := by
  refine ⟨_, ?_, hk⟩
  rw [hp, ← h]
  show ((if kk = kk then some (Value.bool (decide (a < b))) else none).map PV.raw) = _
  rw [if_pos rfl]
  rfl
theorem ok_mul (hp : pvs ρ args = [.raw (.int kk a), .raw (.int kk b)]) (c : Int) (h : kk.wrap (a * b) = c) (hk : k.ok P R (ρ ++ [.raw (.int kk c)]) C) : (VC.prim (.op2 .mul false) args k).ok P R ρ C := by
  refine ⟨_, ?_, hk⟩
  rw [hp, ← h]
  show ((if kk = kk then some (Value.int kk (kk.wrap (a * b))) else none).map PV.raw) = _
  rw [if_pos rfl]
  rfl
theorem ok_add (hp : pvs ρ args = [.raw (.int kk a), .raw (.int kk b)]) (c : Int) (h : kk.wrap (a + b) = c) (hk : k.ok P R (ρ ++ [.raw (.int kk c)]) C) : (VC.prim (.op2 .add false) args k).ok P R ρ C := by
  refine ⟨_, ?_, hk⟩
  rw [hp, ← h]
  show ((if kk = kk then some (Value.int kk (kk.wrap (a + b))) else none).map PV.raw) = _
  rw [if_pos rfl]
  rfl
theorem ok_sub (hp : pvs ρ args = [.raw (.int kk a), .raw (.int kk b)]) (c : Int) (h : kk.wrap (a - b) = c) (hk : k.ok P R (ρ ++ [.raw (.int kk c)]) C) : (VC.prim (.op2 .sub false) args k).ok P R ρ C := by
  refine ⟨_, ?_, hk⟩
  rw [hp, ← h]
  show ((if kk = kk then some (Value.int kk (kk.wrap (a - b))) else none).map PV.raw) = _
  rw [if_pos rfl]
  rfl
theorem ok_len {j : IntKind} {l : List Nat} (hp : pvs ρ args = [rowP j l]) (n : Int) (h : (l.length : Int) = n) (hk : k.ok P R (ρ ++ [.raw (.int .i64 n)]) C) : (VC.prim .len args k).ok P R ρ C := by
  subst h
  exact ok_prim (by rw [hp]; exact rowP_len j l) hk
end
theorem sign_mem (z : Int) : z.sign = -1 ∨ z.sign = 0 ∨ z.sign = 1 := by
  rcases Int.lt_trichotomy z 0 with h | h | h
  · exact .inl (Int.sign_eq_neg_one_of_neg h)
  · subst h; exact .inr (.inl rfl)
  · exact .inr (.inr (Int.sign_eq_one_of_pos h))
theorem sign_wrap (x y : Int) : IntKind.i64.wrap (x.sign * y.sign) = x.sign * y.sign := by
  rcases sign_mem x with h | h | h <;> rcases sign_mem y with h' | h' | h' <;> rw [h, h'] <;> decide
theorem sign_sub0 {x y : Int} (h : x = y) : (x - y).sign = 0 := by rw [h, Int.sub_self]; rfl
end Gv
namespace Gv
open Go Go.RowKit Gs
set_option linter.unusedVariables false
theorem ok_neg {P : Program} {R : PV → Prop} {ρ : List PV} {C : List (List PV → Prop)} {k : VC} {args : List SV} {kk : IntKind} {a : Int} (hp : pvs ρ args = [.raw (.int kk a)]) (c : Int) (h : kk.wrap (0 - a) = c) (hk : k.ok P R (ρ ++ [.raw (.int kk c)]) C) : (VC.prim (.op1 .neg) args k).ok P R ρ C := by
  refine ⟨_, ?_, hk⟩
  rw [hp, ← h]
  rfl
theorem sign_neg_wrap (z : Int) : IntKind.i64.wrap (0 - z.sign) = (-z).sign := by
  rcases Int.lt_trichotomy z 0 with h | h | h
  · rw [Int.sign_eq_neg_one_of_neg h, Int.sign_eq_one_of_pos (by omega)]; decide
  · subst h; decide
  · rw [Int.sign_eq_one_of_pos h, Int.sign_eq_neg_one_of_neg (by omega)]; decide
theorem byt_cat (a b : ByteArray) : byt (a ++ b) = byt a ++ byt b := by
  unfold byt
  rw [ByteArray.data_append, Array.toList_append, List.map_append]
/-- what is read of a number's text is it -/
theorem z_text_back {x : Int} {k : Nat} (hx : zs x ≤ k) (hk : k ≤ 900) : zV (ztxt x) = x ∧ zE (ztxt x) = 0 := by
  have hsz := txt_size (show sz x.natAbs ≤ k from hx)
  have ht := txt_is x.natAbs
  obtain ⟨p1, p2, p3⟩ := p_text ht
  by_cases h0 : x < 0
  · have hb : byt (ztxt x) = 45 :: byt (txt x.natAbs) := by rw [ztxt_neg h0, byt_cat]; rfl
    have hs : (ztxt x).size = (txt x.natAbs).size + 1 := by rw [← byt_length, hb, List.length_cons, byt_length]
    have hN : zN (ztxt x) = true := by
      unfold zN
      rw [decide_eq_true (show 0 < (ztxt x).size by omega), hb]
      rfl
    have hT : zT (ztxt x) = txt x.natAbs := by
      unfold zT
      rw [if_pos hN]
      apply byt_inj
      rw [byt_extract, hb]
      rfl
    obtain ⟨e1, e2, _⟩ := zOk_good (s := ztxt x) (by omega) (by rw [hT]; exact p1) (by rw [hT, p2]; omega)
    refine ⟨?_, e2⟩
    rw [e1, hN, hT, p2, sg_true]
    omega
  · have hN : zN (ztxt x) = false := by
      rw [ztxt_pos h0]
      unfold zN
      rw [decide_eq_true ht.2.2.1, Bool.true_and, beq_eq_false_iff_ne]
      intro e
      have h1 := ht.1
      have hl : 0 < (byt (txt x.natAbs)).length := by rw [byt_length]; exact ht.2.2.1
      have := List.all_eq_true.1 h1 _ (List.getElem_mem hl)
      rw [gd_lt hl] at e
      rw [e] at this
      exact absurd this (by decide)
    have hT : zT (ztxt x) = txt x.natAbs := by
      unfold zT
      rw [if_neg (by rw [hN]; decide), ztxt_pos h0]
    obtain ⟨e1, e2, _⟩ := zOk_good (s := ztxt x) (by rw [ztxt_pos h0]; omega) (by rw [hT]; exact p1) (by rw [hN]; simp)
    refine ⟨?_, e2⟩
    rw [e1, hN, hT, p2, sg_false]
    omega
end Gv
namespace Gv
open Go Go.RowKit Gs
set_option linter.unusedVariables false
theorem ok_not {P : Program} {R : PV → Prop} {ρ : List PV} {C : List (List PV → Prop)} {k : VC} {args : List SV} {a : Bool} (hp : pvs ρ args = [.raw (.bool a)]) (hk : k.ok P R (ρ ++ [.raw (.bool (!a))]) C) : (VC.prim (.op1 .not) args k).ok P R ρ C := by
  refine ⟨_, ?_, hk⟩
  rw [hp]
  rfl
theorem ok_slen {P : Program} {R : PV → Prop} {ρ : List PV} {C : List (List PV → Prop)} {k : VC} {args : List SV} {s : ByteArray} (hp : pvs ρ args = [.raw (.string s)]) (hk : k.ok P R (ρ ++ [.raw (.int .i64 s.size)]) C) : (VC.prim .slen args k).ok P R ρ C := by
  refine ⟨_, ?_, hk⟩
  rw [hp]
  rfl
theorem zf_zero : zf 0 = .agg [.raw (.bool false), .sl []] := rfl
theorem zs_zV (s : ByteArray) : zs (zV s) ≤ 20000 := by
  by_cases h : s.size ≤ 20000
  · unfold zV
    split
    · unfold zs
      rw [sg_abs]
      exact Nat.le_trans (pV_lt _) (Nat.le_trans (zT_size s) h)
    · exact Nat.zero_le _
  · rw [(zOk_long (by omega)).1]
    exact Nat.zero_le _
theorem sign_le (z : Int) : decide (z.sign ≤ 0) = decide (z ≤ 0) := by
  rcases Int.lt_trichotomy z 0 with h | h | h
  · rw [Int.sign_eq_neg_one_of_neg h, decide_eq_true (by omega : z ≤ 0)]; rfl
  · subst h; rfl
  · rw [Int.sign_eq_one_of_pos h, decide_eq_false (by omega : ¬ z ≤ 0)]; rfl
theorem sign_ge (z : Int) : decide (z.sign ≥ 0) = decide (z ≥ 0) := by
  rcases Int.lt_trichotomy z 0 with h | h | h
  · rw [Int.sign_eq_neg_one_of_neg h, decide_eq_false (by omega : ¬ z ≥ 0)]; rfl
  · subst h; rfl
  · rw [Int.sign_eq_one_of_pos h, decide_eq_true (by omega : z ≥ 0)]; rfl
end Gv
namespace Gv
open Go Go.RowKit Gs
set_option linter.unusedVariables false
section
variable {P : Program} {R : PV → Prop} {ρ : List PV} {C : List (List PV → Prop)} {k : VC} {args : List SV} {kk : IntKind} {a b : Int}
theorem ok_cv {k2 : IntKind} (hp : pvs ρ args = [.raw (.int kk a)]) (c : Int) (h : k2.wrap a = c) (hk : k.ok P R (ρ ++ [.raw (.int k2 c)]) C) : (VC.prim (.cv k2) args k).ok P R ρ C := by
  refine ⟨_, ?_, hk⟩
  rw [hp, ← h]
  rfl
theorem ok_quo (hp : pvs ρ args = [.raw (.int kk a), .raw (.int kk b)]) (hb : b ≠ 0) (c : Int) (h : kk.wrap (a.tdiv b) = c) (hk : k.ok P R (ρ ++ [.raw (.int kk c)]) C) : (VC.prim (.op2 .quo false) args k).ok P R ρ C := by
  refine ⟨_, ?_, hk⟩
  rw [hp, ← h]
  show ((if kk = kk then (if b = 0 then none else some (Value.int kk (kk.wrap (a.tdiv b)))) else none).map PV.raw) = _
  rw [if_pos rfl, if_neg hb]
  rfl
theorem ok_rem (hp : pvs ρ args = [.raw (.int kk a), .raw (.int kk b)]) (hb : b ≠ 0) (c : Int) (h : a.tmod b = c) (hk : k.ok P R (ρ ++ [.raw (.int kk c)]) C) : (VC.prim (.op2 .rem false) args k).ok P R ρ C := by
  refine ⟨_, ?_, hk⟩
  rw [hp, ← h]
  show ((if kk = kk then (if b = 0 then none else some (Value.int kk (a.tmod b))) else none).map PV.raw) = _
  rw [if_pos rfl, if_neg hb]
  rfl
theorem ok_bne {a b : Bool} (hp : pvs ρ args = [.raw (.bool a), .raw (.bool b)]) (t : Bool) (h : (a != b) = t) (hk : k.ok P R (ρ ++ [.raw (.bool t)]) C) : (VC.prim (.op2 .neq true) args k).ok P R ρ C := by
  refine ⟨_, ?_, hk⟩
  rw [hp, ← h]
  rfl
end
theorem tdiv_sg (x y : Int) : x.tdiv y = sg (decide (x < 0) != decide (y < 0)) (x.natAbs / y.natAbs) := by
  by_cases hx : x < 0 <;> by_cases hy : y < 0
  · have ex : x = -((x.natAbs : Nat) : Int) := by omega
    have ey : y = -((y.natAbs : Nat) : Int) := by omega
    rw [decide_eq_true hx, decide_eq_true hy]
    show _ = ((x.natAbs / y.natAbs : Nat) : Int)
    conv => lhs; rw [ex, ey, Int.neg_tdiv, Int.tdiv_neg, Int.neg_neg, ← Int.ofNat_tdiv]
  · have ex : x = -((x.natAbs : Nat) : Int) := by omega
    have ey : y = ((y.natAbs : Nat) : Int) := by omega
    rw [decide_eq_true hx, decide_eq_false hy]
    show _ = -((x.natAbs / y.natAbs : Nat) : Int)
    conv => lhs; rw [ex, ey, Int.neg_tdiv, ← Int.ofNat_tdiv]
  · have ex : x = ((x.natAbs : Nat) : Int) := by omega
    have ey : y = -((y.natAbs : Nat) : Int) := by omega
    rw [decide_eq_false hx, decide_eq_true hy]
    show _ = -((x.natAbs / y.natAbs : Nat) : Int)
    conv => lhs; rw [ex, ey, Int.tdiv_neg, ← Int.ofNat_tdiv]
  · have ex : x = ((x.natAbs : Nat) : Int) := by omega
    have ey : y = ((y.natAbs : Nat) : Int) := by omega
    rw [decide_eq_false hx, decide_eq_false hy]
    show _ = ((x.natAbs / y.natAbs : Nat) : Int)
    conv => lhs; rw [ex, ey, ← Int.ofNat_tdiv]
theorem tmod_zero (x y : Int) : x.tmod y = 0 ↔ x.natAbs % y.natAbs = 0 := by
  rw [← Int.natAbs_eq_zero, Int.natAbs_tmod]
theorem zq_tdiv (x y : Int) : zq x y = x.tdiv y - (if x.tmod y ≠ 0 ∧ (decide (x < 0) != decide (y < 0)) = true then 1 else 0) := by
  unfold zq
  rw [tdiv_sg]
  have := tmod_zero x y
  congr 1
  by_cases h1 : x.tmod y = 0
  · rw [if_neg (fun h => by have := this.1 h1; omega), if_neg (fun h => h.1 h1)]
  · by_cases h2 : (decide (x < 0) != decide (y < 0)) = true
    · rw [if_pos ⟨h2, Nat.pos_of_ne_zero (fun h => h1 (this.2 h))⟩, if_pos ⟨h1, h2⟩]
    · rw [if_neg (fun h => h2 h.1), if_neg (fun h => h2 h.2)]
theorem inS_of {z : Int} (h : -9223372036854775808 ≤ z) (h' : z ≤ 9223372036854775807) : inS z = true ∧ smV z = z := by
  have e : inS z = true := by unfold inS; rw [decide_eq_true h, decide_eq_true h']; rfl
  exact ⟨e, if_pos e⟩
end Gv
namespace Go.Proofs.YtlpfbcilnfgaaaaGreatDoor
open Go.RowKit Gs Gv
set_option linter.unusedVariables false
set_option maxHeartbeats 4000000 in
theorem f_Parse {s : ByteArray} (hs : s.size ≤ 1000 ∨ 20000 < s.size) : Gv.Fn Tryz.prog 43 [.raw (.string s)] (.tup [zf (zV s), .raw (.int .i64 (zE s))]) := by
  refine Fn.intro mixed vc_ref02_Parse rfl (ok_slen (s := s) rfl (ok_gtr rfl _ rfl (ok_ite rfl (fun hl => ?_) (fun hl => ?_))))
  · have h20 : 20000 < s.size := by
      have : (s.size : Int) > 20000 := by simpa using hl
      omega
    obtain ⟨e1, e2⟩ := zOk_long h20
    rw [e1, e2]
    exact ok_ret rfl rfl
  have h20 : s.size ≤ 1000 := by
    have : ¬ (s.size : Int) > 20000 := by simpa using hl
    omega
  have ht20 : (zT s).size ≤ 1000 := Nat.le_trans (zT_size s) h20
  clear hl hs
  have hE' : (pE (zT s) != 0) = !pOk (zT s) := by unfold pE; cases pOk (zT s) <;> rfl
  have hlen : (((limbs 4294967296 (pV (zT s))).length : Int) == 0) = decide (pV (zT s) = 0) := r32_len1
  try simp only [List.cons_append, List.nil_append]
  refine ok_slen (s := s) rfl (ok_gtr rfl (decide (0 < s.size)) (by rw [Bool.eq_iff_iff, decide_eq_true_iff, decide_eq_true_iff]; omega) (ok_ite rfl (fun h0 => ?_) (fun h0 => ?_)))
  · have h0' : 0 < s.size := by simpa using h0
    try simp only [List.cons_append, List.nil_append]
    refine ok_prim (six0 h0') (ok_eq rfl (zN s) ?_ (ok_ite rfl (fun hn => ?_) (fun hn => ?_)))
    · unfold zN
      rw [h0, Bool.true_and]
      rw [Bool.eq_iff_iff, beq_iff_eq, beq_iff_eq]
      omega
    · have hT : zT s = s.extract 1 s.size := if_pos hn
      try simp only [List.cons_append, List.nil_append]
      refine ok_prim (ssl1 h0') ?_
      have hP : Gv.Fn Tryz.prog 114 [.raw (.string (s.extract 1 s.size))] (.tup [r32 (pV (zT s)), .raw (.int .i64 (pE (zT s)))]) := by
        rw [← hT]
        exact r_Parse ht20
      refine ok_call hP rfl rfl (ok_neq rfl _ hE' (ok_ite rfl (fun hp => ?_) (fun hp => ?_)))
      · obtain ⟨e1, e2, e3⟩ := zOk_bad (s := s) (by omega) (by simpa using hp)
        rw [e1, e2]
        exact ok_ret rfl rfl
      · have hp : pOk (zT s) = true := by simpa using hp
        try simp only [List.cons_append, List.nil_append]
        refine ok_true (by rw [← hn]; rfl) (ok_len (j := .u32) (l := limbs 4294967296 (pV (zT s))) rfl _ rfl (ok_eq rfl _ hlen (ok_ite rfl (fun hz => ?_) (fun hz => ?_))))
        · obtain ⟨e1, e2⟩ := zOk_nil (s := s) (by omega) hn (by simpa using hz)
          rw [e1, e2]
          exact ok_ret rfl rfl
        · obtain ⟨e1, e2, e3⟩ := zOk_good (s := s) (by omega) hp (fun h => by simp [h.2] at hz)
          rw [e1, e2]
          try simp only [List.cons_append, List.nil_append]
          exact ok_call (f_made (s := zN s) (x := pV (zT s))) rfl rfl (ok_ret rfl rfl)
    · have hT : zT s = s := if_neg (by rw [hn]; decide)
      have hP : Gv.Fn Tryz.prog 114 [.raw (.string s)] (.tup [r32 (pV (zT s)), .raw (.int .i64 (pE (zT s)))]) := by
        rw [hT]
        exact r_Parse h20
      try simp only [List.cons_append, List.nil_append]
      refine ok_call hP rfl rfl (ok_neq rfl _ hE' (ok_ite rfl (fun hp => ?_) (fun hp => ?_)))
      · obtain ⟨e1, e2, e3⟩ := zOk_bad (s := s) (by omega) (by simpa using hp)
        rw [e1, e2]
        exact ok_ret rfl rfl
      · have hp : pOk (zT s) = true := by simpa using hp
        obtain ⟨e1, e2, e3⟩ := zOk_good (s := s) (by omega) hp (fun h => by rw [h.1] at hn; cases hn)
        rw [e1, e2]
        try simp only [List.cons_append, List.nil_append]
        exact ok_false (by rw [← hn]; rfl) (ok_call (f_made (s := zN s) (x := pV (zT s))) rfl rfl (ok_ret rfl rfl))
  · have hn : zN s = false := by unfold zN; rw [h0]; rfl
    have hT : zT s = s := if_neg (by rw [hn]; decide)
    have hP : Gv.Fn Tryz.prog 114 [.raw (.string s)] (.tup [r32 (pV (zT s)), .raw (.int .i64 (pE (zT s)))]) := by
      rw [hT]
      exact r_Parse h20
    try simp only [List.cons_append, List.nil_append]
    refine ok_call hP rfl rfl (ok_neq rfl _ hE' (ok_ite rfl (fun hp => ?_) (fun hp => ?_)))
    · obtain ⟨e1, e2, e3⟩ := zOk_bad (s := s) (by omega) (by simpa using hp)
      rw [e1, e2]
      exact ok_ret rfl rfl
    · have hp : pOk (zT s) = true := by simpa using hp
      obtain ⟨e1, e2, e3⟩ := zOk_good (s := s) (by omega) hp (fun h => by rw [h.1] at hn; cases hn)
      rw [e1, e2, hn]
      try simp only [List.cons_append, List.nil_append]
      exact ok_call (f_made (s := false) (x := pV (zT s))) rfl rfl (ok_ret rfl rfl)
end Go.Proofs.YtlpfbcilnfgaaaaGreatDoor


