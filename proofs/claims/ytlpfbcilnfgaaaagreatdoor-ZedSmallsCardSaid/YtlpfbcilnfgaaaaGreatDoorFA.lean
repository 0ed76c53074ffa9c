import Derived.Test.YtlpfbcilnfgaaaaGreatDoorEB
import Derived.Test.YtlpfbcilnfgaaaaGreatDoorOb
import Derived.Test.YtlpfbcilnfgaaaaGreatDoorUA
import Derived.Test.YtlpfbcilnfgaaaaGreatDoorPaz
import Derived.Test.YtlpfbcilnfgaaaaGreatDoorNs
import Derived.Test.YtlpfbcilnfgaaaaGreatDoorZaz
import Derived.Test.YtlpfbcilnfgaaaaGreatDoorVaz
import Derived.Test.YtlpfbcilnfgaaaaGreatDoorVtz
/- Numbers in the engine's words: what a value of limbs says; the contracts of package nat and of the reference's numbers, as the engine takes them. -/
namespace Gv
open Go Go.RowKit Gs
set_option linter.unusedVariables false

/-- a row of whole numbers -/
def rowP (k : IntKind) (l : List Nat) : PV := .sl (l.map fun (n : Nat) => [PV.raw (.int k (n : Int))])
abbrev u64s (l : List Nat) : PV := rowP .u64 l
abbrev u32s (l : List Nat) : PV := rowP .u32 l
/-- a number, good -/
def nat (x : Nat) : PV := u64s (limbs 18446744073709551616 x)
/-- the reference's -/
def r32 (x : Nat) : PV := u32s (limbs 4294967296 x)

theorem rep_row {w : World} {P : Nat → Prop} {k : IntKind} {l : List Nat} {v : Value} (h : Rep w P (rowP k l) v) : ∃ A n c, v = .slice A n c ∧ RdN k w P ⟨A, n, c⟩ l := by
  unfold rowP at h
  generalize hes : (l.map fun (n : Nat) => [PV.raw (.int k (n : Int))]) = es at h
  cases h with
  | nil A c hc =>
    obtain rfl : l = [] := List.map_eq_nil_iff.1 hes
    exact ⟨A, 0, c, rfl, RdN.nil _ _ _ c hc _⟩
  | sl k' _ ad c vs hk h1 h2 hf hc hr =>
    subst hes
    have hlen : (l.map fun (n : Nat) => [PV.raw (.int k (n : Int))]).length = l.length := by simp
    rw [hlen] at h1 ⊢
    refine ⟨some ad, l.length, c, rfl, rfl, h1, h2, fun hn => ⟨ad, rfl, ?_, fun j hj => ?_⟩⟩
    · have h3 := hc 0 [.raw (.int k (l[0] : Int))] (by rw [List.getElem?_map, List.getElem?_eq_getElem (show 0 < l.length from hn)]; rfl) 0 _ rfl
      exact h3.1
    · have hj' : j < l.length := hj
      have hget : (l.map fun (n : Nat) => [PV.raw (.int k (n : Int))])[j]? = some [.raw (.int k (l[j] : Int))] := by rw [List.getElem?_map, List.getElem?_eq_getElem hj']; rfl
      have h3 := (hc j _ hget 0 _ rfl).2
      have h4 := hr j _ hget 0 _ rfl
      have h5 := hk j _ hget
      simp only [List.length_cons, List.length_nil] at h5
      subst h5
      generalize hu : vs j 0 = u at h3 h4
      cases h4
      rw [gd_lt hj']
      simpa using h3
theorem row_rep {w : World} {P : Nat → Prop} {k : IntKind} {l : List Nat} {A : Option Addr} {n c : Nat} (h : RdN k w P ⟨A, n, c⟩ l) : Rep w P (rowP k l) (.slice A n c) := by
  have hlen := h.len
  have hcap := h.cap
  have htop := h.top
  simp only at hlen hcap htop
  subst hlen
  rcases Nat.eq_zero_or_pos l.length with h0 | h0
  · obtain rfl := List.length_eq_zero_iff.1 h0
    exact .nil A c htop
  · obtain ⟨ad, e, hP, hc⟩ := h.cells h0
    simp only at e
    subst e
    unfold rowP
    have hl2 : (l.map fun (n : Nat) => [PV.raw (.int k (n : Int))]).length = l.length := by simp
    have key : ∀ (i : Nat) (e : List PV), (l.map fun (n : Nat) => [PV.raw (.int k (n : Int))])[i]? = some e → ∀ (j : Nat) (p : PV), e[j]? = some p → i < l.length ∧ j = 0 ∧ e = [.raw (.int k (gd l i : Int))] ∧ p = .raw (.int k (gd l i : Int)) := by
      intro i e hi j p hj
      rw [List.getElem?_map, Option.map_eq_some_iff] at hi
      obtain ⟨n, hn, rfl⟩ := hi
      have hlt := (List.getElem?_eq_some_iff.1 hn).1
      have hgd : n = gd l i := by rw [gd_lt hlt]; exact (List.getElem?_eq_some_iff.1 hn).2.symm
      subst hgd
      cases j with
      | zero => simp at hj; exact ⟨hlt, rfl, rfl, hj.symm⟩
      | succ j => simp at hj
    have := Rep.sl (w := w) (P := P) 1 (l.map fun (n : Nat) => [PV.raw (.int k (n : Int))]) ad c (fun i _ => .int k (gd l i : Int)) (fun i e hi => ?_) (by rw [hl2]; exact hcap) htop (fun i e hi j p hj => ?_) (fun i e hi j p hj => ?_) (fun i e hi j p hj => ?_)
    · rwa [hl2] at this
    · rw [List.getElem?_map, Option.map_eq_some_iff] at hi
      obtain ⟨n, _, rfl⟩ := hi
      rfl
    · obtain ⟨_, _, _, rfl⟩ := key i e hi j p hj; rfl
    · obtain ⟨h1, rfl, _, _⟩ := key i e hi j p hj
      exact ⟨hP, by simpa using hc i h1⟩
    · obtain ⟨_, _, _, rfl⟩ := key i e hi j p hj; exact .raw _

/-- a row of limbs that make a number; at most k of them -/
def IsN (p : PV) (x k : Nat) : Prop := ∃ l, p = u64s l ∧ Lt 18446744073709551616 l ∧ val 18446744073709551616 l = x ∧ l.length ≤ k
/-- how many limbs a number has -/
def sz (x : Nat) : Nat := (limbs 18446744073709551616 x).length
theorem sz_le {x k : Nat} (h : x < 18446744073709551616 ^ k) : sz x ≤ k := limbs_len_le B64 h
theorem lt_sz (x : Nat) : x < 18446744073709551616 ^ sz x := by
  have := val_lt (limbs_lt B64 x)
  rwa [val_limbs B64] at this
theorem sz_zero : sz 0 = 0 := rfl
theorem sz_mono {x y : Nat} (h : x ≤ y) : sz x ≤ sz y := sz_le (Nat.lt_of_le_of_lt h (lt_sz y))
theorem sz_add {x y a b : Nat} (h : sz x ≤ a) (h' : sz y ≤ b) : sz (x + y) ≤ a + b + 1 := by
  refine sz_le (Nat.lt_of_lt_of_le (pow_add_lt (lt_sz x) (lt_sz y)) (Nat.pow_le_pow_right (by omega) (by omega)))
theorem sz_mul {x y a b : Nat} (h : sz x ≤ a) (h' : sz y ≤ b) : sz (x * y) ≤ a + b :=
  sz_le (Nat.lt_of_lt_of_le (pow_mul_lt (lt_sz x) (lt_sz y)) (Nat.pow_le_pow_right (by omega) (by omega)))
theorem sz_small {x : Nat} (h : x < 18446744073709551616) : sz x ≤ 1 := sz_le (by simpa using h)
theorem IsN.nat {x k : Nat} (h : sz x ≤ k) : IsN (nat x) x k := ⟨_, rfl, limbs_lt B64 x, val_limbs B64 x, h⟩
theorem IsN.mk {l : List Nat} {k : Nat} (h : Lt 18446744073709551616 l) (hk : l.length ≤ k) : IsN (u64s l) (val 18446744073709551616 l) k := ⟨l, rfl, h, rfl, hk⟩
theorem IsN.nil : IsN (.sl []) 0 0 := ⟨[], rfl, Lt.nil _, rfl, Nat.le_refl _⟩
theorem IsN.sz {p : PV} {x k : Nat} (h : IsN p x k) : sz x ≤ k := by
  obtain ⟨l, _, h1, rfl, h2⟩ := h
  exact sz_le (Nat.lt_of_lt_of_le (val_lt h1) (Nat.pow_le_pow_right (by omega) h2))
theorem IsN.more {p : PV} {x k k' : Nat} (h : IsN p x k) (hk : k ≤ k') : IsN p x k' := by
  obtain ⟨l, h0, h1, h2, h3⟩ := h
  exact ⟨l, h0, h1, h2, Nat.le_trans h3 hk⟩
theorem IsN.val {p : PV} {x k : Nat} (h : IsN p x k) {w : World} {P : Nat → Prop} {v : Value} (hr : Rep w P p v) : ∃ A n c l, v = .slice A n c ∧ RdU w P ⟨A, n, c⟩ l ∧ Gs.val 18446744073709551616 l = x ∧ n ≤ k := by
  obtain ⟨l, rfl, h1, h2, h3⟩ := h
  obtain ⟨A, n, c, rfl, hr'⟩ := rep_row hr
  refine ⟨A, n, c, l, rfl, ⟨hr', h1⟩, h2, ?_⟩
  have := hr'.len
  simp only at this
  omega
theorem r32_val {x : Nat} {w : World} {P : Nat → Prop} {v : Value} (hr : Rep w P (r32 x) v) : ∃ A n c, v = .slice A n c ∧ R32 w P ⟨A, n, c⟩ (limbs 4294967296 x) := by
  obtain ⟨A, n, c, rfl, hr'⟩ := rep_row hr
  exact ⟨A, n, c, rfl, hr', limbs_lt B32 x⟩

/-- a contract, from calls -/
theorem Fn.of {P : Program} {f : FuncId} {args : List PV} {r : PV} (he : ∃ fn, P.funcs[f]? = some fn ∧ fn.body.isSome = true ∧ (fn.name == "runtime.NumGoroutine") = false)
    (h : ∀ (w : World) (P0 : Nat → Prop) (vs : List Value), vs.length = args.length → (∀ (j : Nat) (p : PV) (v : Value), args[j]? = some p → vs[j]? = some v → Rep w P0 p v) →
      Calls P f vs.toArray w fun e w' => ∃ v, e = .returned v ∧ Rep w' (fun b => P0 b ∨ w.heap.size ≤ b) r v ∧ Below w.heap.size w w') : Fn P f args r := by
  refine ⟨he, fun w P0 vs hP hl hr => ?_⟩
  have := h w P0 vs.toList (by simpa using hl.symm) fun j p v hp hv => by
    have := hr j p hp
    have hlt := (List.getElem?_eq_some_iff.1 hv).1
    simp only [Array.length_toList] at hlt
    have e : vs.getD j undef = v := by
      simp [Array.getElem?_toList] at hv
      rw [Array.getElem?_eq_getElem hlt] at hv
      simp [Array.getD, hlt]
      exact Option.some.inj hv
    rwa [e] at this
  rw [Array.toArray_toList] at this
  refine this.mono ?_
  rintro e w' ⟨v, rfl, h1, h2⟩
  exact ⟨v, r, rfl, rfl, h1, h2⟩
theorem two_list {vs : List Value} (h : vs.length = 2) : ∃ a b, vs = [a, b] := by
  match vs, h with
  | [a, b], _ => exact ⟨a, b, rfl⟩
theorem one_list {vs : List Value} (h : vs.length = 1) : ∃ a, vs = [a] := by
  match vs, h with
  | [a], _ => exact ⟨a, rfl⟩
end Gv
namespace Go.Proofs.YtlpfbcilnfgaaaaGreatDoor
open Go.RowKit Gs Gv
set_option linter.unusedVariables false
theorem mixed : Tryz.prog.follows .mixedOrders = true := by kernel_rfl
section
variable {p q : PV} {x y k k' : Nat}
theorem n_Add (h : IsN p x k) (h' : IsN q y k') (hk : k ≤ 1000000) (hk' : k' ≤ 1000000) : Gv.Fn Tryz.prog 100 [p, q] (nat (x + y)) := by
  refine Fn.of ⟨_, Tryz.func100, rfl, by kernel_rfl⟩ fun w P0 vs hl hr => ?_
  obtain ⟨a, b, rfl⟩ := two_list hl
  obtain ⟨A, n, c, l, rfl, h1, h2, h3⟩ := h.val (hr 0 _ _ rfl rfl)
  obtain ⟨A', n', c', l', rfl, h1', h2', h3'⟩ := h'.val (hr 1 _ _ rfl rfl)
  refine (nat_Add h1 h1' (by omega) (by omega)).mono ?_
  rintro e w' ⟨A1, n1, c1, rfl, h4, hb⟩
  rw [h2, h2'] at h4
  exact ⟨_, rfl, row_rep (h4.rd.mono fun b hb => .inr hb), hb⟩
theorem n_Mul (h : IsN p x k) (h' : IsN q y k') (hk : k ≤ 1000000) (hk' : k' ≤ 1000000) : Gv.Fn Tryz.prog 106 [p, q] (nat (x * y)) := by
  refine Fn.of ⟨_, Tryz.func106, rfl, by kernel_rfl⟩ fun w P0 vs hl hr => ?_
  obtain ⟨a, b, rfl⟩ := two_list hl
  obtain ⟨A, n, c, l, rfl, h1, h2, h3⟩ := h.val (hr 0 _ _ rfl rfl)
  obtain ⟨A', n', c', l', rfl, h1', h2', h3'⟩ := h'.val (hr 1 _ _ rfl rfl)
  refine (nat_Mul h1 h1' (by omega) (by omega)).mono ?_
  rintro e w' ⟨A1, n1, c1, rfl, h4, hb⟩
  rw [h2, h2'] at h4
  exact ⟨_, rfl, row_rep (h4.rd.mono fun b hb => .inr hb), hb⟩
theorem n_Cmp (h : IsN p x k) (h' : IsN q y k') (hk : k ≤ 1000000) (hk' : k' ≤ 1000000) : Gv.Fn Tryz.prog 101 [p, q] (.raw (.int .i64 (cmpI x y))) := by
  refine Fn.of ⟨_, Tryz.func101, rfl, by kernel_rfl⟩ fun w P0 vs hl hr => ?_
  obtain ⟨a, b, rfl⟩ := two_list hl
  obtain ⟨A, n, c, l, rfl, h1, h2, h3⟩ := h.val (hr 0 _ _ rfl rfl)
  obtain ⟨A', n', c', l', rfl, h1', h2', h3'⟩ := h'.val (hr 1 _ _ rfl rfl)
  refine (nat_Cmp h1 h1' (by omega) (by omega)).mono ?_
  rintro e w' ⟨rfl, hb⟩
  rw [h2, h2']
  exact ⟨_, rfl, .raw _, hb⟩
theorem n_Sub (h : IsN p x k) (h' : IsN q y k') (hk : k ≤ 1000000) (hk' : k' ≤ 1000000) (hle : y ≤ x) : Gv.Fn Tryz.prog 102 [p, q] (.tup [nat (x - y), .raw (.int .i64 0)]) := by
  refine Fn.of ⟨_, Tryz.func102, rfl, by kernel_rfl⟩ fun w P0 vs hl hr => ?_
  obtain ⟨a, b, rfl⟩ := two_list hl
  obtain ⟨A, n, c, l, rfl, h1, h2, h3⟩ := h.val (hr 0 _ _ rfl rfl)
  obtain ⟨A', n', c', l', rfl, h1', h2', h3'⟩ := h'.val (hr 1 _ _ rfl rfl)
  refine (nat_Sub h1 h1' (by omega) (by omega) (by rw [h2, h2']; exact hle)).mono ?_
  rintro e w' ⟨A1, n1, c1, rfl, h4, hb⟩
  rw [h2, h2'] at h4
  refine ⟨_, rfl, .tup _ _ rfl fun j p hj => ?_, hb⟩
  match j, hj with
  | 0, hj => cases hj; exact row_rep (h4.rd.mono fun b hb => .inr hb)
  | 1, hj => cases hj; exact .raw _
theorem n_DivMod (h : IsN p x k) (h' : IsN q y k') (hk : k ≤ 1000000) (hk' : k' ≤ 1000000) (hy : y ≠ 0) : Gv.Fn Tryz.prog 94 [p, q] (.tup [nat (x / y), nat (x % y), .raw (.int .i64 0)]) := by
  refine Fn.of ⟨_, Tryz.func94, rfl, by kernel_rfl⟩ fun w P0 vs hl hr => ?_
  obtain ⟨a, b, rfl⟩ := two_list hl
  obtain ⟨A, n, c, l, rfl, h1, h2, h3⟩ := h.val (hr 0 _ _ rfl rfl)
  obtain ⟨A', n', c', l', rfl, h1', h2', h3'⟩ := h'.val (hr 1 _ _ rfl rfl)
  refine (nat_DivMod h1 h1' (by omega) (by omega) (by rw [h2']; exact hy)).mono ?_
  rintro e w' ⟨A1, n1, c1, A2, n2, c2, rfl, h4, h5, hb⟩
  rw [h2, h2'] at h4 h5
  refine ⟨_, rfl, .tup _ _ rfl fun j p hj => ?_, hb⟩
  match j, hj with
  | 0, hj => cases hj; exact row_rep (h4.rd.mono fun b hb => .inr hb)
  | 1, hj => cases hj; exact row_rep (h5.rd.mono fun b hb => .inr hb)
  | 2, hj => cases hj; exact .raw _
theorem n_DivMod_zero (h : IsN p x k) (h' : IsN q 0 k') (hk : k ≤ 1000000) (hk' : k' ≤ 1000000) : Gv.Fn Tryz.prog 94 [p, q] (.tup [nat 0, nat 0, .raw (.int .i64 12)]) := by
  refine Fn.of ⟨_, Tryz.func94, rfl, by kernel_rfl⟩ fun w P0 vs hl hr => ?_
  obtain ⟨a, b, rfl⟩ := two_list hl
  obtain ⟨A, n, c, l, rfl, h1, h2, h3⟩ := h.val (hr 0 _ _ rfl rfl)
  obtain ⟨A', n', c', l', rfl, h1', h2', h3'⟩ := h'.val (hr 1 _ _ rfl rfl)
  refine (nat_DivMod_zero h1 h1' (by omega) (by omega) h2').mono ?_
  rintro e w' ⟨rfl, hb⟩
  refine ⟨_, rfl, .tup _ _ rfl fun j p hj => ?_, hb⟩
  match j, hj with
  | 0, hj => cases hj; exact .nil none 0 (by omega)
  | 1, hj => cases hj; exact .nil none 0 (by omega)
  | 2, hj => cases hj; exact .raw _
theorem n_Gcd (h : IsN p x k) (h' : IsN q y k') (hk : k ≤ 1000000) (hk' : k' ≤ 1000000) : Gv.Fn Tryz.prog 126 [p, q] (nat (Nat.gcd x y)) := by
  refine Fn.of ⟨_, Tryz.func126, rfl, by kernel_rfl⟩ fun w P0 vs hl hr => ?_
  obtain ⟨a, b, rfl⟩ := two_list hl
  obtain ⟨A, n, c, l, rfl, h1, h2, h3⟩ := h.val (hr 0 _ _ rfl rfl)
  obtain ⟨A', n', c', l', rfl, h1', h2', h3'⟩ := h'.val (hr 1 _ _ rfl rfl)
  refine (nat_Gcd h1 h1' (by omega) (by omega)).mono ?_
  rintro e w' ⟨A1, n1, c1, rfl, h4, hb⟩
  rw [h2, h2'] at h4
  exact ⟨_, rfl, row_rep (h4.rd.mono fun b hb => .inr hb), hb⟩
theorem n_Of (v : Nat) (hv : v < 18446744073709551616) : Gv.Fn Tryz.prog 112 [.raw (.int .u64 v)] (nat v) := by
  refine Fn.of ⟨_, Tryz.func112, rfl, by kernel_rfl⟩ fun w P0 vs hl hr => ?_
  obtain ⟨a, rfl⟩ := one_list hl
  have := hr 0 _ _ rfl rfl
  cases this
  refine (nat_Of v hv w).mono ?_
  rintro e w' ⟨A1, n1, c1, rfl, h4, hb⟩
  exact ⟨_, rfl, row_rep (h4.rd.mono fun b hb => .inr hb), hb⟩
theorem n_Good {l : List Nat} (h : Lt 18446744073709551616 l) (hk : l.length ≤ 1000000) : Gv.Fn Tryz.prog 111 [u64s l] (.raw (.bool (goodB l))) := by
  refine Fn.of ⟨_, Tryz.func111, rfl, by kernel_rfl⟩ fun w P0 vs hl hr => ?_
  obtain ⟨a, rfl⟩ := one_list hl
  obtain ⟨A, n, c, rfl, h1⟩ := rep_row (hr 0 _ _ rfl rfl)
  have := h1.len
  simp only at this
  refine (nat_Good ⟨h1, h⟩ (by omega)).mono ?_
  rintro e w' ⟨rfl, hb⟩
  exact ⟨_, rfl, .raw _, hb⟩
theorem n_Bits (h : IsN p x k) (hk : k ≤ 1000000) : Gv.Fn Tryz.prog 152 [p] (.raw (.int .i64 (blen x : Nat))) := by
  refine Fn.of ⟨_, Tryz.func152, rfl, by kernel_rfl⟩ fun w P0 vs hl hr => ?_
  obtain ⟨a, rfl⟩ := one_list hl
  obtain ⟨A, n, c, l, rfl, h1, h2, h3⟩ := h.val (hr 0 _ _ rfl rfl)
  refine (nat_Bits h1 (by omega)).mono ?_
  rintro e w' ⟨rfl, rfl⟩
  rw [h2]
  exact ⟨_, rfl, .raw _, Below.refl _ _⟩
theorem k_Nats {l m : List Nat} (h : Lt 18446744073709551616 l) (h' : Lt 18446744073709551616 m) : Gv.Fn Tryz.prog 98 [u64s l, u64s m] (.raw (.bool (decide (l = m)))) := by
  refine Fn.of ⟨_, Tryz.func98, rfl, by kernel_rfl⟩ fun w P0 vs hl hr => ?_
  obtain ⟨a, b, rfl⟩ := two_list hl
  obtain ⟨A, n, c, rfl, h1⟩ := rep_row (hr 0 _ _ rfl rfl)
  obtain ⟨A', n', c', rfl, h1'⟩ := rep_row (hr 1 _ _ rfl rfl)
  refine (keep_Nats ⟨h1, h⟩ ⟨h1', h'⟩).mono ?_
  rintro e w' ⟨rfl, hb⟩
  exact ⟨_, rfl, .raw _, hb⟩

/-! the reference's -/
theorem r_In (h : IsN p x k) (hk : k ≤ 1000000) : Gv.Fn Tryz.prog 92 [p] (r32 x) := by
  refine Fn.of ⟨_, Tryz.func92, rfl, by kernel_rfl⟩ fun w P0 vs hl hr => ?_
  obtain ⟨a, rfl⟩ := one_list hl
  obtain ⟨A, n, c, l, rfl, h1, h2, h3⟩ := h.val (hr 0 _ _ rfl rfl)
  refine (ref_In h1 (by omega)).mono ?_
  rintro e w' ⟨A1, n1, c1, rfl, h4, hb⟩
  rw [h2] at h4
  exact ⟨_, rfl, row_rep (h4.rd.mono fun b hb => .inr hb), hb⟩
/-- how many limbs of 32 bits -/
theorem sz32 {x k : Nat} (h : sz x ≤ k) : (limbs 4294967296 x).length ≤ 2 * k := by
  refine limbs_len_le B32 ?_
  rw [← pow64_32]
  exact Nat.lt_of_lt_of_le (lt_sz x) (Nat.pow_le_pow_right (by omega) h)
theorem r32_len {x k n c : Nat} {A : Option Addr} {w : World} {P : Nat → Prop} (h : R32 w P ⟨A, n, c⟩ (limbs 4294967296 x)) (hk : sz x ≤ k) : n ≤ 2 * k := by
  have h1 := h.rd.len
  have h2 := sz32 hk
  simp only at h1
  omega
theorem r_Out (hk : sz x ≤ 400000) : Gv.Fn Tryz.prog 99 [r32 x] (nat x) := by
  refine Fn.of ⟨_, Tryz.func99, rfl, by kernel_rfl⟩ fun w P0 vs hl hr => ?_
  obtain ⟨a, rfl⟩ := one_list hl
  obtain ⟨A, n, c, rfl, h1⟩ := r32_val (hr 0 _ _ rfl rfl)
  have := r32_len h1 hk
  refine (ref_Out h1 (by omega)).mono ?_
  rintro e w' ⟨A1, n1, c1, rfl, h4, hb⟩
  exact ⟨_, rfl, row_rep (h4.rd.mono fun b hb => .inr hb), hb⟩
theorem r_Cmp (hk : sz x ≤ 400000) (hk' : sz y ≤ 400000) : Gv.Fn Tryz.prog 104 [r32 x, r32 y] (.raw (.int .i64 (cmpI x y))) := by
  refine Fn.of ⟨_, Tryz.func104, rfl, by kernel_rfl⟩ fun w P0 vs hl hr => ?_
  obtain ⟨a, b, rfl⟩ := two_list hl
  obtain ⟨A, n, c, rfl, h1⟩ := r32_val (hr 0 _ _ rfl rfl)
  obtain ⟨A', n', c', rfl, h1'⟩ := r32_val (hr 1 _ _ rfl rfl)
  have h2 := r32_len h1 hk
  have h3 := r32_len h1' hk'
  refine (ref_Cmp h1 h1' (by omega) (by omega)).mono ?_
  rintro e w' ⟨rfl, hb⟩
  exact ⟨_, rfl, .raw _, hb⟩
theorem r_Add (hk : sz x ≤ 400000) (hk' : sz y ≤ 400000) : Gv.Fn Tryz.prog 103 [r32 x, r32 y] (r32 (x + y)) := by
  refine Fn.of ⟨_, Tryz.func103, rfl, by kernel_rfl⟩ fun w P0 vs hl hr => ?_
  obtain ⟨a, b, rfl⟩ := two_list hl
  obtain ⟨A, n, c, rfl, h1⟩ := r32_val (hr 0 _ _ rfl rfl)
  obtain ⟨A', n', c', rfl, h1'⟩ := r32_val (hr 1 _ _ rfl rfl)
  have h2 := r32_len h1 hk
  have h3 := r32_len h1' hk'
  refine (ref_Add h1 h1' (by omega) (by omega)).mono ?_
  rintro e w' ⟨A1, n1, c1, rfl, h4, hb⟩
  exact ⟨_, rfl, row_rep (h4.rd.mono fun b hb => .inr hb), hb⟩
theorem r_Sub (hk : sz x ≤ 400000) (hle : y ≤ x) : Gv.Fn Tryz.prog 105 [r32 x, r32 y] (r32 (x - y)) := by
  refine Fn.of ⟨_, Tryz.func105, rfl, by kernel_rfl⟩ fun w P0 vs hl hr => ?_
  obtain ⟨a, b, rfl⟩ := two_list hl
  obtain ⟨A, n, c, rfl, h1⟩ := r32_val (hr 0 _ _ rfl rfl)
  obtain ⟨A', n', c', rfl, h1'⟩ := r32_val (hr 1 _ _ rfl rfl)
  have h2 := r32_len h1 hk
  refine (ref_Sub h1 h1' (by omega) hle).mono ?_
  rintro e w' ⟨A1, n1, c1, rfl, h4, hb⟩
  exact ⟨_, rfl, row_rep (h4.rd.mono fun b hb => .inr hb), hb⟩
theorem r_Mul (hk : sz x ≤ 400000) (hk' : sz y ≤ 400000) : Gv.Fn Tryz.prog 107 [r32 x, r32 y] (r32 (x * y)) := by
  refine Fn.of ⟨_, Tryz.func107, rfl, by kernel_rfl⟩ fun w P0 vs hl hr => ?_
  obtain ⟨a, b, rfl⟩ := two_list hl
  obtain ⟨A, n, c, rfl, h1⟩ := r32_val (hr 0 _ _ rfl rfl)
  obtain ⟨A', n', c', rfl, h1'⟩ := r32_val (hr 1 _ _ rfl rfl)
  have h2 := r32_len h1 hk
  have h3 := r32_len h1' hk'
  refine (ref_Mul h1 h1' (by omega) (by omega)).mono ?_
  rintro e w' ⟨A1, n1, c1, rfl, h4, hb⟩
  exact ⟨_, rfl, row_rep (h4.rd.mono fun b hb => .inr hb), hb⟩
theorem r_Of (v : Nat) (hv : v < 18446744073709551616) : Gv.Fn Tryz.prog 115 [.raw (.int .u64 v)] (r32 v) := by
  refine Fn.of ⟨_, Tryz.func115, rfl, by kernel_rfl⟩ fun w P0 vs hl hr => ?_
  obtain ⟨a, rfl⟩ := one_list hl
  have := hr 0 _ _ rfl rfl
  cases this
  refine (ref_Of_new v hv w).mono ?_
  rintro e w' ⟨A1, n1, c1, rfl, h4, hb⟩
  exact ⟨_, rfl, row_rep (h4.rd.mono fun b hb => .inr hb), hb⟩
theorem CanF.rep {G : Nat → Prop} {w : World} {v : Value} {x K : Nat} (h : CanF G w v x K) : Rep w G (r32 x) v := by
  obtain ⟨A, n, c, rfl, hr, _⟩ := h
  exact row_rep hr.rd
theorem r_DivMod (hk : sz x ≤ 500) (hk' : sz y ≤ 500) (hy : 0 < y) : Gv.Fn Tryz.prog 96 [r32 x, r32 y] (.agg [r32 (x / y), r32 (x % y)]) := by
  refine Fn.of ⟨_, Tryz.func96, rfl, by kernel_rfl⟩ fun w P0 vs hl hr => ?_
  obtain ⟨a, b, rfl⟩ := two_list hl
  obtain ⟨A, n, c, rfl, h1⟩ := r32_val (hr 0 _ _ rfl rfl)
  obtain ⟨A', n', c', rfl, h1'⟩ := r32_val (hr 1 _ _ rfl rfl)
  have h2 := r32_len h1 hk
  have h3 := r32_len h1' hk'
  have key : Calls Tryz.prog 96 #[.slice A n c, .slice A' n' c'] w fun e w' => ∃ q r, e = .returned (.agg #[q, r]) ∧ CanF (fun b => P0 b ∨ w.heap.size ≤ b) w' q (x / y) n ∧ (∃ N, CanF (fun b => P0 b ∨ w.heap.size ≤ b) w' r (x % y) N) ∧ Below w.heap.size w w' := by
    have ha : CanF P0 w (.slice A n c) x n := ⟨A, n, c, rfl, h1, Nat.le_refl _⟩
    have hb : CanR w (.slice A' n' c') y n' := ⟨A', n', c', rfl, h1'.mono fun _ _ => trivial, Nat.le_refl _⟩
    rcases Nat.lt_or_ge x y with hlt | hge
    · refine (ref_DivMod_lessF ha hb (by omega) (by omega) hlt).mono ?_
      rintro e w' ⟨q, r, he, h4, h5, hb⟩
      exact ⟨q, r, he, h4, ⟨_, h5⟩, hb⟩
    · by_cases h1n : n' ≤ 1
      · have hl' : (limbs 4294967296 y).length = n' := h1'.rd.len
        have hy1 : y < 4294967296 ^ 1 := lt_of_limbs_len B32 (by omega)
        refine (ref_DivMod_oneF ha.r (CanR.tight hb hy1) (by omega) hy hge).mono ?_
        rintro e w' ⟨q, r, he, h4, h5, hb⟩
        exact ⟨q, r, he, h4.mono fun b hb => .inr hb, ⟨_, h5.mono fun b hb => .inr hb⟩, hb⟩
      · refine (ref_DivMod_longF (N := n') h1 h1' (by omega) (Nat.le_refl _) (by omega) (by omega) hge).mono ?_
        rintro e w' ⟨q, r, he, h4, h5, hb⟩
        exact ⟨q, r, he, h4.mono fun b hb => .inr hb, ⟨_, h5.mono fun b hb => .inr hb⟩, hb⟩
  refine key.mono ?_
  rintro e w' ⟨u, v, rfl, h4, ⟨N, h5⟩, hb⟩
  refine ⟨_, rfl, .agg _ _ rfl (fun j p hj => ?_) (fun j p hj => ?_), hb⟩
  · match j, hj with
    | 0, hj => cases hj; rfl
    | 1, hj => cases hj; rfl
  · match j, hj with
    | 0, hj => cases hj; exact CanF.rep h4
    | 1, hj => cases hj; exact CanF.rep h5
end
end Go.Proofs.YtlpfbcilnfgaaaaGreatDoor


/- Whole numbers with a sign in the engine's words; package zed's contracts. -/
namespace Gv
open Go Go.RowKit Gs
set_option linter.unusedVariables false

/-! steps of a condition -/
section
variable {P : Program} {R : PV → Prop} {ρ : List PV} {C : List (List PV → Prop)} {k : VC}
theorem ok_call {f : FuncId} {args : List SV} {sh : RSh} {ps : List PV} {r : PV} (h : Fn P f ps r) (hp : pvs ρ args = ps) (hf : fitsR sh r = true) (hk : k.ok P R (ρ ++ [r]) C) : (VC.call f args sh k).ok P R ρ C := ⟨r, by rw [hp]; exact h, hf, hk⟩
theorem ok_prim {p : Prim} {args : List SV} {r : PV} (h : p.ev (pvs ρ args) = some r) (hk : k.ok P R (ρ ++ [r]) C) : (VC.prim p args k).ok P R ρ C := ⟨r, h, hk⟩
theorem ok_ite {c : SV} {a b : VC} {t : Bool} (h : pv ρ c = .raw (.bool t)) (h1 : t = true → a.ok P R ρ C) (h2 : t = false → b.ok P R ρ C) : (VC.ite c a b).ok P R ρ C := ⟨t, h, h1, h2⟩
theorem ok_ret {s : SV} {r : PV} (h : R r) (hs : pv ρ s = r) : (VC.ret s).ok P R ρ C := by show R (pv ρ s); rw [hs]; exact h
end

/-- a whole number, good -/
def zc (z : Int) : PV := .agg [.raw (.bool (decide (z < 0))), nat z.natAbs]
/-- a sign, and limbs that make the number z; at most k limbs -/
def IsZ (p : PV) (z : Int) (k : Nat) : Prop := ∃ s l, p = .agg [.raw (.bool s), u64s l] ∧ Lt 18446744073709551616 l ∧ sg s (val 18446744073709551616 l) = z ∧ l.length ≤ k
def zs (z : Int) : Nat := sz z.natAbs
theorem IsZ.zc {z : Int} {k : Nat} (h : zs z ≤ k) : IsZ (zc z) z k := ⟨_, _, rfl, limbs_lt B64 _, by rw [val_limbs B64, sg_of], h⟩
theorem IsZ.zs {p : PV} {z : Int} {k : Nat} (h : IsZ p z k) : zs z ≤ k := by
  obtain ⟨s, l, _, h1, rfl, h2⟩ := h
  unfold Gv.zs
  rw [sg_abs]
  exact sz_le (Nat.lt_of_lt_of_le (val_lt h1) (Nat.pow_le_pow_right (by omega) h2))
theorem zc_sg {s : Bool} {x : Nat} : zc (sg s x) = .agg [.raw (.bool (s && decide (0 < x))), nat x] := by unfold zc; rw [sg_lt, sg_abs]
theorem sz_pos {x : Nat} : decide ((sz x : Int) > 0) = decide (0 < x) := by
  rw [Bool.eq_iff_iff, decide_eq_true_iff, decide_eq_true_iff]
  have := limbs_len_zero B64 x
  unfold sz
  omega
theorem zs_add {x y : Int} {a b : Nat} (h : zs x ≤ a) (h' : zs y ≤ b) : zs (x + y) ≤ a + b + 1 :=
  Nat.le_trans (sz_mono (by omega : (x + y).natAbs ≤ x.natAbs + y.natAbs)) (sz_add h h')
theorem zs_sub {x y : Int} {a b : Nat} (h : zs x ≤ a) (h' : zs y ≤ b) : zs (x - y) ≤ a + b + 1 :=
  Nat.le_trans (sz_mono (by omega : (x - y).natAbs ≤ x.natAbs + y.natAbs)) (sz_add h h')
theorem zs_mul {x y : Int} {a b : Nat} (h : zs x ≤ a) (h' : zs y ≤ b) : zs (x * y) ≤ a + b := by
  unfold zs
  rw [Int.natAbs_mul]
  exact sz_mul h h'
theorem zs_neg {x : Int} {a : Nat} (h : zs x ≤ a) : zs (-x) ≤ a := by unfold zs; rw [Int.natAbs_neg]; exact h
end Gv
namespace Go.Proofs.YtlpfbcilnfgaaaaGreatDoor
open Go.RowKit Gs Gv
set_option linter.unusedVariables false
theorem z_made {s : Bool} {q : PV} {x k : Nat} (h : IsN q x k) (hk : k ≤ 1000000) : Gv.Fn Tryz.prog 95 [.raw (.bool s), q] (zc (sg s x)) := by
  have h0 := h
  obtain ⟨l, rfl, h1, h2, h3⟩ := h
  refine Fn.intro mixed vc_zed_made rfl ?_
  refine ok_call (n_Add h0 IsN.nil hk (by decide)) rfl rfl ?_
  refine ok_ite rfl ?_ ?_
  · rintro rfl
    refine ok_prim rfl (ok_prim rfl (ok_ret rfl ?_))
    rw [zc_sg]
    show PV.agg [.raw (.bool (decide (((((limbs 18446744073709551616 (x + 0)).map fun (n : Nat) => [PV.raw (.int .u64 (n : Int))]).length : Nat) : Int) > 0))), nat (x + 0)] = _
    rw [List.length_map, ← sz_pos]
    rfl
  · rintro rfl
    refine ok_ret rfl ?_
    rw [zc_sg]
    rfl
theorem z_good {p : PV} {z : Int} {k : Nat} (h : IsZ p z k) (hk : k ≤ 1000000) : Gv.Fn Tryz.prog 93 [p] (zc z) := by
  obtain ⟨s, l, rfl, h1, h2, h3⟩ := h
  refine Fn.intro mixed vc_zed_good rfl ?_
  refine ok_call (z_made ⟨l, rfl, h1, rfl, h3⟩ hk) rfl rfl (ok_ret rfl ?_)
  rw [h2]
  rfl
theorem z_Neg {p : PV} {z : Int} {k : Nat} (h : IsZ p z k) (hk : k ≤ 1000000) : Gv.Fn Tryz.prog 37 [p] (zc (-z)) := by
  obtain ⟨s, l, rfl, h1, h2, h3⟩ := h
  refine Fn.intro mixed vc_zed_Neg rfl ?_
  refine ok_prim rfl (ok_call (z_made ⟨l, rfl, h1, rfl, h3⟩ hk) rfl rfl (ok_ret rfl ?_))
  rw [sg_not, h2]
  rfl
theorem z_Mul {p q : PV} {x y : Int} {k k' : Nat} (h : IsZ p x k) (h' : IsZ q y k') (hk : k ≤ 400000) (hk' : k' ≤ 400000) : Gv.Fn Tryz.prog 32 [p, q] (zc (x * y)) := by
  obtain ⟨s, l, rfl, h1, h2, h3⟩ := h
  obtain ⟨s', l', rfl, h1', h2', h3'⟩ := h'
  refine Fn.intro mixed vc_zed_Mul rfl ?_
  refine ok_prim rfl (ok_call (n_Mul ⟨l, rfl, h1, rfl, h3⟩ ⟨l', rfl, h1', rfl, h3'⟩ (by omega) (by omega)) rfl rfl ?_)
  refine ok_call (z_made (IsN.nat (sz_mul (IsN.mk h1 h3).sz (IsN.mk h1' h3').sz)) (by omega)) rfl rfl (ok_ret rfl ?_)
  rw [sg_mul, h2, h2']
  rfl
/-- signs that are told -/
theorem zc_nat (z : Int) : IsN (nat z.natAbs) z.natAbs (zs z) := IsN.nat (Nat.le_refl _)
theorem z_Add {p q : PV} {x y : Int} {k k' : Nat} (h : IsZ p x k) (h' : IsZ q y k') (hk : k ≤ 400000) (hk' : k' ≤ 400000) : Gv.Fn Tryz.prog 28 [p, q] (zc (x + y)) := by
  have hx := h.zs
  have hy := h'.zs
  have h0 := h
  have h0' := h'
  obtain ⟨s, l, rfl, h1, h2, h3⟩ := h
  obtain ⟨s', l', rfl, h1', h2', h3'⟩ := h'
  refine Fn.intro mixed vc_zed_Add rfl ?_
  refine ok_call (z_good h0 (by omega)) rfl rfl (ok_call (z_good h0' (by omega)) rfl rfl (ok_prim rfl (ok_ite rfl (fun hs => ?_) (fun hs => ?_))))
  · refine ok_call (n_Add (zc_nat x) (zc_nat y) (by omega) (by omega)) rfl rfl ?_
    refine ok_call (z_made (IsN.nat (sz_add (a := k) (b := k') hx hy)) (by omega)) rfl rfl (ok_ret rfl ?_)
    have e : decide (x < 0) = decide (y < 0) := by simpa using hs
    rw [sg_add, sg_of, e, sg_of]
    rfl
  · have e : decide (x < 0) ≠ decide (y < 0) := by simpa using hs
    refine ok_call (n_Cmp (zc_nat x) (zc_nat y) (by omega) (by omega)) rfl rfl (ok_prim rfl (ok_ite rfl (fun hc => ?_) (fun hc => ?_)))
    · have hlt : x.natAbs < y.natAbs := by
        have : cmpI (x.natAbs : Nat) (y.natAbs : Nat) < 0 := by simpa using hc
        unfold cmpI at this
        split at this
        · omega
        · split at this <;> omega
      refine ok_call (n_Sub (zc_nat y) (zc_nat x) (by omega) (by omega) (by omega)) rfl rfl ?_
      refine ok_call (z_made (IsN.nat (k := k') (Nat.le_trans (sz_mono (Nat.sub_le _ _)) hy)) (by omega)) rfl rfl (ok_ret rfl ?_)
      rw [sg_sub' _ _ _ _ e (by omega), sg_of, sg_of]
      rfl
    · have hle : y.natAbs ≤ x.natAbs := by
        have : ¬ cmpI (x.natAbs : Nat) (y.natAbs : Nat) < 0 := by simpa using hc
        unfold cmpI at this
        split at this
        · omega
        · omega
      refine ok_call (n_Sub (zc_nat x) (zc_nat y) (by omega) (by omega) hle) rfl rfl ?_
      refine ok_call (z_made (IsN.nat (k := k) (Nat.le_trans (sz_mono (Nat.sub_le _ _)) hx)) (by omega)) rfl rfl (ok_ret rfl ?_)
      rw [sg_sub _ _ _ _ e hle, sg_of, sg_of]
      rfl
theorem z_Sub {p q : PV} {x y : Int} {k k' : Nat} (h : IsZ p x k) (h' : IsZ q y k') (hk : k ≤ 400000) (hk' : k' ≤ 400000) : Gv.Fn Tryz.prog 30 [p, q] (zc (x - y)) := by
  have h0 := h
  have h0' := h'
  have hy := zs_neg h'.zs
  obtain ⟨s, l, rfl, h1, h2, h3⟩ := h
  obtain ⟨s', l', rfl, h1', h2', h3'⟩ := h'
  refine Fn.intro mixed vc_zed_Sub rfl ?_
  refine ok_call (z_Neg h0' (by omega)) rfl rfl (ok_call (z_Add h0 (IsZ.zc hy) hk hk') rfl rfl (ok_ret rfl ?_))
  rw [Int.sub_eq_add_neg]
  rfl
theorem z_Of {v : Int} (h1 : -9223372036854775808 ≤ v) (h2 : v ≤ 9223372036854775807) : Gv.Fn Tryz.prog 40 [.raw (.int .i64 v)] (zc v) := by
  refine Fn.intro mixed vc_zed_Of rfl ?_
  refine ok_prim rfl (ok_ite rfl (fun hs => ?_) (fun hs => ?_))
  · have hv : v < 0 := by simpa using hs
    refine ok_prim rfl (ok_prim rfl (ok_prim rfl (ok_prim rfl ?_)))
    have e : IntKind.u64.wrap (IntKind.u64.wrap (IntKind.i64.wrap (0 - IntKind.i64.wrap (v + 1))) + 1) = ((v.natAbs : Nat) : Int) := by
      rw [IntWalk.i64_in (v + 1) (by omega), IntWalk.i64_in _ (by omega), IntKind.wrap_u64, IntKind.wrap_u64]
      omega
    refine ok_call (ps := [.raw (.int .u64 ((v.natAbs : Nat) : Int))]) (n_Of v.natAbs (by omega)) (by rw [← e]; rfl) rfl ?_
    refine ok_call (z_made (IsN.nat (sz_small (by omega))) (by decide)) rfl rfl (ok_ret rfl ?_)
    rw [sg_true, show -(v.natAbs : Int) = v by omega]
    rfl
  · have hv : 0 ≤ v := by simpa using hs
    refine ok_prim rfl ?_
    have e : IntKind.u64.wrap v = ((v.natAbs : Nat) : Int) := by
      rw [IntKind.wrap_u64]
      omega
    refine ok_call (ps := [.raw (.int .u64 ((v.natAbs : Nat) : Int))]) (n_Of v.natAbs (by omega)) (by rw [← e]; rfl) rfl ?_
    refine ok_call (z_made (IsN.nat (sz_small (by omega))) (by decide)) rfl rfl (ok_ret rfl ?_)
    rw [sg_false, show (v.natAbs : Int) = v by omega]
    rfl
end Go.Proofs.YtlpfbcilnfgaaaaGreatDoor


/- Texts of numbers in the engine's words: package nat's and the reference's Text and Parse, gessokeep.Nat. -/
namespace Gv
open Go Go.RowKit Gs
set_option linter.unusedVariables false

theorem text_ex (x : Nat) : ∃ s, IsText s x := by
  rcases Nat.eq_zero_or_pos x with rfl | hx
  · exact ⟨⟨#[48]⟩, by decide, by decide, by decide, by decide⟩
  · have hlt : x < 10 ^ x := Nat.lt_pow_self (by omega)
    obtain ⟨h1, h2, h3⟩ := dropZ (digs x x) (allDig_digs x x)
    rw [dec_digs, Nat.mod_eq_of_lt hlt] at h2
    generalize (digs x x).dropWhile (· == 48) = D at h1 h2 h3
    have hb : byt ⟨(D.map fun d => UInt8.ofNat d).toArray⟩ = D := by
      unfold byt
      simp only [List.map_map]
      have : ∀ d ∈ D, ((fun x : UInt8 => x.toNat) ∘ fun d => UInt8.ofNat d) d = d := by
        intro d hd
        have := List.all_eq_true.1 h1 d hd
        simp only [isDig, Bool.and_eq_true, decide_eq_true_eq] at this
        simp only [Function.comp, UInt8.toNat_ofNat']
        omega
      rw [List.map_congr_left this, List.map_id']
    refine ⟨⟨(D.map fun d => UInt8.ofNat d).toArray⟩, ?_, ?_, ?_, ?_⟩
    · rw [hb]; exact h1
    · rw [hb]; exact h2
    · rw [← byt_length, hb]
      rcases Nat.eq_zero_or_pos D.length with h0 | h0
      · rw [List.length_eq_zero_iff.1 h0] at h2
        rw [← h2] at hx
        exact absurd hx (by decide)
      · exact h0
    · rw [hb]
      intro h0
      refine absurd h0 (h3 ?_)
      rintro rfl
      rw [← h2] at hx
      exact absurd hx (by decide)
/-- the text of a number -/
noncomputable def txt (x : Nat) : ByteArray := Classical.choose (text_ex x)
theorem txt_is (x : Nat) : IsText (txt x) x := Classical.choose_spec (text_ex x)
theorem txt_eq {s : ByteArray} {x : Nat} (h : IsText s x) : s = txt x := h.unique (txt_is x)
theorem txt_size {x k : Nat} (h : sz x ≤ k) : (txt x).size ≤ 20 * k + 1 := by
  have h1 : x < 10 ^ (20 * k + 1) := by
    refine Nat.lt_of_lt_of_le (lt_sz x) (Nat.le_trans (Nat.pow_le_pow_right (by omega) h) (Nat.le_trans (Go.Proofs.YtlpfbcilnfgaaaaGreatDoor.pow_ten_k rfl) (Nat.pow_le_pow_right (by omega) (by omega))))
  exact (txt_is x).size_le h1 (by omega)

/-- a text of digits -/
def pOk (s : ByteArray) : Bool := decide (0 < s.size) && (gd (byt s) 0 != 48 || decide (s.size = 1)) && allDig (byt s)
def pV (s : ByteArray) : Nat := if pOk s then dec (byt s) else 0
def pE (s : ByteArray) : Int := if pOk s then 0 else 11
theorem pV_lt (s : ByteArray) : sz (pV s) ≤ s.size := by
  refine sz_le ?_
  unfold pV
  split
  · rename_i h
    unfold pOk at h
    simp only [Bool.and_eq_true] at h
    have := dec_lt h.2
    rw [byt_length] at this
    exact Nat.lt_of_lt_of_le this (Nat.pow_le_pow_left (by omega) _)
  · exact Nat.pow_pos (by omega)
theorem p_text {s : ByteArray} {x : Nat} (h : IsText s x) : pOk s = true ∧ pV s = x ∧ pE s = 0 := by
  have e : pOk s = true := by
    unfold pOk
    rw [h.1, decide_eq_true h.2.2.1]
    by_cases h0 : gd (byt s) 0 = 48
    · simp [h.2.2.2 h0]
    · simp [h0]
  refine ⟨e, ?_, ?_⟩
  · unfold pV; rw [if_pos e]; exact h.2.1
  · unfold pE; rw [if_pos e]
end Gv
namespace Go.Proofs.YtlpfbcilnfgaaaaGreatDoor
open Go.RowKit Gs Gv
set_option linter.unusedVariables false
theorem n_Text {p : PV} {x k : Nat} (h : IsN p x k) (hk : k ≤ 50000) : Gv.Fn Tryz.prog 116 [p] (.raw (.string (txt x))) := by
  refine Fn.of ⟨_, Tryz.func116, rfl, by kernel_rfl⟩ fun w P0 vs hl hr => ?_
  obtain ⟨a, rfl⟩ := one_list hl
  obtain ⟨A, n, c, l, rfl, h1, h2, h3⟩ := h.val (hr 0 _ _ rfl rfl)
  have hx : val 18446744073709551616 l < 10 ^ (20 * k) := by
    rw [h2]
    exact Nat.lt_of_lt_of_le (lt_sz x) (Nat.le_trans (Nat.pow_le_pow_right (by omega) h.sz) (pow_ten_k rfl))
  refine (nat_Text h1 (by omega) hx (by omega)).mono ?_
  rintro e w' ⟨s, rfl, hs, hb⟩
  rw [h2] at hs
  rw [txt_eq hs]
  exact ⟨_, rfl, .raw _, hb⟩
theorem r_Text {x k : Nat} (hk : sz x ≤ k) (hk2 : k ≤ 500) : Gv.Fn Tryz.prog 117 [r32 x] (.raw (.string (txt x))) := by
  refine Fn.of ⟨_, Tryz.func117, rfl, by kernel_rfl⟩ fun w P0 vs hl hr => ?_
  obtain ⟨a, rfl⟩ := one_list hl
  obtain ⟨A, n, c, rfl, h1⟩ := r32_val (hr 0 _ _ rfl rfl)
  have hlt : x < 18446744073709551616 ^ k := Nat.lt_of_lt_of_le (lt_sz x) (Nat.pow_le_pow_right (by omega) hk)
  have hx : x < 10 ^ (20 * k) := Nat.lt_of_lt_of_le hlt (pow_ten_k rfl)
  have hx2 : x < 4294967296 ^ (2 * k) := by rw [← pow64_32]; exact hlt
  refine (call_RText (CanR.of h1 hx2) (by omega) hx (by omega)).mono ?_
  rintro e w' ⟨s, rfl, hs, hb⟩
  rw [txt_eq hs]
  exact ⟨_, rfl, .raw _, hb⟩
theorem rep_nil64 (w : World) (P : Nat → Prop) : Rep w P (nat 0) (.slice none 0 0) := .nil none 0 (by omega)
theorem rep_nil32 (w : World) (P : Nat → Prop) : Rep w P (r32 0) (.slice none 0 0) := .nil none 0 (by omega)
theorem rep_two {w : World} {P : Nat → Prop} {p q : PV} {a b : Value} (h : Rep w P p a) (h' : Rep w P q b) : Rep w P (.tup [p, q]) (.tuple #[a, b]) := by
  refine .tup _ _ rfl fun j p hj => ?_
  match j, hj with
  | 0, hj => cases hj; exact h
  | 1, hj => cases hj; exact h'
theorem pOk_cases {s : ByteArray} (h0 : s.size ≠ 0) (hz : ¬(gd (byt s) 0 = 48 ∧ 1 < s.size)) : pOk s = allDig (byt s) ∧ (gd (byt s) 0 = 48 → s.size = 1) := by
  have hz2 : gd (byt s) 0 = 48 → s.size = 1 := fun h => by
    rcases Nat.lt_or_ge 1 s.size with h1 | h1
    · exact absurd ⟨h, h1⟩ hz
    · omega
  refine ⟨?_, hz2⟩
  unfold pOk
  rw [decide_eq_true (show 0 < s.size by omega)]
  by_cases h : gd (byt s) 0 = 48
  · simp [hz2 h]
  · simp [h]
theorem pOk_empty {s : ByteArray} (h : s.size = 0) : pOk s = false := by unfold pOk; simp [h]
theorem pOk_zero {s : ByteArray} (h : gd (byt s) 0 = 48 ∧ 1 < s.size) : pOk s = false := by
  unfold pOk
  rw [h.1]
  simp [show ¬ s.size = 1 by omega]
theorem n_Parse {s : ByteArray} (hs : s.size ≤ 20000) : Gv.Fn Tryz.prog 113 [.raw (.string s)] (.tup [nat (pV s), .raw (.int .i64 (pE s))]) := by
  refine Fn.of ⟨_, Tryz.func113, rfl, by kernel_rfl⟩ fun w P0 vs hl hr => ?_
  obtain ⟨a, rfl⟩ := one_list hl
  have := hr 0 _ _ rfl rfl
  cases this
  have hbad : pOk s = false → pV s = 0 ∧ pE s = 11 := fun h => by unfold pV pE; rw [h]; exact ⟨rfl, rfl⟩
  by_cases h0 : s.size = 0
  · refine (nat_Parse_empty h0).mono ?_
    rintro e w' ⟨rfl, rfl⟩
    obtain ⟨e1, e2⟩ := hbad (pOk_empty h0)
    rw [e1, e2]
    exact ⟨_, rfl, rep_two (rep_nil64 _ _) (.raw _), Below.refl _ _⟩
  · by_cases hz : gd (byt s) 0 = 48 ∧ 1 < s.size
    · refine (nat_Parse_zero hz.2 (by omega) hz.1).mono ?_
      rintro e w' ⟨rfl, rfl⟩
      obtain ⟨e1, e2⟩ := hbad (pOk_zero hz)
      rw [e1, e2]
      exact ⟨_, rfl, rep_two (rep_nil64 _ _) (.raw _), Below.refl _ _⟩
    · obtain ⟨hp, hz2⟩ := pOk_cases h0 hz
      refine (nat_Parse_ok (by omega) (by omega) hz2).mono ?_
      rintro e w' ⟨A1, n1, c1, rfl, h1, hb⟩
      refine ⟨_, rfl, ?_, hb⟩
      cases hd : allDig (byt s) with
      | true =>
        obtain ⟨e1, e2⟩ := parse_good hd
        rw [e1] at h1
        rw [e2]
        unfold pV pE
        rw [hp, hd]
        exact rep_two (row_rep (h1.rd.mono fun b hb => .inr hb)) (.raw _)
      | false =>
        obtain ⟨e1, e2⟩ := parse_bad hd
        rw [e1] at h1
        rw [e2]
        unfold pV pE
        rw [hp, hd]
        exact rep_two (row_rep (h1.rd.mono fun b hb => .inr hb)) (.raw _)
theorem r_Parse {s : ByteArray} (hs : s.size ≤ 1000) : Gv.Fn Tryz.prog 114 [.raw (.string s)] (.tup [r32 (pV s), .raw (.int .i64 (pE s))]) := by
  refine Fn.of ⟨_, Tryz.func114, rfl, by kernel_rfl⟩ fun w P0 vs hl hr => ?_
  obtain ⟨a, rfl⟩ := one_list hl
  have := hr 0 _ _ rfl rfl
  cases this
  have hbad : pOk s = false → pV s = 0 ∧ pE s = 11 := fun h => by unfold pV pE; rw [h]; exact ⟨rfl, rfl⟩
  by_cases h0 : s.size = 0
  · refine (ref_Parse_empty h0).mono ?_
    rintro e w' ⟨rfl, rfl⟩
    obtain ⟨e1, e2⟩ := hbad (pOk_empty h0)
    rw [e1, e2]
    exact ⟨_, rfl, rep_two (rep_nil32 _ _) (.raw _), Below.refl _ _⟩
  · by_cases hz : gd (byt s) 0 = 48 ∧ 1 < s.size
    · refine (ref_Parse_zero hz.2 (by omega) hz.1).mono ?_
      rintro e w' ⟨rfl, rfl⟩
      obtain ⟨e1, e2⟩ := hbad (pOk_zero hz)
      rw [e1, e2]
      exact ⟨_, rfl, rep_two (rep_nil32 _ _) (.raw _), Below.refl _ _⟩
    · obtain ⟨hp, hz2⟩ := pOk_cases h0 hz
      refine (ref_Parse_okF (by omega) (Nat.le_refl _) hs hz2).mono ?_
      rintro e w' ⟨r, rfl, h1, hb⟩
      refine ⟨_, rfl, rep_two (.mono ?_ fun b hb => .inr hb) ?_, hb⟩
      · have := CanF.rep h1
        unfold pV
        rw [hp]
        exact this
      · have e : parseE (byt s) = pE s := by unfold parseE pE; rw [hp]
        rw [e]
        exact .raw _
theorem k_Nat {l : List Nat} (h : Lt 18446744073709551616 l) (hk : l.length ≤ 1000000) : Gv.Fn Tryz.prog 97 [u64s l] (u64s l) := by
  refine Fn.of ⟨_, Tryz.func97, rfl, by kernel_rfl⟩ fun w P0 vs hl hr => ?_
  obtain ⟨a, rfl⟩ := one_list hl
  obtain ⟨A, n, c, rfl, h1⟩ := rep_row (hr 0 _ _ rfl rfl)
  have hlen := h1.len
  simp only at hlen
  refine (keep_NatF ⟨h1, h⟩ (by omega)).mono ?_
  rintro e w' ⟨A1, n1, c1, rfl, h2, hb⟩
  exact ⟨_, rfl, row_rep (h2.rd.mono fun b hb => .inr hb), hb⟩
end Go.Proofs.YtlpfbcilnfgaaaaGreatDoor


/- Package zed's contracts, the rest: Sign Cmp Good Small Text Parse DivMod. -/
namespace Gv
open Go Go.RowKit Gs
set_option linter.unusedVariables false
/-- texts of whole numbers -/
noncomputable def ztxt (z : Int) : ByteArray := if z < 0 then (⟨#[45]⟩ : ByteArray) ++ txt z.natAbs else txt z.natAbs
theorem ztxt_neg {z : Int} (h : z < 0) : ztxt z = (⟨#[45]⟩ : ByteArray) ++ txt z.natAbs := if_pos h
theorem ztxt_pos {z : Int} (h : ¬ z < 0) : ztxt z = txt z.natAbs := if_neg h
/-- does a text begin with a minus; what stands behind it -/
def zN (s : ByteArray) : Bool := decide (0 < s.size) && (gd (byt s) 0 == 45)
def zT (s : ByteArray) : ByteArray := if zN s = true then s.extract 1 s.size else s
def zOk (s : ByteArray) : Bool := decide (s.size ≤ 20000) && (pOk (zT s) && !(zN s && decide (pV (zT s) = 0)))
def zV (s : ByteArray) : Int := if zOk s = true then sg (zN s) (pV (zT s)) else 0
def zE (s : ByteArray) : Int := if 20000 < s.size then 2 else if zOk s = true then 0 else 11
theorem zc_zero : zc 0 = .agg [.raw (.bool false), .sl []] := rfl
theorem zT_size (s : ByteArray) : (zT s).size ≤ s.size := by
  unfold zT
  split
  · rw [ByteArray.size_extract]; omega
  · exact Nat.le_refl _
def inS (z : Int) : Bool := decide (-9223372036854775808 ≤ z) && decide (z ≤ 9223372036854775807)
def smV (z : Int) : Int := if inS z = true then z else 0
theorem limbs_big {x : Nat} (h : 18446744073709551616 ≤ x) : 1 < (limbs 18446744073709551616 x).length := by
  have h1 : ¬ (limbs 18446744073709551616 x).length ≤ 1 := fun hle => by
    have h2 := lt_sz x
    unfold sz at h2
    have h3 : (18446744073709551616 : Nat) ^ (limbs 18446744073709551616 x).length ≤ 18446744073709551616 ^ 1 := Nat.pow_le_pow_right (by omega) hle
    rw [Nat.pow_one] at h3
    omega
  omega
theorem limbs_1 {x : Nat} (h0 : 0 < x) (h : x < 18446744073709551616) : limbs 18446744073709551616 x = [x] := by
  have h1 := limbs_lt B64 x
  have h2 : val 18446744073709551616 (limbs 18446744073709551616 x) = x := val_limbs B64 x
  have h3 : (limbs 18446744073709551616 x).length ≤ 1 := sz_small h
  have h4 := limbs_len_zero B64 x
  generalize limbs 18446744073709551616 x = l at *
  match l, h3 with
  | [], _ => exact absurd (h4.1 rfl) (by omega)
  | [a], _ =>
    have : val 18446744073709551616 [a] = a := by simp [val]
    rw [this] at h2
    rw [h2]
theorem rowP_len (k : IntKind) (l : List Nat) : Prim.ev .len [rowP k l] = some (.raw (.int .i64 (l.length : Nat))) := by
  unfold rowP
  simp [Prim.ev]
theorem nat_len (x : Nat) : Prim.ev .len [nat x] = some (.raw (.int .i64 (sz x : Nat))) := rowP_len _ _
theorem sz_eq0 {x : Nat} : sz x = 0 ↔ x = 0 := limbs_len_zero B64 x
end Gv
namespace Go.Proofs.YtlpfbcilnfgaaaaGreatDoor
open Go.RowKit Gs Gv
set_option linter.unusedVariables false
theorem z_below (z : Int) : Gv.Fn Tryz.prog 108 [zc z] (.raw (.bool (decide (z < 0)))) := Fn.intro mixed vc_zed_number_below rfl (ok_ret rfl rfl)
theorem z_nought (z : Int) : Gv.Fn Tryz.prog 109 [zc z] (.raw (.bool (decide (z = 0)))) := by
  refine Fn.intro mixed vc_zed_number_nought rfl (ok_prim (nat_len z.natAbs) (ok_prim rfl (ok_ret ?_ rfl)))
  show PV.raw (.bool (((sz z.natAbs : Nat) : Int) == 0)) = _
  congr 2
  have := @sz_eq0 z.natAbs
  rw [Bool.eq_iff_iff, decide_eq_true_iff, beq_iff_eq]
  omega
theorem z_Sign {p : PV} {z : Int} {k : Nat} (h : IsZ p z k) (hk : k ≤ 1000000) : Gv.Fn Tryz.prog 36 [p] (.raw (.int .i64 z.sign)) := by
  have h0 := h
  obtain ⟨s, l, rfl, h1, h2, h3⟩ := h
  refine Fn.intro mixed vc_zed_Sign rfl ?_
  refine ok_call (z_good h0 hk) rfl rfl (ok_call (z_below z) rfl rfl (ok_ite rfl (fun hs => ?_) (fun hs => ?_)))
  · refine ok_ret ?_ rfl
    have : z < 0 := by simpa using hs
    rw [Int.sign_eq_neg_one_of_neg this]
    rfl
  · refine ok_call (z_nought z) rfl rfl (ok_ite rfl (fun hn => ?_) (fun hn => ?_))
    · refine ok_ret ?_ rfl
      have : z = 0 := by simpa using hn
      rw [this]
      rfl
    · refine ok_ret ?_ rfl
      have h5 : ¬ z < 0 := by simpa using hs
      have h6 : ¬ z = 0 := by simpa using hn
      rw [Int.sign_eq_one_of_pos (by omega)]
      rfl
theorem z_Cmp {p q : PV} {x y : Int} {k k' : Nat} (h : IsZ p x k) (h' : IsZ q y k') (hk : k ≤ 400000) (hk' : k' ≤ 400000) : Gv.Fn Tryz.prog 34 [p, q] (.raw (.int .i64 (x - y).sign)) := by
  have h0 := h
  have h0' := h'
  have hb := zs_sub h.zs h'.zs
  obtain ⟨s, l, rfl, h1, h2, h3⟩ := h
  obtain ⟨s', l', rfl, h1', h2', h3'⟩ := h'
  exact Fn.intro mixed vc_zed_Cmp rfl (ok_call (z_Sub h0 h0' hk hk') rfl rfl (ok_call (z_Sign (IsZ.zc hb) (by omega)) rfl rfl (ok_ret rfl rfl)))
theorem z_Good {s : Bool} {l : List Nat} (h : Lt 18446744073709551616 l) (hk : l.length ≤ 1000000) : Gv.Fn Tryz.prog 39 [.agg [.raw (.bool s), u64s l]] (.raw (.bool (goodB l && (!s || decide (0 < l.length))))) := by
  refine Fn.intro mixed vc_zed_Good rfl (ok_call (n_Good h hk) rfl rfl (ok_ite rfl (fun hs => ?_) (fun hs => ?_)))
  · rw [hs]
    refine ok_prim rfl (ok_ite rfl (fun hn => ?_) (fun hn => ?_))
    · rw [hn]
      exact ok_ret rfl rfl
    · refine ok_prim (rowP_len _ _) (ok_prim rfl (ok_ret ?_ rfl))
      rw [hn]
      show PV.raw (.bool (decide (((l.length : Nat) : Int) > 0))) = PV.raw (.bool (true && (false || decide (0 < l.length))))
      simp
  · rw [hs]
    exact ok_ret rfl rfl
theorem z_Text {p : PV} {z : Int} {k : Nat} (h : IsZ p z k) (hk : k ≤ 50000) : Gv.Fn Tryz.prog 45 [p] (.raw (.string (ztxt z))) := by
  have h0 := h
  obtain ⟨s, l, rfl, h1, h2, h3⟩ := h
  have ha : val 18446744073709551616 l = z.natAbs := by rw [← h2, sg_abs]
  have hn : IsN (u64s l) z.natAbs k := ⟨l, rfl, h1, ha, h3⟩
  refine Fn.intro mixed vc_zed_Text rfl ?_
  refine ok_call (z_Sign h0 (by omega)) rfl rfl (ok_prim rfl (ok_ite rfl (fun hs => ?_) (fun hs => ?_)))
  · have hz : z < 0 := by
      have : z.sign < 0 := by simpa using hs
      exact Int.sign_neg_iff.1 this
    refine ok_call (n_Text hn hk) rfl rfl (ok_prim (r := .raw (.string (ztxt z))) ?_ (ok_ret rfl rfl))
    have hsz := txt_size (show sz z.natAbs ≤ k from h0.zs)
    rw [ztxt_neg hz]
    have e : (⟨#[45]⟩ : ByteArray).size + (txt z.natAbs).size ≤ 9223372036854775807 := by
      have : (⟨#[45]⟩ : ByteArray).size = 1 := rfl
      omega
    show ((if (⟨#[45]⟩ : ByteArray).size + (txt z.natAbs).size ≤ 9223372036854775807 then some (Value.string ((⟨#[45]⟩ : ByteArray) ++ txt z.natAbs)) else none).map PV.raw) = _
    rw [if_pos e]
    rfl
  · have hz : ¬ z < 0 := fun hz => by
      have : ¬ z.sign < 0 := by simpa using hs
      exact this (Int.sign_neg_iff.2 hz)
    refine ok_call (n_Text hn hk) rfl rfl (ok_ret ?_ rfl)
    rw [ztxt_pos hz]
    rfl
theorem z_DivMod_zero {p q : PV} {x : Int} {k k' : Nat} (h : IsZ p x k) (h' : IsZ q 0 k') (hk : k ≤ 400000) (hk' : k' ≤ 400000) : Gv.Fn Tryz.prog 21 [p, q] (.tup [zc 0, zc 0, .raw (.int .i64 12)]) := by
  have hx := h.zs
  have h0 := h
  have h0' := h'
  obtain ⟨s, l, rfl, h1, h2, h3⟩ := h
  obtain ⟨s', l', rfl, h1', h2', h3'⟩ := h'
  refine Fn.intro mixed vc_zed_DivMod rfl ?_
  refine ok_call (z_good h0 (by omega)) rfl rfl (ok_call (z_good h0' (by omega)) rfl rfl ?_)
  refine ok_call (n_DivMod_zero (zc_nat x) (zc_nat 0) (by omega) (by decide)) rfl rfl (ok_prim rfl (ok_ite rfl (fun hs => ?_) (fun hs => absurd hs (by decide))))
  exact ok_ret rfl rfl
theorem zs_zq {x y : Int} {k : Nat} (h : zs x ≤ k) : zs (zq x y) ≤ k + 1 :=
  sz_le (zq_lt x y (by omega) (Nat.lt_of_lt_of_le (lt_sz _) (Nat.pow_le_pow_right (by omega) h)))
theorem zs_zr {x y : Int} {k : Nat} (hy : y ≠ 0) (h : zs y ≤ k) : zs (zr x y) ≤ k := Nat.le_trans (sz_mono (Nat.le_of_lt (zr_abs x hy))) h
theorem z_DivMod {p q : PV} {x y : Int} {k k' : Nat} (h : IsZ p x k) (h' : IsZ q y k') (hk : k ≤ 100000) (hk' : k' ≤ 100000) (hy0 : y ≠ 0) : Gv.Fn Tryz.prog 21 [p, q] (.tup [zc (zq x y), zc (zr x y), .raw (.int .i64 0)]) := by
  have hx := h.zs
  have hy := h'.zs
  have h0 := h
  have h0' := h'
  obtain ⟨s, l, rfl, h1, h2, h3⟩ := h
  obtain ⟨s', l', rfl, h1', h2', h3'⟩ := h'
  have hq : sz (x.natAbs / y.natAbs) ≤ k := Nat.le_trans (sz_mono (Nat.div_le_self _ _)) hx
  have hq2 : ∀ s, zs (sg s (x.natAbs / y.natAbs)) ≤ k := fun s => by unfold zs; rw [sg_abs]; exact hq
  have hq3 := zs_zq (y := y) hx
  have h1s : zs 1 ≤ 1 := sz_small (by decide)
  -- the quotient is told; the rest
  have fin : ∀ {ρ : List PV} {i j n m : Nat} {sh : RSh}, ρ[i]? = some (zc x) → ρ[j]? = some (zc y) → ρ[n]? = some (zc (zq x y)) → ρ.length = m → sh = .one (.ag 2) →
      (VC.call 32 [.agg [.cel (.at n) 0, .cel (.at n) 1], .agg [.cel (.at j) 0, .cel (.at j) 1]] sh (.call 30 [.agg [.cel (.at i) 0, .cel (.at i) 1], .agg [.cel (.at m) 0, .cel (.at m) 1]] sh (.ret (.tup [.agg [.cel (.at n) 0, .cel (.at n) 1], .agg [.cel (.at (m + 1)) 0, .cel (.at (m + 1)) 1], .con (.int .i64 0)])))).ok Tryz.prog (· = .tup [zc (zq x y), zc (zr x y), .raw (.int .i64 0)]) ρ [] := by
    intro ρ i j n m sh hi hj hn hm hsh
    subst hsh
    have cell : ∀ {ρ : List PV} {i : Nat} {z : Int}, ρ[i]? = some (zc z) → den ρ (.agg [.cel (.at i) 0, .cel (.at i) 1]) = some (zc z) := by
      intro ρ i z h
      simp only [den, dens, h, zc]
      rfl
    have hi' : i < ρ.length := (List.getElem?_eq_some_iff.1 hi).1
    have hn' : n < ρ.length := (List.getElem?_eq_some_iff.1 hn).1
    refine ok_call (z_Mul (IsZ.zc hq3) (IsZ.zc hy) (by omega) (by omega)) ?_ rfl ?_
    · simp only [pvs, List.map_cons, List.map_nil, Gv.pv, cell hn, cell hj, Option.getD_some]
    have gm : (ρ ++ [zc (zq x y * y)])[m]? = some (zc (zq x y * y)) := by subst hm; simp
    have gi : (ρ ++ [zc (zq x y * y)])[i]? = some (zc x) := getElem?_app hi
    refine ok_call (z_Sub (IsZ.zc hx) (IsZ.zc (zs_mul hq3 hy)) (by omega) (by omega)) ?_ rfl ?_
    · simp only [pvs, List.map_cons, List.map_nil, Gv.pv, cell gi, cell gm, Option.getD_some]
    have gn : (ρ ++ [zc (zq x y * y)] ++ [zc (x - zq x y * y)])[n]? = some (zc (zq x y)) := getElem?_app (getElem?_app hn)
    have gm1 : (ρ ++ [zc (zq x y * y)] ++ [zc (x - zq x y * y)])[m + 1]? = some (zc (x - zq x y * y)) := by subst hm; simp
    refine ok_ret (r := .tup [zc (zq x y), zc (zr x y), .raw (.int .i64 0)]) rfl ?_
    simp only [Gv.pv, den, dens, gn, gm1]
    rfl
  refine Fn.intro mixed vc_zed_DivMod rfl ?_
  refine ok_call (z_good h0 (by omega)) rfl rfl (ok_call (z_good h0' (by omega)) rfl rfl ?_)
  refine ok_call (n_DivMod (zc_nat x) (zc_nat y) (by omega) (by omega) (by omega)) rfl rfl (ok_prim rfl (ok_ite rfl (fun hs => absurd hs (by decide)) (fun _ => ?_)))
  refine ok_prim rfl (ok_call (z_made (IsN.nat hq) (by omega)) rfl rfl (ok_prim rfl (ok_ite rfl (fun hs => ?_) (fun hs => ?_))))
  · refine ok_prim (nat_len _) (ok_prim rfl (ok_ite rfl (fun hr => ?_) (fun hr => ?_)))
    · have hr' : 0 < x.natAbs % y.natAbs := by
        have h9 : ((sz (x.natAbs % y.natAbs) : Nat) : Int) > 0 := by simpa using hr
        have := @sz_eq0 (x.natAbs % y.natAbs)
        omega
      refine ok_call (z_Of (v := 1) (by decide) (by decide)) rfl rfl (ok_call (z_Sub (IsZ.zc (hq2 _)) (IsZ.zc h1s) (by omega) (by omega)) rfl rfl ?_)
      refine fin (i := 2) (j := 3) (n := 12) (m := 13) rfl rfl ?_ rfl rfl
      have : zq x y = sg (decide (x < 0) != decide (y < 0)) (x.natAbs / y.natAbs) - 1 := by
        unfold zq
        rw [if_pos ⟨hs, hr'⟩]
      rw [this]
      rfl
    · have hr' : ¬ 0 < x.natAbs % y.natAbs := by
        have h9 : ¬ ((sz (x.natAbs % y.natAbs) : Nat) : Int) > 0 := by simpa using hr
        have := @sz_eq0 (x.natAbs % y.natAbs)
        omega
      refine fin (i := 2) (j := 3) (n := 7) (m := 11) rfl rfl ?_ rfl rfl
      have : zq x y = sg (decide (x < 0) != decide (y < 0)) (x.natAbs / y.natAbs) := by
        unfold zq
        rw [if_neg (fun h => hr' h.2), Int.sub_zero]
      rw [this]
      rfl
  · refine fin (i := 2) (j := 3) (n := 7) (m := 9) rfl rfl ?_ rfl rfl
    have : zq x y = sg (decide (x < 0) != decide (y < 0)) (x.natAbs / y.natAbs) := by
      unfold zq
      rw [if_neg (fun h => by rw [h.1] at hs; cases hs), Int.sub_zero]
    rw [this]
    rfl
set_option maxHeartbeats 4000000 in
theorem z_Small {p : PV} {z : Int} {k : Nat} (h : IsZ p z k) (hk : k ≤ 400000) : Gv.Fn Tryz.prog 41 [p] (.tup [.raw (.int .i64 (smV z)), .raw (.bool (inS z))]) := by
  have h0 := h
  obtain ⟨s, l, rfl, h1, h2, h3⟩ := h
  refine Fn.intro mixed vc_zed_Small rfl ?_
  refine ok_call (z_good h0 (by omega)) rfl rfl (ok_prim (nat_len z.natAbs) (ok_prim rfl (ok_ite rfl (fun hs => ?_) (fun hs => ?_))))
  · have hz : z = 0 := by
      have h9 : ((sz z.natAbs : Nat) : Int) = 0 := by simpa using hs
      have := @sz_eq0 z.natAbs
      omega
    subst hz
    exact ok_ret rfl rfl
  have hz : z ≠ 0 := fun e => by
    have h9 : ¬ ((sz z.natAbs : Nat) : Int) = 0 := by simpa using hs
    have := @sz_eq0 z.natAbs
    omega
  have hno : inS z = false → smV z = 0 := fun e => by unfold smV; rw [if_neg (by rw [e]; decide)]
  have hyes : inS z = true → smV z = z := fun e => by unfold smV; rw [if_pos e]
  refine ok_prim (nat_len z.natAbs) (ok_prim rfl (ok_ite rfl (fun hl => ?_) (fun hl => ?_)))
  · try simp only [List.cons_append, List.nil_append]
    have h9 : ((sz z.natAbs : Nat) : Int) > 1 := by simpa using hl
    have h8 : inS z = false := by
      rcases Nat.lt_or_ge z.natAbs 18446744073709551616 with h | h
      · have := sz_small h; omega
      · unfold inS
        rw [Bool.and_eq_false_iff, decide_eq_false_iff_not, decide_eq_false_iff_not]
        omega
    rw [hno h8, h8]
    exact ok_ret rfl rfl
  have h9 : ¬ ((sz z.natAbs : Nat) : Int) > 1 := by simpa using hl
  have hlt : z.natAbs < 18446744073709551616 := by
    rcases Nat.lt_or_ge z.natAbs 18446744073709551616 with h | h
    · exact h
    · have := limbs_big h
      unfold sz at h9
      omega
  have hn : nat z.natAbs = .sl [[.raw (.int .u64 (z.natAbs : Nat))]] := by
    unfold nat
    rw [limbs_1 (by omega) hlt]
    rfl
  have hidx : Prim.ev (.idx 1) [nat z.natAbs, .raw (.int .i64 0)] = some (.ref [.raw (.int .u64 (z.natAbs : Nat))]) := by rw [hn]; rfl
  refine ok_prim hidx (ok_prim rfl (ok_prim rfl (ok_ite rfl (fun ha => ?_) (fun ha => ?_))))
  · try simp only [List.cons_append, List.nil_append]
    have h7 : (z.natAbs : Int) > 9223372036854775808 := by simpa using ha
    have h8 : inS z = false := by
      unfold inS
      rw [Bool.and_eq_false_iff, decide_eq_false_iff_not, decide_eq_false_iff_not]
      omega
    rw [hno h8, h8]
    exact ok_ret rfl rfl
  have h7 : ¬ (z.natAbs : Int) > 9223372036854775808 := by simpa using ha
  have e64 : ∀ n : Int, IntKind.i64.wrap n = IntKind.i64.wrap n := fun _ => rfl
  refine ok_prim hidx (ok_prim rfl (ok_prim rfl (ok_ite rfl (fun hb => ?_) (fun hb => ?_))))
  · try simp only [List.cons_append, List.nil_append]
    have h6 : (z.natAbs : Int) = 9223372036854775808 := by simpa using hb
    refine ok_prim rfl (ok_ite rfl (fun hc => ?_) (fun hc => ?_))
    · try simp only [List.cons_append, List.nil_append]
      have h5 : ¬ z < 0 := by simpa using hc
      have h8 : inS z = false := by
        unfold inS
        rw [Bool.and_eq_false_iff, decide_eq_false_iff_not, decide_eq_false_iff_not]
        omega
      rw [hno h8, h8]
      exact ok_ret rfl rfl
    · try simp only [List.cons_append, List.nil_append]
      have h5 : z < 0 := by simpa using hc
      have h8 : inS z = true := by
        unfold inS
        rw [Bool.and_eq_true, decide_eq_true_iff, decide_eq_true_iff]
        omega
      have h4 : z = -9223372036854775808 := by omega
      refine ok_prim hidx (ok_prim rfl (ok_prim rfl (ok_ite rfl (fun _ => ?_) (fun hd => ?_))))
      · have : smV z = -9223372036854775808 := by rw [hyes h8, h4]
        rw [this, h8]
        exact ok_ret rfl rfl
      · exact absurd h6 (by simpa using hd)
  · try simp only [List.cons_append, List.nil_append]
    have h6 : ¬ (z.natAbs : Int) = 9223372036854775808 := by simpa using hb
    have h8 : inS z = true := by
      unfold inS
      rw [Bool.and_eq_true, decide_eq_true_iff, decide_eq_true_iff]
      omega
    refine ok_prim hidx (ok_prim rfl (ok_prim rfl (ok_ite rfl (fun hd => ?_) (fun _ => ?_))))
    · exact absurd (by simpa using hd) h6
    refine ok_ite rfl (fun hc => ?_) (fun hc => ?_)
    · try simp only [List.cons_append, List.nil_append]
      have h5 : z < 0 := by simpa using hc
      refine ok_prim hidx (ok_prim rfl (ok_prim rfl (ok_prim rfl (ok_ret ?_ rfl))))
      try simp only [List.cons_append, List.nil_append]
      rw [hyes h8, h8]
      show PV.tup [.raw (.int .i64 (IntKind.i64.wrap (0 - IntKind.i64.wrap ((z.natAbs : Nat) : Int)))), .raw (.bool true)] = _
      rw [IntWalk.i64_in ((z.natAbs : Nat) : Int) (by omega), IntWalk.i64_in _ (by omega)]
      congr 4
      omega
    · try simp only [List.cons_append, List.nil_append]
      have h5 : ¬ z < 0 := by simpa using hc
      refine ok_prim hidx (ok_prim rfl (ok_prim rfl (ok_ret ?_ rfl)))
      try simp only [List.cons_append, List.nil_append]
      rw [hyes h8, h8]
      show PV.tup [.raw (.int .i64 (IntKind.i64.wrap ((z.natAbs : Nat) : Int))), .raw (.bool true)] = _
      rw [IntWalk.i64_in ((z.natAbs : Nat) : Int) (by omega)]
      congr 4
      omega
end Go.Proofs.YtlpfbcilnfgaaaaGreatDoor


/- Package zed's Parse. -/
namespace Gv
open Go Go.RowKit Gs
set_option linter.unusedVariables false
theorem str_ne (s : ByteArray) : (!(s.toList == (⟨#[]⟩ : ByteArray).toList)) = decide (0 < s.size) := by
  rw [ByteArray.toList_eq, ByteArray.toList_eq]
  have e : s.size = s.data.toList.length := rfl
  rw [e]
  cases s.data.toList with
  | nil => rfl
  | cons a l => simp
theorem six0 {s : ByteArray} (h : 0 < s.size) : Prim.ev .six [.raw (.string s), .raw (.int .i64 0)] = some (.raw (.int .u8 (gd (byt s) 0 : Nat))) := by
  have h1 : s[0]? = some (s[0]'h) := getElem?_pos _ _ _
  have h2 := byt_get s 0 h
  show (match s[0]? with
    | some b => some (PV.raw (.int .u8 (b.toNat : Int)))
    | none => none) = _
  rw [h1, ← h2]
theorem ssl1 {s : ByteArray} (h : 0 < s.size) : Prim.ev (.ssl true false) [.raw (.string s), .raw (.int .i64 1)] = some (.raw (.string (s.extract 1 s.size))) := by
  show (if 1 ≤ s.size ∧ s.size ≤ s.size then some (PV.raw (.string (s.extract 1 s.size))) else none) = _
  rw [if_pos ⟨h, Nat.le_refl _⟩]
theorem zOk_bad {s : ByteArray} (hs : s.size ≤ 20000) (h : pOk (zT s) = false) : zV s = 0 ∧ zE s = 11 ∧ pE (zT s) = 11 := by
  have e : zOk s = false := by unfold zOk; rw [h]; simp
  unfold zV zE pE
  rw [e, h, if_neg (show ¬ 20000 < s.size by omega)]
  exact ⟨rfl, rfl, rfl⟩
theorem zOk_nil {s : ByteArray} (hs : s.size ≤ 20000) (hn : zN s = true) (h : pV (zT s) = 0) : zV s = 0 ∧ zE s = 11 := by
  have e : zOk s = false := by unfold zOk; rw [hn, h]; simp
  unfold zV zE
  rw [e, if_neg (show ¬ 20000 < s.size by omega)]
  exact ⟨rfl, rfl⟩
theorem zOk_good {s : ByteArray} (hs : s.size ≤ 20000) (h : pOk (zT s) = true) (hn : ¬ (zN s = true ∧ pV (zT s) = 0)) : zV s = sg (zN s) (pV (zT s)) ∧ zE s = 0 ∧ pE (zT s) = 0 := by
  have e : zOk s = true := by
    unfold zOk
    rw [h, decide_eq_true hs]
    cases hN : zN s
    · simp
    · have : ¬ pV (zT s) = 0 := fun e => hn ⟨hN, e⟩
      simp [this]
  unfold zV zE pE
  rw [e, h, if_neg (show ¬ 20000 < s.size by omega)]
  exact ⟨rfl, rfl, rfl⟩
theorem zOk_long {s : ByteArray} (hs : 20000 < s.size) : zV s = 0 ∧ zE s = 2 := by
  have e : zOk s = false := by unfold zOk; rw [decide_eq_false (show ¬ s.size ≤ 20000 by omega)]; rfl
  unfold zV zE
  rw [e, if_pos hs]
  exact ⟨rfl, rfl⟩
end Gv
namespace Go.Proofs.YtlpfbcilnfgaaaaGreatDoor
open Go.RowKit Gs Gv
set_option linter.unusedVariables false
set_option maxHeartbeats 4000000 in
theorem z_Parse (s : ByteArray) : Gv.Fn Tryz.prog 42 [.raw (.string s)] (.tup [zc (zV s), .raw (.int .i64 (zE s))]) := by
  refine Fn.intro mixed vc_zed_Parse rfl (ok_prim rfl (ok_prim rfl (ok_ite rfl (fun hl => ?_) (fun hl => ?_))))
  · have h20 : 20000 < s.size := by
      have : (s.size : Int) > 20000 := by simpa using hl
      omega
    obtain ⟨e1, e2⟩ := zOk_long h20
    rw [e1, e2]
    exact ok_ret rfl rfl
  have h20 : s.size ≤ 20000 := by
    have : ¬ (s.size : Int) > 20000 := by simpa using hl
    omega
  have ht20 : (zT s).size ≤ 20000 := Nat.le_trans (zT_size s) h20
  clear hl
  -- what is behind the reading
  have hmade : ∀ n, Gv.Fn Tryz.prog 95 [.raw (.bool n), nat (pV (zT s))] (zc (sg n (pV (zT s)))) := fun n => z_made (IsN.nat (pV_lt _)) (by omega)
  have hE : (pE (zT s) == 0) = pOk (zT s) := by unfold pE; cases pOk (zT s) <;> rfl
  have hE' : (pE (zT s) != 0) = !pOk (zT s) := by unfold pE; cases pOk (zT s) <;> rfl
  have hlen : (((sz (pV (zT s)) : Nat) : Int) == 0) = decide (pV (zT s) = 0) := by
    rw [Bool.eq_iff_iff, beq_iff_eq, decide_eq_true_iff]
    have := @sz_eq0 (pV (zT s))
    omega
  refine ok_prim (r := .raw (.bool (decide (0 < s.size)))) (by rw [← str_ne]; rfl) (ok_ite rfl (fun h0 => ?_) (fun h0 => ?_))
  · have h0' : 0 < s.size := by simpa using h0
    refine ok_prim (six0 h0') (ok_prim rfl (ok_ite (t := zN s) ?_ (fun hn => ?_) (fun hn => ?_)))
    · show PV.raw (.bool (((gd (byt s) 0 : Nat) : Int) == 45)) = _
      unfold zN
      rw [h0, Bool.true_and]
      congr 2
      rw [Bool.eq_iff_iff, beq_iff_eq, beq_iff_eq]
      omega
    · have hN : (((gd (byt s) 0 : Nat) : Int) == 45) = true := by
        unfold zN at hn
        rw [h0, Bool.true_and, beq_iff_eq] at hn
        rw [hn]
        rfl
      have hT : zT s = s.extract 1 s.size := if_pos hn
      refine ok_prim (ssl1 h0') ?_
      rw [← hT]
      refine ok_call (n_Parse ht20) rfl rfl (ok_prim rfl (ok_ite (t := pOk (zT s)) (by rw [← hE]; rfl) (fun hp => ?_) (fun hp => ?_)))
      · refine ok_ite (t := true) (by rw [← hN]; rfl) (fun _ => ?_) (fun h => by cases h)
        refine ok_prim (nat_len _) (ok_prim rfl (ok_ite (t := decide (pV (zT s) = 0)) (by rw [← hlen]; rfl) (fun hz => ?_) (fun hz => ?_)))
        · obtain ⟨e1, e2⟩ := zOk_nil h20 hn (by simpa using hz)
          rw [e1, e2]
          exact ok_ret rfl rfl
        · obtain ⟨e1, e2, e3⟩ := zOk_good h20 hp (fun h => by simp [h.2] at hz)
          refine ok_prim rfl (ok_ite (t := false) (by rw [← Bool.not_true, ← hp, ← hE']; rfl) (fun h => by cases h) (fun _ => ?_))
          rw [e1, e2, hn]
          exact ok_call (hmade true) (by rw [← hN]; rfl) rfl (ok_ret rfl rfl)
      · obtain ⟨e1, e2, e3⟩ := zOk_bad h20 hp
        refine ok_prim rfl (ok_ite (t := true) (by rw [← Bool.not_false, ← hp, ← hE']; rfl) (fun _ => ?_) (fun h => by cases h))
        rw [e1, e2]
        refine ok_ret rfl ?_
        rw [← e3]
        rfl
    · have hN : (((gd (byt s) 0 : Nat) : Int) == 45) = false := by
        unfold zN at hn
        rw [h0, Bool.true_and, beq_eq_false_iff_ne] at hn
        rw [beq_eq_false_iff_ne]
        omega
      have hT : zT s = s := if_neg (by rw [hn]; decide)
      have hP : Gv.Fn Tryz.prog 113 [.raw (.string s)] (.tup [nat (pV (zT s)), .raw (.int .i64 (pE (zT s)))]) := by
        rw [hT]
        exact n_Parse h20
      refine ok_call hP rfl rfl (ok_prim rfl (ok_ite (t := pOk (zT s)) (by rw [← hE]; rfl) (fun hp => ?_) (fun hp => ?_)))
      · refine ok_ite (t := false) (by rw [← hN]; rfl) (fun h => by cases h) (fun _ => ?_)
        obtain ⟨e1, e2, e3⟩ := zOk_good h20 hp (fun h => by rw [h.1] at hn; cases hn)
        refine ok_prim rfl (ok_ite (t := false) (by rw [← Bool.not_true, ← hp, ← hE']; rfl) (fun h => by cases h) (fun _ => ?_))
        rw [e1, e2, hn]
        exact ok_call (hmade false) (by rw [← hN]; rfl) rfl (ok_ret rfl rfl)
      · obtain ⟨e1, e2, e3⟩ := zOk_bad h20 hp
        refine ok_prim rfl (ok_ite (t := true) (by rw [← Bool.not_false, ← hp, ← hE']; rfl) (fun _ => ?_) (fun h => by cases h))
        rw [e1, e2]
        refine ok_ret rfl ?_
        rw [← e3]
        rfl
  · have hn : zN s = false := by unfold zN; rw [h0]; rfl
    have hT : zT s = s := if_neg (by rw [hn]; decide)
    have hP : Gv.Fn Tryz.prog 113 [.raw (.string s)] (.tup [nat (pV (zT s)), .raw (.int .i64 (pE (zT s)))]) := by
      rw [hT]
      exact n_Parse h20
    refine ok_call hP rfl rfl (ok_prim rfl (ok_ite (t := pOk (zT s)) (by rw [← hE]; rfl) (fun hp => ?_) (fun hp => ?_)))
    · obtain ⟨e1, e2, e3⟩ := zOk_good h20 hp (fun h => by rw [h.1] at hn; cases hn)
      refine ok_prim rfl (ok_ite (t := false) (by rw [← Bool.not_true, ← hp, ← hE']; rfl) (fun h => by cases h) (fun _ => ?_))
      rw [e1, e2, hn]
      exact ok_call (hmade false) rfl rfl (ok_ret rfl rfl)
    · obtain ⟨e1, e2, e3⟩ := zOk_bad h20 hp
      refine ok_prim rfl (ok_ite (t := true) (by rw [← Bool.not_false, ← hp, ← hE']; rfl) (fun _ => ?_) (fun h => by cases h))
      rw [e1, e2]
      refine ok_ret rfl ?_
      rw [← e3]
      rfl
end Go.Proofs.YtlpfbcilnfgaaaaGreatDoor


/- The reference's whole numbers (gessoref02), gessokeep.Int and Ints, the laws' helpers: contracts by the engine. -/
namespace Gv
open Go Go.RowKit Gs
set_option linter.unusedVariables false
/-- the reference's whole number -/
def zf (z : Int) : PV := .agg [.raw (.bool (decide (z < 0))), r32 z.natAbs]
theorem zf_sg {s : Bool} {x : Nat} : zf (sg s x) = .agg [.raw (.bool (s && decide (0 < x))), r32 x] := by unfold zf; rw [sg_lt, sg_abs]
theorem r32_len0 {x : Nat} : decide (((limbs 4294967296 x).length : Int) > 0) = decide (0 < x) := by
  rw [Bool.eq_iff_iff, decide_eq_true_iff, decide_eq_true_iff]
  have := limbs_len_zero B32 x
  omega
theorem r32_len1 {x : Nat} : (((limbs 4294967296 x).length : Int) == 0) = decide (x = 0) := by
  rw [Bool.eq_iff_iff, beq_iff_eq, decide_eq_true_iff]
  have := limbs_len_zero B32 x
  omega
end Gv
namespace Go.Proofs.YtlpfbcilnfgaaaaGreatDoor
open Go.RowKit Gs Gv
set_option linter.unusedVariables false
theorem f_made {s : Bool} {x : Nat} : Gv.Fn Tryz.prog 91 [.raw (.bool s), r32 x] (zf (sg s x)) := by
  refine Fn.intro mixed vc_ref02_made rfl (ok_ite rfl ?_ ?_)
  · rintro rfl
    refine ok_prim (rowP_len _ _) (ok_prim rfl (ok_ret rfl ?_))
    rw [zf_sg, ← r32_len0]
    rfl
  · rintro rfl
    refine ok_ret rfl ?_
    rw [zf_sg]
    rfl
theorem f_In {p : PV} {z : Int} {k : Nat} (h : IsZ p z k) (hk : k ≤ 1000000) : Gv.Fn Tryz.prog 20 [p] (zf z) := by
  obtain ⟨s, l, rfl, h1, h2, h3⟩ := h
  refine Fn.intro mixed vc_ref02_In rfl (ok_call (r_In ⟨l, rfl, h1, rfl, h3⟩ hk) rfl rfl (ok_call f_made rfl rfl (ok_ret rfl ?_)))
  rw [h2]
  rfl
theorem f_Out {z : Int} (hk : zs z ≤ 400000) : Gv.Fn Tryz.prog 27 [zf z] (zc z) :=
  Fn.intro mixed vc_ref02_Out rfl (ok_call (r_Out hk) rfl rfl (ok_ret rfl rfl))
theorem f_Of {v : Int} (h1 : -9223372036854775808 ≤ v) (h2 : v ≤ 9223372036854775807) : Gv.Fn Tryz.prog 44 [.raw (.int .i64 v)] (zf v) := by
  refine Fn.intro mixed vc_ref02_Of rfl (ok_prim rfl (ok_ite rfl (fun hs => ?_) (fun hs => ?_)))
  · have hv : v < 0 := by simpa using hs
    refine ok_prim rfl (ok_prim rfl (ok_prim rfl (ok_prim rfl ?_)))
    have e : IntKind.u64.wrap (IntKind.u64.wrap (IntKind.i64.wrap (0 - IntKind.i64.wrap (v + 1))) + 1) = ((v.natAbs : Nat) : Int) := by
      rw [IntWalk.i64_in (v + 1) (by omega), IntWalk.i64_in _ (by omega), IntKind.wrap_u64, IntKind.wrap_u64]
      omega
    refine ok_call (ps := [.raw (.int .u64 ((v.natAbs : Nat) : Int))]) (r_Of v.natAbs (by omega)) (by rw [← e]; rfl) rfl ?_
    refine ok_call f_made rfl rfl (ok_ret rfl ?_)
    rw [sg_true, show -(v.natAbs : Int) = v by omega]
    rfl
  · have hv : 0 ≤ v := by simpa using hs
    refine ok_prim rfl ?_
    have e : IntKind.u64.wrap v = ((v.natAbs : Nat) : Int) := by
      rw [IntKind.wrap_u64]
      omega
    refine ok_call (ps := [.raw (.int .u64 ((v.natAbs : Nat) : Int))]) (r_Of v.natAbs (by omega)) (by rw [← e]; rfl) rfl ?_
    refine ok_call f_made rfl rfl (ok_ret rfl ?_)
    rw [sg_false, show (v.natAbs : Int) = v by omega]
    rfl
theorem f_Sign (z : Int) : Gv.Fn Tryz.prog 22 [zf z] (.raw (.int .i64 z.sign)) := by
  refine Fn.intro mixed vc_ref02_Int_Sign rfl (ok_prim (rowP_len _ _) (ok_prim rfl (ok_ite (t := decide (z.natAbs = 0)) (by rw [← r32_len1]; rfl) (fun hs => ?_) (fun hs => ?_))))
  · have : z = 0 := by
      have : z.natAbs = 0 := by simpa using hs
      omega
    rw [this]
    exact ok_ret rfl rfl
  · have h0 : z ≠ 0 := by
      have : ¬ z.natAbs = 0 := by simpa using hs
      omega
    refine ok_ite rfl (fun hn => ?_) (fun hn => ?_)
    · have : z < 0 := by simpa using hn
      rw [Int.sign_eq_neg_one_of_neg this]
      exact ok_ret rfl rfl
    · have : ¬ z < 0 := by simpa using hn
      rw [Int.sign_eq_one_of_pos (by omega)]
      exact ok_ret rfl rfl
theorem f_Minus (z : Int) : Gv.Fn Tryz.prog 38 [zf z] (zf (-z)) := by
  refine Fn.intro mixed vc_ref02_Int_Minus rfl (ok_prim rfl (ok_call f_made rfl rfl (ok_ret rfl ?_)))
  rw [sg_not, sg_of]
  rfl
theorem f_Add {x y : Int} (hx : zs x ≤ 200000) (hy : zs y ≤ 200000) : Gv.Fn Tryz.prog 29 [zf x, zf y] (zf (x + y)) := by
  have hx' : sz x.natAbs ≤ 200000 := hx
  have hy' : sz y.natAbs ≤ 200000 := hy
  refine Fn.intro mixed vc_ref02_Add rfl (ok_prim rfl (ok_ite rfl (fun hs => ?_) (fun hs => ?_)))
  · refine ok_call (r_Add (by omega) (by omega)) rfl rfl (ok_call f_made rfl rfl (ok_ret rfl ?_))
    have e : decide (x < 0) = decide (y < 0) := by simpa using hs
    rw [sg_add, sg_of, e, sg_of]
    rfl
  · have e : decide (x < 0) ≠ decide (y < 0) := by simpa using hs
    refine ok_call (r_Cmp (by omega) (by omega)) rfl rfl (ok_prim rfl (ok_ite rfl (fun hc => ?_) (fun hc => ?_)))
    · have hle : y.natAbs ≤ x.natAbs := by
        have : cmpI (x.natAbs : Nat) (y.natAbs : Nat) ≥ 0 := by simpa using hc
        unfold cmpI at this
        split at this
        · omega
        · omega
      refine ok_call (r_Sub (by omega) hle) rfl rfl (ok_call f_made rfl rfl (ok_ret rfl ?_))
      rw [sg_sub _ _ _ _ e hle, sg_of, sg_of]
      rfl
    · have hlt : x.natAbs < y.natAbs := by
        have : ¬ cmpI (x.natAbs : Nat) (y.natAbs : Nat) ≥ 0 := by simpa using hc
        unfold cmpI at this
        split at this
        · omega
        · split at this <;> omega
      refine ok_call (r_Sub (by omega) (by omega)) rfl rfl (ok_call f_made rfl rfl (ok_ret rfl ?_))
      rw [sg_sub' _ _ _ _ e (by omega), sg_of, sg_of]
      rfl
theorem f_Sub {x y : Int} (hx : zs x ≤ 200000) (hy : zs y ≤ 200000) : Gv.Fn Tryz.prog 31 [zf x, zf y] (zf (x - y)) := by
  refine Fn.intro mixed vc_ref02_Sub rfl (ok_call (f_Minus y) rfl rfl (ok_call (f_Add hx (zs_neg hy)) rfl rfl (ok_ret rfl ?_)))
  rw [Int.sub_eq_add_neg]
  rfl
theorem f_Cmp {x y : Int} (hx : zs x ≤ 200000) (hy : zs y ≤ 200000) : Gv.Fn Tryz.prog 35 [zf x, zf y] (.raw (.int .i64 (x - y).sign)) :=
  Fn.intro mixed vc_ref02_Cmp rfl (ok_call (f_Sub hx hy) rfl rfl (ok_call (f_Sign _) rfl rfl (ok_ret rfl rfl)))
theorem f_Mul {x y : Int} (hx : zs x ≤ 200000) (hy : zs y ≤ 200000) : Gv.Fn Tryz.prog 33 [zf x, zf y] (zf (x * y)) := by
  have hx' : sz x.natAbs ≤ 200000 := hx
  have hy' : sz y.natAbs ≤ 200000 := hy
  refine Fn.intro mixed vc_ref02_Mul rfl (ok_prim rfl (ok_call (r_Mul (by omega) (by omega)) rfl rfl (ok_call f_made rfl rfl (ok_ret rfl ?_))))
  rw [sg_mul, sg_of, sg_of]
  rfl
theorem f_DivMod {x y : Int} (hx : zs x ≤ 500) (hy : zs y ≤ 500) (hy0 : y ≠ 0) : Gv.Fn Tryz.prog 23 [zf x, zf y] (.agg [.raw (.bool (decide (zq x y < 0))), r32 (zq x y).natAbs, .raw (.bool (decide (zr x y < 0))), r32 (zr x y).natAbs]) := by
  have hx' : sz x.natAbs ≤ 500 := hx
  have hy' : sz y.natAbs ≤ 500 := hy
  have hq : ∀ s, zs (sg s (x.natAbs / y.natAbs)) ≤ 500 := fun s => by unfold zs; rw [sg_abs]; exact Nat.le_trans (sz_mono (Nat.div_le_self _ _)) hx
  have hq3 := zs_zq (y := y) hx
  have h1s : zs 1 ≤ 1 := sz_small (by decide)
  refine Fn.intro mixed vc_ref02_DivMod rfl (ok_call (r_DivMod hx' hy' (by omega)) rfl rfl (ok_prim rfl (ok_call f_made rfl rfl (ok_prim (rowP_len _ _) (ok_prim rfl (ok_ite (t := decide (0 < x.natAbs % y.natAbs)) (by rw [← r32_len0]; rfl) (fun hr => ?_) (fun hr => ?_)))))))
  · have hr' : 0 < x.natAbs % y.natAbs := by simpa using hr
    refine ok_prim rfl (ok_ite rfl (fun hs => ?_) (fun hs => ?_))
    · have e : sg (decide (x < 0) != decide (y < 0)) (x.natAbs / y.natAbs) - 1 = zq x y := by
        unfold zq
        rw [if_pos ⟨hs, hr'⟩]
      refine ok_call (f_Of (v := 1) (by decide) (by decide)) rfl rfl ?_
      refine ok_call (f_Sub (x := sg (decide (x < 0) != decide (y < 0)) (x.natAbs / y.natAbs)) (y := 1) (Nat.le_trans (hq _) (by decide)) (by decide)) rfl rfl ?_
      rw [e]
      refine ok_call (f_Mul (x := zq x y) (y := y) (by omega) (by omega)) rfl rfl (ok_call (f_Sub (x := x) (y := zq x y * y) (by omega) (Nat.le_trans (zs_mul hq3 hy) (by decide))) rfl rfl (ok_ret rfl rfl))
    · have e : sg (decide (x < 0) != decide (y < 0)) (x.natAbs / y.natAbs) = zq x y := by
        unfold zq
        rw [if_neg (fun h => by rw [h.1] at hs; cases hs), Int.sub_zero]
      rw [e]
      refine ok_call (f_Mul (x := zq x y) (y := y) (by omega) (by omega)) rfl rfl (ok_call (f_Sub (x := x) (y := zq x y * y) (by omega) (Nat.le_trans (zs_mul hq3 hy) (by decide))) rfl rfl (ok_ret rfl rfl))
  · have hr' : ¬ 0 < x.natAbs % y.natAbs := by simpa using hr
    have e : sg (decide (x < 0) != decide (y < 0)) (x.natAbs / y.natAbs) = zq x y := by
      unfold zq
      rw [if_neg (fun h => hr' h.2), Int.sub_zero]
    rw [e]
    refine ok_call (f_Mul (x := zq x y) (y := y) (by omega) (by omega)) rfl rfl (ok_call (f_Sub (x := x) (y := zq x y * y) (by omega) (Nat.le_trans (zs_mul hq3 hy) (by decide))) rfl rfl (ok_ret rfl rfl))
theorem cat_ev {a b : ByteArray} (h : a.size + b.size ≤ 9223372036854775807) : Prim.ev (.op2 .add false) [.raw (.string a), .raw (.string b)] = some (.raw (.string (a ++ b))) := by
  show ((if a.size + b.size ≤ 9223372036854775807 then some (Value.string (a ++ b)) else none).map PV.raw) = _
  rw [if_pos h]
  rfl
theorem f_Text {z : Int} (hz : zs z ≤ 500) : Gv.Fn Tryz.prog 46 [zf z] (.raw (.string (ztxt z))) := by
  have hsz := txt_size (show sz z.natAbs ≤ 500 from hz)
  refine Fn.intro mixed vc_ref02_Text rfl (ok_ite rfl (fun hs => ?_) (fun hs => ?_))
  · have h0 : z < 0 := by simpa using hs
    rw [ztxt_neg h0]
    refine ok_call (r_Text hz (Nat.le_refl _)) rfl rfl (ok_prim (cat_ev ?_) (ok_ret rfl rfl))
    have : (⟨#[45]⟩ : ByteArray).size = 1 := rfl
    omega
  · have h0 : ¬ z < 0 := by simpa using hs
    rw [ztxt_pos h0]
    exact ok_call (r_Text hz (Nat.le_refl _)) rfl rfl (ok_ret rfl rfl)
theorem k_Int {s : Bool} {l : List Nat} (h : Lt 18446744073709551616 l) (hk : l.length ≤ 1000000) : Gv.Fn Tryz.prog 25 [.agg [.raw (.bool s), u64s l]] (.agg [.raw (.bool s), u64s l]) :=
  Fn.intro mixed vc_keep_Int rfl (ok_call (k_Nat h hk) rfl rfl (ok_ret rfl rfl))
theorem k_Ints {s t : Bool} {l m : List Nat} (h : Lt 18446744073709551616 l) (h' : Lt 18446744073709551616 m) : Gv.Fn Tryz.prog 26 [.agg [.raw (.bool s), u64s l], .agg [.raw (.bool t), u64s m]] (.raw (.bool (s == t && decide (l = m)))) := by
  refine Fn.intro mixed vc_keep_Ints rfl (ok_prim rfl (ok_ite rfl (fun hs => ?_) (fun hs => ?_)))
  · rw [hs, Bool.true_and]
    exact ok_call (k_Nats h h') rfl rfl (ok_ret rfl rfl)
  · rw [hs, Bool.false_and]
    exact ok_ret rfl rfl
theorem k_Ints_same (z : Int) : Gv.Fn Tryz.prog 26 [zc z, zc z] (.raw (.bool true)) := by
  have := k_Ints (s := decide (z < 0)) (t := decide (z < 0)) (limbs_lt B64 z.natAbs) (limbs_lt B64 z.natAbs)
  rwa [decide_eq_true rfl, Bool.and_true, beq_self_eq_true] at this
end Go.Proofs.YtlpfbcilnfgaaaaGreatDoor


/- The laws of zed, 1: wakes, ZedAdds, ZedDivides, ZedLaws. -/
namespace Gv
open Go Go.RowKit Gs
set_option linter.unusedVariables false
section
variable {P : Program} {R : PV → Prop} {ρ : List PV} {C : List (List PV → Prop)} {k : VC} {args : List SV} {kk : IntKind} {a b : Int}
theorem ok_true {c : SV} {x y : VC} (h : pv ρ c = .raw (.bool true)) (h1 : x.ok P R ρ C) : (VC.ite c x y).ok P R ρ C := ⟨true, h, fun _ => h1, fun h => by cases h⟩
theorem ok_false {c : SV} {x y : VC} (h : pv ρ c = .raw (.bool false)) (h1 : y.ok P R ρ C) : (VC.ite c x y).ok P R ρ C := ok_ite h (fun h => Bool.noConfusion h) fun _ => h1
theorem ok_eq (hp : pvs ρ args = [.raw (.int kk a), .raw (.int kk b)]) (t : Bool) (h : (a == b) = t) (hk : k.ok P R (ρ ++ [.raw (.bool t)]) C) : (VC.prim (.op2 .eql false) args k).ok P R ρ C := by
  refine ⟨_, ?_, hk⟩
  rw [hp, ← h]
  show ((if kk = kk then some (Value.bool (a == b)) else none).map PV.raw) = _
  rw [if_pos rfl]
  rfl
theorem ok_neq (hp : pvs ρ args = [.raw (.int kk a), .raw (.int kk b)]) (t : Bool) (h : (a != b) = t) (hk : k.ok P R (ρ ++ [.raw (.bool t)]) C) : (VC.prim (.op2 .neq false) args k).ok P R ρ C := by
  refine ⟨_, ?_, hk⟩
  rw [hp, ← h]
  show ((if kk = kk then some (Value.bool (a != b)) else none).map PV.raw) = _
  rw [if_pos rfl]
  rfl
theorem ok_gtr (hp : pvs ρ args = [.raw (.int kk a), .raw (.int kk b)]) (t : Bool) (h : decide (a > b) = t) (hk : k.ok P R (ρ ++ [.raw (.bool t)]) C) : (VC.prim (.op2 .gtr false) args k).ok P R ρ C := by
  refine ⟨_, ?_, hk⟩
  rw [hp, ← h]
  show ((if kk = kk then some (Value.bool (decide (a > b))) else none).map PV.raw) = _
  rw [if_pos rfl]
  rfl
theorem ok_seq {a b : ByteArray} (hp : pvs ρ args = [.raw (.string a), .raw (.string b)]) (h : a = b) (hk : k.ok P R (ρ ++ [.raw (.bool true)]) C) : (VC.prim (.op2 .eql false) args k).ok P R ρ C := by
  refine ⟨_, ?_, hk⟩
  rw [hp, h]
  show some (PV.raw (.bool (b.toList == b.toList))) = _
  rw [beq_self_eq_true]
theorem ok_beq {a b : Bool} (hp : pvs ρ args = [.raw (.bool a), .raw (.bool b)]) (t : Bool) (h : (a == b) = t) (hk : k.ok P R (ρ ++ [.raw (.bool t)]) C) : (VC.prim (.op2 .eql true) args k).ok P R ρ C := by
  refine ⟨_, ?_, hk⟩
  rw [hp, ← h]
  rfl
/-- a call whose arguments are told -/
theorem ok_callR {f : FuncId} {args : List SV} {sh : RSh} {ps : List PV} {r r' : PV} (h : Fn P f ps r) (e : r = r') (hp : pvs ρ args = ps) (hf : fitsR sh r' = true) (hk : k.ok P R (ρ ++ [r']) C) : (VC.call f args sh k).ok P R ρ C := by subst e; exact ⟨r, by rw [hp]; exact h, hf, hk⟩
end
theorem zs_small {v : Int} (h : v.natAbs < 18446744073709551616) : zs v ≤ 1 := sz_small h
theorem IsZ.s {v : Int} (h : v.natAbs < 18446744073709551616) : IsZ (Gv.zc v) v 1 := IsZ.zc (zs_small h)
theorem val_inj_len : ∀ {l m : List Nat}, l.length = m.length → Lt 18446744073709551616 l → Lt 18446744073709551616 m → val 18446744073709551616 l = val 18446744073709551616 m → l = m
  | [], [], _, _, _, _ => rfl
  | [], _ :: _, h, _, _, _ => by simp at h
  | _ :: _, [], h, _, _, _ => by simp at h
  | x :: l, y :: m, h, h1, h2, h3 => by
    have e1 : x < 18446744073709551616 := h1 x (by simp)
    have e2 : y < 18446744073709551616 := h2 y (by simp)
    simp only [val] at h3
    have e3 : val 18446744073709551616 l = val 18446744073709551616 m := by omega
    rw [val_inj_len (by simpa using h) (fun z hz => h1 z (by simp [hz])) (fun z hz => h2 z (by simp [hz])) e3, show x = y by omega]
/-- a good number is the one that its number comes to -/
theorem good_same {s : Bool} {l : List Nat} (hl : Lt 18446744073709551616 l) : (Go.Proofs.YtlpfbcilnfgaaaaGreatDoor.goodB l && (!s || decide (0 < l.length))) = (s == (s && decide (0 < val 18446744073709551616 l)) && decide (l = limbs 18446744073709551616 (val 18446744073709551616 l))) := by
  have hg : Go.Proofs.YtlpfbcilnfgaaaaGreatDoor.goodB l = decide (l = limbs 18446744073709551616 (val 18446744073709551616 l)) := by
    unfold Go.Proofs.YtlpfbcilnfgaaaaGreatDoor.goodB Gs.nl
    rw [Bool.eq_iff_iff, decide_eq_true_iff, decide_eq_true_iff]
    exact ⟨fun h => val_inj_len h.symm hl (limbs_lt B64 _) (val_limbs B64 _).symm, fun h => by rw [← h]⟩
  rw [hg]
  by_cases he : l = limbs 18446744073709551616 (val 18446744073709551616 l)
  · have h0 := limbs_len_zero B64 (val 18446744073709551616 l)
    rw [← he] at h0
    rw [decide_eq_true he, Bool.true_and, Bool.and_true]
    cases s
    · rfl
    · rw [Bool.true_and, Bool.not_true, Bool.false_or, Bool.eq_iff_iff, decide_eq_true_iff, beq_iff_eq, eq_comm, decide_eq_true_iff]
      omega
  · rw [decide_eq_false he, Bool.false_and, Bool.and_false]
theorem ztxt_m4 : ztxt (-4) = ⟨#[45, 52]⟩ := by
  rw [ztxt_neg (by decide), ← txt_eq (s := ⟨#[52]⟩) (x := (-4 : Int).natAbs) ⟨by decide, by decide, by decide, by decide⟩]
  rfl
theorem ztxt_1 : ztxt 1 = ⟨#[49]⟩ := by
  rw [ztxt_pos (by decide), ← txt_eq (s := ⟨#[49]⟩) (x := (1 : Int).natAbs) ⟨by decide, by decide, by decide, by decide⟩]
theorem ztxt_m1 : ztxt (-1) = ⟨#[45, 49]⟩ := by
  rw [ztxt_neg (by decide), ← txt_eq (s := ⟨#[49]⟩) (x := (-1 : Int).natAbs) ⟨by decide, by decide, by decide, by decide⟩]
  rfl
end Gv
namespace Go.Proofs.YtlpfbcilnfgaaaaGreatDoor
open Go.RowKit Gs Gv
set_option linter.unusedVariables false
theorem l2_large {s : Bool} {l : List Nat} : Gv.Fn Tryz.prog 18 [.agg [.raw (.bool s), u64s l]] (.raw (.bool (decide (40 < l.length)))) := by
  refine Fn.intro mixed vc_law02_large rfl (ok_prim (rowP_len _ _) (ok_gtr rfl (decide (40 < l.length)) ?_ (ok_ret rfl rfl)))
  rw [Bool.eq_iff_iff, decide_eq_true_iff, decide_eq_true_iff]
  omega
theorem l2_same {x : Int} (hx : zs x ≤ 400000) : Gv.Fn Tryz.prog 24 [zc x, zf x] (.raw (.bool true)) :=
  Fn.intro mixed vc_law02_same rfl (ok_call (f_Out hx) rfl rfl (ok_call (k_Ints_same x) rfl rfl (ok_ret rfl rfl)))
set_option maxHeartbeats 4000000 in
theorem l2_wakes : Gv.Fn Tryz.prog 19 [] (.raw (.bool true)) := by
  have hg : (goodB (limbs 18446744073709551616 (zq (-7) 2).natAbs) && (!decide (zq (-7) 2 < 0) || decide (0 < (limbs 18446744073709551616 (zq (-7) 2).natAbs).length))) = true := by decide
  have e1 : zq (-7) 2 = -4 := by decide
  have e2 : zr (-7) 2 = 1 := by decide
  have e3 : zq 7 (-2) = -4 := by decide
  have e4 : zr 7 (-2) = -1 := by decide
  have d1 := z_DivMod (x := -7) (y := 2) (IsZ.s (by decide)) (IsZ.s (by decide)) (by decide) (by decide) (by decide)
  have d2 := z_DivMod (x := 7) (y := -2) (IsZ.s (by decide)) (IsZ.s (by decide)) (by decide) (by decide) (by decide)
  rw [e1, e2] at d1
  rw [e3, e4] at d2
  rw [e1] at hg
  refine Fn.intro mixed vc_law02_wakes rfl (ok_call (z_Of (v := -7) (by decide) (by decide)) rfl rfl (ok_call (z_Of (v := 2) (by decide) (by decide)) rfl rfl (ok_call d1 rfl rfl ?_)))
  refine ok_call (z_Of (v := 7) (by decide) (by decide)) rfl rfl (ok_call (z_Of (v := -2) (by decide) (by decide)) rfl rfl (ok_call d2 rfl rfl ?_))
  try simp only [List.cons_append, List.nil_append]
  refine ok_call (z_Of (v := -3) (by decide) (by decide)) rfl rfl (ok_call (z_Of (v := 5) (by decide) (by decide)) rfl rfl (ok_call (z_Mul (x := -3) (y := 5) (IsZ.s (by decide)) (IsZ.s (by decide)) (by decide) (by decide)) rfl rfl ?_))
  try simp only [List.cons_append, List.nil_append]
  refine ok_callR (z_Small (z := -3 * 5) (IsZ.s (by decide)) (by decide)) (r' := .tup [.raw (.int .i64 (-15)), .raw (.bool true)]) (by rw [show smV (-3 * 5) = -15 by decide, show inS (-3 * 5) = true by decide]) rfl rfl ?_
  try simp only [List.cons_append, List.nil_append]
  refine ok_eq rfl true rfl (ok_true rfl (ok_eq rfl true rfl (ok_true rfl ?_)))
  try simp only [List.cons_append, List.nil_append]
  refine ok_call (z_Text (z := -4) (IsZ.s (by decide)) (by decide)) rfl rfl (ok_seq rfl ztxt_m4 (ok_true rfl ?_))
  try simp only [List.cons_append, List.nil_append]
  refine ok_call (z_Text (z := 1) (IsZ.s (by decide)) (by decide)) rfl rfl (ok_seq rfl ztxt_1 (ok_true rfl ?_))
  try simp only [List.cons_append, List.nil_append]
  refine ok_call (z_Text (z := -4) (IsZ.s (by decide)) (by decide)) rfl rfl (ok_seq rfl ztxt_m4 (ok_true rfl ?_))
  try simp only [List.cons_append, List.nil_append]
  refine ok_call (z_Text (z := -1) (IsZ.s (by decide)) (by decide)) rfl rfl (ok_seq rfl ztxt_m1 (ok_true rfl ?_))
  try simp only [List.cons_append, List.nil_append]
  refine ok_true rfl (ok_eq rfl true rfl (ok_true rfl ?_))
  try simp only [List.cons_append, List.nil_append]
  refine ok_call (z_Of (v := -9) (by decide) (by decide)) rfl rfl (ok_call (z_Sign (z := -9) (IsZ.s (by decide)) (by decide)) rfl rfl (ok_eq rfl true rfl (ok_true rfl ?_)))
  try simp only [List.cons_append, List.nil_append]
  refine ok_callR (z_Good (s := decide ((-4 : Int) < 0)) (limbs_lt B64 (-4 : Int).natAbs) (by decide)) (by rw [hg]) rfl rfl (ok_ret rfl rfl)
set_option maxHeartbeats 4000000 in
theorem law_ZedAdds {s t : Bool} {l m : List Nat} (hl : Lt 18446744073709551616 l) (hm : Lt 18446744073709551616 m) :
    Gv.Fn Tryz.prog 4 [.agg [.raw (.bool s), u64s l], .agg [.raw (.bool t), u64s m]] (.raw (.bool true)) := by
  refine Fn.intro mixed vc_law02_ZedAdds rfl (ok_call l2_large rfl rfl (ok_ite rfl (fun _ => ok_call l2_wakes rfl rfl (ok_ret rfl rfl)) (fun h1 => ?_)))
  refine ok_call l2_large rfl rfl (ok_ite rfl (fun _ => ok_call l2_wakes rfl rfl (ok_ret rfl rfl)) (fun h2 => ?_))
  try simp only [List.cons_append, List.nil_append]
  have h1 : l.length ≤ 40 := by have : ¬ 40 < l.length := by simpa using h1
                                omega
  have h2 : m.length ≤ 40 := by have : ¬ 40 < m.length := by simpa using h2
                                omega
  obtain ⟨x, hx⟩ : ∃ x, sg s (val 18446744073709551616 l) = x := ⟨_, rfl⟩
  obtain ⟨y, hy⟩ : ∃ y, sg t (val 18446744073709551616 m) = y := ⟨_, rfl⟩
  have a1 : IsZ (.agg [.raw (.bool s), u64s l]) x 40 := ⟨s, l, rfl, hl, hx, h1⟩
  have a2 : IsZ (.agg [.raw (.bool t), u64s m]) y 40 := ⟨t, m, rfl, hm, hy, h2⟩
  have zx := a1.zs
  have zy := a2.zs
  have zn := zs_neg zx
  have zadd := zs_add zx zy
  have zsub := zs_sub zx zy
  have zmul := zs_mul zx zy
  refine ok_call (f_In a1 (by decide)) rfl rfl (ok_call (f_In a2 (by decide)) rfl rfl (ok_call (k_Int hl (by omega)) rfl rfl (ok_call (f_Out (z := x) (by omega)) rfl rfl ?_)))
  try simp only [List.cons_append, List.nil_append]
  refine ok_call (k_Ints (s := s) (t := decide (x < 0)) hl (limbs_lt B64 x.natAbs)) rfl rfl ?_
  try simp only [List.cons_append, List.nil_append]
  refine ok_call (z_Add a1 a2 (by decide) (by decide)) rfl rfl (ok_call (f_Add (x := x) (y := y) (by omega) (by omega)) rfl rfl (ok_call (l2_same (x := x + y) (by omega)) rfl rfl (ok_true rfl ?_)))
  try simp only [List.cons_append, List.nil_append]
  refine ok_call (z_Sub a1 a2 (by decide) (by decide)) rfl rfl (ok_call (f_Sub (x := x) (y := y) (by omega) (by omega)) rfl rfl (ok_call (l2_same (x := x - y) (by omega)) rfl rfl (ok_true rfl ?_)))
  try simp only [List.cons_append, List.nil_append]
  refine ok_call (z_Mul a1 a2 (by decide) (by decide)) rfl rfl (ok_call (f_Mul (x := x) (y := y) (by omega) (by omega)) rfl rfl (ok_call (l2_same (x := x * y) (by omega)) rfl rfl (ok_true rfl ?_)))
  try simp only [List.cons_append, List.nil_append]
  refine ok_call (z_Cmp a1 a2 (by decide) (by decide)) rfl rfl (ok_call (f_Cmp (x := x) (y := y) (by omega) (by omega)) rfl rfl (ok_eq rfl true (beq_self_eq_true _) (ok_true rfl ?_)))
  try simp only [List.cons_append, List.nil_append]
  refine ok_call (z_Sign a1 (by decide)) rfl rfl (ok_call (f_Sign x) rfl rfl (ok_eq rfl true (beq_self_eq_true _) (ok_true rfl ?_)))
  try simp only [List.cons_append, List.nil_append]
  refine ok_call (z_Neg a1 (by decide)) rfl rfl (ok_call (f_Minus x) rfl rfl (ok_call (l2_same (x := -x) (by omega)) rfl rfl (ok_true rfl ?_)))
  try simp only [List.cons_append, List.nil_append]
  refine ok_call (z_Good (s := s) hl (by omega)) rfl rfl (ok_beq rfl true ?_ (ok_true rfl ?_))
  · rw [beq_iff_eq, ← hx, sg_lt, sg_abs]
    exact good_same hl
  refine ok_callR (k_Ints (s := s) (t := s) hl hl) (r' := .raw (.bool true)) (by simp) rfl rfl (ok_true rfl ?_)
  try simp only [List.cons_append, List.nil_append]
  exact ok_call l2_wakes rfl rfl (ok_ret rfl rfl)
end Go.Proofs.YtlpfbcilnfgaaaaGreatDoor


/- The laws of zed, 2: ZedDivides, ZedLaws. -/
namespace Gv
open Go Go.RowKit Gs
set_option linter.unusedVariables false
section
variable {P : Program} {R : PV → Prop} {ρ : List PV} {C : List (List PV → Prop)} {k : VC} {args : List SV} {kk : IntKind} {a b : Int}
theorem ok_leq (hp : pvs ρ args = [.raw (.int kk a), .raw (.int kk b)]) (t : Bool) (h : decide (a ≤ b) = t) (hk : k.ok P R (ρ ++ [.raw (.bool t)]) C) : (VC.prim (.op2 .leq false) args k).ok P R ρ C := by
  refine ⟨_, ?_, hk⟩
  rw [hp, ← h]
  show ((if kk = kk then some (Value.bool (decide (a ≤ b))) else none).map PV.raw) = _
  rw [if_pos rfl]
  rfl
theorem ok_geq (hp : pvs ρ args = [.raw (.int kk a), .raw (.int kk b)]) (t : Bool) (h : decide (a ≥ b) = t) (hk : k.ok P R (ρ ++ [.raw (.bool t)]) C) : (VC.prim (.op2 .geq false) args k).ok P R ρ C := by
  refine ⟨_, ?_, hk⟩
  rw [hp, ← h]
  show ((if kk = kk then some (Value.bool (decide (a ≥ b))) else none).map PV.raw) = _
  rw [if_pos rfl]
  rfl
theorem ok_lss (hp : pvs ρ args = [.raw (.int kk a), .raw (.int kk b)]) (t : Bool) (h : decide (a < b) = t) (hk : k.ok P R (ρ ++ [.raw (.bool t)]) C) : (VC.prim (.op2 .lss false) args k).ok P R ρ C := by
  refine ⟨_, ?_, hk⟩
  rw [hp, ← h]
  show ((if kk = kk then some (Value.bool (decide (a < b))) else none).map PV.raw) = _
  rw [if_pos rfl]
  rfl
theorem ok_mul (hp : pvs ρ args = [.raw (.int kk a), .raw (.int kk b)]) (c : Int) (h : kk.wrap (a * b) = c) (hk : k.ok P R (ρ ++ [.raw (.int kk c)]) C) : (VC.prim (.op2 .mul false) args k).ok P R ρ C := by
  refine ⟨_, ?_, hk⟩
  rw [hp, ← h]
  show ((if kk = kk then some (Value.int kk (kk.wrap (a * b))) else none).map PV.raw) = _
  rw [if_pos rfl]
  rfl
theorem ok_add (hp : pvs ρ args = [.raw (.int kk a), .raw (.int kk b)]) (c : Int) (h : kk.wrap (a + b) = c) (hk : k.ok P R (ρ ++ [.raw (.int kk c)]) C) : (VC.prim (.op2 .add false) args k).ok P R ρ C := by
  refine ⟨_, ?_, hk⟩
  rw [hp, ← h]
  show ((if kk = kk then some (Value.int kk (kk.wrap (a + b))) else none).map PV.raw) = _
  rw [if_pos rfl]
  rfl
theorem ok_sub (hp : pvs ρ args = [.raw (.int kk a), .raw (.int kk b)]) (c : Int) (h : kk.wrap (a - b) = c) (hk : k.ok P R (ρ ++ [.raw (.int kk c)]) C) : (VC.prim (.op2 .sub false) args k).ok P R ρ C := by
  refine ⟨_, ?_, hk⟩
  rw [hp, ← h]
  show ((if kk = kk then some (Value.int kk (kk.wrap (a - b))) else none).map PV.raw) = _
  rw [if_pos rfl]
  rfl
theorem ok_len {j : IntKind} {l : List Nat} (hp : pvs ρ args = [rowP j l]) (n : Int) (h : (l.length : Int) = n) (hk : k.ok P R (ρ ++ [.raw (.int .i64 n)]) C) : (VC.prim .len args k).ok P R ρ C := by
  subst h
  exact ok_prim (by rw [hp]; exact rowP_len j l) hk
end
theorem sign_mem (z : Int) : z.sign = -1 ∨ z.sign = 0 ∨ z.sign = 1 := by
  rcases Int.lt_trichotomy z 0 with h | h | h
  · exact .inl (Int.sign_eq_neg_one_of_neg h)
  · subst h; exact .inr (.inl rfl)
  · exact .inr (.inr (Int.sign_eq_one_of_pos h))
theorem sign_wrap (x y : Int) : IntKind.i64.wrap (x.sign * y.sign) = x.sign * y.sign := by
  rcases sign_mem x with h | h | h <;> rcases sign_mem y with h' | h' | h' <;> rw [h, h'] <;> decide
theorem sign_sub0 {x y : Int} (h : x = y) : (x - y).sign = 0 := by rw [h, Int.sub_self]; rfl
end Gv
namespace Go.Proofs.YtlpfbcilnfgaaaaGreatDoor
open Go.RowKit Gs Gv
set_option linter.unusedVariables false
set_option maxHeartbeats 4000000 in
theorem law_ZedDivides {s t : Bool} {l m : List Nat} (hl : Lt 18446744073709551616 l) (hm : Lt 18446744073709551616 m) :
    Gv.Fn Tryz.prog 3 [.agg [.raw (.bool s), u64s l], .agg [.raw (.bool t), u64s m]] (.raw (.bool true)) := by
  refine Fn.intro mixed vc_law02_ZedDivides rfl (ok_call l2_large rfl rfl (ok_ite rfl (fun _ => ok_call l2_wakes rfl rfl (ok_ret rfl rfl)) (fun h1 => ?_)))
  refine ok_call l2_large rfl rfl (ok_ite rfl (fun _ => ok_call l2_wakes rfl rfl (ok_ret rfl rfl)) (fun h2 => ?_))
  have h1 : l.length ≤ 40 := by have : ¬ 40 < l.length := by simpa using h1
                                omega
  have h2 : m.length ≤ 40 := by have : ¬ 40 < m.length := by simpa using h2
                                omega
  obtain ⟨x, hx⟩ : ∃ x, sg s (val 18446744073709551616 l) = x := ⟨_, rfl⟩
  obtain ⟨y, hy⟩ : ∃ y, sg t (val 18446744073709551616 m) = y := ⟨_, rfl⟩
  have a1 : IsZ (.agg [.raw (.bool s), u64s l]) x 40 := ⟨s, l, rfl, hl, hx, h1⟩
  have a2 : IsZ (.agg [.raw (.bool t), u64s m]) y 40 := ⟨t, m, rfl, hm, hy, h2⟩
  have zx := a1.zs
  have zy := a2.zs
  try simp only [List.cons_append, List.nil_append]
  refine ok_call (f_In a1 (by decide)) rfl rfl (ok_call (f_In a2 (by decide)) rfl rfl ?_)
  try simp only [List.cons_append, List.nil_append]
  by_cases hy0 : y = 0
  · subst hy0
    refine ok_call (z_DivMod_zero a1 a2 (by decide) (by decide)) rfl rfl (ok_call (f_Sign 0) rfl rfl (ok_eq rfl true rfl (ok_true rfl ?_)))
    try simp only [List.cons_append, List.nil_append]
    refine ok_eq rfl true rfl (ok_true rfl (ok_len (l := []) (j := .u64) rfl 0 rfl (ok_eq rfl true rfl (ok_true rfl ?_))))
    try simp only [List.cons_append, List.nil_append]
    refine ok_len (l := []) (j := .u64) rfl 0 rfl (ok_eq rfl true rfl (ok_true rfl ?_))
    try simp only [List.cons_append, List.nil_append]
    exact ok_call l2_wakes rfl rfl (ok_ret rfl rfl)
  · have hs : (y.sign == 0) = false := by
      rw [beq_eq_false_iff_ne]
      intro h
      exact hy0 (Int.sign_eq_zero_iff_zero.1 h)
    refine ok_call (z_DivMod a1 a2 (by decide) (by decide) hy0) rfl rfl (ok_call (f_Sign y) rfl rfl (ok_eq rfl false hs (ok_false rfl ?_)))
    try simp only [List.cons_append, List.nil_append]
    refine ok_call (f_DivMod (x := x) (y := y) (by omega) (by omega) hy0) rfl rfl (ok_eq rfl true rfl (ok_true rfl ?_))
    try simp only [List.cons_append, List.nil_append]
    have z1 := zs_zq (y := y) zx
    have z2 := zs_zr (x := x) hy0 zy
    refine ok_call (l2_same (x := zq x y) (by omega)) rfl rfl (ok_true rfl ?_)
    try simp only [List.cons_append, List.nil_append]
    refine ok_call (l2_same (x := zr x y) (by omega)) rfl rfl (ok_true rfl ?_)
    try simp only [List.cons_append, List.nil_append]
    exact ok_call l2_wakes rfl rfl (ok_ret rfl rfl)
set_option maxHeartbeats 8000000 in
theorem law_ZedLaws {s t u : Bool} {l m o : List Nat} (hl : Lt 18446744073709551616 l) (hm : Lt 18446744073709551616 m) (ho : Lt 18446744073709551616 o) :
    Gv.Fn Tryz.prog 5 [.agg [.raw (.bool s), u64s l], .agg [.raw (.bool t), u64s m], .agg [.raw (.bool u), u64s o]] (.raw (.bool true)) := by
  refine Fn.intro mixed vc_law02_ZedLaws rfl (ok_len (l := l) (j := .u64) rfl _ rfl (ok_gtr rfl _ rfl (ok_ite rfl (fun _ => ok_call l2_wakes rfl rfl (ok_ret rfl rfl)) (fun h1 => ?_))))
  try simp only [List.cons_append, List.nil_append]
  refine ok_len (l := m) (j := .u64) rfl _ rfl (ok_gtr rfl _ rfl (ok_ite rfl (fun _ => ok_call l2_wakes rfl rfl (ok_ret rfl rfl)) (fun h2 => ?_)))
  try simp only [List.cons_append, List.nil_append]
  refine ok_len (l := o) (j := .u64) rfl _ rfl (ok_gtr rfl _ rfl (ok_ite rfl (fun _ => ok_call l2_wakes rfl rfl (ok_ret rfl rfl)) (fun h3 => ?_)))
  try simp only [List.cons_append, List.nil_append]
  have h1 : l.length ≤ 15 := by have : ¬ (l.length : Int) > 15 := by simpa using h1
                                omega
  have h2 : m.length ≤ 15 := by have : ¬ (m.length : Int) > 15 := by simpa using h2
                                omega
  have h3 : o.length ≤ 15 := by have : ¬ (o.length : Int) > 15 := by simpa using h3
                                omega
  obtain ⟨x, hx⟩ : ∃ x, sg s (val 18446744073709551616 l) = x := ⟨_, rfl⟩
  obtain ⟨y, hy⟩ : ∃ y, sg t (val 18446744073709551616 m) = y := ⟨_, rfl⟩
  obtain ⟨z, hz⟩ : ∃ z, sg u (val 18446744073709551616 o) = z := ⟨_, rfl⟩
  have a1 : IsZ (.agg [.raw (.bool s), u64s l]) x 15 := ⟨s, l, rfl, hl, hx, h1⟩
  have a2 : IsZ (.agg [.raw (.bool t), u64s m]) y 15 := ⟨t, m, rfl, hm, hy, h2⟩
  have a3 : IsZ (.agg [.raw (.bool u), u64s o]) z 15 := ⟨u, o, rfl, ho, hz, h3⟩
  have zx := a1.zs
  have zy := a2.zs
  have zz := a3.zs
  have yz := zs_add zy zz
  have xy := zs_add zx zy
  have mxy := zs_mul zx zy
  have myx := zs_mul zy zx
  have mxz := zs_mul zx zz
  refine ok_call (z_Add a2 a3 (by decide) (by decide)) rfl rfl (ok_call (z_Add a1 (IsZ.zc yz) (by decide) (by decide)) rfl rfl ?_)
  try simp only [List.cons_append, List.nil_append]
  refine ok_call (z_Add a1 a2 (by decide) (by decide)) rfl rfl (ok_call (z_Add (IsZ.zc xy) a3 (by decide) (by decide)) rfl rfl ?_)
  try simp only [List.cons_append, List.nil_append]
  refine ok_call (z_Cmp (IsZ.zc (zs_add zx yz)) (IsZ.zc (zs_add xy zz)) (by decide) (by decide)) rfl rfl (ok_neq rfl false (by rw [sign_sub0 (by omega)]; rfl) (ok_false rfl ?_))
  try simp only [List.cons_append, List.nil_append]
  refine ok_call (z_Add a2 a3 (by decide) (by decide)) rfl rfl (ok_call (z_Mul a1 (IsZ.zc yz) (by decide) (by decide)) rfl rfl ?_)
  try simp only [List.cons_append, List.nil_append]
  refine ok_call (z_Mul a1 a2 (by decide) (by decide)) rfl rfl (ok_call (z_Mul a1 a3 (by decide) (by decide)) rfl rfl ?_)
  try simp only [List.cons_append, List.nil_append]
  refine ok_call (z_Add (IsZ.zc mxy) (IsZ.zc mxz) (by decide) (by decide)) rfl rfl ?_
  try simp only [List.cons_append, List.nil_append]
  refine ok_call (z_Cmp (IsZ.zc (zs_mul zx yz)) (IsZ.zc (zs_add mxy mxz)) (by decide) (by decide)) rfl rfl (ok_neq rfl false (by rw [sign_sub0 (Int.mul_add _ _ _)]; rfl) (ok_false rfl ?_))
  try simp only [List.cons_append, List.nil_append]
  refine ok_call (z_Mul a1 a2 (by decide) (by decide)) rfl rfl (ok_call (z_Mul a2 a1 (by decide) (by decide)) rfl rfl ?_)
  try simp only [List.cons_append, List.nil_append]
  refine ok_call (z_Cmp (IsZ.zc mxy) (IsZ.zc myx) (by decide) (by decide)) rfl rfl (ok_neq rfl false (by rw [sign_sub0 (Int.mul_comm _ _)]; rfl) (ok_false rfl ?_))
  try simp only [List.cons_append, List.nil_append]
  refine ok_call (z_Cmp a1 a2 (by decide) (by decide)) rfl rfl (ok_leq rfl _ rfl (ok_ite rfl (fun hc => ?_) (fun hc => ?_)))
  · try simp only [List.cons_append, List.nil_append]
    have hle : x - y ≤ 0 := by
      have h9 : (x - y).sign ≤ 0 := by simpa using hc
      by_cases h : 0 < x - y
      · rw [Int.sign_eq_one_of_pos h] at h9; omega
      · omega
    have hn : (x + z - (y + z)).sign ≤ 0 := by
      rw [show x + z - (y + z) = x - y by omega]
      simpa using hc
    refine ok_call (z_Add a1 a3 (by decide) (by decide)) rfl rfl (ok_call (z_Add a2 a3 (by decide) (by decide)) rfl rfl ?_)
    try simp only [List.cons_append, List.nil_append]
    refine ok_call (z_Cmp (IsZ.zc (zs_add zx zz)) (IsZ.zc yz) (by decide) (by decide)) rfl rfl (ok_gtr rfl false (by rw [decide_eq_false_iff_not]; omega) (ok_false rfl ?_))
    try simp only [List.cons_append, List.nil_append]
    refine ok_call (z_Mul a1 a2 (by decide) (by decide)) rfl rfl (ok_call (z_Sign (IsZ.zc mxy) (by decide)) rfl rfl ?_)
    try simp only [List.cons_append, List.nil_append]
    refine ok_call (z_Sign a1 (by decide)) rfl rfl (ok_call (z_Sign a2 (by decide)) rfl rfl ?_)
    try simp only [List.cons_append, List.nil_append]
    refine ok_mul rfl _ (sign_wrap x y) (ok_eq rfl true (by rw [Int.sign_mul, beq_self_eq_true]) (ok_true rfl ?_))
    try simp only [List.cons_append, List.nil_append]
    refine ok_call (z_Sub a1 a1 (by decide) (by decide)) rfl rfl (ok_call (z_Sign (IsZ.zc (zs_sub zx zx)) (by decide)) rfl rfl ?_)
    try simp only [List.cons_append, List.nil_append]
    refine ok_eq rfl true (by rw [sign_sub0 rfl]; rfl) (ok_true rfl ?_)
    try simp only [List.cons_append, List.nil_append]
    exact ok_call l2_wakes rfl rfl (ok_ret rfl rfl)
  · try simp only [List.cons_append, List.nil_append]
    refine ok_call (z_Mul a1 a2 (by decide) (by decide)) rfl rfl (ok_call (z_Sign (IsZ.zc mxy) (by decide)) rfl rfl ?_)
    try simp only [List.cons_append, List.nil_append]
    refine ok_call (z_Sign a1 (by decide)) rfl rfl (ok_call (z_Sign a2 (by decide)) rfl rfl ?_)
    try simp only [List.cons_append, List.nil_append]
    refine ok_mul rfl _ (sign_wrap x y) (ok_eq rfl true (by rw [Int.sign_mul, beq_self_eq_true]) (ok_true rfl ?_))
    try simp only [List.cons_append, List.nil_append]
    refine ok_call (z_Sub a1 a1 (by decide) (by decide)) rfl rfl (ok_call (z_Sign (IsZ.zc (zs_sub zx zx)) (by decide)) rfl rfl ?_)
    try simp only [List.cons_append, List.nil_append]
    refine ok_eq rfl true (by rw [sign_sub0 rfl]; rfl) (ok_true rfl ?_)
    try simp only [List.cons_append, List.nil_append]
    exact ok_call l2_wakes rfl rfl (ok_ret rfl rfl)
end Go.Proofs.YtlpfbcilnfgaaaaGreatDoor


/- The laws of zed, 3: ZedBack. -/
namespace Gv
open Go Go.RowKit Gs
set_option linter.unusedVariables false
theorem ok_neg {P : Program} {R : PV → Prop} {ρ : List PV} {C : List (List PV → Prop)} {k : VC} {args : List SV} {kk : IntKind} {a : Int} (hp : pvs ρ args = [.raw (.int kk a)]) (c : Int) (h : kk.wrap (0 - a) = c) (hk : k.ok P R (ρ ++ [.raw (.int kk c)]) C) : (VC.prim (.op1 .neg) args k).ok P R ρ C := by
  refine ⟨_, ?_, hk⟩
  rw [hp, ← h]
  rfl
theorem sign_neg_wrap (z : Int) : IntKind.i64.wrap (0 - z.sign) = (-z).sign := by
  rcases Int.lt_trichotomy z 0 with h | h | h
  · rw [Int.sign_eq_neg_one_of_neg h, Int.sign_eq_one_of_pos (by omega)]; decide
  · subst h; decide
  · rw [Int.sign_eq_one_of_pos h, Int.sign_eq_neg_one_of_neg (by omega)]; decide
theorem byt_cat (a b : ByteArray) : byt (a ++ b) = byt a ++ byt b := by
  unfold byt
  rw [ByteArray.data_append, Array.toList_append, List.map_append]
/-- what is read of a number's text is it -/
theorem z_text_back {x : Int} {k : Nat} (hx : zs x ≤ k) (hk : k ≤ 900) : zV (ztxt x) = x ∧ zE (ztxt x) = 0 := by
  have hsz := txt_size (show sz x.natAbs ≤ k from hx)
  have ht := txt_is x.natAbs
  obtain ⟨p1, p2, p3⟩ := p_text ht
  by_cases h0 : x < 0
  · have hb : byt (ztxt x) = 45 :: byt (txt x.natAbs) := by rw [ztxt_neg h0, byt_cat]; rfl
    have hs : (ztxt x).size = (txt x.natAbs).size + 1 := by rw [← byt_length, hb, List.length_cons, byt_length]
    have hN : zN (ztxt x) = true := by
      unfold zN
      rw [decide_eq_true (show 0 < (ztxt x).size by omega), hb]
      rfl
    have hT : zT (ztxt x) = txt x.natAbs := by
      unfold zT
      rw [if_pos hN]
      apply byt_inj
      rw [byt_extract, hb]
      rfl
    obtain ⟨e1, e2, _⟩ := zOk_good (s := ztxt x) (by omega) (by rw [hT]; exact p1) (by rw [hT, p2]; omega)
    refine ⟨?_, e2⟩
    rw [e1, hN, hT, p2, sg_true]
    omega
  · have hN : zN (ztxt x) = false := by
      rw [ztxt_pos h0]
      unfold zN
      rw [decide_eq_true ht.2.2.1, Bool.true_and, beq_eq_false_iff_ne]
      intro e
      have h1 := ht.1
      have hl : 0 < (byt (txt x.natAbs)).length := by rw [byt_length]; exact ht.2.2.1
      have := List.all_eq_true.1 h1 _ (List.getElem_mem hl)
      rw [gd_lt hl] at e
      rw [e] at this
      exact absurd this (by decide)
    have hT : zT (ztxt x) = txt x.natAbs := by
      unfold zT
      rw [if_neg (by rw [hN]; decide), ztxt_pos h0]
    obtain ⟨e1, e2, _⟩ := zOk_good (s := ztxt x) (by rw [ztxt_pos h0]; omega) (by rw [hT]; exact p1) (by rw [hN]; simp)
    refine ⟨?_, e2⟩
    rw [e1, hN, hT, p2, sg_false]
    omega
end Gv
namespace Go.Proofs.YtlpfbcilnfgaaaaGreatDoor
open Go.RowKit Gs Gv
set_option linter.unusedVariables false
set_option maxHeartbeats 8000000 in
theorem law_ZedBack {s t : Bool} {l m : List Nat} (hl : Lt 18446744073709551616 l) (hm : Lt 18446744073709551616 m) :
    Gv.Fn Tryz.prog 8 [.agg [.raw (.bool s), u64s l], .agg [.raw (.bool t), u64s m]] (.raw (.bool true)) := by
  refine Fn.intro mixed vc_law02_ZedBack rfl (ok_call l2_large rfl rfl (ok_ite rfl (fun _ => ok_call l2_wakes rfl rfl (ok_ret rfl rfl)) (fun h1 => ?_)))
  refine ok_call l2_large rfl rfl (ok_ite rfl (fun _ => ok_call l2_wakes rfl rfl (ok_ret rfl rfl)) (fun h2 => ?_))
  have h1 : l.length ≤ 40 := by have : ¬ 40 < l.length := by simpa using h1
                                omega
  have h2 : m.length ≤ 40 := by have : ¬ 40 < m.length := by simpa using h2
                                omega
  obtain ⟨x, hx⟩ : ∃ x, sg s (val 18446744073709551616 l) = x := ⟨_, rfl⟩
  obtain ⟨y, hy⟩ : ∃ y, sg t (val 18446744073709551616 m) = y := ⟨_, rfl⟩
  have a1 : IsZ (.agg [.raw (.bool s), u64s l]) x 40 := ⟨s, l, rfl, hl, hx, h1⟩
  have a2 : IsZ (.agg [.raw (.bool t), u64s m]) y 40 := ⟨t, m, rfl, hm, hy, h2⟩
  have zx := a1.zs
  have zy := a2.zs
  have zxy := zs_add zx zy
  try simp only [List.cons_append, List.nil_append]
  by_cases hy0 : y = 0
  · have a0 : IsZ (.agg [.raw (.bool t), u64s m]) 0 40 := by rw [← hy0]; exact a2
    refine ok_call (z_DivMod_zero a1 a0 (by decide) (by decide)) rfl rfl (ok_eq rfl false rfl (ok_false rfl ?_))
    try simp only [List.cons_append, List.nil_append]
    refine ok_call (z_Text a1 (by decide)) rfl rfl ?_
    refine ok_callR (z_Parse (ztxt x)) (r' := .tup [zc x, .raw (.int .i64 0)]) (by rw [(z_text_back zx (by decide)).1, (z_text_back zx (by decide)).2]) rfl rfl ?_
    try simp only [List.cons_append, List.nil_append]
    refine ok_eq rfl true rfl (ok_true rfl ?_)
    try simp only [List.cons_append, List.nil_append]
    refine ok_call (z_Cmp (IsZ.zc zx) a1 (by decide) (by decide)) rfl rfl (ok_eq rfl true (by rw [sign_sub0 rfl]; rfl) (ok_true rfl ?_))
    try simp only [List.cons_append, List.nil_append]
    refine ok_call (z_Add a1 a2 (by decide) (by decide)) rfl rfl (ok_call (z_Sub (IsZ.zc zxy) a2 (by decide) (by decide)) rfl rfl ?_)
    try simp only [List.cons_append, List.nil_append]
    refine ok_call (z_Cmp (IsZ.zc (zs_sub zxy zy)) a1 (by decide) (by decide)) rfl rfl (ok_eq rfl true (by rw [sign_sub0 (by omega)]; rfl) (ok_true rfl ?_))
    try simp only [List.cons_append, List.nil_append]
    refine ok_call (z_Neg a1 (by decide)) rfl rfl (ok_call (z_Neg (IsZ.zc (zs_neg zx)) (by decide)) rfl rfl ?_)
    try simp only [List.cons_append, List.nil_append]
    refine ok_call (z_Cmp (IsZ.zc (zs_neg (zs_neg zx))) a1 (by decide) (by decide)) rfl rfl (ok_eq rfl true (by rw [sign_sub0 (by omega)]; rfl) (ok_true rfl ?_))
    try simp only [List.cons_append, List.nil_append]
    refine ok_call (z_Cmp a1 a2 (by decide) (by decide)) rfl rfl (ok_call (z_Cmp a2 a1 (by decide) (by decide)) rfl rfl ?_)
    try simp only [List.cons_append, List.nil_append]
    refine ok_neg rfl _ (sign_neg_wrap _) (ok_eq rfl true (by rw [show x - y = -(y - x) by omega, beq_self_eq_true]) (ok_true rfl ?_))
    try simp only [List.cons_append, List.nil_append]
    exact ok_call l2_wakes rfl rfl (ok_ret rfl rfl)
  have z1 := zs_zq (y := y) zx
  have z2 := zs_zr (x := x) hy0 zy
  have zm := zs_mul z1 zy
  refine ok_call (z_DivMod a1 a2 (by decide) (by decide) hy0) rfl rfl (ok_eq rfl true rfl (ok_true rfl ?_))
  try simp only [List.cons_append, List.nil_append]
  refine ok_call (z_Mul (IsZ.zc z1) a2 (by decide) (by decide)) rfl rfl (ok_call (z_Add (IsZ.zc zm) (IsZ.zc z2) (by decide) (by decide)) rfl rfl ?_)
  try simp only [List.cons_append, List.nil_append]
  refine ok_call (z_Cmp (IsZ.zc (zs_add zm z2)) a1 (by decide) (by decide)) rfl rfl (ok_neq rfl false (by rw [sign_sub0 (zq_mul x y)]; rfl) (ok_false rfl ?_))
  try simp only [List.cons_append, List.nil_append]
  have hsg : 0 ≤ (zr x y).sign * y.sign := by
    rcases Int.lt_or_gt_of_ne hy0 with h | h
    · have h3 := (zr_neg x h).1
      rw [Int.sign_eq_neg_one_of_neg h]
      rcases Int.lt_trichotomy (zr x y) 0 with h4 | h4 | h4
      · rw [Int.sign_eq_neg_one_of_neg h4]; decide
      · rw [h4]; decide
      · omega
    · have h3 := (zr_pos x h).1
      rw [Int.sign_eq_one_of_pos h]
      rcases Int.lt_trichotomy (zr x y) 0 with h4 | h4 | h4
      · omega
      · rw [h4]; decide
      · rw [Int.sign_eq_one_of_pos h4]; decide
  refine ok_call (z_Sign (IsZ.zc z2) (by decide)) rfl rfl (ok_call (z_Sign a2 (by decide)) rfl rfl ?_)
  try simp only [List.cons_append, List.nil_append]
  refine ok_mul rfl _ (sign_wrap _ _) (ok_lss rfl false (by rw [decide_eq_false_iff_not]; omega) (ok_false rfl ?_))
  try simp only [List.cons_append, List.nil_append]
  rcases Int.lt_or_gt_of_ne hy0 with h | h
  · have h3 := zr_neg x h
    have e1 := Int.sign_eq_neg_one_of_neg h
    have e2 : (zr x y - y).sign = 1 := Int.sign_eq_one_of_pos (by omega)
    refine ok_call (z_Sign a2 (by decide)) rfl rfl (ok_gtr rfl false (by rw [e1]; rfl) (ok_false rfl ?_))
    try simp only [List.cons_append, List.nil_append]
    refine ok_call (z_Sign a2 (by decide)) rfl rfl (ok_lss rfl true (by rw [e1]; rfl) (ok_true rfl ?_))
    try simp only [List.cons_append, List.nil_append]
    refine ok_call (z_Cmp (IsZ.zc z2) a2 (by decide) (by decide)) rfl rfl (ok_leq rfl false (by rw [e2]; rfl) (ok_false rfl ?_))
    try simp only [List.cons_append, List.nil_append]
    refine ok_call (z_Text a1 (by decide)) rfl rfl ?_
    refine ok_callR (z_Parse (ztxt x)) (r' := .tup [zc x, .raw (.int .i64 0)]) (by rw [(z_text_back zx (by decide)).1, (z_text_back zx (by decide)).2]) rfl rfl ?_
    try simp only [List.cons_append, List.nil_append]
    refine ok_eq rfl true rfl (ok_true rfl ?_)
    try simp only [List.cons_append, List.nil_append]
    refine ok_call (z_Cmp (IsZ.zc zx) a1 (by decide) (by decide)) rfl rfl (ok_eq rfl true (by rw [sign_sub0 rfl]; rfl) (ok_true rfl ?_))
    try simp only [List.cons_append, List.nil_append]
    refine ok_call (z_Add a1 a2 (by decide) (by decide)) rfl rfl (ok_call (z_Sub (IsZ.zc zxy) a2 (by decide) (by decide)) rfl rfl ?_)
    try simp only [List.cons_append, List.nil_append]
    refine ok_call (z_Cmp (IsZ.zc (zs_sub zxy zy)) a1 (by decide) (by decide)) rfl rfl (ok_eq rfl true (by rw [sign_sub0 (by omega)]; rfl) (ok_true rfl ?_))
    try simp only [List.cons_append, List.nil_append]
    refine ok_call (z_Neg a1 (by decide)) rfl rfl (ok_call (z_Neg (IsZ.zc (zs_neg zx)) (by decide)) rfl rfl ?_)
    try simp only [List.cons_append, List.nil_append]
    refine ok_call (z_Cmp (IsZ.zc (zs_neg (zs_neg zx))) a1 (by decide) (by decide)) rfl rfl (ok_eq rfl true (by rw [sign_sub0 (by omega)]; rfl) (ok_true rfl ?_))
    try simp only [List.cons_append, List.nil_append]
    refine ok_call (z_Cmp a1 a2 (by decide) (by decide)) rfl rfl (ok_call (z_Cmp a2 a1 (by decide) (by decide)) rfl rfl ?_)
    try simp only [List.cons_append, List.nil_append]
    refine ok_neg rfl _ (sign_neg_wrap _) (ok_eq rfl true (by rw [show x - y = -(y - x) by omega, beq_self_eq_true]) (ok_true rfl ?_))
    try simp only [List.cons_append, List.nil_append]
    exact ok_call l2_wakes rfl rfl (ok_ret rfl rfl)
  · have h3 := zr_pos x h
    have e1 := Int.sign_eq_one_of_pos h
    have e2 : (zr x y - y).sign = -1 := Int.sign_eq_neg_one_of_neg (by omega)
    refine ok_call (z_Sign a2 (by decide)) rfl rfl (ok_gtr rfl true (by rw [e1]; rfl) (ok_true rfl ?_))
    try simp only [List.cons_append, List.nil_append]
    refine ok_call (z_Cmp (IsZ.zc z2) a2 (by decide) (by decide)) rfl rfl (ok_geq rfl false (by rw [e2]; rfl) (ok_false rfl ?_))
    try simp only [List.cons_append, List.nil_append]
    refine ok_call (z_Sign a2 (by decide)) rfl rfl (ok_lss rfl false (by rw [e1]; rfl) (ok_false rfl ?_))
    try simp only [List.cons_append, List.nil_append]
    refine ok_call (z_Text a1 (by decide)) rfl rfl ?_
    refine ok_callR (z_Parse (ztxt x)) (r' := .tup [zc x, .raw (.int .i64 0)]) (by rw [(z_text_back zx (by decide)).1, (z_text_back zx (by decide)).2]) rfl rfl ?_
    try simp only [List.cons_append, List.nil_append]
    refine ok_eq rfl true rfl (ok_true rfl ?_)
    try simp only [List.cons_append, List.nil_append]
    refine ok_call (z_Cmp (IsZ.zc zx) a1 (by decide) (by decide)) rfl rfl (ok_eq rfl true (by rw [sign_sub0 rfl]; rfl) (ok_true rfl ?_))
    try simp only [List.cons_append, List.nil_append]
    refine ok_call (z_Add a1 a2 (by decide) (by decide)) rfl rfl (ok_call (z_Sub (IsZ.zc zxy) a2 (by decide) (by decide)) rfl rfl ?_)
    try simp only [List.cons_append, List.nil_append]
    refine ok_call (z_Cmp (IsZ.zc (zs_sub zxy zy)) a1 (by decide) (by decide)) rfl rfl (ok_eq rfl true (by rw [sign_sub0 (by omega)]; rfl) (ok_true rfl ?_))
    try simp only [List.cons_append, List.nil_append]
    refine ok_call (z_Neg a1 (by decide)) rfl rfl (ok_call (z_Neg (IsZ.zc (zs_neg zx)) (by decide)) rfl rfl ?_)
    try simp only [List.cons_append, List.nil_append]
    refine ok_call (z_Cmp (IsZ.zc (zs_neg (zs_neg zx))) a1 (by decide) (by decide)) rfl rfl (ok_eq rfl true (by rw [sign_sub0 (by omega)]; rfl) (ok_true rfl ?_))
    try simp only [List.cons_append, List.nil_append]
    refine ok_call (z_Cmp a1 a2 (by decide) (by decide)) rfl rfl (ok_call (z_Cmp a2 a1 (by decide) (by decide)) rfl rfl ?_)
    try simp only [List.cons_append, List.nil_append]
    refine ok_neg rfl _ (sign_neg_wrap _) (ok_eq rfl true (by rw [show x - y = -(y - x) by omega, beq_self_eq_true]) (ok_true rfl ?_))
    try simp only [List.cons_append, List.nil_append]
    exact ok_call l2_wakes rfl rfl (ok_ret rfl rfl)
end Go.Proofs.YtlpfbcilnfgaaaaGreatDoor


/- The laws of zed, 4: the reference's Parse; ZedTexts. -/
namespace Gv
open Go Go.RowKit Gs
set_option linter.unusedVariables false
theorem ok_not {P : Program} {R : PV → Prop} {ρ : List PV} {C : List (List PV → Prop)} {k : VC} {args : List SV} {a : Bool} (hp : pvs ρ args = [.raw (.bool a)]) (hk : k.ok P R (ρ ++ [.raw (.bool (!a))]) C) : (VC.prim (.op1 .not) args k).ok P R ρ C := by
  refine ⟨_, ?_, hk⟩
  rw [hp]
  rfl
theorem ok_slen {P : Program} {R : PV → Prop} {ρ : List PV} {C : List (List PV → Prop)} {k : VC} {args : List SV} {s : ByteArray} (hp : pvs ρ args = [.raw (.string s)]) (hk : k.ok P R (ρ ++ [.raw (.int .i64 s.size)]) C) : (VC.prim .slen args k).ok P R ρ C := by
  refine ⟨_, ?_, hk⟩
  rw [hp]
  rfl
theorem zf_zero : zf 0 = .agg [.raw (.bool false), .sl []] := rfl
theorem zs_zV (s : ByteArray) : zs (zV s) ≤ 20000 := by
  by_cases h : s.size ≤ 20000
  · unfold zV
    split
    · unfold zs
      rw [sg_abs]
      exact Nat.le_trans (pV_lt _) (Nat.le_trans (zT_size s) h)
    · exact Nat.zero_le _
  · rw [(zOk_long (by omega)).1]
    exact Nat.zero_le _
theorem sign_le (z : Int) : decide (z.sign ≤ 0) = decide (z ≤ 0) := by
  rcases Int.lt_trichotomy z 0 with h | h | h
  · rw [Int.sign_eq_neg_one_of_neg h, decide_eq_true (by omega : z ≤ 0)]; rfl
  · subst h; rfl
  · rw [Int.sign_eq_one_of_pos h, decide_eq_false (by omega : ¬ z ≤ 0)]; rfl
theorem sign_ge (z : Int) : decide (z.sign ≥ 0) = decide (z ≥ 0) := by
  rcases Int.lt_trichotomy z 0 with h | h | h
  · rw [Int.sign_eq_neg_one_of_neg h, decide_eq_false (by omega : ¬ z ≥ 0)]; rfl
  · subst h; rfl
  · rw [Int.sign_eq_one_of_pos h, decide_eq_true (by omega : z ≥ 0)]; rfl
end Gv
namespace Go.Proofs.YtlpfbcilnfgaaaaGreatDoor
open Go.RowKit Gs Gv
set_option linter.unusedVariables false
set_option maxHeartbeats 4000000 in
theorem f_Parse {s : ByteArray} (hs : s.size ≤ 1000 ∨ 20000 < s.size) : Gv.Fn Tryz.prog 43 [.raw (.string s)] (.tup [zf (zV s), .raw (.int .i64 (zE s))]) := by
  refine Fn.intro mixed vc_ref02_Parse rfl (ok_slen (s := s) rfl (ok_gtr rfl _ rfl (ok_ite rfl (fun hl => ?_) (fun hl => ?_))))
  · have h20 : 20000 < s.size := by
      have : (s.size : Int) > 20000 := by simpa using hl
      omega
    obtain ⟨e1, e2⟩ := zOk_long h20
    rw [e1, e2]
    exact ok_ret rfl rfl
  have h20 : s.size ≤ 1000 := by
    have : ¬ (s.size : Int) > 20000 := by simpa using hl
    omega
  have ht20 : (zT s).size ≤ 1000 := Nat.le_trans (zT_size s) h20
  clear hl hs
  have hE' : (pE (zT s) != 0) = !pOk (zT s) := by unfold pE; cases pOk (zT s) <;> rfl
  have hlen : (((limbs 4294967296 (pV (zT s))).length : Int) == 0) = decide (pV (zT s) = 0) := r32_len1
  try simp only [List.cons_append, List.nil_append]
  refine ok_slen (s := s) rfl (ok_gtr rfl (decide (0 < s.size)) (by rw [Bool.eq_iff_iff, decide_eq_true_iff, decide_eq_true_iff]; omega) (ok_ite rfl (fun h0 => ?_) (fun h0 => ?_)))
  · have h0' : 0 < s.size := by simpa using h0
    try simp only [List.cons_append, List.nil_append]
    refine ok_prim (six0 h0') (ok_eq rfl (zN s) ?_ (ok_ite rfl (fun hn => ?_) (fun hn => ?_)))
    · unfold zN
      rw [h0, Bool.true_and]
      rw [Bool.eq_iff_iff, beq_iff_eq, beq_iff_eq]
      omega
    · have hT : zT s = s.extract 1 s.size := if_pos hn
      try simp only [List.cons_append, List.nil_append]
      refine ok_prim (ssl1 h0') ?_
      have hP : Gv.Fn Tryz.prog 114 [.raw (.string (s.extract 1 s.size))] (.tup [r32 (pV (zT s)), .raw (.int .i64 (pE (zT s)))]) := by
        rw [← hT]
        exact r_Parse ht20
      refine ok_call hP rfl rfl (ok_neq rfl _ hE' (ok_ite rfl (fun hp => ?_) (fun hp => ?_)))
      · obtain ⟨e1, e2, e3⟩ := zOk_bad (s := s) (by omega) (by simpa using hp)
        rw [e1, e2]
        exact ok_ret rfl rfl
      · have hp : pOk (zT s) = true := by simpa using hp
        try simp only [List.cons_append, List.nil_append]
        refine ok_true (by rw [← hn]; rfl) (ok_len (j := .u32) (l := limbs 4294967296 (pV (zT s))) rfl _ rfl (ok_eq rfl _ hlen (ok_ite rfl (fun hz => ?_) (fun hz => ?_))))
        · obtain ⟨e1, e2⟩ := zOk_nil (s := s) (by omega) hn (by simpa using hz)
          rw [e1, e2]
          exact ok_ret rfl rfl
        · obtain ⟨e1, e2, e3⟩ := zOk_good (s := s) (by omega) hp (fun h => by simp [h.2] at hz)
          rw [e1, e2]
          try simp only [List.cons_append, List.nil_append]
          exact ok_call (f_made (s := zN s) (x := pV (zT s))) rfl rfl (ok_ret rfl rfl)
    · have hT : zT s = s := if_neg (by rw [hn]; decide)
      have hP : Gv.Fn Tryz.prog 114 [.raw (.string s)] (.tup [r32 (pV (zT s)), .raw (.int .i64 (pE (zT s)))]) := by
        rw [hT]
        exact r_Parse h20
      try simp only [List.cons_append, List.nil_append]
      refine ok_call hP rfl rfl (ok_neq rfl _ hE' (ok_ite rfl (fun hp => ?_) (fun hp => ?_)))
      · obtain ⟨e1, e2, e3⟩ := zOk_bad (s := s) (by omega) (by simpa using hp)
        rw [e1, e2]
        exact ok_ret rfl rfl
      · have hp : pOk (zT s) = true := by simpa using hp
        obtain ⟨e1, e2, e3⟩ := zOk_good (s := s) (by omega) hp (fun h => by rw [h.1] at hn; cases hn)
        rw [e1, e2]
        try simp only [List.cons_append, List.nil_append]
        exact ok_false (by rw [← hn]; rfl) (ok_call (f_made (s := zN s) (x := pV (zT s))) rfl rfl (ok_ret rfl rfl))
  · have hn : zN s = false := by unfold zN; rw [h0]; rfl
    have hT : zT s = s := if_neg (by rw [hn]; decide)
    have hP : Gv.Fn Tryz.prog 114 [.raw (.string s)] (.tup [r32 (pV (zT s)), .raw (.int .i64 (pE (zT s)))]) := by
      rw [hT]
      exact r_Parse h20
    try simp only [List.cons_append, List.nil_append]
    refine ok_call hP rfl rfl (ok_neq rfl _ hE' (ok_ite rfl (fun hp => ?_) (fun hp => ?_)))
    · obtain ⟨e1, e2, e3⟩ := zOk_bad (s := s) (by omega) (by simpa using hp)
      rw [e1, e2]
      exact ok_ret rfl rfl
    · have hp : pOk (zT s) = true := by simpa using hp
      obtain ⟨e1, e2, e3⟩ := zOk_good (s := s) (by omega) hp (fun h => by rw [h.1] at hn; cases hn)
      rw [e1, e2, hn]
      try simp only [List.cons_append, List.nil_append]
      exact ok_call (f_made (s := false) (x := pV (zT s))) rfl rfl (ok_ret rfl rfl)
set_option maxHeartbeats 8000000 in
theorem law_ZedTexts {s : Bool} {l : List Nat} {w : ByteArray} {v : Int} (hl : Lt 18446744073709551616 l) (hwz : w.size ≤ maxLen) (hv : (Lit.int .i64 v).wf = true) :
    Gv.Fn Tryz.prog 7 [.agg [.raw (.bool s), u64s l], .raw (.string w), .raw (.int .i64 v)] (.raw (.bool true)) := by
  have hv2 : -9223372036854775808 ≤ v ∧ v ≤ 9223372036854775807 := by
    have h1 : IntKind.i64.min = -9223372036854775808 := rfl
    have h2 : IntKind.i64.max = 9223372036854775807 := rfl
    simp only [Lit.wf, Bool.and_eq_true, decide_eq_true_eq] at hv
    omega
  obtain ⟨h3, h4⟩ := hv2
  refine Fn.intro mixed vc_law02_ZedTexts rfl (ok_call l2_large rfl rfl (ok_ite rfl (fun _ => ok_call l2_wakes rfl rfl (ok_ret rfl rfl)) (fun h1 => ?_)))
  have h1 : l.length ≤ 40 := by have : ¬ 40 < l.length := by simpa using h1
                                omega
  obtain ⟨x, hx⟩ : ∃ x, sg s (val 18446744073709551616 l) = x := ⟨_, rfl⟩
  have a1 : IsZ (.agg [.raw (.bool s), u64s l]) x 40 := ⟨s, l, rfl, hl, hx, h1⟩
  have zx := a1.zs
  try simp only [List.cons_append, List.nil_append]
  refine ok_slen (s := w) rfl (ok_gtr rfl _ rfl (ok_ite rfl (fun h5 => ?_) (fun h5 => ?_)))
  · try simp only [List.cons_append, List.nil_append]
    refine ok_slen (s := w) rfl (ok_leq rfl _ rfl (ok_ite rfl (fun _ => ok_call l2_wakes rfl rfl (ok_ret rfl rfl)) (fun h6 => ?_)))
    have hw : w.size ≤ 1000 ∨ 20000 < w.size := by
      have : ¬ (w.size : Int) ≤ 20000 := by simpa using h6
      omega
    try simp only [List.cons_append, List.nil_append]
    refine ok_call (z_Parse w) rfl rfl (ok_call (f_Parse hw) rfl rfl (ok_call (z_Small a1 (by decide)) rfl rfl ?_))
    try simp only [List.cons_append, List.nil_append]
    cases hi : inS x with
    | true =>
      have hi2 : -9223372036854775808 ≤ x ∧ x ≤ 9223372036854775807 := by
        unfold inS at hi
        simpa using hi
      have hv : smV x = x := if_pos hi
      rw [hv]
      refine ok_true rfl (ok_call (f_Of hi2.1 hi2.2) rfl rfl (ok_call (f_In a1 (by decide)) rfl rfl (ok_call (f_Cmp (x := x) (y := x) (by omega) (by omega)) rfl rfl (ok_eq rfl true (by rw [sign_sub0 rfl]; rfl) ?_))))
      try simp only [List.cons_append, List.nil_append]
      refine ok_call (f_In a1 (by decide)) rfl rfl (ok_call (f_Of (v := 9223372036854775807) (by decide) (by decide)) rfl rfl (ok_call (f_Cmp (x := x) (y := 9223372036854775807) (by omega) (Nat.le_trans (zs_small (by decide)) (by decide))) rfl rfl ?_))
      try simp only [List.cons_append, List.nil_append]
      refine ok_leq rfl true (by rw [sign_le, decide_eq_true_iff]; omega) (ok_true rfl ?_)
      try simp only [List.cons_append, List.nil_append]
      refine ok_call (f_In a1 (by decide)) rfl rfl (ok_call (f_Of (v := -9223372036854775808) (by decide) (by decide)) rfl rfl (ok_call (f_Cmp (x := x) (y := -9223372036854775808) (by omega) (Nat.le_trans (zs_small (by decide)) (by decide))) rfl rfl ?_))
      try simp only [List.cons_append, List.nil_append]
      refine ok_geq rfl true (by rw [sign_ge, decide_eq_true_iff]; omega) ?_
      try simp only [List.cons_append, List.nil_append]
      refine ok_call (z_Text a1 (by decide)) rfl rfl (ok_call (f_In a1 (by decide)) rfl rfl (ok_call (f_Text (z := x) (by omega)) rfl rfl (ok_seq rfl rfl (ok_true rfl ?_))))
      try simp only [List.cons_append, List.nil_append]
      refine ok_call (l2_same (x := zV w) (Nat.le_trans (zs_zV w) (by decide))) rfl rfl (ok_true rfl (ok_eq rfl true (beq_self_eq_true _) (ok_true rfl ?_)))
      try simp only [List.cons_append, List.nil_append]
      refine ok_beq rfl true rfl (ok_true rfl (ok_true rfl ?_))
      try simp only [List.cons_append, List.nil_append]
      refine ok_call (z_Of h3 h4) rfl rfl (ok_call (f_Of h3 h4) rfl rfl (ok_call (l2_same (x := v) (Nat.le_trans (zs_small (by omega)) (by decide))) rfl rfl (ok_true rfl (ok_call l2_wakes rfl rfl (ok_ret rfl rfl)))))
    | false =>
      have hv : smV x = 0 := if_neg (by rw [hi]; decide)
      rw [hv]
      refine ok_false rfl (ok_call (f_In a1 (by decide)) rfl rfl (ok_call (f_Of (v := 9223372036854775807) (by decide) (by decide)) rfl rfl (ok_call (f_Cmp (x := x) (y := 9223372036854775807) (by omega) (Nat.le_trans (zs_small (by decide)) (by decide))) rfl rfl ?_)))
      try simp only [List.cons_append, List.nil_append]
      by_cases hb : x ≤ 9223372036854775807
      · have hb2 : ¬ -9223372036854775808 ≤ x := fun h => by
          unfold inS at hi
          rw [decide_eq_true h, decide_eq_true hb] at hi
          cases hi
        refine ok_leq rfl true (by rw [sign_le, decide_eq_true_iff]; omega) (ok_true rfl ?_)
        try simp only [List.cons_append, List.nil_append]
        refine ok_call (f_In a1 (by decide)) rfl rfl (ok_call (f_Of (v := -9223372036854775808) (by decide) (by decide)) rfl rfl (ok_call (f_Cmp (x := x) (y := -9223372036854775808) (by omega) (Nat.le_trans (zs_small (by decide)) (by decide))) rfl rfl ?_))
        try simp only [List.cons_append, List.nil_append]
        refine ok_geq rfl false (by rw [sign_ge, decide_eq_false_iff_not]; omega) ?_
        try simp only [List.cons_append, List.nil_append]
        refine ok_call (z_Text a1 (by decide)) rfl rfl (ok_call (f_In a1 (by decide)) rfl rfl (ok_call (f_Text (z := x) (by omega)) rfl rfl (ok_seq rfl rfl (ok_true rfl ?_))))
        try simp only [List.cons_append, List.nil_append]
        refine ok_call (l2_same (x := zV w) (Nat.le_trans (zs_zV w) (by decide))) rfl rfl (ok_true rfl (ok_eq rfl true (beq_self_eq_true _) (ok_true rfl ?_)))
        try simp only [List.cons_append, List.nil_append]
        refine ok_beq rfl true rfl (ok_true rfl (ok_not rfl (ok_true rfl (ok_eq rfl true rfl (ok_true rfl ?_)))))
        try simp only [List.cons_append, List.nil_append]
        refine ok_call (z_Of h3 h4) rfl rfl (ok_call (f_Of h3 h4) rfl rfl (ok_call (l2_same (x := v) (Nat.le_trans (zs_small (by omega)) (by decide))) rfl rfl (ok_true rfl (ok_call l2_wakes rfl rfl (ok_ret rfl rfl)))))
      · refine ok_leq rfl false (by rw [sign_le, decide_eq_false_iff_not]; omega) (ok_false rfl ?_)
        try simp only [List.cons_append, List.nil_append]
        refine ok_call (z_Text a1 (by decide)) rfl rfl (ok_call (f_In a1 (by decide)) rfl rfl (ok_call (f_Text (z := x) (by omega)) rfl rfl (ok_seq rfl rfl (ok_true rfl ?_))))
        try simp only [List.cons_append, List.nil_append]
        refine ok_call (l2_same (x := zV w) (Nat.le_trans (zs_zV w) (by decide))) rfl rfl (ok_true rfl (ok_eq rfl true (beq_self_eq_true _) (ok_true rfl ?_)))
        try simp only [List.cons_append, List.nil_append]
        refine ok_beq rfl true rfl (ok_true rfl (ok_not rfl (ok_true rfl (ok_eq rfl true rfl (ok_true rfl ?_)))))
        try simp only [List.cons_append, List.nil_append]
        refine ok_call (z_Of h3 h4) rfl rfl (ok_call (f_Of h3 h4) rfl rfl (ok_call (l2_same (x := v) (Nat.le_trans (zs_small (by omega)) (by decide))) rfl rfl (ok_true rfl (ok_call l2_wakes rfl rfl (ok_ret rfl rfl)))))
  · have hw : w.size ≤ 1000 ∨ 20000 < w.size := by
      have : ¬ (w.size : Int) > 800 := by simpa using h5
      omega
    try simp only [List.cons_append, List.nil_append]
    refine ok_call (z_Parse w) rfl rfl (ok_call (f_Parse hw) rfl rfl (ok_call (z_Small a1 (by decide)) rfl rfl ?_))
    try simp only [List.cons_append, List.nil_append]
    cases hi : inS x with
    | true =>
      have hi2 : -9223372036854775808 ≤ x ∧ x ≤ 9223372036854775807 := by
        unfold inS at hi
        simpa using hi
      have hv : smV x = x := if_pos hi
      rw [hv]
      refine ok_true rfl (ok_call (f_Of hi2.1 hi2.2) rfl rfl (ok_call (f_In a1 (by decide)) rfl rfl (ok_call (f_Cmp (x := x) (y := x) (by omega) (by omega)) rfl rfl (ok_eq rfl true (by rw [sign_sub0 rfl]; rfl) ?_))))
      try simp only [List.cons_append, List.nil_append]
      refine ok_call (f_In a1 (by decide)) rfl rfl (ok_call (f_Of (v := 9223372036854775807) (by decide) (by decide)) rfl rfl (ok_call (f_Cmp (x := x) (y := 9223372036854775807) (by omega) (Nat.le_trans (zs_small (by decide)) (by decide))) rfl rfl ?_))
      try simp only [List.cons_append, List.nil_append]
      refine ok_leq rfl true (by rw [sign_le, decide_eq_true_iff]; omega) (ok_true rfl ?_)
      try simp only [List.cons_append, List.nil_append]
      refine ok_call (f_In a1 (by decide)) rfl rfl (ok_call (f_Of (v := -9223372036854775808) (by decide) (by decide)) rfl rfl (ok_call (f_Cmp (x := x) (y := -9223372036854775808) (by omega) (Nat.le_trans (zs_small (by decide)) (by decide))) rfl rfl ?_))
      try simp only [List.cons_append, List.nil_append]
      refine ok_geq rfl true (by rw [sign_ge, decide_eq_true_iff]; omega) ?_
      try simp only [List.cons_append, List.nil_append]
      refine ok_call (z_Text a1 (by decide)) rfl rfl (ok_call (f_In a1 (by decide)) rfl rfl (ok_call (f_Text (z := x) (by omega)) rfl rfl (ok_seq rfl rfl (ok_true rfl ?_))))
      try simp only [List.cons_append, List.nil_append]
      refine ok_call (l2_same (x := zV w) (Nat.le_trans (zs_zV w) (by decide))) rfl rfl (ok_true rfl (ok_eq rfl true (beq_self_eq_true _) (ok_true rfl ?_)))
      try simp only [List.cons_append, List.nil_append]
      refine ok_beq rfl true rfl (ok_true rfl (ok_true rfl ?_))
      try simp only [List.cons_append, List.nil_append]
      refine ok_call (z_Of h3 h4) rfl rfl (ok_call (f_Of h3 h4) rfl rfl (ok_call (l2_same (x := v) (Nat.le_trans (zs_small (by omega)) (by decide))) rfl rfl (ok_true rfl (ok_call l2_wakes rfl rfl (ok_ret rfl rfl)))))
    | false =>
      have hv : smV x = 0 := if_neg (by rw [hi]; decide)
      rw [hv]
      refine ok_false rfl (ok_call (f_In a1 (by decide)) rfl rfl (ok_call (f_Of (v := 9223372036854775807) (by decide) (by decide)) rfl rfl (ok_call (f_Cmp (x := x) (y := 9223372036854775807) (by omega) (Nat.le_trans (zs_small (by decide)) (by decide))) rfl rfl ?_)))
      try simp only [List.cons_append, List.nil_append]
      by_cases hb : x ≤ 9223372036854775807
      · have hb2 : ¬ -9223372036854775808 ≤ x := fun h => by
          unfold inS at hi
          rw [decide_eq_true h, decide_eq_true hb] at hi
          cases hi
        refine ok_leq rfl true (by rw [sign_le, decide_eq_true_iff]; omega) (ok_true rfl ?_)
        try simp only [List.cons_append, List.nil_append]
        refine ok_call (f_In a1 (by decide)) rfl rfl (ok_call (f_Of (v := -9223372036854775808) (by decide) (by decide)) rfl rfl (ok_call (f_Cmp (x := x) (y := -9223372036854775808) (by omega) (Nat.le_trans (zs_small (by decide)) (by decide))) rfl rfl ?_))
        try simp only [List.cons_append, List.nil_append]
        refine ok_geq rfl false (by rw [sign_ge, decide_eq_false_iff_not]; omega) ?_
        try simp only [List.cons_append, List.nil_append]
        refine ok_call (z_Text a1 (by decide)) rfl rfl (ok_call (f_In a1 (by decide)) rfl rfl (ok_call (f_Text (z := x) (by omega)) rfl rfl (ok_seq rfl rfl (ok_true rfl ?_))))
        try simp only [List.cons_append, List.nil_append]
        refine ok_call (l2_same (x := zV w) (Nat.le_trans (zs_zV w) (by decide))) rfl rfl (ok_true rfl (ok_eq rfl true (beq_self_eq_true _) (ok_true rfl ?_)))
        try simp only [List.cons_append, List.nil_append]
        refine ok_beq rfl true rfl (ok_true rfl (ok_not rfl (ok_true rfl (ok_eq rfl true rfl (ok_true rfl ?_)))))
        try simp only [List.cons_append, List.nil_append]
        refine ok_call (z_Of h3 h4) rfl rfl (ok_call (f_Of h3 h4) rfl rfl (ok_call (l2_same (x := v) (Nat.le_trans (zs_small (by omega)) (by decide))) rfl rfl (ok_true rfl (ok_call l2_wakes rfl rfl (ok_ret rfl rfl)))))
      · refine ok_leq rfl false (by rw [sign_le, decide_eq_false_iff_not]; omega) (ok_false rfl ?_)
        try simp only [List.cons_append, List.nil_append]
        refine ok_call (z_Text a1 (by decide)) rfl rfl (ok_call (f_In a1 (by decide)) rfl rfl (ok_call (f_Text (z := x) (by omega)) rfl rfl (ok_seq rfl rfl (ok_true rfl ?_))))
        try simp only [List.cons_append, List.nil_append]
        refine ok_call (l2_same (x := zV w) (Nat.le_trans (zs_zV w) (by decide))) rfl rfl (ok_true rfl (ok_eq rfl true (beq_self_eq_true _) (ok_true rfl ?_)))
        try simp only [List.cons_append, List.nil_append]
        refine ok_beq rfl true rfl (ok_true rfl (ok_not rfl (ok_true rfl (ok_eq rfl true rfl (ok_true rfl ?_)))))
        try simp only [List.cons_append, List.nil_append]
        refine ok_call (z_Of h3 h4) rfl rfl (ok_call (f_Of h3 h4) rfl rfl (ok_call (l2_same (x := v) (Nat.le_trans (zs_small (by omega)) (by decide))) rfl rfl (ok_true rfl (ok_call l2_wakes rfl rfl (ok_ret rfl rfl)))))
end Go.Proofs.YtlpfbcilnfgaaaaGreatDoor


/- The laws of zed, 5: ZedSmalls. -/
namespace Gv
open Go Go.RowKit Gs
set_option linter.unusedVariables false
section
variable {P : Program} {R : PV → Prop} {ρ : List PV} {C : List (List PV → Prop)} {k : VC} {args : List SV} {kk : IntKind} {a b : Int}
theorem ok_cv {k2 : IntKind} (hp : pvs ρ args = [.raw (.int kk a)]) (c : Int) (h : k2.wrap a = c) (hk : k.ok P R (ρ ++ [.raw (.int k2 c)]) C) : (VC.prim (.cv k2) args k).ok P R ρ C := by
  refine ⟨_, ?_, hk⟩
  rw [hp, ← h]
  rfl
theorem ok_quo (hp : pvs ρ args = [.raw (.int kk a), .raw (.int kk b)]) (hb : b ≠ 0) (c : Int) (h : kk.wrap (a.tdiv b) = c) (hk : k.ok P R (ρ ++ [.raw (.int kk c)]) C) : (VC.prim (.op2 .quo false) args k).ok P R ρ C := by
  refine ⟨_, ?_, hk⟩
  rw [hp, ← h]
  show ((if kk = kk then (if b = 0 then none else some (Value.int kk (kk.wrap (a.tdiv b)))) else none).map PV.raw) = _
  rw [if_pos rfl, if_neg hb]
  rfl
theorem ok_rem (hp : pvs ρ args = [.raw (.int kk a), .raw (.int kk b)]) (hb : b ≠ 0) (c : Int) (h : a.tmod b = c) (hk : k.ok P R (ρ ++ [.raw (.int kk c)]) C) : (VC.prim (.op2 .rem false) args k).ok P R ρ C := by
  refine ⟨_, ?_, hk⟩
  rw [hp, ← h]
  show ((if kk = kk then (if b = 0 then none else some (Value.int kk (a.tmod b))) else none).map PV.raw) = _
  rw [if_pos rfl, if_neg hb]
  rfl
theorem ok_bne {a b : Bool} (hp : pvs ρ args = [.raw (.bool a), .raw (.bool b)]) (t : Bool) (h : (a != b) = t) (hk : k.ok P R (ρ ++ [.raw (.bool t)]) C) : (VC.prim (.op2 .neq true) args k).ok P R ρ C := by
  refine ⟨_, ?_, hk⟩
  rw [hp, ← h]
  rfl
end
theorem tdiv_sg (x y : Int) : x.tdiv y = sg (decide (x < 0) != decide (y < 0)) (x.natAbs / y.natAbs) := by
  by_cases hx : x < 0 <;> by_cases hy : y < 0
  · have ex : x = -((x.natAbs : Nat) : Int) := by omega
    have ey : y = -((y.natAbs : Nat) : Int) := by omega
    rw [decide_eq_true hx, decide_eq_true hy]
    show _ = ((x.natAbs / y.natAbs : Nat) : Int)
    conv => lhs; rw [ex, ey, Int.neg_tdiv, Int.tdiv_neg, Int.neg_neg, ← Int.ofNat_tdiv]
  · have ex : x = -((x.natAbs : Nat) : Int) := by omega
    have ey : y = ((y.natAbs : Nat) : Int) := by omega
    rw [decide_eq_true hx, decide_eq_false hy]
    show _ = -((x.natAbs / y.natAbs : Nat) : Int)
    conv => lhs; rw [ex, ey, Int.neg_tdiv, ← Int.ofNat_tdiv]
  · have ex : x = ((x.natAbs : Nat) : Int) := by omega
    have ey : y = -((y.natAbs : Nat) : Int) := by omega
    rw [decide_eq_false hx, decide_eq_true hy]
    show _ = -((x.natAbs / y.natAbs : Nat) : Int)
    conv => lhs; rw [ex, ey, Int.tdiv_neg, ← Int.ofNat_tdiv]
  · have ex : x = ((x.natAbs : Nat) : Int) := by omega
    have ey : y = ((y.natAbs : Nat) : Int) := by omega
    rw [decide_eq_false hx, decide_eq_false hy]
    show _ = ((x.natAbs / y.natAbs : Nat) : Int)
    conv => lhs; rw [ex, ey, ← Int.ofNat_tdiv]
theorem tmod_zero (x y : Int) : x.tmod y = 0 ↔ x.natAbs % y.natAbs = 0 := by
  rw [← Int.natAbs_eq_zero, Int.natAbs_tmod]
theorem zq_tdiv (x y : Int) : zq x y = x.tdiv y - (if x.tmod y ≠ 0 ∧ (decide (x < 0) != decide (y < 0)) = true then 1 else 0) := by
  unfold zq
  rw [tdiv_sg]
  have := tmod_zero x y
  congr 1
  by_cases h1 : x.tmod y = 0
  · rw [if_neg (fun h => by have := this.1 h1; omega), if_neg (fun h => h.1 h1)]
  · by_cases h2 : (decide (x < 0) != decide (y < 0)) = true
    · rw [if_pos ⟨h2, Nat.pos_of_ne_zero (fun h => h1 (this.2 h))⟩, if_pos ⟨h1, h2⟩]
    · rw [if_neg (fun h => h2 h.1), if_neg (fun h => h2 h.2)]
theorem inS_of {z : Int} (h : -9223372036854775808 ≤ z) (h' : z ≤ 9223372036854775807) : inS z = true ∧ smV z = z := by
  have e : inS z = true := by unfold inS; rw [decide_eq_true h, decide_eq_true h']; rfl
  exact ⟨e, if_pos e⟩
end Gv
namespace Go.Proofs.YtlpfbcilnfgaaaaGreatDoor
open Go.RowKit Gs Gv
set_option linter.unusedVariables false
set_option maxHeartbeats 8000000 in
theorem law_ZedSmalls {x y : Int} (hxw : (Lit.int .i32 x).wf = true) (hyw : (Lit.int .i32 y).wf = true) :
    Gv.Fn Tryz.prog 6 [.raw (.int .i32 x), .raw (.int .i32 y)] (.raw (.bool true)) := by
  have hx : -2147483648 ≤ x ∧ x ≤ 2147483647 := by
    have h1 : IntKind.i32.min = -2147483648 := rfl
    have h2 : IntKind.i32.max = 2147483647 := rfl
    simp only [Lit.wf, Bool.and_eq_true, decide_eq_true_eq] at hxw
    omega
  have hy : -2147483648 ≤ y ∧ y ≤ 2147483647 := by
    have h1 : IntKind.i32.min = -2147483648 := rfl
    have h2 : IntKind.i32.max = 2147483647 := rfl
    simp only [Lit.wf, Bool.and_eq_true, decide_eq_true_eq] at hyw
    omega
  clear hxw hyw
  have ax : IsZ (zc x) x 1 := IsZ.s (by omega)
  have ay : IsZ (zc y) y 1 := IsZ.s (by omega)
  have zx := ax.zs
  have zy := ay.zs
  have hm : (x * y).natAbs ≤ 4611686018427387904 := by
    rw [Int.natAbs_mul]
    exact Nat.mul_le_mul (show x.natAbs ≤ 2147483648 by omega) (show y.natAbs ≤ 2147483648 by omega)
  obtain ⟨j1, j2⟩ := inS_of (z := x + y) (by omega) (by omega)
  obtain ⟨j3, j4⟩ := inS_of (z := x - y) (by omega) (by omega)
  obtain ⟨j5, j6⟩ := inS_of (z := x * y) (by omega) (by omega)
  refine Fn.intro mixed vc_law02_ZedSmalls rfl (ok_cv rfl x (IntWalk.i64_in _ (by omega)) (ok_cv rfl y (IntWalk.i64_in _ (by omega)) ?_))
  try simp only [List.cons_append, List.nil_append]
  refine ok_call (z_Of (v := x) (by omega) (by omega)) rfl rfl (ok_call (z_Of (v := y) (by omega) (by omega)) rfl rfl ?_)
  try simp only [List.cons_append, List.nil_append]
  refine ok_call (z_Add ax ay (by decide) (by decide)) rfl rfl (ok_callR (z_Small (IsZ.zc (zs_add zx zy)) (by decide)) (r' := .tup [.raw (.int .i64 (x + y)), .raw (.bool true)]) (by rw [j1, j2]) rfl rfl ?_)
  try simp only [List.cons_append, List.nil_append]
  refine ok_call (z_Sub ax ay (by decide) (by decide)) rfl rfl (ok_callR (z_Small (IsZ.zc (zs_sub zx zy)) (by decide)) (r' := .tup [.raw (.int .i64 (x - y)), .raw (.bool true)]) (by rw [j3, j4]) rfl rfl ?_)
  try simp only [List.cons_append, List.nil_append]
  refine ok_call (z_Mul ax ay (by decide) (by decide)) rfl rfl (ok_callR (z_Small (IsZ.zc (zs_mul zx zy)) (by decide)) (r' := .tup [.raw (.int .i64 (x * y)), .raw (.bool true)]) (by rw [j5, j6]) rfl rfl ?_)
  try simp only [List.cons_append, List.nil_append]
  refine ok_not rfl (ok_false rfl (ok_not rfl (ok_false rfl (ok_not rfl (ok_false rfl ?_)))))
  try simp only [List.cons_append, List.nil_append]
  refine ok_add rfl (x + y) (IntWalk.i64_in _ (by omega)) (ok_neq rfl false (by simp) (ok_false rfl ?_))
  try simp only [List.cons_append, List.nil_append]
  refine ok_sub rfl (x - y) (IntWalk.i64_in _ (by omega)) (ok_neq rfl false (by simp) (ok_false rfl ?_))
  try simp only [List.cons_append, List.nil_append]
  refine ok_mul rfl (x * y) (IntWalk.i64_in _ (by omega)) (ok_neq rfl false (by simp) (ok_false rfl ?_))
  try simp only [List.cons_append, List.nil_append]
  rcases Int.lt_trichotomy x y with h | h | h
  · refine ok_lss rfl true (decide_eq_true h) (ok_true rfl (ok_gtr rfl false (decide_eq_false (by omega)) (ok_false rfl ?_)))
    try simp only [List.cons_append, List.nil_append]
    refine ok_call (z_Cmp ax ay (by decide) (by decide)) rfl rfl (ok_neq rfl false (by rw [Int.sign_eq_neg_one_of_neg (show x - y < 0 by omega)]; rfl) (ok_false rfl ?_))
    try simp only [List.cons_append, List.nil_append]
    by_cases hy0 : y = 0
    · refine ok_eq rfl true (by rw [beq_iff_eq]; exact hy0) (ok_true rfl (ok_call l2_wakes rfl rfl (ok_ret rfl rfl)))
    have z1 := zs_zq (y := y) zx
    have z2 := zs_zr (x := x) hy0 zy
    have hq := zq_tdiv x y
    have hzr : zr x y = x - zq x y * y := rfl
    have hrb := zr_abs x hy0
    have hqb : (x.tdiv y).natAbs ≤ 2147483648 := by
      rw [Int.natAbs_tdiv]
      exact Nat.le_trans (Nat.div_le_self _ _) (by omega)
    obtain ⟨i1, i2⟩ := inS_of (z := zq x y) (by split at hq <;> omega) (by split at hq <;> omega)
    obtain ⟨i3, i4⟩ := inS_of (z := zr x y) (by omega) (by omega)
    refine ok_eq rfl false (by rw [beq_eq_false_iff_ne]; exact hy0) (ok_false rfl (ok_call (z_DivMod ax ay (by decide) (by decide) hy0) rfl rfl ?_))
    try simp only [List.cons_append, List.nil_append]
    refine ok_callR (z_Small (IsZ.zc z1) (by decide)) (r' := .tup [.raw (.int .i64 (zq x y)), .raw (.bool true)]) (by rw [i1, i2]) rfl rfl ?_
    try simp only [List.cons_append, List.nil_append]
    refine ok_callR (z_Small (IsZ.zc z2) (by decide)) (r' := .tup [.raw (.int .i64 (zr x y)), .raw (.bool true)]) (by rw [i3, i4]) rfl rfl ?_
    try simp only [List.cons_append, List.nil_append]
    refine ok_quo rfl hy0 (x.tdiv y) (IntWalk.i64_in _ (by omega)) (ok_rem rfl hy0 _ rfl ?_)
    try simp only [List.cons_append, List.nil_append]
    by_cases hm : x.tmod y = 0
    · rw [if_neg (fun h => h.1 hm), Int.sub_zero] at hq
      refine ok_neq rfl false (by rw [hm]; rfl) (ok_false rfl ?_)
      try simp only [List.cons_append, List.nil_append]
      rw [← hq]
      refine ok_eq rfl true rfl (ok_true rfl (ok_true rfl (ok_true rfl (ok_eq rfl true (beq_self_eq_true _) (ok_true rfl ?_)))))
      try simp only [List.cons_append, List.nil_append]
      refine ok_mul rfl (zq x y * y) (IntWalk.i64_in _ (by omega)) (ok_sub rfl (zr x y) (IntWalk.i64_in _ (by omega)) (ok_eq rfl true (beq_self_eq_true _) (ok_true rfl ?_)))
      try simp only [List.cons_append, List.nil_append]
      exact ok_call l2_wakes rfl rfl (ok_ret rfl rfl)
    · refine ok_neq rfl true (by rw [bne_iff_ne]; exact hm) (ok_true rfl ?_)
      try simp only [List.cons_append, List.nil_append]
      refine ok_lss rfl _ rfl (ok_lss rfl _ rfl ?_)
      try simp only [List.cons_append, List.nil_append]
      cases hd : (decide (x < 0) != decide (y < 0)) with
      | true =>
        rw [if_pos ⟨hm, hd⟩] at hq
        refine ok_bne rfl true hd (ok_true rfl (ok_sub rfl (zq x y) (by rw [hq]; exact IntWalk.i64_in _ (by omega)) ?_))
        try simp only [List.cons_append, List.nil_append]
        refine ok_eq rfl true rfl (ok_true rfl (ok_true rfl (ok_true rfl (ok_eq rfl true (beq_self_eq_true _) (ok_true rfl ?_)))))
        try simp only [List.cons_append, List.nil_append]
        refine ok_mul rfl (zq x y * y) (IntWalk.i64_in _ (by omega)) (ok_sub rfl (zr x y) (IntWalk.i64_in _ (by omega)) (ok_eq rfl true (beq_self_eq_true _) (ok_true rfl ?_)))
        try simp only [List.cons_append, List.nil_append]
        exact ok_call l2_wakes rfl rfl (ok_ret rfl rfl)
      | false =>
        rw [if_neg (fun h => by rw [hd] at h; cases h.2), Int.sub_zero] at hq
        refine ok_bne rfl false hd (ok_false rfl ?_)
        try simp only [List.cons_append, List.nil_append]
        rw [← hq]
        refine ok_eq rfl true rfl (ok_true rfl (ok_true rfl (ok_true rfl (ok_eq rfl true (beq_self_eq_true _) (ok_true rfl ?_)))))
        try simp only [List.cons_append, List.nil_append]
        refine ok_mul rfl (zq x y * y) (IntWalk.i64_in _ (by omega)) (ok_sub rfl (zr x y) (IntWalk.i64_in _ (by omega)) (ok_eq rfl true (beq_self_eq_true _) (ok_true rfl ?_)))
        try simp only [List.cons_append, List.nil_append]
        exact ok_call l2_wakes rfl rfl (ok_ret rfl rfl)
  · refine ok_lss rfl false (decide_eq_false (by omega)) (ok_false rfl (ok_gtr rfl false (decide_eq_false (by omega)) (ok_false rfl ?_)))
    try simp only [List.cons_append, List.nil_append]
    refine ok_call (z_Cmp ax ay (by decide) (by decide)) rfl rfl (ok_neq rfl false (by rw [sign_sub0 h]; rfl) (ok_false rfl ?_))
    try simp only [List.cons_append, List.nil_append]
    by_cases hy0 : y = 0
    · refine ok_eq rfl true (by rw [beq_iff_eq]; exact hy0) (ok_true rfl (ok_call l2_wakes rfl rfl (ok_ret rfl rfl)))
    have z1 := zs_zq (y := y) zx
    have z2 := zs_zr (x := x) hy0 zy
    have hq := zq_tdiv x y
    have hzr : zr x y = x - zq x y * y := rfl
    have hrb := zr_abs x hy0
    have hqb : (x.tdiv y).natAbs ≤ 2147483648 := by
      rw [Int.natAbs_tdiv]
      exact Nat.le_trans (Nat.div_le_self _ _) (by omega)
    obtain ⟨i1, i2⟩ := inS_of (z := zq x y) (by split at hq <;> omega) (by split at hq <;> omega)
    obtain ⟨i3, i4⟩ := inS_of (z := zr x y) (by omega) (by omega)
    refine ok_eq rfl false (by rw [beq_eq_false_iff_ne]; exact hy0) (ok_false rfl (ok_call (z_DivMod ax ay (by decide) (by decide) hy0) rfl rfl ?_))
    try simp only [List.cons_append, List.nil_append]
    refine ok_callR (z_Small (IsZ.zc z1) (by decide)) (r' := .tup [.raw (.int .i64 (zq x y)), .raw (.bool true)]) (by rw [i1, i2]) rfl rfl ?_
    try simp only [List.cons_append, List.nil_append]
    refine ok_callR (z_Small (IsZ.zc z2) (by decide)) (r' := .tup [.raw (.int .i64 (zr x y)), .raw (.bool true)]) (by rw [i3, i4]) rfl rfl ?_
    try simp only [List.cons_append, List.nil_append]
    refine ok_quo rfl hy0 (x.tdiv y) (IntWalk.i64_in _ (by omega)) (ok_rem rfl hy0 _ rfl ?_)
    try simp only [List.cons_append, List.nil_append]
    by_cases hm : x.tmod y = 0
    · rw [if_neg (fun h => h.1 hm), Int.sub_zero] at hq
      refine ok_neq rfl false (by rw [hm]; rfl) (ok_false rfl ?_)
      try simp only [List.cons_append, List.nil_append]
      rw [← hq]
      refine ok_eq rfl true rfl (ok_true rfl (ok_true rfl (ok_true rfl (ok_eq rfl true (beq_self_eq_true _) (ok_true rfl ?_)))))
      try simp only [List.cons_append, List.nil_append]
      refine ok_mul rfl (zq x y * y) (IntWalk.i64_in _ (by omega)) (ok_sub rfl (zr x y) (IntWalk.i64_in _ (by omega)) (ok_eq rfl true (beq_self_eq_true _) (ok_true rfl ?_)))
      try simp only [List.cons_append, List.nil_append]
      exact ok_call l2_wakes rfl rfl (ok_ret rfl rfl)
    · refine ok_neq rfl true (by rw [bne_iff_ne]; exact hm) (ok_true rfl ?_)
      try simp only [List.cons_append, List.nil_append]
      refine ok_lss rfl _ rfl (ok_lss rfl _ rfl ?_)
      try simp only [List.cons_append, List.nil_append]
      cases hd : (decide (x < 0) != decide (y < 0)) with
      | true =>
        rw [if_pos ⟨hm, hd⟩] at hq
        refine ok_bne rfl true hd (ok_true rfl (ok_sub rfl (zq x y) (by rw [hq]; exact IntWalk.i64_in _ (by omega)) ?_))
        try simp only [List.cons_append, List.nil_append]
        refine ok_eq rfl true rfl (ok_true rfl (ok_true rfl (ok_true rfl (ok_eq rfl true (beq_self_eq_true _) (ok_true rfl ?_)))))
        try simp only [List.cons_append, List.nil_append]
        refine ok_mul rfl (zq x y * y) (IntWalk.i64_in _ (by omega)) (ok_sub rfl (zr x y) (IntWalk.i64_in _ (by omega)) (ok_eq rfl true (beq_self_eq_true _) (ok_true rfl ?_)))
        try simp only [List.cons_append, List.nil_append]
        exact ok_call l2_wakes rfl rfl (ok_ret rfl rfl)
      | false =>
        rw [if_neg (fun h => by rw [hd] at h; cases h.2), Int.sub_zero] at hq
        refine ok_bne rfl false hd (ok_false rfl ?_)
        try simp only [List.cons_append, List.nil_append]
        rw [← hq]
        refine ok_eq rfl true rfl (ok_true rfl (ok_true rfl (ok_true rfl (ok_eq rfl true (beq_self_eq_true _) (ok_true rfl ?_)))))
        try simp only [List.cons_append, List.nil_append]
        refine ok_mul rfl (zq x y * y) (IntWalk.i64_in _ (by omega)) (ok_sub rfl (zr x y) (IntWalk.i64_in _ (by omega)) (ok_eq rfl true (beq_self_eq_true _) (ok_true rfl ?_)))
        try simp only [List.cons_append, List.nil_append]
        exact ok_call l2_wakes rfl rfl (ok_ret rfl rfl)
  · refine ok_lss rfl false (decide_eq_false (by omega)) (ok_false rfl (ok_gtr rfl true (decide_eq_true h) (ok_true rfl ?_)))
    try simp only [List.cons_append, List.nil_append]
    refine ok_call (z_Cmp ax ay (by decide) (by decide)) rfl rfl (ok_neq rfl false (by rw [Int.sign_eq_one_of_pos (show 0 < x - y by omega)]; rfl) (ok_false rfl ?_))
    try simp only [List.cons_append, List.nil_append]
    by_cases hy0 : y = 0
    · refine ok_eq rfl true (by rw [beq_iff_eq]; exact hy0) (ok_true rfl (ok_call l2_wakes rfl rfl (ok_ret rfl rfl)))
    have z1 := zs_zq (y := y) zx
    have z2 := zs_zr (x := x) hy0 zy
    have hq := zq_tdiv x y
    have hzr : zr x y = x - zq x y * y := rfl
    have hrb := zr_abs x hy0
    have hqb : (x.tdiv y).natAbs ≤ 2147483648 := by
      rw [Int.natAbs_tdiv]
      exact Nat.le_trans (Nat.div_le_self _ _) (by omega)
    obtain ⟨i1, i2⟩ := inS_of (z := zq x y) (by split at hq <;> omega) (by split at hq <;> omega)
    obtain ⟨i3, i4⟩ := inS_of (z := zr x y) (by omega) (by omega)
    refine ok_eq rfl false (by rw [beq_eq_false_iff_ne]; exact hy0) (ok_false rfl (ok_call (z_DivMod ax ay (by decide) (by decide) hy0) rfl rfl ?_))
    try simp only [List.cons_append, List.nil_append]
    refine ok_callR (z_Small (IsZ.zc z1) (by decide)) (r' := .tup [.raw (.int .i64 (zq x y)), .raw (.bool true)]) (by rw [i1, i2]) rfl rfl ?_
    try simp only [List.cons_append, List.nil_append]
    refine ok_callR (z_Small (IsZ.zc z2) (by decide)) (r' := .tup [.raw (.int .i64 (zr x y)), .raw (.bool true)]) (by rw [i3, i4]) rfl rfl ?_
    try simp only [List.cons_append, List.nil_append]
    refine ok_quo rfl hy0 (x.tdiv y) (IntWalk.i64_in _ (by omega)) (ok_rem rfl hy0 _ rfl ?_)
    try simp only [List.cons_append, List.nil_append]
    by_cases hm : x.tmod y = 0
    · rw [if_neg (fun h => h.1 hm), Int.sub_zero] at hq
      refine ok_neq rfl false (by rw [hm]; rfl) (ok_false rfl ?_)
      try simp only [List.cons_append, List.nil_append]
      rw [← hq]
      refine ok_eq rfl true rfl (ok_true rfl (ok_true rfl (ok_true rfl (ok_eq rfl true (beq_self_eq_true _) (ok_true rfl ?_)))))
      try simp only [List.cons_append, List.nil_append]
      refine ok_mul rfl (zq x y * y) (IntWalk.i64_in _ (by omega)) (ok_sub rfl (zr x y) (IntWalk.i64_in _ (by omega)) (ok_eq rfl true (beq_self_eq_true _) (ok_true rfl ?_)))
      try simp only [List.cons_append, List.nil_append]
      exact ok_call l2_wakes rfl rfl (ok_ret rfl rfl)
    · refine ok_neq rfl true (by rw [bne_iff_ne]; exact hm) (ok_true rfl ?_)
      try simp only [List.cons_append, List.nil_append]
      refine ok_lss rfl _ rfl (ok_lss rfl _ rfl ?_)
      try simp only [List.cons_append, List.nil_append]
      cases hd : (decide (x < 0) != decide (y < 0)) with
      | true =>
        rw [if_pos ⟨hm, hd⟩] at hq
        refine ok_bne rfl true hd (ok_true rfl (ok_sub rfl (zq x y) (by rw [hq]; exact IntWalk.i64_in _ (by omega)) ?_))
        try simp only [List.cons_append, List.nil_append]
        refine ok_eq rfl true rfl (ok_true rfl (ok_true rfl (ok_true rfl (ok_eq rfl true (beq_self_eq_true _) (ok_true rfl ?_)))))
        try simp only [List.cons_append, List.nil_append]
        refine ok_mul rfl (zq x y * y) (IntWalk.i64_in _ (by omega)) (ok_sub rfl (zr x y) (IntWalk.i64_in _ (by omega)) (ok_eq rfl true (beq_self_eq_true _) (ok_true rfl ?_)))
        try simp only [List.cons_append, List.nil_append]
        exact ok_call l2_wakes rfl rfl (ok_ret rfl rfl)
      | false =>
        rw [if_neg (fun h => by rw [hd] at h; cases h.2), Int.sub_zero] at hq
        refine ok_bne rfl false hd (ok_false rfl ?_)
        try simp only [List.cons_append, List.nil_append]
        rw [← hq]
        refine ok_eq rfl true rfl (ok_true rfl (ok_true rfl (ok_true rfl (ok_eq rfl true (beq_self_eq_true _) (ok_true rfl ?_)))))
        try simp only [List.cons_append, List.nil_append]
        refine ok_mul rfl (zq x y * y) (IntWalk.i64_in _ (by omega)) (ok_sub rfl (zr x y) (IntWalk.i64_in _ (by omega)) (ok_eq rfl true (beq_self_eq_true _) (ok_true rfl ?_)))
        try simp only [List.cons_append, List.nil_append]
        exact ok_call l2_wakes rfl rfl (ok_ret rfl rfl)
end Go.Proofs.YtlpfbcilnfgaaaaGreatDoor


