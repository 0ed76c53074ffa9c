import Derived.Test.YtlpfbcilnfgaaaaGreatDoorUA
/- Whole numbers with a sign: what a value of api.Int (or of the reference's Int) tells; plain laws. -/
namespace Gs
open Go Go.RowKit Go.Proofs.YtlpfbcilnfgaaaaGreatDoor

/-- a sign, and a number -/
def sg (s : Bool) (x : Nat) : Int := if s then -(x : Int) else (x : Int)
theorem sg_true (x : Nat) : sg true x = -(x : Int) := rfl
theorem sg_false (x : Nat) : sg false x = (x : Int) := rfl
theorem sg_abs (s : Bool) (x : Nat) : (sg s x).natAbs = x := by cases s <;> simp [sg]
theorem sg_zero (s : Bool) : sg s 0 = 0 := by cases s <;> rfl
theorem sg_lt (s : Bool) (x : Nat) : decide (sg s x < 0) = (s && decide (0 < x)) := by
  cases s
  · rw [sg_false, Bool.false_and, decide_eq_false_iff_not]; omega
  · rw [sg_true, Bool.true_and, Bool.eq_iff_iff, decide_eq_true_iff, decide_eq_true_iff]; omega
theorem sg_of (z : Int) : sg (decide (z < 0)) z.natAbs = z := by
  by_cases h : z < 0
  · rw [decide_eq_true h, sg_true]; omega
  · rw [decide_eq_false h, sg_false]; omega
theorem sg_not (s : Bool) (x : Nat) : sg (!s) x = -sg s x := by cases s <;> simp [sg]
theorem sg_mul (s t : Bool) (x y : Nat) : sg (s != t) (x * y) = sg s x * sg t y := by
  cases s <;> cases t <;> simp [sg, Int.natCast_mul, Int.neg_mul, Int.mul_neg]
theorem sg_add (s : Bool) (x y : Nat) : sg s (x + y) = sg s x + sg s y := by
  cases s <;> simp [sg, Int.natCast_add] <;> omega
theorem sg_sub (s t : Bool) (x y : Nat) (h : s ≠ t) (hle : y ≤ x) : sg s (x - y) = sg s x + sg t y := by
  cases s <;> cases t <;> simp [sg] at h ⊢ <;> omega
theorem sg_sub' (s t : Bool) (x y : Nat) (h : s ≠ t) (hle : x ≤ y) : sg t (y - x) = sg s x + sg t y := by
  cases s <;> cases t <;> simp [sg] at h ⊢ <;> omega
theorem sg_nat (x : Nat) : sg false x = (x : Int) := rfl

theorem CanN.tight {w v x K K'} (h : CanN w v x K) (hx : x < 18446744073709551616 ^ K') : CanN w v x K' := by
  obtain ⟨A, n, c, rfl, hr, hn⟩ := h
  exact CanN.of hr hx
theorem Num.tight {w v x K K'} (h : Num w v x K) (hk : K ≤ K') : Num w v x K' := by
  obtain ⟨A, n, c, l, rfl, hr, hv, hn⟩ := h
  exact ⟨A, n, c, l, rfl, hr, hv, Nat.le_trans hn hk⟩
theorem CanN.lt {w v x K} (h : CanN w v x K) : x < 18446744073709551616 ^ K := h.num.lt
theorem CanN.nil (w : World) (K : Nat) : CanN w (.slice none 0 0) 0 K := ⟨none, 0, 0, rfl, ⟨RdN.nil _ _ _ 0 (by omega) _, Lt.nil _⟩, Nat.zero_le _⟩

/-- v is a sign and limbs that make the number z; at most K limbs -/
def ZNum (w : World) (v : Value) (z : Int) (K : Nat) : Prop := ∃ s m x, v = .agg #[.bool s, m] ∧ Num w m x K ∧ sg s x = z
/-- the same, good -/
def ZCan (w : World) (v : Value) (z : Int) (K : Nat) : Prop := ∃ m, v = .agg #[.bool (decide (z < 0)), m] ∧ CanN w m z.natAbs K
/-- the reference's -/
def ZRef (w : World) (v : Value) (z : Int) (K : Nat) : Prop := ∃ m, v = .agg #[.bool (decide (z < 0)), m] ∧ CanR w m z.natAbs K
/-- just these limbs -/
def ZRaw (w : World) (v : Value) (s : Bool) (l : List Nat) : Prop := ∃ m, v = .agg #[.bool s, m] ∧ RawN w m l
theorem ZNum.below {w w' v z K} (h : ZNum w v z K) (hb : Below w.heap.size w w') : ZNum w' v z K := by
  obtain ⟨s, m, x, e, hm, hz⟩ := h
  exact ⟨s, m, x, e, hm.below hb, hz⟩
theorem ZCan.below {w w' v z K} (h : ZCan w v z K) (hb : Below w.heap.size w w') : ZCan w' v z K := by
  obtain ⟨m, e, hm⟩ := h
  exact ⟨m, e, hm.below hb⟩
theorem ZRef.below {w w' v z K} (h : ZRef w v z K) (hb : Below w.heap.size w w') : ZRef w' v z K := by
  obtain ⟨m, e, hm⟩ := h
  exact ⟨m, e, hm.below hb⟩
theorem ZRaw.below {w w' v s l} (h : ZRaw w v s l) (hb : Below w.heap.size w w') : ZRaw w' v s l := by
  obtain ⟨m, e, hm⟩ := h
  exact ⟨m, e, hm.below hb⟩
theorem ZCan.num {w v z K} (h : ZCan w v z K) : ZNum w v z K := by
  obtain ⟨m, e, hm⟩ := h
  exact ⟨_, m, _, e, hm.num, sg_of z⟩
theorem ZRaw.num {w v s l x K} (h : ZRaw w v s l) (hx : val 18446744073709551616 l = x) (hl : l.length ≤ K) : ZNum w v (sg s x) K := by
  obtain ⟨m, e, hm⟩ := h
  exact ⟨s, m, x, e, hm.num' hx hl, rfl⟩
theorem ZNum.lt {w v z K} (h : ZNum w v z K) : z.natAbs < 18446744073709551616 ^ K := by
  obtain ⟨s, m, x, e, hm, rfl⟩ := h
  rw [sg_abs]
  exact hm.lt
theorem ZCan.lt {w v z K} (h : ZCan w v z K) : z.natAbs < 18446744073709551616 ^ K := h.num.lt
theorem ZRef.lt {w v z K} (h : ZRef w v z K) : z.natAbs < 4294967296 ^ K := by
  obtain ⟨m, e, hm⟩ := h
  exact hm.lt
theorem ZCan.tight {w v z K K'} (h : ZCan w v z K) (hx : z.natAbs < 18446744073709551616 ^ K') : ZCan w v z K' := by
  obtain ⟨m, e, hm⟩ := h
  exact ⟨m, e, hm.tight hx⟩
theorem ZRef.tight {w v z K K'} (h : ZRef w v z K) (hx : z.natAbs < 4294967296 ^ K') : ZRef w v z K' := by
  obtain ⟨m, e, hm⟩ := h
  exact ⟨m, e, CanR.tight hm hx⟩
theorem ZNum.mk {w m x K} (s : Bool) (h : Num w m x K) : ZNum w (.agg #[.bool s, m]) (sg s x) K := ⟨s, m, x, rfl, h, rfl⟩
theorem ZCan.mk {w m x K} {s t : Bool} (h : CanN w m x K) (ht : t = (s && decide (0 < x))) : ZCan w (.agg #[.bool t, m]) (sg s x) K := ⟨m, by rw [ht, sg_lt], by rw [sg_abs]; exact h⟩
theorem ZRef.mk {w m x K} {s t : Bool} (h : CanR w m x K) (ht : t = (s && decide (0 < x))) : ZRef w (.agg #[.bool t, m]) (sg s x) K := ⟨m, by rw [ht, sg_lt], by rw [sg_abs]; exact h⟩

/-- a block without numbers: a struct's box -/
def NoI (w : World) (b : Nat) : Prop := ∃ cs T fr, w.heap[b]? = some (.cells cs T fr) ∧ ∀ v ∈ cs, ∀ k i, v ≠ .int k i
/-- all but this block is as it was -/
def Off (b : Nat) (w w1 : World) : Prop := ∀ j, j ≠ b → w1.heap[j]? = w.heap[j]?
theorem Off.set (w : World) (b o : Nat) (p : Value) : Off b w (w.setCell ⟨b, o, none⟩ p) := fun j hj => set_heap _ (by exact hj)
theorem Off.trans {b : Nat} {w w1 w2 : World} (h : Off b w w1) (h' : Off b w1 w2) : Off b w w2 := fun j hj => (h' j hj).trans (h j hj)
theorem Off.set2 (w : World) (b : Nat) (p q : Value) : Off b w ((w.setCell ⟨b, 0, none⟩ p).setCell ⟨b, 1, none⟩ q) := (Off.set w b 0 p).trans (Off.set _ b 1 q)
theorem Off.set3 (w : World) (b : Nat) (p q r : Value) : Off b w (((w.setCell ⟨b, 0, none⟩ p).setCell ⟨b, 1, none⟩ q).setCell ⟨b, 2, none⟩ r) := (Off.set2 w b p q).trans (Off.set _ b 2 r)
theorem RdN.off {k w P s l b} (h : RdN k w P s l) (hn : NoI w b) : RdN k w (fun j => P j ∧ j ≠ b) s l := by
  refine ⟨h.len, h.cap, h.top, fun h0 => ?_⟩
  obtain ⟨ad, e, hp, hc⟩ := h.cells h0
  refine ⟨ad, e, ⟨hp, fun hb => ?_⟩, hc⟩
  obtain ⟨cs, T, fr, hB, hv⟩ := hn
  have h1 := hc 0 h0
  have h2 : (ad.add 0).block = b := (add_block ad 0).trans hb
  unfold World.cell? at h1
  rw [h2, hB] at h1
  simp only at h1
  split at h1
  · cases h1
  · exact hv _ (Array.mem_of_getElem? h1) _ _ rfl
theorem RdN.offs {k w w1 P s l b} (h : RdN k w P s l) (hn : NoI w b) (ho : Off b w w1) : RdN k w1 P s l := ((h.off hn).keep fun j hj _ => ho j hj.2).mono fun _ hj => hj.1
theorem Num.off {w w1 v x K b} (h : Num w v x K) (hn : NoI w b) (ho : Off b w w1) : Num w1 v x K := by
  obtain ⟨A, n, c, l, e, hr, hv, hk⟩ := h
  exact ⟨A, n, c, l, e, ⟨hr.rd.offs hn ho, hr.lt⟩, hv, hk⟩
theorem CanN.off {w w1 v x K b} (h : CanN w v x K) (hn : NoI w b) (ho : Off b w w1) : CanN w1 v x K := by
  obtain ⟨A, n, c, e, hr, hk⟩ := h
  exact ⟨A, n, c, e, ⟨hr.rd.offs hn ho, hr.lt⟩, hk⟩
theorem CanR.off {w w1 v x K b} (h : CanR w v x K) (hn : NoI w b) (ho : Off b w w1) : CanR w1 v x K := by
  obtain ⟨A, n, c, e, hr, hk⟩ := h
  exact ⟨A, n, c, e, ⟨hr.rd.offs hn ho, hr.lt⟩, hk⟩
theorem RawN.off {w w1 v l b} (h : RawN w v l) (hn : NoI w b) (ho : Off b w w1) : RawN w1 v l := by
  obtain ⟨A, n, c, e, hr⟩ := h
  exact ⟨A, n, c, e, ⟨hr.rd.offs hn ho, hr.lt⟩⟩
/-- a struct's box: a sign, and a slice -/
def Bx (W : World) (b : Nat) (s : Bool) (A : Option Addr) (n c : Nat) (T : TypeId) : Prop := W.heap[b]? = some (.cells #[.bool s, .slice A n c] T (0, 0))
theorem Bx.no {W b s A n c T} (h : Bx W b s A n c T) : NoI W b := ⟨_, _, _, h, fun v hv k i => by
  simp only [List.mem_toArray, List.mem_cons, List.mem_nil_iff, or_false] at hv
  rcases hv with rfl | rfl <;> intro e <;> cases e⟩
theorem Bx.at {W b s A n c T} (h : Bx W b s A n c T) : W.cell? ⟨b, 0, none⟩ = some (.bool s) ∧ W.cell? ⟨b, 1, none⟩ = some (.slice A n c) := two_at h
theorem Bx.fr {W b s A n c T} (h : Bx W b s A n c T) : W.frozen? ⟨b, 0, none⟩ = false ∧ W.frozen? ⟨b, 1, none⟩ = false := by
  unfold Bx at h
  simp [World.frozen?, h]
theorem Bx.new (w : World) (s A n c T) : Bx (w.alloc (.cells #[.bool s, .slice A n c] T)) w.heap.size s A n c T := heap_alloc_new w _
theorem Bx.lt {W b s A n c T} (h : Bx W b s A n c T) : b < W.heap.size := by
  unfold Bx at h
  exact (Array.getElem?_eq_some_iff.1 h).1
theorem Bx.below {W W' b s A n c T} (h : Bx W b s A n c T) (hb : Below W.heap.size W W') : Bx W' b s A n c T := (hb.block b h.lt).trans h
theorem Bx.alloc {W b s A n c T} (h : Bx W b s A n c T) (o : Obj) : Bx (W.alloc o) b s A n c T := h.below ((Below.refl _ W).alloc (Nat.le_refl _) o)
theorem Bx.store {W b s A n c T} (h : Bx W b s A n c T) (s' : Bool) (A' : Option Addr) (n' c' : Nat) : Bx ((W.setCell ⟨b, 0, none⟩ (.bool s')).setCell ⟨b, 1, none⟩ (.slice A' n' c')) b s' A' n' c' T := two_cells h _ _
theorem Bx.off {W W' b b' s A n c T} (h : Bx W b s A n c T) (ho : Off b' W W') (hne : b ≠ b') : Bx W' b s A n c T := (ho b hne).trans h

theorem ZNum.off {w w1 v z K b} (h : ZNum w v z K) (hn : NoI w b) (ho : Off b w w1) : ZNum w1 v z K := by
  obtain ⟨s, m, x, e, hm, hz⟩ := h
  exact ⟨s, m, x, e, hm.off hn ho, hz⟩
theorem ZCan.off {w w1 v z K b} (h : ZCan w v z K) (hn : NoI w b) (ho : Off b w w1) : ZCan w1 v z K := by
  obtain ⟨m, e, hm⟩ := h
  exact ⟨m, e, hm.off hn ho⟩
theorem ZRef.off {w w1 v z K b} (h : ZRef w v z K) (hn : NoI w b) (ho : Off b w w1) : ZRef w1 v z K := by
  obtain ⟨m, e, hm⟩ := h
  exact ⟨m, e, hm.off hn ho⟩
theorem ZRaw.off {w w1 v s l b} (h : ZRaw w v s l) (hn : NoI w b) (ho : Off b w w1) : ZRaw w1 v s l := by
  obtain ⟨m, e, hm⟩ := h
  exact ⟨m, e, hm.off hn ho⟩
theorem ZNum.alloc {w v z K} (h : ZNum w v z K) (o : Obj) : ZNum (w.alloc o) v z K := h.below ((Below.refl _ w).alloc (Nat.le_refl _) o)
theorem ZCan.alloc {w v z K} (h : ZCan w v z K) (o : Obj) : ZCan (w.alloc o) v z K := h.below ((Below.refl _ w).alloc (Nat.le_refl _) o)
theorem ZRef.alloc {w v z K} (h : ZRef w v z K) (o : Obj) : ZRef (w.alloc o) v z K := h.below ((Below.refl _ w).alloc (Nat.le_refl _) o)
theorem ZRaw.alloc {w v s l} (h : ZRaw w v s l) (o : Obj) : ZRaw (w.alloc o) v s l := h.below ((Below.refl _ w).alloc (Nat.le_refl _) o)

theorem Bx.new' (w : World) (s A n c T) {b : Nat} (hb : b = w.heap.size) : Bx (w.alloc (.cells #[.bool s, .slice A n c] T)) b s A n c T := by
  subst hb
  exact Bx.new w s A n c T
theorem ZCan.open {w v z K} (h : ZCan w v z K) : ∃ t A n c, v = .agg #[.bool t, .slice A n c] ∧ Hid (t = decide (z < 0)) ∧ Hid (CanN w (.slice A n c) z.natAbs K) := by
  obtain ⟨m, rfl, hm⟩ := h
  have h0 := hm
  obtain ⟨A, n, c, rfl, hr, hk⟩ := hm
  exact ⟨_, A, n, c, rfl, Lib.hid rfl, Lib.hid h0⟩
theorem ZCan.shut {w t m K} {z : Int} (ht : Hid (t = decide (z < 0))) (hm : CanN w m z.natAbs K) : ZCan w (.agg #[.bool t, m]) z K := ⟨m, by rw [ht.out], hm⟩
theorem ZRef.open {w v z K} (h : ZRef w v z K) : ∃ t A n c, v = .agg #[.bool t, .slice A n c] ∧ Hid (t = decide (z < 0)) ∧ Hid (CanR w (.slice A n c) z.natAbs K) := by
  obtain ⟨m, rfl, hm⟩ := h
  have h0 := hm
  obtain ⟨A, n, c, rfl, hr, hk⟩ := hm
  exact ⟨_, A, n, c, rfl, Lib.hid rfl, Lib.hid h0⟩
theorem ZRef.shut {w t m K} {z : Int} (ht : Hid (t = decide (z < 0))) (hm : CanR w m z.natAbs K) : ZRef w (.agg #[.bool t, m]) z K := ⟨m, by rw [ht.out], hm⟩
theorem ZNum.open {w v z K} (h : ZNum w v z K) : ∃ s A n c x, v = .agg #[.bool s, .slice A n c] ∧ Hid (sg s x = z) ∧ Hid (Num w (.slice A n c) x K) := by
  obtain ⟨s, m, x, rfl, hm, hz⟩ := h
  have h0 := hm
  obtain ⟨A, n, c, l, rfl, hr, hv, hk⟩ := hm
  exact ⟨s, A, n, c, x, rfl, Lib.hid hz, Lib.hid h0⟩
theorem ZRaw.open {w v s l} (h : ZRaw w v s l) : ∃ A n c, v = .agg #[.bool s, .slice A n c] ∧ Hid (RawN w (.slice A n c) l) := by
  obtain ⟨m, rfl, hm⟩ := h
  have h0 := hm
  obtain ⟨A, n, c, rfl, hr⟩ := hm
  exact ⟨A, n, c, rfl, Lib.hid h0⟩

theorem Num.drew {w v x K} (h : Num w v x K) : Num w.drew v x K := h.below (Below.refl _ w).drew
theorem CanN.drew {w v x K} (h : CanN w v x K) : CanN w.drew v x K := h.below (Below.refl _ w).drew
theorem CanR.drew {w v x K} (h : CanR w v x K) : CanR w.drew v x K := h.below (Below.refl _ w).drew
theorem RawN.drew {w v l} (h : RawN w v l) : RawN w.drew v l := h.below (Below.refl _ w).drew
theorem ZNum.drew {w v z K} (h : ZNum w v z K) : ZNum w.drew v z K := h.below (Below.refl _ w).drew
theorem ZCan.drew {w v z K} (h : ZCan w v z K) : ZCan w.drew v z K := h.below (Below.refl _ w).drew
theorem ZRef.drew {w v z K} (h : ZRef w v z K) : ZRef w.drew v z K := h.below (Below.refl _ w).drew
theorem ZRaw.drew {w v s l} (h : ZRaw w v s l) : ZRaw w.drew v s l := h.below (Below.refl _ w).drew
theorem Bx.drew {W b s A n c T} (h : Bx W b s A n c T) : Bx W.drew b s A n c T := h.below (Below.refl _ W).drew

/-- the quotient, cut downward, and the rest -/
def zq (x y : Int) : Int := sg (decide (x < 0) != decide (y < 0)) (x.natAbs / y.natAbs) - (if (decide (x < 0) != decide (y < 0)) = true ∧ 0 < x.natAbs % y.natAbs then 1 else 0)
def zr (x y : Int) : Int := x - zq x y * y
theorem zq_lt (x y : Int) {B K : Nat} (hB : 1 < B) (h : x.natAbs < B ^ K) : (zq x y).natAbs < B ^ (K + 1) := by
  have h1 : x.natAbs / y.natAbs < B ^ K := Nat.lt_of_le_of_lt (Nat.div_le_self _ _) h
  have h2 : (sg (decide (x < 0) != decide (y < 0)) (x.natAbs / y.natAbs)).natAbs = x.natAbs / y.natAbs := sg_abs _ _
  have h3 : B ^ K * 2 ≤ B ^ (K + 1) := by rw [Nat.pow_succ]; exact Nat.mul_le_mul_left _ hB
  unfold zq
  generalize sg (decide (x < 0) != decide (y < 0)) (x.natAbs / y.natAbs) = t at *
  split <;> omega
/-- the rest has the divisor's sign, and is less -/
theorem zr_eq (x y : Int) (hy : y ≠ 0) : zr x y = if y < 0 then (if 0 < x then (if x.natAbs % y.natAbs = 0 then 0 else (x.natAbs % y.natAbs : Nat) + y) else -((x.natAbs % y.natAbs : Nat) : Int)) else (if x < 0 then (if x.natAbs % y.natAbs = 0 then 0 else y - (x.natAbs % y.natAbs : Nat)) else ((x.natAbs % y.natAbs : Nat) : Int)) := by
  have hd := Nat.div_add_mod x.natAbs y.natAbs
  have hd' : ((x.natAbs / y.natAbs : Nat) : Int) * (y.natAbs : Int) + ((x.natAbs % y.natAbs : Nat) : Int) = (x.natAbs : Int) := by
    rw [← Int.natCast_mul, ← Int.natCast_add, Nat.mul_comm, hd]
  have hm := Nat.mod_lt x.natAbs (show 0 < y.natAbs by omega)
  unfold zr zq
  generalize ((x.natAbs / y.natAbs : Nat)) = q at *
  generalize ((x.natAbs % y.natAbs : Nat)) = r at *
  by_cases hx : x < 0 <;> by_cases hy2 : y < 0
  · have e1 : (y.natAbs : Int) = -y := by omega
    have e2 : (x.natAbs : Int) = -x := by omega
    rw [e1, e2, Int.mul_neg] at hd'
    simp only [hx, hy2, decide_true, bne_self_eq_false, if_true, Bool.false_eq_true, false_and, if_false, sg_false, Int.sub_zero, show ¬ 0 < x by omega]
    omega
  · have e1 : (y.natAbs : Int) = y := by omega
    have e2 : (x.natAbs : Int) = -x := by omega
    rw [e1, e2] at hd'
    have e3 : ∀ k : Int, (-(q : Int) - k) * y = -((q : Int) * y) - k * y := fun k => by rw [Int.sub_mul, Int.neg_mul]
    simp only [hx, hy2, decide_true, decide_false, if_true, if_false, sg_true, show (true != false) = true from rfl, true_and]
    rw [e3]
    by_cases h0 : r = 0
    · rw [if_neg (by omega), if_pos h0, Int.zero_mul]; omega
    · rw [if_pos (by omega), if_neg h0, Int.one_mul]; omega
  · have e1 : (y.natAbs : Int) = -y := by omega
    have e2 : (x.natAbs : Int) = x := by omega
    rw [e1, e2, Int.mul_neg] at hd'
    have e3 : ∀ k : Int, (-(q : Int) - k) * y = -((q : Int) * y) - k * y := fun k => by rw [Int.sub_mul, Int.neg_mul]
    simp only [hx, hy2, decide_true, decide_false, if_true, if_false, sg_true, show (false != true) = true from rfl, true_and]
    rw [e3]
    by_cases h0 : r = 0
    · rw [if_neg (by omega), Int.zero_mul]
      split
      · (try rw [if_pos h0]); omega
      · omega
    · rw [if_pos (by omega), Int.one_mul]
      split
      · (try rw [if_neg h0]); omega
      · exfalso
        have : x = 0 := by omega
        subst this
        have hq : (0 : Int) ≤ (q : Int) * -y := Int.mul_nonneg (by omega) (by omega)
        rw [Int.mul_neg] at hq
        omega
  · have e1 : (y.natAbs : Int) = y := by omega
    have e2 : (x.natAbs : Int) = x := by omega
    rw [e1, e2] at hd'
    simp only [hx, hy2, decide_false, bne_self_eq_false, if_false, Bool.false_eq_true, false_and, sg_false, Int.sub_zero]
    omega
theorem zr_pos (x : Int) {y : Int} (hy : 0 < y) : 0 ≤ zr x y ∧ zr x y < y := by
  have hm := Nat.mod_lt x.natAbs (show 0 < y.natAbs by omega)
  rw [zr_eq x y (by omega), if_neg (by omega)]
  split
  · split <;> omega
  · omega
theorem zr_neg (x : Int) {y : Int} (hy : y < 0) : zr x y ≤ 0 ∧ y < zr x y := by
  have hm := Nat.mod_lt x.natAbs (show 0 < y.natAbs by omega)
  rw [zr_eq x y (by omega), if_pos (by omega)]
  split
  · split <;> omega
  · omega
theorem zr_abs (x : Int) {y : Int} (hy : y ≠ 0) : (zr x y).natAbs < y.natAbs := by
  rcases Int.lt_or_gt_of_ne hy with h | h
  · have := zr_neg x h; omega
  · have := zr_pos x h; omega
theorem zq_mul (x y : Int) : zq x y * y + zr x y = x := by unfold zr; omega

/-- the text of a number with its sign -/
def ZText (s : ByteArray) (z : Int) : Prop := ∃ t, IsText t z.natAbs ∧ s = if z < 0 then (⟨#[45]⟩ : ByteArray) ++ t else t
end Gs


