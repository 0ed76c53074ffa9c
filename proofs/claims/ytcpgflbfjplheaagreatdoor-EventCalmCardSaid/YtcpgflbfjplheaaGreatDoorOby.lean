import Derived.Test.YtcpgflbfjplheaaGreatDoorOay
import Derived.Test.YtcpgflbfjplheaaGreatDoorNly
import Derived.Test.YtcpgflbfjplheaaGreatDoorNpy
namespace Gs
open Go Go.RowKit
def Num (w:World) (v:Value) (x K:Nat):Prop:=∃ A n c l,v = .slice A n c ∧ RdU w (fun _=>True) ⟨A,n,c⟩ l ∧ val 18446744073709551616 l = x ∧ n ≤ K
def CanN (w:World) (v:Value) (x K:Nat):Prop:=∃ A n c,v = .slice A n c ∧ RdU w (fun _=>True) ⟨A,n,c⟩ (limbs 18446744073709551616 x) ∧ n ≤ K
theorem Num.below {w w' v x K} (h:Num w v x K) (hb:Below w.heap.size w w'):Num w' v x K:=by
 obtain ⟨A,n,c,l,e,hr,hv,hn⟩:=h
 exact ⟨A,n,c,l,e,hr.below hb,hv,hn⟩
theorem CanN.below {w w' v x K} (h:CanN w v x K) (hb:Below w.heap.size w w'):CanN w' v x K:=by
 obtain ⟨A,n,c,e,hr,hn⟩:=h
 exact ⟨A,n,c,e,hr.below hb,hn⟩
theorem CanN.num {w v x K} (h:CanN w v x K):Num w v x K:=by
 obtain ⟨A,n,c,e,hr,hn⟩:=h
 exact ⟨A,n,c,_,e,hr,val_limbs B64 x,hn⟩
theorem Num.lt {w v x K} (h:Num w v x K):x < 18446744073709551616 ^ K:=by
 obtain ⟨A,n,c,l,e,hr,hv,hn⟩:=h
 have h1:=val_lt hr.lt
 have h2:=hr.rd.len
 simp only at h2
 rw [hv,h2] at h1
 exact Nat.lt_of_lt_of_le h1 (Nat.pow_le_pow_right (by omega) hn)
theorem CanN.of {w:World} {P:Nat → Prop} {A n c x K} (h:RdU w P ⟨A,n,c⟩ (limbs 18446744073709551616 x)) (hx:x < 18446744073709551616 ^ K):CanN w (.slice A n c) x K:=by
 refine ⟨A,n,c,rfl,h.mono fun _ _=>trivial,?_⟩
 have h2:=h.rd.len
 simp only at h2
 rw [← h2]
 exact limbs_len_le B64 hx
theorem Num.of {w:World} {P:Nat → Prop} {A n c l K} (h:RdU w P ⟨A,n,c⟩ l) (hn:n ≤ K):Num w (.slice A n c) (val 18446744073709551616 l) K:=⟨A,n,c,l,rfl,h.mono fun _ _=>trivial,rfl,hn⟩
theorem Num.nil (w:World):Num w (.slice none 0 0) 0 0:=⟨none,0,0,[],rfl,⟨RdN.nil _ _ _ 0 (by omega) _,Lt.nil _⟩,rfl,Nat.le_refl _⟩
theorem Num.made (w:World) (e:TypeId) (l:List Nat) (hl:Lt 18446744073709551616 l) (hm:l.length ≤ 1000):Num (w.alloc (.cells (nums .u64 l).toArray e)) (.slice (some ⟨w.heap.size,0,none⟩) l.length l.length) (val 18446744073709551616 l) l.length :=
 Num.of (P:=fun b=>w.heap.size ≤ b) ⟨(OwnN.made .u64 w w.heap.size e l (Nat.le_refl _) (by omega)).rd,hl⟩ (Nat.le_refl _)
theorem Num.alloc {w v x K} (h:Num w v x K) (o:Obj):Num (w.alloc o) v x K:=h.below ((Below.refl _ w).alloc (Nat.le_refl _) o)
theorem CanN.alloc {w v x K} (h:CanN w v x K) (o:Obj):CanN (w.alloc o) v x K:=h.below ((Below.refl _ w).alloc (Nat.le_refl _) o)
theorem Num.made' (w:World) (e:TypeId) (l:List Nat) {b m x:Nat} (hl:Lt 18446744073709551616 l) (hm:l.length = m) (hm2:m ≤ 1000) (hb:b = w.heap.size) (hx:val 18446744073709551616 l = x):Num (w.alloc (.cells (nums .u64 l).toArray e)) (.slice (some ⟨b,0,none⟩) m m) x m:=by
 subst hb hm hx
 exact Num.made w e l hl hm2
theorem CanN.made' (w:World) (e:TypeId) (l:List Nat) {b m x:Nat} (hl:Lt 18446744073709551616 l) (hm:l.length = m) (hm2:m ≤ 1000) (hb:b = w.heap.size) (hx:val 18446744073709551616 l = x) (hc:Can l):CanN (w.alloc (.cells (nums .u64 l).toArray e)) (.slice (some ⟨b,0,none⟩) m m) x m:=by
 subst hb hm
 have hx2:=limbs_eq B64 hl hc hx
 exact ⟨_,_,_,rfl,by rw [hx2]; exact ⟨(OwnN.made .u64 w w.heap.size e l (Nat.le_refl _) (by omega)).rd.mono (fun _ _=>trivial),hl⟩,Nat.le_refl _⟩
theorem Below.un {w w':World} {o:Obj} (h:Below (w.alloc o).heap.size (w.alloc o) w'):Below w.heap.size w w':=Gs.Below.then ((Below.refl _ w).alloc (Nat.le_refl _) o) (by simp) h
theorem Below.tr {w w1 w2:World} (h:Below w.heap.size w w1) (k:Below w1.heap.size w1 w2):Below w.heap.size w w2:=Gs.Below.then h h.size k
theorem pow_add_lt {x y K K':Nat} (h:x < 18446744073709551616 ^ K) (h':y < 18446744073709551616 ^ K'):x + y < 18446744073709551616 ^ (K + K' + 1):=by
 have h1:18446744073709551616 ^ K ≤ 18446744073709551616 ^ (K + K'):=Nat.pow_le_pow_right (by omega) (by omega)
 have h2:18446744073709551616 ^ K' ≤ 18446744073709551616 ^ (K + K'):=Nat.pow_le_pow_right (by omega) (by omega)
 rw [Nat.pow_succ]
 omega
theorem pow_mul_lt {x y K K':Nat} (h:x < 18446744073709551616 ^ K) (h':y < 18446744073709551616 ^ K'):x * y < 18446744073709551616 ^ (K + K'):=by
 rw [Nat.pow_add]
 rcases Nat.eq_zero_or_pos x with h0 | h0
 ·subst h0
  rw [Nat.zero_mul]
  exact Nat.mul_pos (Nat.pow_pos (by omega)) (Nat.pow_pos (by omega))
 ·exact Nat.mul_lt_mul_of_lt_of_le h (Nat.le_of_lt h') (by omega)
end Gs
namespace Go.Proofs.YtcpgflbfjplheaaGreatDoor
open Go.RowKit Gs
set_option linter.unusedVariables false
variable {w:World} {a b:Value} {x y K K':Nat}
theorem cmpI_eq {x y:Nat} (h:x = y):cmpI (x:Nat) (y:Nat) = 0:=by subst h; unfold cmpI; rw [if_neg (by omega),if_neg (by omega)]
theorem cmpI_lt {x y:Nat} (h:x < y):cmpI (x:Nat) (y:Nat) = -1:=by unfold cmpI; rw [if_pos (by omega)]
theorem cmpI_gt {x y:Nat} (h:y < x):cmpI (x:Nat) (y:Nat) = 1:=by unfold cmpI; rw [if_neg (by omega),if_pos (by omega)]
end Go.Proofs.YtcpgflbfjplheaaGreatDoor
