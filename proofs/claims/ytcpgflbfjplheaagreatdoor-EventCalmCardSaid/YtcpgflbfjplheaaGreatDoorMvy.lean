import Derived.Test.YtcpgflbfjplheaaGreatDoorMuy
namespace Gs
open Go Go.RowKit
structure RAdd (l m:List Nat) (i c:Nat) (o:List Nat):Prop where
 len:o.length = i
 c1:c ≤ 1
 lt:Lt 4294967296 o
 eq:val 4294967296 o + 4294967296 ^ i * c = val 4294967296 (l.take i) + val 4294967296 (m.take i)
theorem RAdd.start (l m:List Nat):RAdd l m 0 0 []:=⟨rfl,by omega,Lt.nil _,by simp [val]⟩
theorem RAdd.step {l m:List Nat} {i c:Nat} {o:List Nat} (h:RAdd l m i c o) (hl:Lt 4294967296 l) (hm:Lt 4294967296 m) :
 RAdd l m (i + 1) ((c + gd l i + gd m i) / 4294967296) (o ++ [(c + gd l i + gd m i) % 4294967296]):=by
 have h1:=hl.gd (by omega) i
 have h2:=hm.gd (by omega) i
 have h3:=h.c1
 refine ⟨by simp [h.len],by omega,h.lt.append (Lt.cons (Nat.mod_lt _ (by omega)) (Lt.nil _)),?_⟩
 rw [val_snoc,val_take_succ,val_take_succ,h.len,Nat.pow_succ]
 have h4:=h.eq
 have h5:=Nat.mod_add_div (c + gd l i + gd m i) 4294967296
 generalize (c + gd l i + gd m i) % 4294967296 = r at *
 generalize (c + gd l i + gd m i) / 4294967296 = q at *
 generalize 4294967296 ^ i = B at *
 have h7:B * (r + 4294967296 * q) = B * (c + gd l i + gd m i):=by rw [h5]
 grind
theorem RAdd.last {l m:List Nat} {i:Nat} {o:List Nat} (h:RAdd l m i 0 o) (hl:l.length ≤ i) (hm:m.length ≤ i):val 4294967296 o = val 4294967296 l + val 4294967296 m:=by
 have:=h.eq
 rw [List.take_of_length_le hl,List.take_of_length_le hm] at this
 omega
structure RSub (l m:List Nat) (i c:Nat) (o:List Nat):Prop where
 len:o.length = i
 c1:c ≤ 1
 lt:Lt 4294967296 o
 eq:val 4294967296 o + val 4294967296 (m.take i) = val 4294967296 (l.take i) + 4294967296 ^ i * c
theorem RSub.start (l m:List Nat):RSub l m 0 0 []:=⟨rfl,by omega,Lt.nil _,by simp [val]⟩
theorem RSub.step {l m:List Nat} {i c c' r:Nat} {o:List Nat} (h:RSub l m i c o) (hc:c' ≤ 1) (hr:r < 4294967296) (he:r + gd m i + c = gd l i + 4294967296 * c') :
 RSub l m (i + 1) c' (o ++ [r]):=by
 refine ⟨by simp [h.len],hc,h.lt.append (Lt.cons hr (Lt.nil _)),?_⟩
 rw [val_snoc,val_take_succ,val_take_succ,h.len,Nat.pow_succ]
 have h4:=h.eq
 generalize 4294967296 ^ i = B at *
 have h7:B * (r + gd m i + c) = B * (gd l i + 4294967296 * c'):=by rw [he]
 grind
theorem RSub.last {l m:List Nat} {c:Nat} {o:List Nat} (h:RSub l m l.length c o) (hm:m.length ≤ l.length) (hle:val 4294967296 m ≤ val 4294967296 l):val 4294967296 o = val 4294967296 l - val 4294967296 m:=by
 have e:=h.eq
 have e3:=val_lt h.lt
 rw [h.len] at e3
 rw [List.take_of_length_le (Nat.le_refl _),List.take_of_length_le hm] at e
 have h3:=h.c1
 generalize 4294967296 ^ l.length = B at *
 have:c = 0 ∨ c = 1:=by omega
 rcases this with rfl | rfl
 ·omega
 ·omega
structure RMul (l m:List Nat) (i:Nat) (o:List Nat):Prop where
 len:o.length = l.length + m.length
 lt:Lt 4294967296 o
 z:∀ j,i + m.length ≤ j → gd o j = 0
 eq:val 4294967296 o = val 4294967296 (l.take i) * val 4294967296 m
structure RMulI (l m:List Nat) (i k c:Nat) (o0 o:List Nat):Prop where
 len:o.length = l.length + m.length
 lt:Lt 4294967296 o
 cl:c < 4294967296
 same:∀ j,i + k ≤ j → gd o j = gd o0 j
 eq:val 4294967296 o + 4294967296 ^ (i + k) * c = val 4294967296 o0 + 4294967296 ^ i * (gd l i * val 4294967296 (m.take k))
theorem gd_replicate (n j:Nat):gd (List.replicate n 0) j = 0:=by
 rcases Nat.lt_or_ge j n with h | h
 ·rw [gd_lt (by simpa using h),List.getElem_replicate]
 ·exact gd_ge (by simpa using h)
theorem RMul.start (l m:List Nat):RMul l m 0 (List.replicate (l.length + m.length) 0) :=
 ⟨by simp,Lt.replicate (by omega) _,fun j _=>gd_replicate _ j,by rw [val_replicate]; simp [val]⟩
theorem RMul.inner {l m:List Nat} {i:Nat} {o:List Nat} (h:RMul l m i o):RMulI l m i 0 0 o o:=⟨h.len,h.lt,by omega,fun _ _=>rfl,by simp [val]⟩
theorem RMulI.step {l m:List Nat} {i k c:Nat} {o0 o:List Nat} (h:RMulI l m i k c o0 o) (hl:Lt 4294967296 l) (hm:Lt 4294967296 m) (hi:i < l.length) (hk:k < m.length) :
 RMulI l m i (k + 1) ((gd o (i + k) + gd l i * gd m k + c) / 4294967296) o0 (o.set (i + k) ((gd o (i + k) + gd l i * gd m k + c) % 4294967296)):=by
 have h1:=hl.gd (by omega) i
 have h2:=hm.gd (by omega) k
 have h3:=h.lt.gd (by omega) (i + k)
 have h4:=h.cl
 have h5:gd l i * gd m k ≤ 4294967295 * 4294967295:=Nat.mul_le_mul (by omega) (by omega)
 refine ⟨by rw [List.length_set]; exact h.len,h.lt.set _ (Nat.mod_lt _ (by omega)),by omega,fun j hj=>by rw [gd_set_ne (by omega)]; exact h.same j (by omega),?_⟩
 have hs:=val_set 4294967296 o (i + k) ((gd o (i + k) + gd l i * gd m k + c) % 4294967296) (by rw [h.len]; omega)
 have he:=h.eq
 rw [val_take_succ,show i + (k + 1) = i + k + 1 by omega,Nat.pow_succ,Nat.pow_add] at *
 have hd:=Nat.mod_add_div (gd o (i + k) + gd l i * gd m k + c) 4294967296
 generalize (gd o (i + k) + gd l i * gd m k + c) % 4294967296 = r at *
 generalize (gd o (i + k) + gd l i * gd m k + c) / 4294967296 = q at *
 generalize 4294967296 ^ i = I at *
 generalize 4294967296 ^ k = T at *
 have h7:I * T * (r + 4294967296 * q) = I * T * (gd o (i + k) + gd l i * gd m k + c):=by rw [hd]
 grind
theorem RMulI.last {l m:List Nat} {i c:Nat} {o0 o:List Nat} (h:RMulI l m i m.length c o0 o) (h0:RMul l m i o0) (hi:i < l.length):RMul l m (i + 1) (o.set (i + m.length) c):=by
 have hz:gd o (i + m.length) = 0:=by rw [h.same _ (Nat.le_refl _)]; exact h0.z _ (Nat.le_refl _)
 refine ⟨by rw [List.length_set]; exact h.len,h.lt.set _ h.cl,fun j hj=>?_,?_⟩
 ·rw [gd_set_ne (by omega),h.same j (by omega)]
  exact h0.z j (by omega)
 ·have hs:=val_set 4294967296 o (i + m.length) c (by rw [h.len]; omega)
  have he:=h.eq
  rw [hz,Nat.mul_zero,Nat.add_zero] at hs
  rw [hs,he,h0.eq,val_take_succ,List.take_of_length_le (Nat.le_refl _)]
  grind
theorem RMul.last {l m:List Nat} {o:List Nat} (h:RMul l m l.length o):val 4294967296 o = val 4294967296 l * val 4294967296 m:=by
 rw [h.eq,List.take_of_length_le (Nat.le_refl _)]
theorem OwnN.cap {k:IntKind} (W:World) (base:Nat) (e:TypeId) (m:Nat) (hb:base ≤ W.heap.size) (hm:m ≤ 9223372036854775807):OwnN k (W.alloc (.cells (nums k (List.replicate m 0)).toArray e)) base e ⟨some ⟨W.heap.size,0,none⟩,0,m⟩ []:=by
 refine ⟨rfl,.inr ⟨W.heap.size,m,_,rfl,hb,heap_alloc_new W _,Nat.zero_le _,by simpa [maxLen] using hm,?_,?_⟩⟩
 ·simp [nums]
 ·simp [nums]
theorem make_cap {P:Program} (t e:TypeId) (k:IntKind) (bytes:Nat) (ht:P.underlying t = some (.slice e)) (hinfo:(P.info? e).map (fun i=>(i.zero,i.size,i.bytes)) = some (some (.int k 0),1,bytes)) (hb0:0 < bytes) (m:Nat) (hn:m * bytes ≤ 281474976710656) (W:World) :
 (Instr.makeSlice t (.int .i64 0) (.int .i64 (m:Int))).run P W = .ok (.slice (some ⟨W.heap.size,0,none⟩) 0 m) (W.alloc (.cells (nums k (List.replicate m 0)).toArray e)):=by
 obtain ⟨i0,hi,hzz⟩:=Option.map_eq_some_iff.1 hinfo
 simp only [Prod.mk.injEq] at hzz
 obtain ⟨hz0,hz1,hz2⟩:=hzz
 have hm:m ≤ 281474976710656:=Nat.le_trans (Nat.le_mul_of_pos_right _ hb0) hn
 have hb:(i0.bytes:Int) * (m:Int) ≤ 281474976710656:=by
  have h:((m * i0.bytes:Nat):Int) ≤ 281474976710656:=by rw [hz2]; omega
  rw [Int.mul_comm]
  rwa [Int.natCast_mul] at h
 have h:=run_make (P:=P) W t e i0 (.int k 0) ht hi hz0 .i64 .i64 0 (m:Int) (by omega) (by omega) hb (by omega)
 rw [h,hz1]
 simp only [Int.toNat_natCast,Nat.mul_one,Int.toNat_zero]
 have h2:madeCells (Value.int k 0).cells m = (nums k (List.replicate m 0)).toArray:=by
  apply Array.ext
  ·simp [madeCells,nums]
  ·intro i h1 h2
   simp [madeCells,nums,Value.cells,Nat.mod_one]
 rw [h2]
end Gs
