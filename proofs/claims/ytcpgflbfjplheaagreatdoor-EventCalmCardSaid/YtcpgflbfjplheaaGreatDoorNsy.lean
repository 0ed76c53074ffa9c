import Derived.Test.YtcpgflbfjplheaaGreatDoorNby
import Derived.Test.YtcpgflbfjplheaaGreatDoorMby
namespace Go.Proofs.YtcpgflbfjplheaaGreatDoor
open Go.RowKit Gs
set_option linter.unusedVariables false
structure SubInv (l m:List Nat) (i c:Nat) (o:List Nat):Prop where
 len:o.length = i
 c1:c ≤ 1
 lt:Lt 18446744073709551616 o
 eq:val 18446744073709551616 o + val 18446744073709551616 (m.take i) = val 18446744073709551616 (l.take i) + 18446744073709551616 ^ i * c
theorem SubInv.start (l m:List Nat):SubInv l m 0 0 []:=⟨rfl,by omega,Lt.nil _,by simp [val]⟩
theorem SubInv.step {l m:List Nat} {i c:Nat} {o:List Nat} (h:SubInv l m i c o) (hl:Lt 18446744073709551616 l) (hm:Lt 18446744073709551616 m) :
 SubInv l m (i + 1) (if gd l i < gd m i + c then 1 else 0) (o ++ [(gd l i + 18446744073709551616 - gd m i - c) % 18446744073709551616]):=by
 have h1:=hl.gd (by omega) i
 have h2:=hm.gd (by omega) i
 have h3:=h.c1
 have h5:(gd l i + 18446744073709551616 - gd m i - c) % 18446744073709551616 + gd m i + c = gd l i + 18446744073709551616 * (if gd l i < gd m i + c then 1 else 0):=by split <;> omega
 have h6:(gd l i + 18446744073709551616 - gd m i - c) % 18446744073709551616 < 18446744073709551616:=Nat.mod_lt _ (by omega)
 refine ⟨by simp [h.len],by split <;> omega,h.lt.append (Lt.cons h6 (Lt.nil _)),?_⟩
 rw [val_snoc,val_take_succ,val_take_succ,h.len,Nat.pow_succ]
 have h4:=h.eq
 generalize (gd l i + 18446744073709551616 - gd m i - c) % 18446744073709551616 = r at *
 generalize (if gd l i < gd m i + c then 1 else 0) = q at *
 generalize 18446744073709551616 ^ i = B at *
 have h7:B * (r + gd m i + c) = B * (gd l i + 18446744073709551616 * q):=by rw [h5]
 grind
theorem SubInv.last {l m:List Nat} {c:Nat} {o:List Nat} (h:SubInv l m (nl l) c o) (hl:Lt 18446744073709551616 l) (hle:val 18446744073709551616 m ≤ val 18446744073709551616 l) :
 val 18446744073709551616 o = val 18446744073709551616 l - val 18446744073709551616 m:=by
 have e1:val 18446744073709551616 (l.take (nl l)) = val 18446744073709551616 l:=by rw [← trim_take hl,val_limbs B64]
 have e2:val 18446744073709551616 l < 18446744073709551616 ^ nl l:=lt_of_limbs_len B64 (Nat.le_refl _)
 have e3:=val_lt h.lt
 have e4:=h.eq
 have e5:val 18446744073709551616 (m.take (nl l)) = val 18446744073709551616 m:=by
  rcases Nat.lt_or_ge (nl l) m.length with h1 | h1
  ·have e6:=val_take_drop 18446744073709551616 m (nl l) (by omega)
   rcases Nat.eq_zero_or_pos (val 18446744073709551616 (m.drop (nl l))) with h2 | h2
   ·rw [h2] at e6; omega
   ·have:18446744073709551616 ^ nl l ≤ 18446744073709551616 ^ nl l * val 18446744073709551616 (m.drop (nl l)):=Nat.le_mul_of_pos_right _ h2
    omega
  ·rw [List.take_of_length_le h1]
 rw [h.len] at e3
 rw [e1,e5] at e4
 have h3:=h.c1
 generalize 18446744073709551616 ^ nl l = B at *
 have:c = 0 ∨ c = 1:=by omega
 rcases this with rfl | rfl <;> omega
set_option maxRecDepth 100000 in
set_option maxHeartbeats 2000000 in
theorem nat_Sub {A n c A' n' c'} {l m:List Nat} {P} {w:World} (h:RdU w P ⟨A,n,c⟩ l) (h':RdU w P ⟨A',n',c'⟩ m) (hn:n ≤ 1099511627776) (hn':n' ≤ 1099511627776) (hle:val 18446744073709551616 m ≤ val 18446744073709551616 l) :
 Calls Tryz.prog 188 #[.slice A n c,.slice A' n' c'] w fun e w'=>∃ A1 n1 c1,e = .returned (.tuple #[.slice A1 n1 c1,.int .i64 0]) ∧ RdU w' (fun b=>w.heap.size ≤ b) ⟨A1,n1,c1⟩ (limbs 18446744073709551616 (val 18446744073709551616 l - val 18446744073709551616 m)) ∧ Below w.heap.size w w':=by
 obtain ⟨cv,hcv⟩:∃ cv,cv = cmpI (val 18446744073709551616 l:Nat) (val 18446744073709551616 m:Nat):=⟨_,rfl⟩
 have hcb:decide (cv < 0) = false:=by rw [hcv]; unfold cmpI; rw [if_neg (by omega)]; split <;> rfl
 have kc:=(nat_Cmp h h' (by omega) (by omega))
 rw [← hcv] at kc
 have KC:=Lib.hid kc
 have HL:=Lib.hid h.rd.len
 have HLE:=Lib.hid hle
 have hN:=h.nl_le
 clear kc hcv hle
 go_enter Tryz.func188,Tryz.ntmps188
 go_wp2_with (go_at_call 127; refine KC.out.mono ?_; rintro e w1 ⟨rfl,hb1⟩)
 have g1:=h.below hb1
 refine (nat_trim g1 (by omega)).mono ?_
 rintro e w2 ⟨rfl,rfl⟩
 obtain ⟨N,hNN⟩:∃ N,N = nl l:=⟨_,rfl⟩
 rw [← hNN] at hN ⊢
 have HN:=Lib.hid hNN
 clear hNN
 go_wp2
 have hs1:=hb1.size
 go_loopw [6,7,18] (fun v cv iv wr=>∃ (i cc:Nat) (o:List Nat) (s:Sl),i ≤ N ∧ iv = .int .i64 i ∧ cv = .int .u64 cc ∧ v = .slice s.A s.n s.c ∧ SubInv l m i cc o ∧ OwnN .u64 wr w.heap.size 146 s o ∧ Below w.heap.size w wr) (fun _ _ iv _=>N - (intOf iv).toNat)
 case atStart=>exact ⟨0,0,[],⟨none,0,0⟩,Nat.zero_le _,rfl,rfl,rfl,SubInv.start l m,OwnN.nil _ _ _ _,hb1⟩
 case round =>
  obtain ⟨i,cc,o,s,hi,rfl,rfl,rfl,hinv,hown,hb⟩:=hrel
  have hlen':=Lib.hid hinv.len
  clear KC hcb hs1
  by_cases hlt:i < N
  ·obtain ⟨ad,e,hc⟩:=(h.rd.below hb).at i (by show i < n; omega)
   simp only at e
   subst e
   have hin:i < n:=by omega
   have hinv2:=hinv.step h.lt h'.lt
   have ks:=fun W=>sub64 (gd l i) (gd m i) cc hinv.c1 W
   obtain ⟨r,hr⟩:∃ r,r = (gd l i + 18446744073709551616 - gd m i - cc) % 18446744073709551616:=⟨_,rfl⟩
   obtain ⟨q,hq⟩:∃ q,q = (if gd l i < gd m i + cc then 1 else 0):=⟨_,rfl⟩
   rw [← hr,← hq] at hinv2 ks
   clear hr hq
   have kl:Calls Tryz.prog 235 #[.slice A' n' c',.int .i64 i] wr.drew fun e w'=>e = .returned (.int .u64 (gd m i:Nat)) ∧ w' = wr.drew:=(nat_limb (h'.rd.below hb.drew)).mono fun _ _ ⟨h1,h2⟩=>⟨by rw [h1,limbF_nat],h2.symm⟩
   have KL:=Lib.hid kl
   have hsz:(o.length + 1) * 8 ≤ 140737488355328:=by have:=hlen'.out; omega
   clear kl
   go_wp2
   refine region_still (by kernel_rfl) (by kernel_rfl) ?_
   repeat still_step
   still_call KL.out
   repeat still_step
   refine wpStill_nil ?_
   go_wp2_with (at_builtin; refine append1 (w0:=w) (W:=wr.drew) w.heap.size rfl (.tmp 33) (.tmp 35) 23 146 .u64 8 rfl Tryz.underlying23 info_u64 (by decide) s o r rfl rfl hown hb.drew hb.size hsz ?_; intro v1 w1 hown1 hb2 hg1)
   go_roundw
   case rel=>exact ⟨i + 1,q,_,v1,by omega,by go_num,rfl,rfl,hinv2,hown1,hb2⟩
   case measure=>simp [intOf]; omega
  ·obtain rfl:i = N:=by omega
   have hfin:val 18446744073709551616 o = val 18446744073709551616 l - val 18446744073709551616 m:=SubInv.last (by rw [← HN.out]; exact hinv) h.lt HLE.out
   have HF:=Lib.hid hfin
   clear hfin
   go_wp2_with fail
   refine (nat_trim ⟨hown.rd,hinv.lt⟩ (by have h8:=hown.len; have h9:=hlen'.out; show s.n ≤ _; omega)).mono ?_
   rintro e w1 ⟨rfl,rfl⟩
   have hr:=RdU.trim ⟨hown.rd,hinv.lt⟩
   rw [HF.out] at hr
   go_wp2
   go_ret2
   exact ⟨_,_,_,rfl,hr,hb⟩
end Go.Proofs.YtcpgflbfjplheaaGreatDoor
