import Derived.Test.YtcpgflbfjplheaaGreatDoorProg
import Derived.Test.YtcpgflbfjplheaaGreatDoorKy
import Derived.KernelRfl
import Derived.LoopTactic
import Derived.Lib.Hide
import Derived.IntWalk
import Derived.Deep.LoopGhost
import Derived.Deep.QuietTactic
import Derived.BigQuiet
import Derived.WideLaws
import Derived.RegionTactic
import Derived.Laws.Externs
import Derived.Shelf.Spec.BitsCarry
import Derived.Outline
namespace Go.Proofs.YtcpgflbfjplheaaGreatDoor
open Go.RowKit Gs
set_option linter.unusedVariables false
theorem info_u64:(Tryz.prog.info? 146).map (fun i=>(i.zero,i.size,i.bytes)) = some (some (.int .u64 0),1,8):=by kernel_rfl
def limbF (l:List Nat) (i:Int):Nat:=if i < 0 then 0 else gd l i.toNat
theorem limbF_nat (l:List Nat) (i:Nat):limbF l (i:Int) = gd l i:=by unfold limbF; rw [if_neg (by omega)]; rfl
set_option maxHeartbeats 400000 in
theorem nat_limb {A n c} {l:List Nat} {i:Int} {P} {w:World} (h:RdN .u64 w P ⟨A,n,c⟩ l) :
 Calls Tryz.prog 235 #[.slice A n c,.int .i64 i] w fun e w'=>e = .returned (.int .u64 (limbF l i:Nat)) ∧ w = w':=by
 have hl:=h.len
 simp only at hl
 by_cases h1:i < 0
 ·clear hl
  go_enter Tryz.func235,Tryz.ntmps235
  go_wp2
  go_ret
  exact ⟨by simp [limbF,h1],rfl⟩
 ·obtain ⟨m,rfl⟩:=Int.eq_ofNat_of_zero_le (show 0 ≤ i by omega)
  by_cases h2:m < n
  ·obtain ⟨ad,e,hc⟩:=h.at m h2
   simp only at e
   subst e
   have h3:¬ ((n:Int) ≤ (m:Int)):=by omega
   clear hl
   go_enter Tryz.func235,Tryz.ntmps235
   go_wp2
   go_ret
   exact ⟨by rw [limbF_nat]; rfl,rfl⟩
  ·have h3:((n:Int) ≤ (m:Int)):=by omega
   have h4:limbF l (m:Int) = 0:=by rw [limbF_nat,gd_ge (by omega)]
   have H4:=Lib.hid h4
   clear h4 hl
   go_enter Tryz.func235,Tryz.ntmps235
   go_wp2
   go_ret
   exact ⟨by rw [H4.out]; rfl,rfl⟩
set_option maxHeartbeats 400000 in
theorem nat_trim {A n c} {l:List Nat} {P} {w:World} (h:RdU w P ⟨A,n,c⟩ l) (hn:n ≤ 281474976710656) :
 Calls Tryz.prog 178 #[.slice A n c] w fun e w'=>e = .returned (.slice A (nl l) c) ∧ w = w':=by
 go_enter Tryz.func178,Tryz.ntmps178
 go_wp2
 go_loop [0] (fun v=>∃ m:Nat,m ≤ n ∧ v = .slice A m c ∧ Hid (val 18446744073709551616 (l.take m) = val 18446744073709551616 l)) (fun v=>match v with | .slice _ m _=>m | _=>0)
 case atStart=>exact ⟨n,Nat.le_refl _,rfl,Lib.hid (by rw [List.take_of_length_le (by rw [h.rd.len]; exact Nat.le_refl _)])⟩
 case round =>
  obtain ⟨m,hm,rfl,hv⟩:=hrel
  have hm64:m ≤ 281474976710656:=by omega
  have hml:m ≤ l.length:=by have:=h.rd.len; simp only at this; omega
  cases m with
  | succ q =>
   obtain ⟨ad,e,hc⟩:=h.rd.at q (by show q < n; omega)
   simp only at e
   subst e
   by_cases hz:gd l q = 0
   ·have hzb:(((gd l q:Nat):Int) == 0) = true:=by rw [hz]; rfl
    have hc':=h.rd.cap
    simp only at hc'
    have hv':Hid (val 18446744073709551616 (l.take q) = val 18446744073709551616 l):=Lib.hid ((take_getLast hz _).trans hv.out)
    clear hz
    go_wp2
    go_round
    case rel=>exact ⟨q,by omega,rfl,hv'⟩
    case measure=>simp
   ·have hzb:(((gd l q:Nat):Int) == 0) = false:=by rw [beq_eq_false_iff_ne]; omega
    have HZ:=Lib.hid (nl_of h.lt hml hv.out (fun q' e=>by (have e2:q' = q:=by omega); rw [e2]; exact hz))
    clear hz
    go_wp2
    go_ret
    exact ⟨by rw [HZ.out]; rfl,rfl⟩
  | zero =>
   have HZ:=Lib.hid (nl_of h.lt hml hv.out (fun q' e=>by cases e))
   go_wp2
   go_ret
   exact ⟨by rw [HZ.out]; rfl,rfl⟩
theorem add64 (x y c:Nat) (hc:c ≤ 1) (w:World):(callFunc 193 #[.int .u64 x,.int .u64 y,.int .u64 c]).run Tryz.prog w =
 .ok (.value (.tuple #[.int .u64 (((x + y + c) % 18446744073709551616:Nat):Int),.int .u64 (((x + y + c) / 18446744073709551616:Nat):Int)])) w:=by
 rw [run_callFunc_extern Tryz.func193 (by kernel_rfl) (by kernel_rfl) (by kernel_rfl) (e:=add64Entry) (by kernel_rfl),run_add64 x y c (by omega) (by omega) (by omega) (by omega)]
 simp only [Result.andThen]
 congr 5 <;> omega
theorem add64_0 (x y:Nat) (w:World):(callFunc 193 #[.int .u64 x,.int .u64 y,.int .u64 0]).run Tryz.prog w =
 .ok (.value (.tuple #[.int .u64 (((x + y) % 18446744073709551616:Nat):Int),.int .u64 (((x + y) / 18446744073709551616:Nat):Int)])) w:=add64 x y 0 (by omega) w
theorem sub64 (x y b:Nat) (hb:b ≤ 1) (w:World):(callFunc 236 #[.int .u64 x,.int .u64 y,.int .u64 b]).run Tryz.prog w =
 .ok (.value (.tuple #[.int .u64 (((x + 18446744073709551616 - y - b) % 18446744073709551616:Nat):Int),.int .u64 ((if x < y + b then 1 else 0:Nat):Int)])) w:=by
 rw [run_callFunc_extern Tryz.func236 (by kernel_rfl) (by kernel_rfl) (by kernel_rfl) (e:=sub64Entry) (by kernel_rfl),run_sub64 x y b hb]
 rfl
structure AddInv (l m:List Nat) (i c:Nat) (o:List Nat):Prop where
 len:o.length = i
 c1:c ≤ 1
 lt:Lt 18446744073709551616 o
 eq:val 18446744073709551616 o + 18446744073709551616 ^ i * c = val 18446744073709551616 (l.take i) + val 18446744073709551616 (m.take i)
theorem AddInv.start (l m:List Nat):AddInv l m 0 0 []:=⟨rfl,by omega,Lt.nil _,by simp [val]⟩
theorem AddInv.step {l m:List Nat} {i c:Nat} {o:List Nat} (h:AddInv l m i c o) (hl:Lt 18446744073709551616 l) (hm:Lt 18446744073709551616 m) :
 AddInv l m (i + 1) ((gd l i + gd m i + c) / 18446744073709551616) (o ++ [(gd l i + gd m i + c) % 18446744073709551616]):=by
 have h1:=hl.gd (by omega) i
 have h2:=hm.gd (by omega) i
 have h3:=h.c1
 refine ⟨by simp [h.len],by omega,h.lt.append (Lt.cons (Nat.mod_lt _ (by omega)) (Lt.nil _)),?_⟩
 rw [val_snoc,val_take_succ,val_take_succ,h.len,Nat.pow_succ]
 have h4:=h.eq
 have h5:=Nat.mod_add_div (gd l i + gd m i + c) 18446744073709551616
 generalize (gd l i + gd m i + c) % 18446744073709551616 = r at *
 generalize (gd l i + gd m i + c) / 18446744073709551616 = q at *
 generalize 18446744073709551616 ^ i = B at *
 have h6:B * (r + 18446744073709551616 * q) = B * (gd l i + gd m i + c):=by rw [h5]
 grind
theorem AddInv.last {l m:List Nat} {i c:Nat} {o:List Nat} (h:AddInv l m i c o) (hl:l.length ≤ i) (hm:m.length ≤ i) :
 val 18446744073709551616 (o ++ [c]) = val 18446744073709551616 l + val 18446744073709551616 m:=by
 rw [val_snoc,h.len,h.eq,val_take_all _ _ _ hl,val_take_all _ _ _ hm]
theorem run_max2 (ats:Array TypeId) (ty:TypeId) (x y K:Nat) (h:max x y = K):Builtin.max_ ats ty #[.int .i64 (x:Int),.int .i64 (y:Int)] = pure (.int .i64 (K:Int)):=by
 subst h
 simp only [Builtin.max_,List.foldlM_cons,List.foldlM_nil,Builtin.max2]
 by_cases h:x < y
 ·rw [if_pos (by omega),Nat.max_eq_right (by omega)]; rfl
 ·rw [if_neg (by omega),Nat.max_eq_left (by omega)]; rfl
set_option maxHeartbeats 1000000 in
theorem nat_Add {A n c A' n' c'} {l m:List Nat} {P} {w:World} (h:RdU w P ⟨A,n,c⟩ l) (h':RdU w P ⟨A',n',c'⟩ m) (hn:n ≤ 1099511627776) (hn':n' ≤ 1099511627776) :
 Calls Tryz.prog 187 #[.slice A n c,.slice A' n' c'] w fun e w'=>∃ A1 n1 c1,e = .returned (.slice A1 n1 c1) ∧ RdU w' (fun b=>w.heap.size ≤ b) ⟨A1,n1,c1⟩ (limbs 18446744073709551616 (val 18446744073709551616 l + val 18446744073709551616 m)) ∧ Below w.heap.size w w':=by
 obtain ⟨K,hK⟩:∃ K,max n n' = K:=⟨_,rfl⟩
 have k1:n ≤ K:=by omega
 have k2:n' ≤ K:=by omega
 have k3:K ≤ 1099511627776:=by omega
 have kmax:=fun ats ty=>run_max2 ats ty n n' K hK
 clear hK
 go_enter Tryz.func187,Tryz.ntmps187
 go_wp2
 go_loopw [5,6,15] (fun v cv iv wr=>∃ (i cc:Nat) (o:List Nat) (s:Sl),i ≤ K ∧ iv = .int .i64 i ∧ cv = .int .u64 cc ∧ v = .slice s.A s.n s.c ∧ AddInv l m i cc o ∧ OwnN .u64 wr w.heap.size 146 s o ∧ Below w.heap.size w wr) (fun _ _ iv _=>K - (intOf iv).toNat)
 case atStart=>exact ⟨0,0,[],⟨none,0,0⟩,Nat.zero_le _,rfl,rfl,rfl,AddInv.start l m,OwnN.nil _ _ _ _,Below.refl _ _⟩
 case round =>
  obtain ⟨i,cc,o,s,hi,rfl,rfl,rfl,hinv,hown,hb⟩:=hrel
  have hinv2:=hinv.step h.lt h'.lt
  have ka:=fun W=>add64 (gd l i) (gd m i) cc hinv.c1 W
  rw [← limbF_nat,← limbF_nat] at ka
  have hlen:o.length = i:=hinv.len
  have hlen':=Lib.hid hlen
  clear hlen
  by_cases hlt:i < K
  ·have g1:RdN .u64 wr P ⟨A,n,c⟩ l:=h.rd.below hb
   have g2:RdN .u64 wr P ⟨A',n',c'⟩ m:=h'.rd.below hb
   have hsz:(o.length + 1) * 8 ≤ 140737488355328:=by have:=hlen'.out; omega
   go_wp2_with fail
   refine (nat_limb g1).mono ?_
   rintro e w1 ⟨rfl,rfl⟩
   go_wp2_with fail
   refine (nat_limb g2).mono ?_
   rintro e w1 ⟨rfl,rfl⟩
   go_wp2_with (at_builtin; refine append1 (w0:=w) w.heap.size rfl (.tmp 29) (.tmp 31) 23 146 .u64 8 rfl Tryz.underlying23 info_u64 (by decide) s o ((limbF l i + limbF m i + cc) % 18446744073709551616) rfl rfl hown hb hb.size hsz ?_; intro v1 w1 hown1 hb1 hg1)
   go_roundw
   case rel=>exact ⟨i + 1,(limbF l i + limbF m i + cc) / 18446744073709551616,_,v1,by omega,by go_num,rfl,rfl,by rw [limbF_nat,limbF_nat]; exact hinv2,hown1,hb1⟩
   case measure=>simp [intOf]; omega
  ·have hsz:(o.length + 1) * 8 ≤ 140737488355328:=by have:=hlen'.out; omega
   have hfin:val 18446744073709551616 (o ++ [cc]) = val 18446744073709551616 l + val 18446744073709551616 m:=hinv.last (by rw [h.rd.len]; show n ≤ i; omega) (by rw [h'.rd.len]; show n' ≤ i; omega)
   have Hfin:=Lib.hid hfin
   have hlt2:Lt 18446744073709551616 (o ++ [cc]):=hinv.lt.append (Lt.cons (by have:=hinv.c1; omega) (Lt.nil _))
   clear hfin
   go_wp2_with (at_builtin; refine append1 (w0:=w) w.heap.size rfl (.tmp 35) (.tmp 37) 23 146 .u64 8 rfl Tryz.underlying23 info_u64 (by decide) s o cc rfl rfl hown hb hb.size hsz ?_; intro v1 w1 hown1 hb1 hg1)
   refine (nat_trim ⟨hown1.rd,hlt2⟩ (by have:=hlen'.out; have h9:=hown1.len; simp at h9; omega)).mono ?_
   rintro e w2 ⟨rfl,rfl⟩
   have hr:=RdU.trim ⟨hown1.rd,hlt2⟩
   rw [Hfin.out] at hr
   go_wp2
   go_ret
   exact ⟨_,_,_,rfl,hr,hb1⟩
end Go.Proofs.YtcpgflbfjplheaaGreatDoor
