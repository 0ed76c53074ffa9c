import Derived.RangeFuncNested
import Derived.RangeFuncBound
import Derived.RangeFuncCalls
import Derived.RangeFuncLeaves
import Derived.Shelf.Abstract
import Derived.Shelf.RegionOpen
import Derived.WalkKit
import Derived.OwnWalkIn
import Derived.TacticsInMore
import Derived.LoopNIn
import Derived.LoopIn
import Derived.Lib.Hide
import Derived.Test.YtcpgflbfjplheaaGreatDoorKy
import Derived.Test.YtcpgflbfjplheaaGreatDoorProg
namespace Go.Proofs.YtcpgflbfjplheaaGreatDoor
open Go.RowKit Go.Shelf Gs
set_option linter.unusedVariables false
attribute [local go_sem] Oper.semAt_some
def downto (len k:Nat):List Nat:=(List.range k).map fun j=>len - 1 - j
theorem downto_succ (len k:Nat):downto len (k + 1) = downto len k ++ [len - 1 - k]:=by simp [downto,List.range_succ]
theorem downto_length (len k:Nat):(downto len k).length = k:=by simp [downto]
theorem mem_downto {len k i:Nat} (hk:k ≤ len) (h1:len - k ≤ i) (h2:i < len):i ∈ downto len k:=by
 simp only [downto,List.mem_map,List.mem_range]
 exact ⟨len - 1 - i,by omega,by omega⟩
structure BkX (len:Nat) (V:Nat → Nat → Prop) where
 i:Nat
 x:Nat
 lt:i < len
 v:V i x
def BkURx (Bs:Nat) (A:Option Addr) (len cap:Nat) (V:Nat → Nat → Prop) (W:World):Prop :=
 W.cell? ⟨Bs,0,none⟩ = some (.slice A len cap) ∧ (0 < len → ∃ ad,A = some ad ∧ ∀ j,j < len → ∃ x,V j x ∧ W.cell? (ad.add j) = some (.int .u64 (x:Int)))
set_option maxRecDepth 100000 in
set_option maxHeartbeats 2000000 in
theorem bkU1_in (F:Fence) (n:Nat) (h7:F.fn 223) (hro:F.round = none) (hn:1 ≤ n) (l Bs:Nat) (A:Option Addr) (len cap:Nat) (hlen:len ≤ 281474976710656) (V:Nat → Nat → Prop) (Kp:World → World → Prop) (hKp:∀ W W',Kp W W' → BkURx Bs A len cap V W → BkURx Bs A len cap V W') (J Jx:List (BkX len V) → World → Prop)
 (hY:∀ pre x W,J pre W → pre.length < len → YieldAt F (n - 1) Tryz.prog l #[.int .i64 (x.i:Int),.int .u64 (x.x:Int)] W fun e W' =>
  (e = .returned (.bool true) ∧ J (pre ++ [x]) W' ∧ Kp W W') ∨ (e = .returned (.bool false) ∧ Jx (pre ++ [x]) W'))
 (W:World) (hR:BkURx Bs A len cap V W) (h0:J [] W) :
 CallsIn F n Tryz.prog 223 #[.func (.yield l) #[] #[],.pointer (some ⟨Bs,0,none⟩)] W fun e W'=>(∃ v,e = .returned v) ∧
  ((∃ ys,ys.map (·.i) = downto len len ∧ J ys W') ∨ (∃ pre,(∃ k,k ≤ len ∧ pre.map (·.i) = downto len k) ∧ Jx pre W')):=by
 have hbox:=hR.1
 refine callsIn_of_wp Tryz.func223 rfl h7 ?_ hro
 simp only [Tryz.ntmps223,List.size_toArray,List.length_cons,List.length_nil,Nat.reduceAdd,Nat.reduceSub,Array.replicate_succ,Array.replicate_zero,List.push_toArray,List.append_toArray,List.nil_append,List.cons_append]
 gi_wp2
 clear hbox
 gi_loopw [3] (fun iv wr=>∃ k:Nat,k ≤ len ∧ iv = .int .i64 ((len:Int) - 1 - k) ∧ BkURx Bs A len cap V wr ∧ ∃ ys,ys.map (·.i) = downto len k ∧ J ys wr)
  (fun iv _=>(intOf iv + 1).toNat)
 case atStart=>exact ⟨0,Nat.zero_le _,by simp,hR,[],rfl,h0⟩
 case round =>
  obtain ⟨k,hk,rfl,hRx,ys,hys,hJs⟩:=hrel
  have HYS:=Lib.hid hys
  clear hys
  by_cases hlt:k < len
  ·obtain ⟨q,hq⟩:∃ q,q = len - 1 - k:=⟨_,rfl⟩
   have hq2:(len:Int) - 1 - k = (q:Int):=by omega
   have hq3:q < len:=by omega
   obtain ⟨ad,e1,hcs⟩:=hRx.2 (by omega)
   obtain ⟨x,hV,hcx⟩:=hcs q hq3
   have hbx:=hRx.1
   subst e1
   obtain ⟨fn,tmps,assign,body,hy,hR⟩:=hY ys ⟨q,x,hq3,hV⟩ wr hJs (by have:=congrArg List.length HYS.out; rw [List.length_map,downto_length] at this; omega)
   dsimp only at hy
   have HK:=Lib.hid hk
   have HQ:=Lib.hid hq
   have HQ2:=Lib.hid hq2
   have HLT:=Lib.hid hlt
   rw [hq2]
   clear hk hq hq2 hlt
   gi_wp2
   refine hR.mono ?_
   rintro e W3 (⟨rfl,hJ3,hk3⟩ | ⟨rfl,hJx3⟩)
   ·have hR3:=hKp _ _ hk3 hRx
    gi_wp2
    go_roundw
    case rel=>exact ⟨k + 1,by have:=HLT.out; omega,by have:=HQ2.out; congr 1; omega,hR3,_,by rw [List.map_append,HYS.out,downto_succ,← HQ.out]; rfl,hJ3⟩
    case measure=>simp [intOf]
   ·gi_wp2
    refine bodyPost_ret (results_none rfl _ _ _) rfl ?_
    exact ⟨⟨_,rfl⟩,.inr ⟨_,⟨k + 1,by have:=HLT.out; omega,by rw [List.map_append,HYS.out,downto_succ,← HQ.out]; rfl⟩,hJx3⟩⟩
  ·obtain rfl:k = len:=by omega
   have hq2:(k:Int) - 1 - k = -1:=by omega
   rw [hq2]
   clear hq2 hk
   gi_wp2
   go_end0
   exact ⟨⟨_,rfl⟩,.inl ⟨_,HYS.out,hJs⟩⟩
set_option maxHeartbeats 1000000 in
theorem bkU_in (F:Fence) (n:Nat) (h5:F.fn 179) (hro:F.round = none) (A:Option Addr) (len cap:Nat) (w:World) :
 CallsIn F n Tryz.prog 179 #[.slice A len cap] w fun e w'=>e = .returned (.func (.func 223) #[] #[.pointer (some ⟨w.heap.size,0,none⟩)]) ∧ w' = w.alloc (.cells #[.slice A len cap] 23):=by
 refine callsIn_of_wp Tryz.func179 rfl h5 ?_ hro
 simp only [Tryz.ntmps179,List.size_toArray,List.length_cons,List.length_nil,Nat.reduceAdd,Nat.reduceSub,Array.replicate_succ,Array.replicate_zero,List.push_toArray,List.append_toArray,List.nil_append,List.cons_append]
 gi_wp2
 go_ret
 exact ⟨rfl,rfl⟩
theorem bkU_stops (F:Fence) (n:Nat) (h7:F.fn 223) (hro:F.round = none) (hn:1 ≤ n) (Bs:Nat) (A:Option Addr) (len cap:Nat) (hlen:len ≤ 281474976710656) (V:Nat → Nat → Prop) (Kp:World → World → Prop) (hKp:∀ W W',Kp W W' → BkURx Bs A len cap V W → BkURx Bs A len cap V W') (w:World)
 (hkeep:∀ W,Below w.heap.size w W → BkURx Bs A len cap V W) :
 SeqStopsK F n Tryz.prog 223 #[.pointer (some ⟨Bs,0,none⟩)] (fun x:BkX len V=>#[.int .i64 (x.i:Int),.int .u64 (x.x:Int)]) Kp (fun ys=>ys.map (·.i) = downto len len) (fun pre=>∃ k,k ≤ len ∧ pre.map (·.i) = downto len k) len w :=
 fun l J Jx W hW _ _ hY h0=>bkU1_in F n h7 hro hn l Bs A len cap hlen V Kp hKp J Jx hY W (hkeep W hW) h0
def BkBRx (Bs:Nat) (A:Option Addr) (len cap:Nat) (V:Nat → Nat → Prop) (W:World):Prop :=
 W.cell? ⟨Bs,0,none⟩ = some (.slice A len cap) ∧ (0 < len → ∃ ad,A = some ad ∧ ∀ j,j < len → ∃ x,V j x ∧ W.cell? (ad.add j) = some (.int .u8 (x:Int)))
set_option maxRecDepth 100000 in
set_option maxHeartbeats 2000000 in
theorem bkB1_in (F:Fence) (n:Nat) (h7:F.fn 227) (hro:F.round = none) (hn:1 ≤ n) (l Bs:Nat) (A:Option Addr) (len cap:Nat) (hlen:len ≤ 281474976710656) (V:Nat → Nat → Prop) (Kp:World → World → Prop) (hKp:∀ W W',Kp W W' → BkBRx Bs A len cap V W → BkBRx Bs A len cap V W') (J Jx:List (BkX len V) → World → Prop)
 (hY:∀ pre x W,J pre W → pre.length < len → YieldAt F (n - 1) Tryz.prog l #[.int .i64 (x.i:Int),.int .u8 (x.x:Int)] W fun e W' =>
  (e = .returned (.bool true) ∧ J (pre ++ [x]) W' ∧ Kp W W') ∨ (e = .returned (.bool false) ∧ Jx (pre ++ [x]) W'))
 (W:World) (hR:BkBRx Bs A len cap V W) (h0:J [] W) :
 CallsIn F n Tryz.prog 227 #[.func (.yield l) #[] #[],.pointer (some ⟨Bs,0,none⟩)] W fun e W'=>(∃ v,e = .returned v) ∧
  ((∃ ys,ys.map (·.i) = downto len len ∧ J ys W') ∨ (∃ pre,(∃ k,k ≤ len ∧ pre.map (·.i) = downto len k) ∧ Jx pre W')):=by
 have hbox:=hR.1
 refine callsIn_of_wp Tryz.func227 rfl h7 ?_ hro
 simp only [Tryz.ntmps227,List.size_toArray,List.length_cons,List.length_nil,Nat.reduceAdd,Nat.reduceSub,Array.replicate_succ,Array.replicate_zero,List.push_toArray,List.append_toArray,List.nil_append,List.cons_append]
 gi_wp2
 clear hbox
 gi_loopw [3] (fun iv wr=>∃ k:Nat,k ≤ len ∧ iv = .int .i64 ((len:Int) - 1 - k) ∧ BkBRx Bs A len cap V wr ∧ ∃ ys,ys.map (·.i) = downto len k ∧ J ys wr)
  (fun iv _=>(intOf iv + 1).toNat)
 case atStart=>exact ⟨0,Nat.zero_le _,by simp,hR,[],rfl,h0⟩
 case round =>
  obtain ⟨k,hk,rfl,hRx,ys,hys,hJs⟩:=hrel
  have HYS:=Lib.hid hys
  clear hys
  by_cases hlt:k < len
  ·obtain ⟨q,hq⟩:∃ q,q = len - 1 - k:=⟨_,rfl⟩
   have hq2:(len:Int) - 1 - k = (q:Int):=by omega
   have hq3:q < len:=by omega
   obtain ⟨ad,e1,hcs⟩:=hRx.2 (by omega)
   obtain ⟨x,hV,hcx⟩:=hcs q hq3
   have hbx:=hRx.1
   subst e1
   obtain ⟨fn,tmps,assign,body,hy,hR⟩:=hY ys ⟨q,x,hq3,hV⟩ wr hJs (by have:=congrArg List.length HYS.out; rw [List.length_map,downto_length] at this; omega)
   dsimp only at hy
   have HK:=Lib.hid hk
   have HQ:=Lib.hid hq
   have HQ2:=Lib.hid hq2
   have HLT:=Lib.hid hlt
   rw [hq2]
   clear hk hq hq2 hlt
   gi_wp2
   refine hR.mono ?_
   rintro e W3 (⟨rfl,hJ3,hk3⟩ | ⟨rfl,hJx3⟩)
   ·have hR3:=hKp _ _ hk3 hRx
    gi_wp2
    go_roundw
    case rel=>exact ⟨k + 1,by have:=HLT.out; omega,by have:=HQ2.out; congr 1; omega,hR3,_,by rw [List.map_append,HYS.out,downto_succ,← HQ.out]; rfl,hJ3⟩
    case measure=>simp [intOf]
   ·gi_wp2
    refine bodyPost_ret (results_none rfl _ _ _) rfl ?_
    exact ⟨⟨_,rfl⟩,.inr ⟨_,⟨k + 1,by have:=HLT.out; omega,by rw [List.map_append,HYS.out,downto_succ,← HQ.out]; rfl⟩,hJx3⟩⟩
  ·obtain rfl:k = len:=by omega
   have hq2:(k:Int) - 1 - k = -1:=by omega
   rw [hq2]
   clear hq2 hk
   gi_wp2
   go_end0
   exact ⟨⟨_,rfl⟩,.inl ⟨_,HYS.out,hJs⟩⟩
set_option maxHeartbeats 1000000 in
theorem bkB_in (F:Fence) (n:Nat) (h5:F.fn 183) (hro:F.round = none) (A:Option Addr) (len cap:Nat) (w:World) :
 CallsIn F n Tryz.prog 183 #[.slice A len cap] w fun e w'=>e = .returned (.func (.func 227) #[] #[.pointer (some ⟨w.heap.size,0,none⟩)]) ∧ w' = w.alloc (.cells #[.slice A len cap] 251):=by
 refine callsIn_of_wp Tryz.func183 rfl h5 ?_ hro
 simp only [Tryz.ntmps183,List.size_toArray,List.length_cons,List.length_nil,Nat.reduceAdd,Nat.reduceSub,Array.replicate_succ,Array.replicate_zero,List.push_toArray,List.append_toArray,List.nil_append,List.cons_append]
 gi_wp2
 go_ret
 exact ⟨rfl,rfl⟩
theorem bkB_stops (F:Fence) (n:Nat) (h7:F.fn 227) (hro:F.round = none) (hn:1 ≤ n) (Bs:Nat) (A:Option Addr) (len cap:Nat) (hlen:len ≤ 281474976710656) (V:Nat → Nat → Prop) (Kp:World → World → Prop) (hKp:∀ W W',Kp W W' → BkBRx Bs A len cap V W → BkBRx Bs A len cap V W') (w:World)
 (hkeep:∀ W,Below w.heap.size w W → BkBRx Bs A len cap V W) :
 SeqStopsK F n Tryz.prog 227 #[.pointer (some ⟨Bs,0,none⟩)] (fun x:BkX len V=>#[.int .i64 (x.i:Int),.int .u8 (x.x:Int)]) Kp (fun ys=>ys.map (·.i) = downto len len) (fun pre=>∃ k,k ≤ len ∧ pre.map (·.i) = downto len k) len w :=
 fun l J Jx W hW _ _ hY h0=>bkB1_in F n h7 hro hn l Bs A len cap hlen V Kp hKp J Jx hY W (hkeep W hW) h0
end Go.Proofs.YtcpgflbfjplheaaGreatDoor
