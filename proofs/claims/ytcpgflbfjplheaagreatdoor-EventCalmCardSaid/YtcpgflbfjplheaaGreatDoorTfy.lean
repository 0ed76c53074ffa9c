import Derived.Test.YtcpgflbfjplheaaGreatDoorTey
import Derived.Test.YtcpgflbfjplheaaGreatDoorNfy
namespace Go.Proofs.YtcpgflbfjplheaaGreatDoor
open Go.RowKit Gs
set_option linter.unusedVariables false
def Tens (k:Nat) (xs:List Nat):Prop:=∀ j,j ≤ k → gd xs j = 10 ^ j
set_option maxRecDepth 100000 in
set_option maxHeartbeats 2000000 in
theorem ten_fill {w:World} {g:Nat} {d mu:Int} {xs:List Nat} (h:TenW w g d mu xs) :
 Calls Tryz.prog 226 #[.pointer (some ⟨g,0,none⟩)] w fun e w'=>∃ ys,e = .returned (.tuple #[]) ∧ TenW w' g d mu ys ∧ Tens 18 ys ∧ Solo g w w':=by
 have c3:=h.cN 0 (by omega)
 have f3:=h.free 3
 go_enter Tryz.func226,Tryz.ntmps226
 go_wp2
 go_loopw [7] (fun iv wr=>∃ (i:Nat) (ys:List Nat),i ≤ 18 ∧ iv = .int .i64 i ∧ TenW wr g d mu ys ∧ Tens i ys ∧ Solo g w wr) (fun iv _=>18 - (intOf iv).toNat)
 case atStart =>
  refine ⟨0,xs.set 0 1,by omega,rfl,h.setN 0 1,?_,(Solo.refl g w).setCell _ _⟩
  intro j hj
  obtain rfl:j = 0:=by omega
  exact gd_set_self (by rw [h.len]; omega) 1
 case round =>
  obtain ⟨i,ys,hi,rfl,ht,hp,hs⟩:=hrel
  by_cases hlt:i < 18
  ·have hpi:=hp i (Nat.le_refl _)
   have hcN:=ht.drew.cN i (by omega)
   have hfN:=ht.drew.free (3 + (i + 1))
   have hcM:=ht.drew.cN (i + 1) (by omega)
   rw [hpi] at hcN
   have hz1:10 ^ i ≤ 10 ^ 18:=Nat.pow_le_pow_right (by omega) (by omega)
   obtain ⟨z,hz⟩:∃ z,z = 10 ^ i:=⟨_,rfl⟩
   rw [← hz] at hcN hz1
   have hz2:z < 1000000000000000001:=Nat.lt_succ_of_le hz1
   have sm:IntKind.u64.wrap ((z:Int) * 10) = ((z * 10:Nat):Int):=by rw [IntKind.wrap_u64]; omega
   have t1:(i:Int) < 19:=by omega
   have t2:(i:Int) + 1 < 19:=by omega
   have t3:(0:Int) ≤ (i:Int) + 1:=by omega
   have t4:((i:Int) + 1).toNat = i + 1:=by omega
   have s1:IntKind.i64.wrap ((i:Int) + 1) = (i:Int) + 1:=IntWalk.i64_in _ (by omega)
   have hnew:Tens (i + 1) (ys.set (i + 1) (z * 10)):=by
    intro j hj
    rcases Nat.lt_or_ge j (i + 1) with h1 | h1
    ·rw [gd_set_ne (by omega)]; exact hp j (by omega)
    ·obtain rfl:j = i + 1:=by omega
     rw [gd_set_self (by rw [ht.len]; omega),hz,Nat.pow_succ]
   have HN:=Lib.hid hnew
   clear hnew hpi hz hz1 hp
   go_wp2
   go_region_law fail
   all_goals
    go_wp2
    go_roundw
    case rel=>exact ⟨i + 1,_,by omega,by go_num,ht.drew.setN (i + 1) (z * 10),HN.out,hs.drew.setCell _ _⟩
    case measure=>simp [intOf]; omega
  ·obtain rfl:i = 18:=by omega
   have HP:=Lib.hid hp
   clear hp
   go_wp2
   go_end0
   exact ⟨ys,rfl,ht,HP.out,hs⟩
theorem once_load {w:World} {a:Addr} {d:Int} (h:w.cell? a = some (.int .u32 d)) :
 Calls Tryz.prog 194 #[.pointer (some a)] w fun e w'=>e = .returned (.bool (d != 0)) ∧ w = w':=by
 have hl:=run_call_load (P:=Tryz.prog) Tryz.func244 (by kernel_rfl) (by kernel_rfl) (by kernel_rfl) .u32 (by kernel_rfl) h
 go_enter Tryz.func194,Tryz.ntmps194
 go_wp2
 go_ret
 exact ⟨rfl,rfl⟩
set_option maxRecDepth 100000 in
set_option maxHeartbeats 2000000 in
theorem once_slow {w:World} {g:Nat} {xs:List Nat} (h:TenW w g 0 0 xs) :
 Calls Tryz.prog 195 #[.pointer (some ⟨g,0,none⟩),.func (.func 226) #[.pointer (some ⟨g,0,none⟩)] #[]] w fun e w'=>∃ ys,e = .returned (.tuple #[]) ∧ TenW w' g 1 0 ys ∧ Tens 18 ys ∧ Solo g w w':=by
 have h1:=h.set1 1
 have hnot:∀ (x:Bool) (w:World),(Op.unary .not (.bool x)).run Tryz.prog w = .ok (.bool (!x)) w:=fun _ _=>rfl
 go_enter_defers Tryz.func195,Tryz.ntmps195
 go_wp2_with (first | (go_at_call 245; refine (once_lock ⟨g,1,none⟩ _ h.c1 (h.free 1)).mono ?_; rintro e w' ⟨rfl,rfl⟩) | (go_at_call 194; refine (once_load h1.c0).mono ?_; rintro e w' ⟨rfl,rfl⟩) | (go_at_call 226; refine (ten_fill h1).mono ?_; rintro e w' ⟨ys,rfl,h2,hT,hS⟩))
 refine leaves_cons (f:=247) (args:=#[.pointer (some ⟨g,0,none⟩),.bool true]) (by simp) (by simp [go_sem]) ?_
 refine (once_store ⟨g,0,none⟩ _ .returning _ h2.c0 (h2.free 0)).mono ?_
 rintro e u' w'' ⟨rfl,rfl,rfl⟩
 have h3:=h2.drew.set0 1
 refine leaves_cons (f:=246) (args:=#[.pointer (some ⟨g,1,none⟩)]) (by simp [settle]) (by simp [go_sem]) ?_
 refine (once_unlock ⟨g,1,none⟩ _ _ h3.c1 (h3.free 1)).mono ?_
 rintro e u' w'' ⟨rfl,rfl,rfl⟩
 have h4:=h3.set1 0
 have hS4:Solo g w _:=(((((Solo.refl g w).setCell 1 (.int .i32 1)).trans hS).drew.setCell 0 (.int .u32 1)).setCell 1 (.int .i32 0))
 simp [Leaves,settle,results,Tryz.results195]
 exact ⟨ys,h4,hT,hS4⟩
def TenS (w:World) (g:Nat):Prop:=∃ xs,TenW w g 0 0 xs ∨ (TenW w g 1 0 xs ∧ Tens 18 xs)
theorem TenS.keep {w w1:World} {g:Nat} (h:TenS w g) (hk:w1.heap[g]? = w.heap[g]?):TenS w1 g:=by
 obtain ⟨xs,h | ⟨h,ht⟩⟩:=h
 ·exact ⟨xs,.inl (h.keep hk)⟩
 ·exact ⟨xs,.inr ⟨h.keep hk,ht⟩⟩
theorem TenS.lt {w:World} {g:Nat} (h:TenS w g):g < w.heap.size:=by
 obtain ⟨xs,h | ⟨h,ht⟩⟩:=h <;> exact (Array.getElem?_eq_some_iff.1 h.heap).1
set_option maxRecDepth 100000 in
set_option maxHeartbeats 2000000 in
theorem once_Do {w:World} {g:Nat} (h:TenS w g) :
 Calls Tryz.prog 138 #[.pointer (some ⟨g,0,none⟩),.func (.func 226) #[.pointer (some ⟨g,0,none⟩)] #[]] w fun e w'=>∃ ys,e = .returned (.tuple #[]) ∧ TenW w' g 1 0 ys ∧ Tens 18 ys ∧ Solo g w w':=by
 have hnot:∀ (x:Bool) (w:World),(Op.unary .not (.bool x)).run Tryz.prog w = .ok (.bool (!x)) w:=fun _ _=>rfl
 obtain ⟨xs,h | ⟨h,ht⟩⟩:=h
 ·go_enter Tryz.func138,Tryz.ntmps138
  go_wp2_with (first | (go_at_call 194; refine (once_load h.c0).mono ?_; rintro e w' ⟨rfl,rfl⟩) | (go_at_call 195; refine (once_slow h).mono ?_; rintro e w' ⟨ys,rfl,h2,hT,hS⟩))
  go_end0
  exact ⟨ys,rfl,h2,hT,hS⟩
 ·go_enter Tryz.func138,Tryz.ntmps138
  go_wp2_with (go_at_call 194; refine (once_load h.c0).mono ?_; rintro e w' ⟨rfl,rfl⟩)
  go_end0
  exact ⟨xs,rfl,h,ht,Solo.refl g w⟩
set_option maxRecDepth 100000 in
set_option maxHeartbeats 2000000 in
theorem ten_power {w:World} {g:Nat} {n:Int} (h:TenS w g) (h0:0 ≤ n) (hn:n ≤ 18) :
 Calls Tryz.prog 182 #[.pointer (some ⟨g,0,none⟩),.int .i64 n] w fun e w'=>e = .returned (.int .u64 (10 ^ n.toNat:Nat)) ∧ TenS w' g ∧ Solo g w w':=by
 obtain ⟨m,rfl⟩:=Int.eq_ofNat_of_zero_le h0
 have hmf:∀ (fn:Fn) (first cap:Array Value) (w:World),(Instr.makeFunc fn first cap).run Tryz.prog w = .ok (.func fn first cap) w:=fun _ _ _ _=>rfl
 have t1:(m:Int) < 19:=by omega
 go_enter Tryz.func182,Tryz.ntmps182
 go_wp2_with (go_at_call 138; refine (once_Do h).mono ?_; rintro e w' ⟨ys,rfl,h2,hT,hS⟩; have hc:=h2.cN m (by omega); have hp:=Lib.hid (hT m (by omega)))
 go_ret
 exact ⟨by rw [Int.toNat_natCast,← hp.out]; rfl,⟨ys,.inr ⟨h2,hT⟩⟩,hS⟩
end Go.Proofs.YtcpgflbfjplheaaGreatDoor
