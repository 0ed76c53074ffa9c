import Derived.Test.YtcpgflbfjplheaaGreatDoorKby
import Derived.Test.YtcpgflbfjplheaaGreatDoorNay
import Derived.Defers
import Derived.Laws.Pointers
import Derived.Laws.LoneSync
import Derived.RegionCalls
import Derived.ChangeAlike
namespace Go.Proofs.YtcpgflbfjplheaaGreatDoor
open Go.RowKit Gs
set_option linter.unusedVariables false
theorem race_disable (w:World):(callFunc 270 #[]).run Tryz.prog w = .ok (.value (.tuple #[])) w:=run_call_mark0 Tryz.func270 (by kernel_rfl) (by kernel_rfl) (by kernel_rfl) .disable (by kernel_rfl) w
theorem race_enable (w:World):(callFunc 272 #[]).run Tryz.prog w = .ok (.value (.tuple #[])) w:=run_call_mark0 Tryz.func272 (by kernel_rfl) (by kernel_rfl) (by kernel_rfl) .enable (by kernel_rfl) w
theorem race_acquire (a:Addr) (w:World):(callFunc 273 #[.pointer (some a)]).run Tryz.prog w = .ok (.value (.tuple #[])) w:=run_call_marked Tryz.func273 (by kernel_rfl) (by kernel_rfl) (by kernel_rfl) .acquire (by kernel_rfl) a w
theorem race_releaseMerge (a:Addr) (w:World):(callFunc 275 #[.pointer (some a)]).run Tryz.prog w = .ok (.value (.tuple #[])) w:=run_call_marked Tryz.func275 (by kernel_rfl) (by kernel_rfl) (by kernel_rfl) .releaseMerge (by kernel_rfl) a w
theorem once_store (a:Addr) (x:Value) (u:FrameMode) (w:World) (hc:w.cell? a = some x) (hz:w.frozen? a = false) :
 CallsD Tryz.prog 247 #[.pointer (some a),.bool true] u w fun e u' w'=>u' = u ∧ (e = .returned (.tuple #[]) ∧ w' = w.drew.setCell a (.int .u32 1)):=by
 have hc':w.drew.cell? a = some x:=by go_simp
 have hz':w.drew.frozen? a = false:=by go_simp
 have hst:=run_call_store (P:=Tryz.prog) Tryz.func262 (by kernel_rfl) (by kernel_rfl) (by kernel_rfl) (by kernel_rfl) (k:=.u32) (y:=1) hc' hz'
 go_enter_d Tryz.func247,Tryz.ntmps247
 go_wp2
 go_region_calls
 all_goals (go_end0; exact ⟨rfl,rfl⟩)
set_option maxRecDepth 100000 in
set_option maxHeartbeats 1600000 in
theorem once_unlock (a:Addr) (u:FrameMode) (w:World) (hc:w.cell? a = some (.int .i32 1)) (hz:w.frozen? a = false) :
 CallsD Tryz.prog 246 #[.pointer (some a)] u w fun e u' w'=>u' = u ∧ (e = .returned (.tuple #[]) ∧ w' = w.setCell a (.int .i32 0)):=by
 have hd:=race_disable
 have he:=race_enable
 have hr:=race_releaseMerge
 have hadd:=run_call_add (P:=Tryz.prog) Tryz.func276 (by kernel_rfl) (by kernel_rfl) (by kernel_rfl) .i32 (by kernel_rfl) (y:=-1) (s:=0) hc hz (by simp [go_sem]; rfl)
 have hcv:=run_convert_to_unsafe (P:=Tryz.prog) (src:=337) (dst:=334) Tryz.underlying337 Tryz.underlying334 (by kernel_rfl) hc
 go_enter_d Tryz.func246,Tryz.ntmps246
 go_wp2
 go_end0
 go_wp2
 go_end0
 exact ⟨rfl,rfl⟩
set_option maxRecDepth 100000 in
set_option maxHeartbeats 1600000 in
theorem once_lock (a:Addr) (w:World) (hc:w.cell? a = some (.int .i32 0)) (hz:w.frozen? a = false) :
 Calls Tryz.prog 245 #[.pointer (some a)] w fun e w'=>e = .returned (.tuple #[]) ∧ w' = w.setCell a (.int .i32 1):=by
 have hd:=race_disable
 have he:=race_enable
 have ha:=race_acquire
 have hcas:=run_call_cas_hit (P:=Tryz.prog) Tryz.func271 (by kernel_rfl) (by kernel_rfl) (by kernel_rfl) .i32 (by kernel_rfl) (y:=1) hc hz
 have hc':(w.setCell a (.int .i32 1)).cell? a = some (.int .i32 1):=World.cell?_setCell_same w a _ hc
 have hcv:=run_convert_to_unsafe (P:=Tryz.prog) (src:=337) (dst:=334) Tryz.underlying337 Tryz.underlying334 (by kernel_rfl) hc'
 go_enter Tryz.func245,Tryz.ntmps245
 go_wp2
 first | go_end0 | (simp only [Exit.inBlock,Exit.then]; refine bodyPost_ret (results_none rfl _ _ _) rfl ?_) | refine bodyPost_ret (results_none rfl _ _ _) rfl ?_
 go_wp2
 go_end0
 exact ⟨rfl,rfl⟩
structure TenW (w:World) (g:Nat) (d mu:Int) (xs:List Nat):Prop where
 heap:w.heap[g]? = some (.cells (Value.int .u32 d :: Value.int .i32 mu :: Value.int .u32 0 :: nums .u64 xs).toArray 246 (0,0))
 len:xs.length = 19
variable {w w1:World} {g:Nat} {d mu:Int} {xs:List Nat}
theorem TenW.free (h:TenW w g d mu xs) (j:Nat):w.frozen? ⟨g,j,none⟩ = false:=by simp [World.frozen?,h.heap]
theorem TenW.c0 (h:TenW w g d mu xs):w.cell? ⟨g,0,none⟩ = some (.int .u32 d):=by simp [World.cell?,h.heap]
theorem TenW.c1 (h:TenW w g d mu xs):w.cell? ⟨g,1,none⟩ = some (.int .i32 mu):=by simp [World.cell?,h.heap]
theorem TenW.cN (h:TenW w g d mu xs) (j:Nat) (hj:j < 19):w.cell? ⟨g,3 + j,none⟩ = some (.int .u64 (gd xs j:Nat)):=by
 have h1:=nums_get .u64 xs j (by rw [h.len]; exact hj)
 simp only [World.cell?,h.heap]
 rw [show 3 + j = j + 1 + 1 + 1 by omega]
 simpa using h1
theorem TenW.keep (h:TenW w g d mu xs) (hk:w1.heap[g]? = w.heap[g]?):TenW w1 g d mu xs:=⟨hk.trans h.heap,h.len⟩
theorem TenW.drew (h:TenW w g d mu xs):TenW w.drew g d mu xs:=⟨h.heap,h.len⟩
theorem TenW.set0 (h:TenW w g d mu xs) (e:Int):TenW (w.setCell ⟨g,0,none⟩ (.int .u32 e)) g e mu xs:=⟨by simp [World.setCell,Array.getElem?_modify,h.heap],h.len⟩
theorem TenW.set1 (h:TenW w g d mu xs) (e:Int):TenW (w.setCell ⟨g,1,none⟩ (.int .i32 e)) g d e xs:=⟨by simp [World.setCell,Array.getElem?_modify,h.heap],h.len⟩
theorem TenW.setN (h:TenW w g d mu xs) (j x:Nat):TenW (w.setCell ⟨g,3 + j,none⟩ (.int .u64 (x:Int))) g d mu (xs.set j x):=by
 refine ⟨?_,by rw [List.length_set]; exact h.len⟩
 have e:(nums .u64 xs).set j (.int .u64 (x:Int)) = nums .u64 (xs.set j x):=by simp [nums,List.map_set]
 rw [← e]
 simp only [World.setCell,Array.getElem?_modify,h.heap]
 rw [show 3 + j = j + 1 + 1 + 1 by omega]
 simp
end Go.Proofs.YtcpgflbfjplheaaGreatDoor
