import Derived.Test.YtcpgflbfjplheaaGreatDoorNdy
import Derived.Test.YtcpgflbfjplheaaGreatDoorNcy
import Derived.Test.YtcpgflbfjplheaaGreatDoorTfy
import Derived.Test.YtcpgflbfjplheaaGreatDoorMgy
namespace Go.Proofs.YtcpgflbfjplheaaGreatDoor
open Go.RowKit Gs
set_option linter.unusedVariables false
theorem ten_alloc (W:World):(Instr.alloc 246 true (.tuple #[])).run Tryz.prog W = .ok (.pointer (some ⟨W.heap.size,0,none⟩)) (W.alloc (.cells (Value.int .u32 0 :: Value.int .i32 0 :: Value.int .u32 0 :: nums .u64 (List.replicate 19 0)).toArray 246)):=by kernel_rfl
theorem ten_new (W:World):TenS (W.alloc (.cells (Value.int .u32 0 :: Value.int .i32 0 :: Value.int .u32 0 :: nums .u64 (List.replicate 19 0)).toArray 246)) W.heap.size:=⟨List.replicate 19 0,.inl ⟨heap_alloc_new W _,rfl⟩⟩
end Go.Proofs.YtcpgflbfjplheaaGreatDoor
