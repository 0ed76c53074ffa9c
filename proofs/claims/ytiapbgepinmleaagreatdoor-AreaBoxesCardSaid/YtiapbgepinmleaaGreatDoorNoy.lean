import Derived.Test.YtiapbgepinmleaaGreatDoorNdy
import Derived.Test.YtiapbgepinmleaaGreatDoorNcy
import Derived.Test.YtiapbgepinmleaaGreatDoorTfy
import Derived.Test.YtiapbgepinmleaaGreatDoorMgy
namespace Go.Proofs.YtiapbgepinmleaaGreatDoor
open Go.RowKit Gs
set_option linter.unusedVariables false
theorem ten_alloc (W : World) : (Instr.alloc 260 true (.tuple #[])).run Tryz.prog W = .ok (.pointer (some ⟨W.heap.size, 0, none⟩)) (W.alloc (.cells (Value.int .u32 0 :: Value.int .i32 0 :: Value.int .u32 0 :: nums .u64 (List.replicate 19 0)).toArray 260)) := by kernel_rfl
theorem ten_new (W : World) : TenS (W.alloc (.cells (Value.int .u32 0 :: Value.int .i32 0 :: Value.int .u32 0 :: nums .u64 (List.replicate 19 0)).toArray 260)) W.heap.size := ⟨List.replicate 19 0, .inl ⟨heap_alloc_new W _, rfl⟩⟩
end Go.Proofs.YtiapbgepinmleaaGreatDoor
