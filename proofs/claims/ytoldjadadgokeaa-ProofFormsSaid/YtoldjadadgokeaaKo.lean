/- What digest.constants answers. No condition. -/
import Derived.Test.YtoldjadadgokeaaMx
import Derived.Test.YtoldjadadgokeaaBl
import Derived.Deep.WholeRow
import Derived.Laws.Tables
import Derived.Laws.Rows
namespace Go.Proofs.Ytoldjadadgokeaa.Md
open Go.RowKit Go.Proofs.Ytoldjadadgokeaa.Bytes
/-- The constants as cells. -/
def kVals : Array Value := #[.int .u32 3614090360, .int .u32 3905402710, .int .u32 606105819, .int .u32 3250441966, .int .u32 4118548399, .int .u32 1200080426, .int .u32 2821735955, .int .u32 4249261313, .int .u32 1770035416, .int .u32 2336552879, .int .u32 4294925233, .int .u32 2304563134, .int .u32 1804603682, .int .u32 4254626195, .int .u32 2792965006, .int .u32 1236535329, .int .u32 4129170786, .int .u32 3225465664, .int .u32 643717713, .int .u32 3921069994, .int .u32 3593408605, .int .u32 38016083, .int .u32 3634488961, .int .u32 3889429448, .int .u32 568446438, .int .u32 3275163606, .int .u32 4107603335, .int .u32 1163531501, .int .u32 2850285829, .int .u32 4243563512, .int .u32 1735328473, .int .u32 2368359562, .int .u32 4294588738, .int .u32 2272392833, .int .u32 1839030562, .int .u32 4259657740, .int .u32 2763975236, .int .u32 1272893353, .int .u32 4139469664, .int .u32 3200236656, .int .u32 681279174, .int .u32 3936430074, .int .u32 3572445317, .int .u32 76029189, .int .u32 3654602809, .int .u32 3873151461, .int .u32 530742520, .int .u32 3299628645, .int .u32 4096336452, .int .u32 1126891415, .int .u32 2878612391, .int .u32 4237533241, .int .u32 1700485571, .int .u32 2399980690, .int .u32 4293915773, .int .u32 2240044497, .int .u32 1873313359, .int .u32 4264355552, .int .u32 2734768916, .int .u32 1309151649, .int .u32 4149444226, .int .u32 3174756917, .int .u32 718787259, .int .u32 3951481745]
theorem kVals_one : kVals.all (·.oneCell') = true := by decide +kernel
theorem info87 : (Try.prog.info? 87).map (·.size) = some kVals.size := by kernel_rfl
set_option maxHeartbeats 1000000 in
set_option maxRecDepth 100000 in
theorem constants_calls (w : World) : Calls Try.prog 54 #[] w fun e w' => e = .returned (.agg kVals) ∧ Below w.heap.size w w' := by
  go_enter Try.func54, Try.ntmps54
  go_wp2_with (refine wpList_store_row rfl 87 (.tmp 0) (.tmp 1) rfl w.heap.size kVals rfl rfl 87 _ (heap_alloc_new w _) info87 (by kernel_rfl) kVals_one ?_)
  rw [World.setRow_alloc_new]
  refine bodyPost_ret (v := .agg kVals) (results_cell_row (g := w.heap.size) (cs := kVals) Try.results54 _ _ 87 (0, 0) _ rfl (heap_alloc_new w _) Try.underlying87 rfl info87) rfl ⟨rfl, (Below.refl _ _).alloc (Nat.le_refl _) _⟩
end Go.Proofs.Ytoldjadadgokeaa.Md
