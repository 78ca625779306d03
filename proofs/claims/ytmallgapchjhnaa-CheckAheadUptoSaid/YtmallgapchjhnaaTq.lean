/- Which structs are compared, and by which cells: read off by the kernel. No condition. -/
import Derived.Test.YtmallgapchjhnaaTy
import Derived.Test.YtmallgapchjhnaaAx17
import Derived.KernelRfl
namespace Go.Proofs.Ytmallgapchjhnaa
open Go Go.Ax
set_option maxRecDepth 100000
theorem fldq50 : FldQ Try.prog 0 [⟨ "Kind", 5, 0, false, "", "", 0⟩, ⟨ "N", 3, 1, false, "", "", 8⟩, ⟨ "Name", 9, 2, false, "", "", 16⟩] 0 [.int .u8, .int .i64, .str] := (.one (k := .int .u8) rfl rfl (by kernel_rfl) (fun _ => by kernel_rfl) (.one (k := .int .i64) rfl rfl (by kernel_rfl) (fun _ => by kernel_rfl) (.one (k := .str) rfl rfl (by kernel_rfl) (fun _ => by kernel_rfl) .nil)))
instance : TyQ Try.prog 50 [.int .u8, .int .i64, .str] := tyq_mk (by kernel_rfl) (by decide) (by kernel_rfl) (by kernel_rfl) fldq50
end Go.Proofs.Ytmallgapchjhnaa
