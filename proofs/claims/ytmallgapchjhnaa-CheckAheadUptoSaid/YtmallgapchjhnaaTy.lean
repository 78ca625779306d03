/- What the program's tables say of the types and functions in the proofs below, each read off by the kernel. No condition. -/
import Derived.Test.YtmallgapchjhnaaProg
import Derived.Test.YtmallgapchjhnaaAx14
import Derived.KernelRfl
namespace Go.Proofs.Ytmallgapchjhnaa
open Go.Ax
set_option maxRecDepth 100000
instance : Ty1 Try.prog 2 := ⟨fun _ => ⟨by kernel_rfl, by kernel_rfl⟩⟩
instance : Ty1 Try.prog 3 := ⟨fun _ => ⟨by kernel_rfl, by kernel_rfl⟩⟩
instance : Ty1 Try.prog 4 := ⟨fun _ => ⟨by kernel_rfl, by kernel_rfl⟩⟩
instance : Ty1 Try.prog 5 := ⟨fun _ => ⟨by kernel_rfl, by kernel_rfl⟩⟩
instance : Ty1 Try.prog 9 := ⟨fun _ => ⟨by kernel_rfl, by kernel_rfl⟩⟩
instance : Ty1 Try.prog 22 := ⟨fun _ => ⟨by kernel_rfl, by kernel_rfl⟩⟩
instance : Ty1 Try.prog 23 := ⟨fun _ => ⟨by kernel_rfl, by kernel_rfl⟩⟩
instance : Ty1 Try.prog 26 := ⟨fun _ => ⟨by kernel_rfl, by kernel_rfl⟩⟩
instance : Ty1 Try.prog 28 := ⟨fun _ => ⟨by kernel_rfl, by kernel_rfl⟩⟩
instance : Ty1 Try.prog 29 := ⟨fun _ => ⟨by kernel_rfl, by kernel_rfl⟩⟩
instance : Ty1 Try.prog 35 := ⟨fun _ => ⟨by kernel_rfl, by kernel_rfl⟩⟩
instance : Ty1 Try.prog 39 := ⟨fun _ => ⟨by kernel_rfl, by kernel_rfl⟩⟩
instance : Ty1 Try.prog 42 := ⟨fun _ => ⟨by kernel_rfl, by kernel_rfl⟩⟩
instance : Ty1 Try.prog 48 := ⟨fun _ => ⟨by kernel_rfl, by kernel_rfl⟩⟩
instance : Ty1 Try.prog 51 := ⟨fun _ => ⟨by kernel_rfl, by kernel_rfl⟩⟩
instance : Ty1 Try.prog 56 := ⟨fun _ => ⟨by kernel_rfl, by kernel_rfl⟩⟩
instance : Ty1 Try.prog 57 := ⟨fun _ => ⟨by kernel_rfl, by kernel_rfl⟩⟩
instance : Ty1 Try.prog 69 := ⟨fun _ => ⟨by kernel_rfl, by kernel_rfl⟩⟩
instance : Ty1 Try.prog 80 := ⟨fun _ => ⟨by kernel_rfl, by kernel_rfl⟩⟩
instance : Ty1 Try.prog 85 := ⟨fun _ => ⟨by kernel_rfl, by kernel_rfl⟩⟩
instance : Ty1 Try.prog 89 := ⟨fun _ => ⟨by kernel_rfl, by kernel_rfl⟩⟩
instance : Ty1 Try.prog 97 := ⟨fun _ => ⟨by kernel_rfl, by kernel_rfl⟩⟩
instance : Ty1 Try.prog 108 := ⟨fun _ => ⟨by kernel_rfl, by kernel_rfl⟩⟩
instance : Ty1 Try.prog 113 := ⟨fun _ => ⟨by kernel_rfl, by kernel_rfl⟩⟩
instance : Ty1 Try.prog 128 := ⟨fun _ => ⟨by kernel_rfl, by kernel_rfl⟩⟩
instance : TyN Try.prog 25 2 := ⟨fun _ => ⟨by kernel_rfl, by kernel_rfl⟩⟩
instance : TyN Try.prog 31 3 := ⟨fun _ => ⟨by kernel_rfl, by kernel_rfl⟩⟩
instance : TyN Try.prog 44 5 := ⟨fun _ => ⟨by kernel_rfl, by kernel_rfl⟩⟩
instance : TyN Try.prog 50 3 := ⟨fun _ => ⟨by kernel_rfl, by kernel_rfl⟩⟩
instance : TyN Try.prog 53 7 := ⟨fun _ => ⟨by kernel_rfl, by kernel_rfl⟩⟩
instance : TyN Try.prog 59 5 := ⟨fun _ => ⟨by kernel_rfl, by kernel_rfl⟩⟩
instance : TyN Try.prog 71 6 := ⟨fun _ => ⟨by kernel_rfl, by kernel_rfl⟩⟩
instance : TyN Try.prog 73 11 := ⟨fun _ => ⟨by kernel_rfl, by kernel_rfl⟩⟩
instance : TyN Try.prog 78 4 := ⟨fun _ => ⟨by kernel_rfl, by kernel_rfl⟩⟩
instance : TyN Try.prog 82 6 := ⟨fun _ => ⟨by kernel_rfl, by kernel_rfl⟩⟩
instance : TyN Try.prog 103 3 := ⟨fun _ => ⟨by kernel_rfl, by kernel_rfl⟩⟩
instance : TyN Try.prog 106 2 := ⟨fun _ => ⟨by kernel_rfl, by kernel_rfl⟩⟩
instance : TyN Try.prog 115 8 := ⟨fun _ => ⟨by kernel_rfl, by kernel_rfl⟩⟩
instance : TyN Try.prog 140 5 := ⟨fun _ => ⟨by kernel_rfl, by kernel_rfl⟩⟩
instance : TySz Try.prog 2 1 := ⟨fun _ => by kernel_rfl⟩
instance : TySz Try.prog 3 1 := ⟨fun _ => by kernel_rfl⟩
instance : TySz Try.prog 4 1 := ⟨fun _ => by kernel_rfl⟩
instance : TySz Try.prog 5 1 := ⟨fun _ => by kernel_rfl⟩
instance : TySz Try.prog 9 1 := ⟨fun _ => by kernel_rfl⟩
instance : TySz Try.prog 22 1 := ⟨fun _ => by kernel_rfl⟩
instance : TySz Try.prog 23 1 := ⟨fun _ => by kernel_rfl⟩
instance : TySz Try.prog 25 2 := ⟨fun _ => by kernel_rfl⟩
instance : TySz Try.prog 26 1 := ⟨fun _ => by kernel_rfl⟩
instance : TySz Try.prog 28 1 := ⟨fun _ => by kernel_rfl⟩
instance : TySz Try.prog 29 1 := ⟨fun _ => by kernel_rfl⟩
instance : TySz Try.prog 31 3 := ⟨fun _ => by kernel_rfl⟩
instance : TySz Try.prog 35 1 := ⟨fun _ => by kernel_rfl⟩
instance : TySz Try.prog 39 1 := ⟨fun _ => by kernel_rfl⟩
instance : TySz Try.prog 42 1 := ⟨fun _ => by kernel_rfl⟩
instance : TySz Try.prog 44 5 := ⟨fun _ => by kernel_rfl⟩
instance : TySz Try.prog 48 1 := ⟨fun _ => by kernel_rfl⟩
instance : TySz Try.prog 50 3 := ⟨fun _ => by kernel_rfl⟩
instance : TySz Try.prog 51 1 := ⟨fun _ => by kernel_rfl⟩
instance : TySz Try.prog 53 7 := ⟨fun _ => by kernel_rfl⟩
instance : TySz Try.prog 56 1 := ⟨fun _ => by kernel_rfl⟩
instance : TySz Try.prog 57 1 := ⟨fun _ => by kernel_rfl⟩
instance : TySz Try.prog 59 5 := ⟨fun _ => by kernel_rfl⟩
instance : TySz Try.prog 69 1 := ⟨fun _ => by kernel_rfl⟩
instance : TySz Try.prog 71 6 := ⟨fun _ => by kernel_rfl⟩
instance : TySz Try.prog 73 11 := ⟨fun _ => by kernel_rfl⟩
instance : TySz Try.prog 78 4 := ⟨fun _ => by kernel_rfl⟩
instance : TySz Try.prog 80 1 := ⟨fun _ => by kernel_rfl⟩
instance : TySz Try.prog 82 6 := ⟨fun _ => by kernel_rfl⟩
instance : TySz Try.prog 85 1 := ⟨fun _ => by kernel_rfl⟩
instance : TySz Try.prog 87 3 := ⟨fun _ => by kernel_rfl⟩
instance : TySz Try.prog 89 1 := ⟨fun _ => by kernel_rfl⟩
instance : TySz Try.prog 97 1 := ⟨fun _ => by kernel_rfl⟩
instance : TySz Try.prog 103 3 := ⟨fun _ => by kernel_rfl⟩
instance : TySz Try.prog 106 2 := ⟨fun _ => by kernel_rfl⟩
instance : TySz Try.prog 108 1 := ⟨fun _ => by kernel_rfl⟩
instance : TySz Try.prog 113 1 := ⟨fun _ => by kernel_rfl⟩
instance : TySz Try.prog 115 8 := ⟨fun _ => by kernel_rfl⟩
instance : TySz Try.prog 128 1 := ⟨fun _ => by kernel_rfl⟩
instance : TySz Try.prog 140 5 := ⟨fun _ => by kernel_rfl⟩
instance : TyU Try.prog 2 (.int .i64) := ⟨by kernel_rfl⟩
instance : TyU Try.prog 3 (.int .i64) := ⟨by kernel_rfl⟩
instance : TyU Try.prog 4 .bool := ⟨by kernel_rfl⟩
instance : TyU Try.prog 5 (.int .u8) := ⟨by kernel_rfl⟩
instance : TyU Try.prog 9 .string := ⟨by kernel_rfl⟩
instance : TyU Try.prog 22 (.slice 106) := ⟨by kernel_rfl⟩
instance : TyU Try.prog 23 (.slice 53) := ⟨by kernel_rfl⟩
instance : TyU Try.prog 26 (.slice 2) := ⟨by kernel_rfl⟩
instance : TyU Try.prog 27 (.int .u16) := ⟨by kernel_rfl⟩
instance : TyU Try.prog 28 (.slice 59) := ⟨by kernel_rfl⟩
instance : TyU Try.prog 29 (.slice 87) := ⟨by kernel_rfl⟩
instance : TyU Try.prog 35 (.int .i64) := ⟨by kernel_rfl⟩
instance : TyU Try.prog 39 (.slice 44) := ⟨by kernel_rfl⟩
instance : TyU Try.prog 42 (.slice 103) := ⟨by kernel_rfl⟩
instance : TyU Try.prog 48 (.slice 78) := ⟨by kernel_rfl⟩
instance : TyU Try.prog 51 (.slice 73) := ⟨by kernel_rfl⟩
instance : TyU Try.prog 56 (.slice 82) := ⟨by kernel_rfl⟩
instance : TyU Try.prog 57 (.slice 115) := ⟨by kernel_rfl⟩
instance : TyU Try.prog 62 (.slice 4) := ⟨by kernel_rfl⟩
instance : TyU Try.prog 68 (.slice 5) := ⟨by kernel_rfl⟩
instance : TyU Try.prog 69 (.slice 71) := ⟨by kernel_rfl⟩
instance : TyU Try.prog 80 (.slice 9) := ⟨by kernel_rfl⟩
instance : TyU Try.prog 85 (.slice 3) := ⟨by kernel_rfl⟩
instance : TyU Try.prog 97 (.slice 128) := ⟨by kernel_rfl⟩
instance : TyU Try.prog 113 (.slice 140) := ⟨by kernel_rfl⟩
instance : TyU Try.prog 128 (.slice 26) := ⟨by kernel_rfl⟩
instance : TyFd Try.prog 25 0 0 1 := ⟨fun _ _ _ => by kernel_rfl⟩
instance : TyFd Try.prog 25 1 1 1 := ⟨fun _ _ _ => by kernel_rfl⟩
instance : TyFd Try.prog 31 0 0 1 := ⟨fun _ _ _ => by kernel_rfl⟩
instance : TyFd Try.prog 31 1 1 1 := ⟨fun _ _ _ => by kernel_rfl⟩
instance : TyFd Try.prog 31 2 2 1 := ⟨fun _ _ _ => by kernel_rfl⟩
instance : TyFd Try.prog 44 0 0 1 := ⟨fun _ _ _ => by kernel_rfl⟩
instance : TyFd Try.prog 44 1 1 1 := ⟨fun _ _ _ => by kernel_rfl⟩
instance : TyFd Try.prog 44 2 2 1 := ⟨fun _ _ _ => by kernel_rfl⟩
instance : TyFd Try.prog 44 3 3 1 := ⟨fun _ _ _ => by kernel_rfl⟩
instance : TyFd Try.prog 44 4 4 1 := ⟨fun _ _ _ => by kernel_rfl⟩
instance : TyFd Try.prog 50 0 0 1 := ⟨fun _ _ _ => by kernel_rfl⟩
instance : TyFd Try.prog 50 1 1 1 := ⟨fun _ _ _ => by kernel_rfl⟩
instance : TyFd Try.prog 50 2 2 1 := ⟨fun _ _ _ => by kernel_rfl⟩
instance : TyFd Try.prog 53 0 0 1 := ⟨fun _ _ _ => by kernel_rfl⟩
instance : TyFd Try.prog 53 2 2 1 := ⟨fun _ _ _ => by kernel_rfl⟩
instance : TyFd Try.prog 53 3 3 3 := ⟨fun _ _ _ => by kernel_rfl⟩
instance : TyFd Try.prog 53 4 6 1 := ⟨fun _ _ _ => by kernel_rfl⟩
instance : TyFd Try.prog 59 0 0 1 := ⟨fun _ _ _ => by kernel_rfl⟩
instance : TyFd Try.prog 59 1 1 1 := ⟨fun _ _ _ => by kernel_rfl⟩
instance : TyFd Try.prog 59 2 2 1 := ⟨fun _ _ _ => by kernel_rfl⟩
instance : TyFd Try.prog 59 3 3 1 := ⟨fun _ _ _ => by kernel_rfl⟩
instance : TyFd Try.prog 59 4 4 1 := ⟨fun _ _ _ => by kernel_rfl⟩
instance : TyFd Try.prog 71 0 0 1 := ⟨fun _ _ _ => by kernel_rfl⟩
instance : TyFd Try.prog 71 1 1 1 := ⟨fun _ _ _ => by kernel_rfl⟩
instance : TyFd Try.prog 71 2 2 1 := ⟨fun _ _ _ => by kernel_rfl⟩
instance : TyFd Try.prog 71 3 3 1 := ⟨fun _ _ _ => by kernel_rfl⟩
instance : TyFd Try.prog 71 4 4 1 := ⟨fun _ _ _ => by kernel_rfl⟩
instance : TyFd Try.prog 71 5 5 1 := ⟨fun _ _ _ => by kernel_rfl⟩
instance : TyFd Try.prog 73 0 0 1 := ⟨fun _ _ _ => by kernel_rfl⟩
instance : TyFd Try.prog 73 1 1 1 := ⟨fun _ _ _ => by kernel_rfl⟩
instance : TyFd Try.prog 73 2 2 1 := ⟨fun _ _ _ => by kernel_rfl⟩
instance : TyFd Try.prog 73 3 3 1 := ⟨fun _ _ _ => by kernel_rfl⟩
instance : TyFd Try.prog 73 4 4 1 := ⟨fun _ _ _ => by kernel_rfl⟩
instance : TyFd Try.prog 73 5 5 3 := ⟨fun _ _ _ => by kernel_rfl⟩
instance : TyFd Try.prog 73 6 8 1 := ⟨fun _ _ _ => by kernel_rfl⟩
instance : TyFd Try.prog 73 7 9 1 := ⟨fun _ _ _ => by kernel_rfl⟩
instance : TyFd Try.prog 73 8 10 1 := ⟨fun _ _ _ => by kernel_rfl⟩
instance : TyFd Try.prog 78 0 0 1 := ⟨fun _ _ _ => by kernel_rfl⟩
instance : TyFd Try.prog 78 1 1 3 := ⟨fun _ _ _ => by kernel_rfl⟩
instance : TyFd Try.prog 82 0 0 1 := ⟨fun _ _ _ => by kernel_rfl⟩
instance : TyFd Try.prog 82 1 1 3 := ⟨fun _ _ _ => by kernel_rfl⟩
instance : TyFd Try.prog 82 2 4 1 := ⟨fun _ _ _ => by kernel_rfl⟩
instance : TyFd Try.prog 82 3 5 1 := ⟨fun _ _ _ => by kernel_rfl⟩
instance : TyFd Try.prog 87 0 0 1 := ⟨fun _ _ _ => by kernel_rfl⟩
instance : TyFd Try.prog 87 1 1 1 := ⟨fun _ _ _ => by kernel_rfl⟩
instance : TyFd Try.prog 87 2 2 1 := ⟨fun _ _ _ => by kernel_rfl⟩
instance : TyFd Try.prog 91 0 0 2 := ⟨fun _ _ _ => by kernel_rfl⟩
instance : TyFd Try.prog 91 1 2 3 := ⟨fun _ _ _ => by kernel_rfl⟩
instance : TyFd Try.prog 91 2 5 1 := ⟨fun _ _ _ => by kernel_rfl⟩
instance : TyFd Try.prog 91 3 6 1 := ⟨fun _ _ _ => by kernel_rfl⟩
instance : TyFd Try.prog 91 4 7 1 := ⟨fun _ _ _ => by kernel_rfl⟩
instance : TyFd Try.prog 99 0 0 3 := ⟨fun _ _ _ => by kernel_rfl⟩
instance : TyFd Try.prog 99 1 3 1 := ⟨fun _ _ _ => by kernel_rfl⟩
instance : TyFd Try.prog 99 2 4 1 := ⟨fun _ _ _ => by kernel_rfl⟩
instance : TyFd Try.prog 99 3 5 1 := ⟨fun _ _ _ => by kernel_rfl⟩
instance : TyFd Try.prog 99 4 6 1 := ⟨fun _ _ _ => by kernel_rfl⟩
instance : TyFd Try.prog 99 5 7 1 := ⟨fun _ _ _ => by kernel_rfl⟩
instance : TyFd Try.prog 99 6 8 1 := ⟨fun _ _ _ => by kernel_rfl⟩
instance : TyFd Try.prog 103 0 0 1 := ⟨fun _ _ _ => by kernel_rfl⟩
instance : TyFd Try.prog 103 1 1 1 := ⟨fun _ _ _ => by kernel_rfl⟩
instance : TyFd Try.prog 103 2 2 1 := ⟨fun _ _ _ => by kernel_rfl⟩
instance : TyFd Try.prog 106 0 0 1 := ⟨fun _ _ _ => by kernel_rfl⟩
instance : TyFd Try.prog 106 1 1 1 := ⟨fun _ _ _ => by kernel_rfl⟩
instance : TyFd Try.prog 110 0 0 2 := ⟨fun _ _ _ => by kernel_rfl⟩
instance : TyFd Try.prog 110 1 2 3 := ⟨fun _ _ _ => by kernel_rfl⟩
instance : TyFd Try.prog 110 2 5 1 := ⟨fun _ _ _ => by kernel_rfl⟩
instance : TyFd Try.prog 110 3 6 1 := ⟨fun _ _ _ => by kernel_rfl⟩
instance : TyFd Try.prog 110 4 7 1 := ⟨fun _ _ _ => by kernel_rfl⟩
instance : TyFd Try.prog 115 0 0 1 := ⟨fun _ _ _ => by kernel_rfl⟩
instance : TyFd Try.prog 115 1 1 1 := ⟨fun _ _ _ => by kernel_rfl⟩
instance : TyFd Try.prog 115 2 2 1 := ⟨fun _ _ _ => by kernel_rfl⟩
instance : TyFd Try.prog 115 3 3 1 := ⟨fun _ _ _ => by kernel_rfl⟩
instance : TyFd Try.prog 115 4 4 1 := ⟨fun _ _ _ => by kernel_rfl⟩
instance : TyFd Try.prog 115 5 5 1 := ⟨fun _ _ _ => by kernel_rfl⟩
instance : TyFd Try.prog 115 6 6 1 := ⟨fun _ _ _ => by kernel_rfl⟩
instance : TyFd Try.prog 115 7 7 1 := ⟨fun _ _ _ => by kernel_rfl⟩
instance : TyFd Try.prog 130 0 0 5 := ⟨fun _ _ _ => by kernel_rfl⟩
instance : TyFd Try.prog 130 1 5 1 := ⟨fun _ _ _ => by kernel_rfl⟩
instance : TyFd Try.prog 140 0 0 1 := ⟨fun _ _ _ => by kernel_rfl⟩
instance : TyFd Try.prog 140 1 1 1 := ⟨fun _ _ _ => by kernel_rfl⟩
instance : TyFd Try.prog 140 2 2 1 := ⟨fun _ _ _ => by kernel_rfl⟩
instance : TyFd Try.prog 140 3 3 1 := ⟨fun _ _ _ => by kernel_rfl⟩
instance : TyFd Try.prog 140 4 4 1 := ⟨fun _ _ _ => by kernel_rfl⟩
instance : TyZ Try.prog 3 [.int .i64 0] := ⟨fun _ => ⟨.int .i64 0, by kernel_rfl, rfl⟩⟩
instance : TyZ Try.prog 4 [.bool false] := ⟨fun _ => ⟨.bool false, by kernel_rfl, rfl⟩⟩
instance : TyZ Try.prog 25 [.slice none 0 0, .slice none 0 0] := ⟨fun _ => ⟨.agg #[.slice none 0 0, .slice none 0 0], by kernel_rfl, rfl⟩⟩
instance : TyZ Try.prog 31 [.slice none 0 0, .int .i64 0, .slice none 0 0] := ⟨fun _ => ⟨.agg #[.slice none 0 0, .int .i64 0, .slice none 0 0], by kernel_rfl, rfl⟩⟩
instance : TyZ Try.prog 35 [.int .i64 0] := ⟨fun _ => ⟨.int .i64 0, by kernel_rfl, rfl⟩⟩
instance : TyZ Try.prog 44 [.int .u8 0, .int .i64 0, .int .i64 0, .int .i64 0, .slice none 0 0] := ⟨fun _ => ⟨.agg #[.int .u8 0, .int .i64 0, .int .i64 0, .int .i64 0, .slice none 0 0], by kernel_rfl, rfl⟩⟩
instance : TyZ Try.prog 50 [.int .u8 0, .int .i64 0, .string ⟨#[]⟩] := ⟨fun _ => ⟨.agg #[.int .u8 0, .int .i64 0, .string ⟨#[]⟩], by kernel_rfl, rfl⟩⟩
instance : TyZ Try.prog 53 [.string ⟨#[]⟩, .int .i64 0, .slice none 0 0, .int .u8 0, .int .i64 0, .string ⟨#[]⟩, .slice none 0 0] := ⟨fun _ => ⟨.agg #[.string ⟨#[]⟩, .int .i64 0, .slice none 0 0, .int .u8 0, .int .i64 0, .string ⟨#[]⟩, .slice none 0 0], by kernel_rfl, rfl⟩⟩
instance : TyZ Try.prog 59 [.string ⟨#[]⟩, .int .i64 0, .bool false, .slice none 0 0, .slice none 0 0] := ⟨fun _ => ⟨.agg #[.string ⟨#[]⟩, .int .i64 0, .bool false, .slice none 0 0, .slice none 0 0], by kernel_rfl, rfl⟩⟩
instance : TyZ Try.prog 71 [.int .u8 0, .int .i64 0, .string ⟨#[]⟩, .string ⟨#[]⟩, .string ⟨#[]⟩, .slice none 0 0] := ⟨fun _ => ⟨.agg #[.int .u8 0, .int .i64 0, .string ⟨#[]⟩, .string ⟨#[]⟩, .string ⟨#[]⟩, .slice none 0 0], by kernel_rfl, rfl⟩⟩
instance : TyZ Try.prog 73 [.int .u8 0, .int .i64 0, .string ⟨#[]⟩, .string ⟨#[]⟩, .string ⟨#[]⟩, .int .u8 0, .int .i64 0, .string ⟨#[]⟩, .slice none 0 0, .slice none 0 0, .slice none 0 0] := ⟨fun _ => ⟨.agg #[.int .u8 0, .int .i64 0, .string ⟨#[]⟩, .string ⟨#[]⟩, .string ⟨#[]⟩, .int .u8 0, .int .i64 0, .string ⟨#[]⟩, .slice none 0 0, .slice none 0 0, .slice none 0 0], by kernel_rfl, rfl⟩⟩
instance : TyZ Try.prog 78 [.string ⟨#[]⟩, .int .u8 0, .int .i64 0, .string ⟨#[]⟩] := ⟨fun _ => ⟨.agg #[.string ⟨#[]⟩, .int .u8 0, .int .i64 0, .string ⟨#[]⟩], by kernel_rfl, rfl⟩⟩
instance : TyZ Try.prog 82 [.string ⟨#[]⟩, .int .u8 0, .int .i64 0, .string ⟨#[]⟩, .int .i64 0, .slice none 0 0] := ⟨fun _ => ⟨.agg #[.string ⟨#[]⟩, .int .u8 0, .int .i64 0, .string ⟨#[]⟩, .int .i64 0, .slice none 0 0], by kernel_rfl, rfl⟩⟩
instance : TyZ Try.prog 103 [.int .i64 0, .int .i64 0, .bool false] := ⟨fun _ => ⟨.agg #[.int .i64 0, .int .i64 0, .bool false], by kernel_rfl, rfl⟩⟩
instance : TyZ Try.prog 106 [.string ⟨#[]⟩, .slice none 0 0] := ⟨fun _ => ⟨.agg #[.string ⟨#[]⟩, .slice none 0 0], by kernel_rfl, rfl⟩⟩
instance : TyZ Try.prog 115 [.int .u8 0, .int .i64 0, .int .i64 0, .int .i64 0, .int .i64 0, .slice none 0 0, .slice none 0 0, .slice none 0 0] := ⟨fun _ => ⟨.agg #[.int .u8 0, .int .i64 0, .int .i64 0, .int .i64 0, .int .i64 0, .slice none 0 0, .slice none 0 0, .slice none 0 0], by kernel_rfl, rfl⟩⟩
instance : TyZ Try.prog 140 [.int .u8 0, .int .u8 0, .int .i64 0, .int .i64 0, .slice none 0 0] := ⟨fun _ => ⟨.agg #[.int .u8 0, .int .u8 0, .int .i64 0, .int .i64 0, .slice none 0 0], by kernel_rfl, rfl⟩⟩
instance : TyEl Try.prog 2 1 8 (.int .i64 0) := ⟨by kernel_rfl, rfl, by decide, by decide⟩
instance : TyEl Try.prog 3 1 8 (.int .i64 0) := ⟨by kernel_rfl, rfl, by decide, by decide⟩
instance : TyEl Try.prog 4 1 1 (.bool false) := ⟨by kernel_rfl, rfl, by decide, by decide⟩
instance : TyEl Try.prog 5 1 1 (.int .u8 0) := ⟨by kernel_rfl, rfl, by decide, by decide⟩
instance : TyEl Try.prog 9 1 16 (.string ⟨#[]⟩) := ⟨by kernel_rfl, rfl, by decide, by decide⟩
instance : TyEl Try.prog 26 1 24 (.slice none 0 0) := ⟨by kernel_rfl, rfl, by decide, by decide⟩
instance : TyEl Try.prog 44 5 56 (.agg #[.int .u8 0, .int .i64 0, .int .i64 0, .int .i64 0, .slice none 0 0]) := ⟨by kernel_rfl, rfl, by decide, by decide⟩
instance : TyEl Try.prog 53 7 104 (.agg #[.string ⟨#[]⟩, .int .i64 0, .slice none 0 0, .int .u8 0, .int .i64 0, .string ⟨#[]⟩, .slice none 0 0]) := ⟨by kernel_rfl, rfl, by decide, by decide⟩
instance : TyEl Try.prog 59 5 80 (.agg #[.string ⟨#[]⟩, .int .i64 0, .bool false, .slice none 0 0, .slice none 0 0]) := ⟨by kernel_rfl, rfl, by decide, by decide⟩
instance : TyEl Try.prog 71 6 88 (.agg #[.int .u8 0, .int .i64 0, .string ⟨#[]⟩, .string ⟨#[]⟩, .string ⟨#[]⟩, .slice none 0 0]) := ⟨by kernel_rfl, rfl, by decide, by decide⟩
instance : TyEl Try.prog 73 11 168 (.agg #[.int .u8 0, .int .i64 0, .string ⟨#[]⟩, .string ⟨#[]⟩, .string ⟨#[]⟩, .int .u8 0, .int .i64 0, .string ⟨#[]⟩, .slice none 0 0, .slice none 0 0, .slice none 0 0]) := ⟨by kernel_rfl, rfl, by decide, by decide⟩
instance : TyEl Try.prog 78 4 48 (.agg #[.string ⟨#[]⟩, .int .u8 0, .int .i64 0, .string ⟨#[]⟩]) := ⟨by kernel_rfl, rfl, by decide, by decide⟩
instance : TyEl Try.prog 82 6 80 (.agg #[.string ⟨#[]⟩, .int .u8 0, .int .i64 0, .string ⟨#[]⟩, .int .i64 0, .slice none 0 0]) := ⟨by kernel_rfl, rfl, by decide, by decide⟩
instance : TyEl Try.prog 87 3 40 (.agg #[.int .i64 0, .int .i64 0, .slice none 0 0]) := ⟨by kernel_rfl, rfl, by decide, by decide⟩
instance : TyEl Try.prog 103 3 24 (.agg #[.int .i64 0, .int .i64 0, .bool false]) := ⟨by kernel_rfl, rfl, by decide, by decide⟩
instance : TyEl Try.prog 106 2 40 (.agg #[.string ⟨#[]⟩, .slice none 0 0]) := ⟨by kernel_rfl, rfl, by decide, by decide⟩
instance : TyEl Try.prog 115 8 112 (.agg #[.int .u8 0, .int .i64 0, .int .i64 0, .int .i64 0, .int .i64 0, .slice none 0 0, .slice none 0 0, .slice none 0 0]) := ⟨by kernel_rfl, rfl, by decide, by decide⟩
instance : TyEl Try.prog 128 1 24 (.slice none 0 0) := ⟨by kernel_rfl, rfl, by decide, by decide⟩
instance : TyEl Try.prog 140 5 48 (.agg #[.int .u8 0, .int .u8 0, .int .i64 0, .int .i64 0, .slice none 0 0]) := ⟨by kernel_rfl, rfl, by decide, by decide⟩
instance : TyBd Try.prog 25 [.slice none 0 0, .slice none 0 0] [(0, 1), (1, 1)] := ⟨fun _ => ⟨.agg #[.slice none 0 0, .slice none 0 0], by kernel_rfl, rfl⟩, fun _ => by kernel_rfl⟩
instance : TyBd Try.prog 31 [.slice none 0 0, .int .i64 0, .slice none 0 0] [(0, 1), (1, 1), (2, 1)] := ⟨fun _ => ⟨.agg #[.slice none 0 0, .int .i64 0, .slice none 0 0], by kernel_rfl, rfl⟩, fun _ => by kernel_rfl⟩
instance : TyBd Try.prog 44 [.int .u8 0, .int .i64 0, .int .i64 0, .int .i64 0, .slice none 0 0] [(0, 1), (1, 1), (2, 1), (3, 1), (4, 1)] := ⟨fun _ => ⟨.agg #[.int .u8 0, .int .i64 0, .int .i64 0, .int .i64 0, .slice none 0 0], by kernel_rfl, rfl⟩, fun _ => by kernel_rfl⟩
instance : TyBd Try.prog 50 [.int .u8 0, .int .i64 0, .string ⟨#[]⟩] [(0, 1), (1, 1), (2, 1)] := ⟨fun _ => ⟨.agg #[.int .u8 0, .int .i64 0, .string ⟨#[]⟩], by kernel_rfl, rfl⟩, fun _ => by kernel_rfl⟩
instance : TyBd Try.prog 53 [.string ⟨#[]⟩, .int .i64 0, .slice none 0 0, .int .u8 0, .int .i64 0, .string ⟨#[]⟩, .slice none 0 0] [(0, 1), (1, 1), (2, 1), (3, 3), (6, 1)] := ⟨fun _ => ⟨.agg #[.string ⟨#[]⟩, .int .i64 0, .slice none 0 0, .int .u8 0, .int .i64 0, .string ⟨#[]⟩, .slice none 0 0], by kernel_rfl, rfl⟩, fun _ => by kernel_rfl⟩
instance : TyBd Try.prog 59 [.string ⟨#[]⟩, .int .i64 0, .bool false, .slice none 0 0, .slice none 0 0] [(0, 1), (1, 1), (2, 1), (3, 1), (4, 1)] := ⟨fun _ => ⟨.agg #[.string ⟨#[]⟩, .int .i64 0, .bool false, .slice none 0 0, .slice none 0 0], by kernel_rfl, rfl⟩, fun _ => by kernel_rfl⟩
instance : TyBd Try.prog 71 [.int .u8 0, .int .i64 0, .string ⟨#[]⟩, .string ⟨#[]⟩, .string ⟨#[]⟩, .slice none 0 0] [(0, 1), (1, 1), (2, 1), (3, 1), (4, 1), (5, 1)] := ⟨fun _ => ⟨.agg #[.int .u8 0, .int .i64 0, .string ⟨#[]⟩, .string ⟨#[]⟩, .string ⟨#[]⟩, .slice none 0 0], by kernel_rfl, rfl⟩, fun _ => by kernel_rfl⟩
instance : TyBd Try.prog 73 [.int .u8 0, .int .i64 0, .string ⟨#[]⟩, .string ⟨#[]⟩, .string ⟨#[]⟩, .int .u8 0, .int .i64 0, .string ⟨#[]⟩, .slice none 0 0, .slice none 0 0, .slice none 0 0] [(0, 1), (1, 1), (2, 1), (3, 1), (4, 1), (5, 3), (8, 1), (9, 1), (10, 1)] := ⟨fun _ => ⟨.agg #[.int .u8 0, .int .i64 0, .string ⟨#[]⟩, .string ⟨#[]⟩, .string ⟨#[]⟩, .int .u8 0, .int .i64 0, .string ⟨#[]⟩, .slice none 0 0, .slice none 0 0, .slice none 0 0], by kernel_rfl, rfl⟩, fun _ => by kernel_rfl⟩
instance : TyBd Try.prog 78 [.string ⟨#[]⟩, .int .u8 0, .int .i64 0, .string ⟨#[]⟩] [(0, 1), (1, 3)] := ⟨fun _ => ⟨.agg #[.string ⟨#[]⟩, .int .u8 0, .int .i64 0, .string ⟨#[]⟩], by kernel_rfl, rfl⟩, fun _ => by kernel_rfl⟩
instance : TyBd Try.prog 82 [.string ⟨#[]⟩, .int .u8 0, .int .i64 0, .string ⟨#[]⟩, .int .i64 0, .slice none 0 0] [(0, 1), (1, 3), (4, 1), (5, 1)] := ⟨fun _ => ⟨.agg #[.string ⟨#[]⟩, .int .u8 0, .int .i64 0, .string ⟨#[]⟩, .int .i64 0, .slice none 0 0], by kernel_rfl, rfl⟩, fun _ => by kernel_rfl⟩
instance : TyBd Try.prog 87 [.int .i64 0, .int .i64 0, .slice none 0 0] [(0, 1), (1, 1), (2, 1)] := ⟨fun _ => ⟨.agg #[.int .i64 0, .int .i64 0, .slice none 0 0], by kernel_rfl, rfl⟩, fun _ => by kernel_rfl⟩
instance : TyBd Try.prog 91 [.slice none 0 0, .slice none 0 0, .slice none 0 0, .int .i64 0, .slice none 0 0, .int .i64 0, .pointer none, .slice none 0 0] [(0, 2), (2, 3), (5, 1), (6, 1), (7, 1)] := ⟨fun _ => ⟨.agg #[.slice none 0 0, .slice none 0 0, .slice none 0 0, .int .i64 0, .slice none 0 0, .int .i64 0, .pointer none, .slice none 0 0], by kernel_rfl, rfl⟩, fun _ => by kernel_rfl⟩
instance : TyBd Try.prog 99 [.slice none 0 0, .int .i64 0, .slice none 0 0, .slice none 0 0, .int .i64 0, .slice none 0 0, .bool false, .bool false, .slice none 0 0] [(0, 3), (3, 1), (4, 1), (5, 1), (6, 1), (7, 1), (8, 1)] := ⟨fun _ => ⟨.agg #[.slice none 0 0, .int .i64 0, .slice none 0 0, .slice none 0 0, .int .i64 0, .slice none 0 0, .bool false, .bool false, .slice none 0 0], by kernel_rfl, rfl⟩, fun _ => by kernel_rfl⟩
instance : TyBd Try.prog 103 [.int .i64 0, .int .i64 0, .bool false] [(0, 1), (1, 1), (2, 1)] := ⟨fun _ => ⟨.agg #[.int .i64 0, .int .i64 0, .bool false], by kernel_rfl, rfl⟩, fun _ => by kernel_rfl⟩
instance : TyBd Try.prog 110 [.slice none 0 0, .slice none 0 0, .slice none 0 0, .int .i64 0, .slice none 0 0, .int .i64 0, .slice none 0 0, .slice none 0 0] [(0, 2), (2, 3), (5, 1), (6, 1), (7, 1)] := ⟨fun _ => ⟨.agg #[.slice none 0 0, .slice none 0 0, .slice none 0 0, .int .i64 0, .slice none 0 0, .int .i64 0, .slice none 0 0, .slice none 0 0], by kernel_rfl, rfl⟩, fun _ => by kernel_rfl⟩
instance : TyBd Try.prog 115 [.int .u8 0, .int .i64 0, .int .i64 0, .int .i64 0, .int .i64 0, .slice none 0 0, .slice none 0 0, .slice none 0 0] [(0, 1), (1, 1), (2, 1), (3, 1), (4, 1), (5, 1), (6, 1), (7, 1)] := ⟨fun _ => ⟨.agg #[.int .u8 0, .int .i64 0, .int .i64 0, .int .i64 0, .int .i64 0, .slice none 0 0, .slice none 0 0, .slice none 0 0], by kernel_rfl, rfl⟩, fun _ => by kernel_rfl⟩
instance : TyBd Try.prog 130 [.string ⟨#[]⟩, .int .i64 0, .bool false, .slice none 0 0, .slice none 0 0, .slice none 0 0] [(0, 5), (5, 1)] := ⟨fun _ => ⟨.agg #[.string ⟨#[]⟩, .int .i64 0, .bool false, .slice none 0 0, .slice none 0 0, .slice none 0 0], by kernel_rfl, rfl⟩, fun _ => by kernel_rfl⟩
instance : TyBd Try.prog 140 [.int .u8 0, .int .u8 0, .int .i64 0, .int .i64 0, .slice none 0 0] [(0, 1), (1, 1), (2, 1), (3, 1), (4, 1)] := ⟨fun _ => ⟨.agg #[.int .u8 0, .int .u8 0, .int .i64 0, .int .i64 0, .slice none 0 0], by kernel_rfl, rfl⟩, fun _ => by kernel_rfl⟩
instance : TyC Try.prog 134 := ⟨fun _ _ => by kernel_rfl⟩
instance : Mixed Try.prog := ⟨by kernel_rfl⟩
instance : Fn1 Try.prog 3 := ⟨fun _ _ => by kernel_rfl⟩
instance : Fn1 Try.prog 4 := ⟨fun _ _ => by kernel_rfl⟩
instance : Fn1 Try.prog 5 := ⟨fun _ _ => by kernel_rfl⟩
instance : Fn1 Try.prog 6 := ⟨fun _ _ => by kernel_rfl⟩
instance : Fn1 Try.prog 7 := ⟨fun _ _ => by kernel_rfl⟩
instance : Fn1 Try.prog 8 := ⟨fun _ _ => by kernel_rfl⟩
instance : Fn1 Try.prog 9 := ⟨fun _ _ => by kernel_rfl⟩
instance : Fn1 Try.prog 10 := ⟨fun _ _ => by kernel_rfl⟩
instance : Fn1 Try.prog 11 := ⟨fun _ _ => by kernel_rfl⟩
instance : Fn1 Try.prog 12 := ⟨fun _ _ => by kernel_rfl⟩
instance : Fn1 Try.prog 13 := ⟨fun _ _ => by kernel_rfl⟩
instance : Fn1 Try.prog 14 := ⟨fun _ _ => by kernel_rfl⟩
instance : Fn1 Try.prog 15 := ⟨fun _ _ => by kernel_rfl⟩
instance : Fn1 Try.prog 16 := ⟨fun _ _ => by kernel_rfl⟩
instance : Fn1 Try.prog 17 := ⟨fun _ _ => by kernel_rfl⟩
instance : Fn1 Try.prog 18 := ⟨fun _ _ => by kernel_rfl⟩
instance : Fn1 Try.prog 19 := ⟨fun _ _ => by kernel_rfl⟩
instance : Fn1 Try.prog 20 := ⟨fun _ _ => by kernel_rfl⟩
instance : Fn1 Try.prog 21 := ⟨fun _ _ => by kernel_rfl⟩
instance : Fn1 Try.prog 22 := ⟨fun _ _ => by kernel_rfl⟩
instance : Fn1 Try.prog 23 := ⟨fun _ _ => by kernel_rfl⟩
instance : Fn1 Try.prog 24 := ⟨fun _ _ => by kernel_rfl⟩
instance : Fn1 Try.prog 25 := ⟨fun _ _ => by kernel_rfl⟩
instance : Fn1 Try.prog 26 := ⟨fun _ _ => by kernel_rfl⟩
instance : Fn1 Try.prog 27 := ⟨fun _ _ => by kernel_rfl⟩
instance : Fn1 Try.prog 28 := ⟨fun _ _ => by kernel_rfl⟩
instance : Fn1 Try.prog 29 := ⟨fun _ _ => by kernel_rfl⟩
instance : Fn1 Try.prog 30 := ⟨fun _ _ => by kernel_rfl⟩
instance : Fn1 Try.prog 31 := ⟨fun _ _ => by kernel_rfl⟩
instance : Fn1 Try.prog 32 := ⟨fun _ _ => by kernel_rfl⟩
instance : Fn1 Try.prog 33 := ⟨fun _ _ => by kernel_rfl⟩
instance : Fn1 Try.prog 34 := ⟨fun _ _ => by kernel_rfl⟩
instance : Fn1 Try.prog 35 := ⟨fun _ _ => by kernel_rfl⟩
instance : Fn1 Try.prog 36 := ⟨fun _ _ => by kernel_rfl⟩
instance : Fn1 Try.prog 37 := ⟨fun _ _ => by kernel_rfl⟩
instance : Fn1 Try.prog 38 := ⟨fun _ _ => by kernel_rfl⟩
instance : Fn1 Try.prog 39 := ⟨fun _ _ => by kernel_rfl⟩
instance : Fn1 Try.prog 40 := ⟨fun _ _ => by kernel_rfl⟩
instance : Fn1 Try.prog 41 := ⟨fun _ _ => by kernel_rfl⟩
instance : Fn1 Try.prog 42 := ⟨fun _ _ => by kernel_rfl⟩
instance : Fn1 Try.prog 43 := ⟨fun _ _ => by kernel_rfl⟩
instance : Fn1 Try.prog 44 := ⟨fun _ _ => by kernel_rfl⟩
instance : Fn1 Try.prog 45 := ⟨fun _ _ => by kernel_rfl⟩
instance : Fn1 Try.prog 46 := ⟨fun _ _ => by kernel_rfl⟩
instance : Fn1 Try.prog 47 := ⟨fun _ _ => by kernel_rfl⟩
instance : Fn1 Try.prog 48 := ⟨fun _ _ => by kernel_rfl⟩
instance : Fn1 Try.prog 49 := ⟨fun _ _ => by kernel_rfl⟩
instance : Fn1 Try.prog 50 := ⟨fun _ _ => by kernel_rfl⟩
instance : Fn1 Try.prog 51 := ⟨fun _ _ => by kernel_rfl⟩
instance : Fn1 Try.prog 52 := ⟨fun _ _ => by kernel_rfl⟩
instance : Fn1 Try.prog 53 := ⟨fun _ _ => by kernel_rfl⟩
instance : Fn1 Try.prog 54 := ⟨fun _ _ => by kernel_rfl⟩
instance : Fn1 Try.prog 55 := ⟨fun _ _ => by kernel_rfl⟩
instance : Fn1 Try.prog 56 := ⟨fun _ _ => by kernel_rfl⟩
instance : Fn1 Try.prog 57 := ⟨fun _ _ => by kernel_rfl⟩
instance : Fn1 Try.prog 58 := ⟨fun _ _ => by kernel_rfl⟩
instance : Fn1 Try.prog 59 := ⟨fun _ _ => by kernel_rfl⟩
instance : Fn1 Try.prog 60 := ⟨fun _ _ => by kernel_rfl⟩
instance : Fn1 Try.prog 61 := ⟨fun _ _ => by kernel_rfl⟩
instance : Fn1 Try.prog 62 := ⟨fun _ _ => by kernel_rfl⟩
instance : Fn1 Try.prog 63 := ⟨fun _ _ => by kernel_rfl⟩
instance : Fn1 Try.prog 64 := ⟨fun _ _ => by kernel_rfl⟩
instance : Fn1 Try.prog 65 := ⟨fun _ _ => by kernel_rfl⟩
instance : Fn1 Try.prog 66 := ⟨fun _ _ => by kernel_rfl⟩
instance : Fn1 Try.prog 67 := ⟨fun _ _ => by kernel_rfl⟩
instance : Fn1 Try.prog 68 := ⟨fun _ _ => by kernel_rfl⟩
instance : Fn1 Try.prog 69 := ⟨fun _ _ => by kernel_rfl⟩
instance : Fn1 Try.prog 70 := ⟨fun _ _ => by kernel_rfl⟩
instance : Fn1 Try.prog 71 := ⟨fun _ _ => by kernel_rfl⟩
instance : Fn1 Try.prog 72 := ⟨fun _ _ => by kernel_rfl⟩
instance : Fn1 Try.prog 73 := ⟨fun _ _ => by kernel_rfl⟩
instance : Fn1 Try.prog 74 := ⟨fun _ _ => by kernel_rfl⟩
instance : Fn1 Try.prog 75 := ⟨fun _ _ => by kernel_rfl⟩
instance : Fn1 Try.prog 76 := ⟨fun _ _ => by kernel_rfl⟩
instance : Fn1 Try.prog 77 := ⟨fun _ _ => by kernel_rfl⟩
instance : Fn1 Try.prog 78 := ⟨fun _ _ => by kernel_rfl⟩
instance : Fn1 Try.prog 79 := ⟨fun _ _ => by kernel_rfl⟩
instance : Fn1 Try.prog 80 := ⟨fun _ _ => by kernel_rfl⟩
instance : Fn1 Try.prog 81 := ⟨fun _ _ => by kernel_rfl⟩
instance : Fn1 Try.prog 82 := ⟨fun _ _ => by kernel_rfl⟩
instance : Fn1 Try.prog 83 := ⟨fun _ _ => by kernel_rfl⟩
instance : Fn1 Try.prog 84 := ⟨fun _ _ => by kernel_rfl⟩
instance : Fn1 Try.prog 85 := ⟨fun _ _ => by kernel_rfl⟩
instance : Fn1 Try.prog 86 := ⟨fun _ _ => by kernel_rfl⟩
instance : Fn1 Try.prog 87 := ⟨fun _ _ => by kernel_rfl⟩
instance : Fn1 Try.prog 88 := ⟨fun _ _ => by kernel_rfl⟩
instance : Fn1 Try.prog 89 := ⟨fun _ _ => by kernel_rfl⟩
instance : Fn1 Try.prog 90 := ⟨fun _ _ => by kernel_rfl⟩
instance : Fn1 Try.prog 91 := ⟨fun _ _ => by kernel_rfl⟩
instance : Fn1 Try.prog 92 := ⟨fun _ _ => by kernel_rfl⟩
instance : Fn1 Try.prog 93 := ⟨fun _ _ => by kernel_rfl⟩
instance : Fn1 Try.prog 94 := ⟨fun _ _ => by kernel_rfl⟩
instance : Fn1 Try.prog 95 := ⟨fun _ _ => by kernel_rfl⟩
instance : Fn1 Try.prog 96 := ⟨fun _ _ => by kernel_rfl⟩
instance : Fn1 Try.prog 97 := ⟨fun _ _ => by kernel_rfl⟩
instance : Fn1 Try.prog 98 := ⟨fun _ _ => by kernel_rfl⟩
instance : Fn1 Try.prog 99 := ⟨fun _ _ => by kernel_rfl⟩
instance : Fn1 Try.prog 100 := ⟨fun _ _ => by kernel_rfl⟩
instance : Fn1 Try.prog 101 := ⟨fun _ _ => by kernel_rfl⟩
instance : Fn1 Try.prog 102 := ⟨fun _ _ => by kernel_rfl⟩
instance : Fn1 Try.prog 103 := ⟨fun _ _ => by kernel_rfl⟩
instance : Fn1 Try.prog 104 := ⟨fun _ _ => by kernel_rfl⟩
instance : Fn1 Try.prog 105 := ⟨fun _ _ => by kernel_rfl⟩
instance : Fn1 Try.prog 106 := ⟨fun _ _ => by kernel_rfl⟩
instance : Fn1 Try.prog 107 := ⟨fun _ _ => by kernel_rfl⟩
instance : Fn1 Try.prog 108 := ⟨fun _ _ => by kernel_rfl⟩
instance : Fn1 Try.prog 109 := ⟨fun _ _ => by kernel_rfl⟩
instance : Fn1 Try.prog 110 := ⟨fun _ _ => by kernel_rfl⟩
end Go.Proofs.Ytmallgapchjhnaa
