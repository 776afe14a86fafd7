
import Derived.Test.YtpmomimaihjmjaaGreatMG03
set_option linter.unusedVariables false
set_option linter.unusedSimpArgs false
/- The facts on types and functions of this translation, as instances. Printed by a program of mine. -/
namespace Go.Proofs.YtpmomimaihjmjaaGreat
open Go
instance : Inf Tryz.prog 0 1 0 ((Go.Value.tuple #[])) := ⟨Tryz.t0, by kernel_rfl, rfl, rfl, rfl⟩
instance : Inf Tryz.prog 1 1 8 (Go.Value.nilFunc) := ⟨Tryz.t1, by kernel_rfl, rfl, rfl, rfl⟩
instance : Inf Tryz.prog 2 1 8 ((Go.Value.int Go.IntKind.i64 0)) := ⟨Tryz.t2, by kernel_rfl, rfl, rfl, rfl⟩
instance : Inf Tryz.prog 3 1 8 ((Go.Value.int Go.IntKind.i64 0)) := ⟨Tryz.t3, by kernel_rfl, rfl, rfl, rfl⟩
instance : Inf Tryz.prog 4 1 1 ((Go.Value.bool false)) := ⟨Tryz.t4, by kernel_rfl, rfl, rfl, rfl⟩
instance : Inf Tryz.prog 5 1 1 ((Go.Value.int Go.IntKind.u8 0)) := ⟨Tryz.t5, by kernel_rfl, rfl, rfl, rfl⟩
instance : Inf Tryz.prog 9 1 16 ((Go.Value.string { data := #[] })) := ⟨Tryz.t9, by kernel_rfl, rfl, rfl, rfl⟩
instance : Inf Tryz.prog 12 1 8 ((Go.Value.int Go.IntKind.u64 0)) := ⟨Tryz.t12, by kernel_rfl, rfl, rfl, rfl⟩
instance : Inf Tryz.prog 13 2 24 ((Go.Value.agg #[Go.Value.string { data := #[] }, Go.Value.int Go.IntKind.u64 0])) := ⟨Tryz.t13, by kernel_rfl, rfl, rfl, rfl⟩
instance : Inf Tryz.prog 20 1 16 (Go.Value.nilIface) := ⟨Tryz.t20, by kernel_rfl, rfl, rfl, rfl⟩
instance : Inf Tryz.prog 21 1 4 ((Go.Value.int Go.IntKind.i32 0)) := ⟨Tryz.t21, by kernel_rfl, rfl, rfl, rfl⟩
instance : Inf Tryz.prog 22 1 24 ((Go.Value.slice none 0 0)) := ⟨Tryz.t22, by kernel_rfl, rfl, rfl, rfl⟩
instance : Inf Tryz.prog 23 2 16 ((Go.Value.agg #[Go.Value.int Go.IntKind.i64 0, Go.Value.int Go.IntKind.i64 0])) := ⟨Tryz.t23, by kernel_rfl, rfl, rfl, rfl⟩
instance : Inf Tryz.prog 24 2 16 ((Go.Value.agg #[Go.Value.int Go.IntKind.i64 0, Go.Value.int Go.IntKind.i64 0])) := ⟨Tryz.t24, by kernel_rfl, rfl, rfl, rfl⟩
instance : Inf Tryz.prog 25 1 2 ((Go.Value.int Go.IntKind.i16 0)) := ⟨Tryz.t25, by kernel_rfl, rfl, rfl, rfl⟩
instance : Inf Tryz.prog 26 1 8 (Go.Value.nilFunc) := ⟨Tryz.t26, by kernel_rfl, rfl, rfl, rfl⟩
instance : Inf Tryz.prog 27 3 40 ((Go.Value.agg #[Go.Value.int Go.IntKind.i64 0, Go.Value.int Go.IntKind.i64 0, Go.Value.slice none 0 0])) := ⟨Tryz.t27, by kernel_rfl, rfl, rfl, rfl⟩
instance : Inf Tryz.prog 28 3 40 ((Go.Value.agg #[Go.Value.int Go.IntKind.i64 0, Go.Value.int Go.IntKind.i64 0, Go.Value.slice none 0 0])) := ⟨Tryz.t28, by kernel_rfl, rfl, rfl, rfl⟩
instance : Inf Tryz.prog 29 6 56 ((Go.Value.agg #[Go.Value.int Go.IntKind.i64 0, Go.Value.int Go.IntKind.i64 0, Go.Value.slice none 0 0, Go.Value.int Go.IntKind.i64 0, Go.Value.int Go.IntKind.i32 0, Go.Value.int Go.IntKind.i32 0])) := ⟨Tryz.t29, by kernel_rfl, rfl, rfl, rfl⟩
instance : Inf Tryz.prog 30 6 56 ((Go.Value.agg #[Go.Value.int Go.IntKind.i64 0, Go.Value.int Go.IntKind.i64 0, Go.Value.slice none 0 0, Go.Value.int Go.IntKind.i64 0, Go.Value.int Go.IntKind.i32 0, Go.Value.int Go.IntKind.i32 0])) := ⟨Tryz.t30, by kernel_rfl, rfl, rfl, rfl⟩
instance : Inf Tryz.prog 31 1 8 (Go.Value.nilFunc) := ⟨Tryz.t31, by kernel_rfl, rfl, rfl, rfl⟩
instance : Inf Tryz.prog 32 1 2 ((Go.Value.int Go.IntKind.u16 0)) := ⟨Tryz.t32, by kernel_rfl, rfl, rfl, rfl⟩
instance : Inf Tryz.prog 33 1 8 ((Go.Value.pointer none)) := ⟨Tryz.t33, by kernel_rfl, rfl, rfl, rfl⟩
instance : Inf Tryz.prog 34 1 8 ((Go.Value.int Go.IntKind.i64 0)) := ⟨Tryz.t34, by kernel_rfl, rfl, rfl, rfl⟩
instance : Inf Tryz.prog 35 1 0 ((Go.Value.tuple #[Go.Value.pointer none, Go.Value.int Go.IntKind.i64 0])) := ⟨Tryz.t35, by kernel_rfl, rfl, rfl, rfl⟩
instance : Inf Tryz.prog 36 1 8 (Go.Value.nilFunc) := ⟨Tryz.t36, by kernel_rfl, rfl, rfl, rfl⟩
instance : Inf Tryz.prog 37 1 8 ((Go.Value.pointer none)) := ⟨Tryz.t37, by kernel_rfl, rfl, rfl, rfl⟩
instance : Inf Tryz.prog 38 1 8 (Go.Value.nilFunc) := ⟨Tryz.t38, by kernel_rfl, rfl, rfl, rfl⟩
instance : Inf Tryz.prog 39 1 8 (Go.Value.nilFunc) := ⟨Tryz.t39, by kernel_rfl, rfl, rfl, rfl⟩
instance : Inf Tryz.prog 40 1 0 ((Go.Value.tuple #[Go.Value.int Go.IntKind.i64 0, Go.Value.int Go.IntKind.i64 0])) := ⟨Tryz.t40, by kernel_rfl, rfl, rfl, rfl⟩
instance : Inf Tryz.prog 41 1 8 (Go.Value.nilFunc) := ⟨Tryz.t41, by kernel_rfl, rfl, rfl, rfl⟩
instance : Inf Tryz.prog 42 1 8 (Go.Value.nilFunc) := ⟨Tryz.t42, by kernel_rfl, rfl, rfl, rfl⟩
instance : Inf Tryz.prog 43 1 8 (Go.Value.nilFunc) := ⟨Tryz.t43, by kernel_rfl, rfl, rfl, rfl⟩
instance : Inf Tryz.prog 44 1 0 ((Go.Value.tuple #[Go.Value.int Go.IntKind.i16 0, Go.Value.int Go.IntKind.i16 0, Go.Value.int Go.IntKind.i64 0])) := ⟨Tryz.t44, by kernel_rfl, rfl, rfl, rfl⟩
instance : Inf Tryz.prog 45 1 8 (Go.Value.nilFunc) := ⟨Tryz.t45, by kernel_rfl, rfl, rfl, rfl⟩
instance : Inf Tryz.prog 46 1 8 ((Go.Value.int Go.IntKind.u64 0)) := ⟨Tryz.t46, by kernel_rfl, rfl, rfl, rfl⟩
instance : Inf Tryz.prog 47 1 0 ((Go.Value.tuple #[Go.Value.int Go.IntKind.u64 0, Go.Value.int Go.IntKind.i64 0])) := ⟨Tryz.t47, by kernel_rfl, rfl, rfl, rfl⟩
instance : Inf Tryz.prog 48 1 8 (Go.Value.nilFunc) := ⟨Tryz.t48, by kernel_rfl, rfl, rfl, rfl⟩
instance : Inf Tryz.prog 49 1 0 ((Go.Value.tuple #[Go.Value.int Go.IntKind.i64 0, Go.Value.int Go.IntKind.i64 0, Go.Value.int Go.IntKind.i64 0])) := ⟨Tryz.t49, by kernel_rfl, rfl, rfl, rfl⟩
instance : Inf Tryz.prog 50 1 8 (Go.Value.nilFunc) := ⟨Tryz.t50, by kernel_rfl, rfl, rfl, rfl⟩
instance : Inf Tryz.prog 51 1 24 ((Go.Value.slice none 0 0)) := ⟨Tryz.t51, by kernel_rfl, rfl, rfl, rfl⟩
instance : Inf Tryz.prog 52 1 8 (Go.Value.nilFunc) := ⟨Tryz.t52, by kernel_rfl, rfl, rfl, rfl⟩
instance : Inf Tryz.prog 53 1 8 (Go.Value.nilFunc) := ⟨Tryz.t53, by kernel_rfl, rfl, rfl, rfl⟩
instance : Inf Tryz.prog 54 1 8 (Go.Value.nilFunc) := ⟨Tryz.t54, by kernel_rfl, rfl, rfl, rfl⟩
instance : Inf Tryz.prog 55 3 24 ((Go.Value.agg #[Go.Value.int Go.IntKind.i64 0, Go.Value.int Go.IntKind.i64 0, Go.Value.int Go.IntKind.i64 0])) := ⟨Tryz.t55, by kernel_rfl, rfl, rfl, rfl⟩
instance : Inf Tryz.prog 56 3 24 ((Go.Value.agg #[Go.Value.int Go.IntKind.i64 0, Go.Value.int Go.IntKind.i64 0, Go.Value.int Go.IntKind.i64 0])) := ⟨Tryz.t56, by kernel_rfl, rfl, rfl, rfl⟩
instance : Inf Tryz.prog 57 1 8 (Go.Value.nilFunc) := ⟨Tryz.t57, by kernel_rfl, rfl, rfl, rfl⟩
instance : Inf Tryz.prog 58 1 8 (Go.Value.nilFunc) := ⟨Tryz.t58, by kernel_rfl, rfl, rfl, rfl⟩
instance : Inf Tryz.prog 59 1 8 (Go.Value.nilFunc) := ⟨Tryz.t59, by kernel_rfl, rfl, rfl, rfl⟩
instance : Inf Tryz.prog 60 1 8 (Go.Value.nilFunc) := ⟨Tryz.t60, by kernel_rfl, rfl, rfl, rfl⟩
instance : Inf Tryz.prog 61 1 24 ((Go.Value.slice none 0 0)) := ⟨Tryz.t61, by kernel_rfl, rfl, rfl, rfl⟩
instance : Inf Tryz.prog 62 3 40 ((Go.Value.agg #[Go.Value.int Go.IntKind.i64 0, Go.Value.int Go.IntKind.i64 0, Go.Value.slice none 0 0])) := ⟨Tryz.t62, by kernel_rfl, rfl, rfl, rfl⟩
instance : Inf Tryz.prog 63 3 40 ((Go.Value.agg #[Go.Value.int Go.IntKind.i64 0, Go.Value.int Go.IntKind.i64 0, Go.Value.slice none 0 0])) := ⟨Tryz.t63, by kernel_rfl, rfl, rfl, rfl⟩
instance : Inf Tryz.prog 64 3 16 ((Go.Value.agg #[Go.Value.int Go.IntKind.i16 0, Go.Value.int Go.IntKind.i16 0, Go.Value.int Go.IntKind.i64 0])) := ⟨Tryz.t64, by kernel_rfl, rfl, rfl, rfl⟩
instance : Inf Tryz.prog 65 3 16 ((Go.Value.agg #[Go.Value.int Go.IntKind.i16 0, Go.Value.int Go.IntKind.i16 0, Go.Value.int Go.IntKind.i64 0])) := ⟨Tryz.t65, by kernel_rfl, rfl, rfl, rfl⟩
instance : Inf Tryz.prog 66 1 24 ((Go.Value.slice none 0 0)) := ⟨Tryz.t66, by kernel_rfl, rfl, rfl, rfl⟩
instance : Inf Tryz.prog 67 2 32 ((Go.Value.agg #[Go.Value.slice none 0 0, Go.Value.int Go.IntKind.i64 0])) := ⟨Tryz.t67, by kernel_rfl, rfl, rfl, rfl⟩
instance : Inf Tryz.prog 68 2 32 ((Go.Value.agg #[Go.Value.slice none 0 0, Go.Value.int Go.IntKind.i64 0])) := ⟨Tryz.t68, by kernel_rfl, rfl, rfl, rfl⟩
instance : Inf Tryz.prog 69 1 8 (Go.Value.nilFunc) := ⟨Tryz.t69, by kernel_rfl, rfl, rfl, rfl⟩
instance : Inf Tryz.prog 70 1 24 ((Go.Value.slice none 0 0)) := ⟨Tryz.t70, by kernel_rfl, rfl, rfl, rfl⟩
instance : Inf Tryz.prog 71 1 0 ((Go.Value.tuple #[Go.Value.slice none 0 0, Go.Value.int Go.IntKind.i64 0])) := ⟨Tryz.t71, by kernel_rfl, rfl, rfl, rfl⟩
instance : Inf Tryz.prog 72 1 8 (Go.Value.nilFunc) := ⟨Tryz.t72, by kernel_rfl, rfl, rfl, rfl⟩
instance : Inf Tryz.prog 73 1 0 ((Go.Value.tuple #[Go.Value.pointer none, Go.Value.int Go.IntKind.i64 0])) := ⟨Tryz.t73, by kernel_rfl, rfl, rfl, rfl⟩
instance : Inf Tryz.prog 74 1 8 (Go.Value.nilFunc) := ⟨Tryz.t74, by kernel_rfl, rfl, rfl, rfl⟩
instance : Inf Tryz.prog 75 4 32 ((Go.Value.agg #[Go.Value.int Go.IntKind.i64 0, Go.Value.int Go.IntKind.i64 0, Go.Value.int Go.IntKind.i64 0, Go.Value.int Go.IntKind.i64 0])) := ⟨Tryz.t75, by kernel_rfl, rfl, rfl, rfl⟩
instance : Inf Tryz.prog 76 1 0 ((Go.Value.tuple #[Go.Value.agg #[Go.Value.int Go.IntKind.i64 0, Go.Value.int Go.IntKind.i64 0, Go.Value.int Go.IntKind.i64 0, Go.Value.int Go.IntKind.i64 0], Go.Value.int Go.IntKind.i64 0])) := ⟨Tryz.t76, by kernel_rfl, rfl, rfl, rfl⟩
instance : Inf Tryz.prog 77 1 8 (Go.Value.nilFunc) := ⟨Tryz.t77, by kernel_rfl, rfl, rfl, rfl⟩
instance : Inf Tryz.prog 78 1 0 ((Go.Value.tuple #[Go.Value.int Go.IntKind.i64 0, Go.Value.int Go.IntKind.i64 0, Go.Value.int Go.IntKind.i64 0, Go.Value.int Go.IntKind.i64 0])) := ⟨Tryz.t78, by kernel_rfl, rfl, rfl, rfl⟩
instance : Inf Tryz.prog 79 1 8 (Go.Value.nilFunc) := ⟨Tryz.t79, by kernel_rfl, rfl, rfl, rfl⟩
instance : Inf Tryz.prog 80 1 8 (Go.Value.nilFunc) := ⟨Tryz.t80, by kernel_rfl, rfl, rfl, rfl⟩
instance : Inf Tryz.prog 81 1 8 (Go.Value.nilFunc) := ⟨Tryz.t81, by kernel_rfl, rfl, rfl, rfl⟩
instance : Inf Tryz.prog 82 1 8 (Go.Value.nilFunc) := ⟨Tryz.t82, by kernel_rfl, rfl, rfl, rfl⟩
instance : Inf Tryz.prog 83 1 0 ((Go.Value.tuple #[Go.Value.int Go.IntKind.i64 0, Go.Value.int Go.IntKind.i64 0])) := ⟨Tryz.t83, by kernel_rfl, rfl, rfl, rfl⟩
instance : Inf Tryz.prog 84 1 8 (Go.Value.nilFunc) := ⟨Tryz.t84, by kernel_rfl, rfl, rfl, rfl⟩
instance : Inf Tryz.prog 85 4 32 ((Go.Value.agg #[Go.Value.int Go.IntKind.i64 0, Go.Value.int Go.IntKind.i64 0, Go.Value.int Go.IntKind.i64 0, Go.Value.int Go.IntKind.i64 0])) := ⟨Tryz.t85, by kernel_rfl, rfl, rfl, rfl⟩
instance : Inf Tryz.prog 86 4 32 ((Go.Value.agg #[Go.Value.int Go.IntKind.i64 0, Go.Value.int Go.IntKind.i64 0, Go.Value.int Go.IntKind.i64 0, Go.Value.int Go.IntKind.i64 0])) := ⟨Tryz.t86, by kernel_rfl, rfl, rfl, rfl⟩
instance : Inf Tryz.prog 87 1 8 (Go.Value.nilFunc) := ⟨Tryz.t87, by kernel_rfl, rfl, rfl, rfl⟩
instance : Inf Tryz.prog 88 1 8 (Go.Value.nilFunc) := ⟨Tryz.t88, by kernel_rfl, rfl, rfl, rfl⟩
instance : Inf Tryz.prog 89 1 0 ((Go.Value.tuple #[Go.Value.int Go.IntKind.u64 0, Go.Value.bool false])) := ⟨Tryz.t89, by kernel_rfl, rfl, rfl, rfl⟩
instance : Inf Tryz.prog 90 1 8 (Go.Value.nilFunc) := ⟨Tryz.t90, by kernel_rfl, rfl, rfl, rfl⟩
instance : Inf Tryz.prog 91 1 8 (Go.Value.nilFunc) := ⟨Tryz.t91, by kernel_rfl, rfl, rfl, rfl⟩
instance : Inf Tryz.prog 92 1 8 (Go.Value.nilFunc) := ⟨Tryz.t92, by kernel_rfl, rfl, rfl, rfl⟩
instance : Inf Tryz.prog 93 1 8 (Go.Value.nilFunc) := ⟨Tryz.t93, by kernel_rfl, rfl, rfl, rfl⟩
instance : Inf Tryz.prog 94 1 8 (Go.Value.nilFunc) := ⟨Tryz.t94, by kernel_rfl, rfl, rfl, rfl⟩
instance : Inf Tryz.prog 95 1 8 (Go.Value.nilFunc) := ⟨Tryz.t95, by kernel_rfl, rfl, rfl, rfl⟩
instance : Inf Tryz.prog 96 1 8 (Go.Value.nilFunc) := ⟨Tryz.t96, by kernel_rfl, rfl, rfl, rfl⟩
instance : Inf Tryz.prog 97 1 8 (Go.Value.nilFunc) := ⟨Tryz.t97, by kernel_rfl, rfl, rfl, rfl⟩
instance : Inf Tryz.prog 98 1 24 ((Go.Value.slice none 0 0)) := ⟨Tryz.t98, by kernel_rfl, rfl, rfl, rfl⟩
instance : Inf Tryz.prog 99 1 8 (Go.Value.nilFunc) := ⟨Tryz.t99, by kernel_rfl, rfl, rfl, rfl⟩
instance : Inf Tryz.prog 100 2 16 ((Go.Value.agg #[Go.Value.int Go.IntKind.i64 0, Go.Value.int Go.IntKind.i64 0])) := ⟨Tryz.t100, by kernel_rfl, rfl, rfl, rfl⟩
instance : Inf Tryz.prog 101 2 16 ((Go.Value.agg #[Go.Value.int Go.IntKind.i64 0, Go.Value.int Go.IntKind.i64 0])) := ⟨Tryz.t101, by kernel_rfl, rfl, rfl, rfl⟩
instance : Inf Tryz.prog 102 1 0 ((Go.Value.tuple #[Go.Value.int Go.IntKind.i64 0, Go.Value.int Go.IntKind.i64 0, Go.Value.int Go.IntKind.i64 0, Go.Value.int Go.IntKind.i64 0])) := ⟨Tryz.t102, by kernel_rfl, rfl, rfl, rfl⟩
instance : Inf Tryz.prog 103 1 8 (Go.Value.nilFunc) := ⟨Tryz.t103, by kernel_rfl, rfl, rfl, rfl⟩
instance : Inf Tryz.prog 104 1 8 (Go.Value.nilFunc) := ⟨Tryz.t104, by kernel_rfl, rfl, rfl, rfl⟩
instance : Inf Tryz.prog 105 1 8 (Go.Value.nilFunc) := ⟨Tryz.t105, by kernel_rfl, rfl, rfl, rfl⟩
instance : Inf Tryz.prog 106 1 8 (Go.Value.nilFunc) := ⟨Tryz.t106, by kernel_rfl, rfl, rfl, rfl⟩
instance : Inf Tryz.prog 107 1 8 (Go.Value.nilFunc) := ⟨Tryz.t107, by kernel_rfl, rfl, rfl, rfl⟩
instance : Inf Tryz.prog 108 1 0 ((Go.Value.tuple #[Go.Value.agg #[Go.Value.int Go.IntKind.i64 0, Go.Value.int Go.IntKind.i64 0, Go.Value.slice none 0 0, Go.Value.int Go.IntKind.i64 0, Go.Value.int Go.IntKind.i32 0, Go.Value.int Go.IntKind.i32 0], Go.Value.int Go.IntKind.i64 0])) := ⟨Tryz.t108, by kernel_rfl, rfl, rfl, rfl⟩
instance : Inf Tryz.prog 109 1 8 (Go.Value.nilFunc) := ⟨Tryz.t109, by kernel_rfl, rfl, rfl, rfl⟩
instance : Inf Tryz.prog 110 1 24 ((Go.Value.slice none 0 0)) := ⟨Tryz.t110, by kernel_rfl, rfl, rfl, rfl⟩
instance : Inf Tryz.prog 111 8 104 ((Go.Value.agg #[Go.Value.int Go.IntKind.i64 0, Go.Value.int Go.IntKind.i64 0, Go.Value.slice none 0 0, Go.Value.int Go.IntKind.i64 0, Go.Value.int Go.IntKind.i32 0, Go.Value.int Go.IntKind.i32 0, Go.Value.slice none 0 0, Go.Value.slice none 0 0])) := ⟨Tryz.t111, by kernel_rfl, rfl, rfl, rfl⟩
instance : Inf Tryz.prog 112 8 104 ((Go.Value.agg #[Go.Value.int Go.IntKind.i64 0, Go.Value.int Go.IntKind.i64 0, Go.Value.slice none 0 0, Go.Value.int Go.IntKind.i64 0, Go.Value.int Go.IntKind.i32 0, Go.Value.int Go.IntKind.i32 0, Go.Value.slice none 0 0, Go.Value.slice none 0 0])) := ⟨Tryz.t112, by kernel_rfl, rfl, rfl, rfl⟩
instance : Inf Tryz.prog 119 1 0 ((Go.Value.tuple #[Go.Value.agg #[Go.Value.int Go.IntKind.i64 0, Go.Value.int Go.IntKind.i64 0, Go.Value.slice none 0 0, Go.Value.int Go.IntKind.i64 0, Go.Value.int Go.IntKind.i32 0, Go.Value.int Go.IntKind.i32 0, Go.Value.slice none 0 0, Go.Value.slice none 0 0], Go.Value.int Go.IntKind.i64 0])) := ⟨Tryz.t119, by kernel_rfl, rfl, rfl, rfl⟩
instance : Inf Tryz.prog 120 1 8 (Go.Value.nilFunc) := ⟨Tryz.t120, by kernel_rfl, rfl, rfl, rfl⟩
instance : Inf Tryz.prog 121 1 8 (Go.Value.nilFunc) := ⟨Tryz.t121, by kernel_rfl, rfl, rfl, rfl⟩
instance : Inf Tryz.prog 122 1 8 (Go.Value.nilFunc) := ⟨Tryz.t122, by kernel_rfl, rfl, rfl, rfl⟩
instance : Inf Tryz.prog 123 1 8 ((Go.Value.int Go.IntKind.u64 0)) := ⟨Tryz.t123, by kernel_rfl, rfl, rfl, rfl⟩
instance : Inf Tryz.prog 124 1 0 ((Go.Value.tuple #[Go.Value.int Go.IntKind.i16 0, Go.Value.int Go.IntKind.i64 0])) := ⟨Tryz.t124, by kernel_rfl, rfl, rfl, rfl⟩
instance : Inf Tryz.prog 125 1 8 (Go.Value.nilFunc) := ⟨Tryz.t125, by kernel_rfl, rfl, rfl, rfl⟩
instance : Inf Tryz.prog 126 1 8 (Go.Value.nilFunc) := ⟨Tryz.t126, by kernel_rfl, rfl, rfl, rfl⟩
instance : Inf Tryz.prog 127 2 16 ((Go.Value.agg #[Go.Value.int Go.IntKind.i64 0, Go.Value.int Go.IntKind.u64 0])) := ⟨Tryz.t127, by kernel_rfl, rfl, rfl, rfl⟩
instance : Inf Tryz.prog 128 2 16 ((Go.Value.agg #[Go.Value.int Go.IntKind.i64 0, Go.Value.int Go.IntKind.u64 0])) := ⟨Tryz.t128, by kernel_rfl, rfl, rfl, rfl⟩
instance : Inf Tryz.prog 129 1 8 (Go.Value.nilFunc) := ⟨Tryz.t129, by kernel_rfl, rfl, rfl, rfl⟩
instance : Inf Tryz.prog 130 3 24 ((Go.Value.agg #[Go.Value.int Go.IntKind.i64 0, Go.Value.int Go.IntKind.i64 0, Go.Value.int Go.IntKind.i64 0])) := ⟨Tryz.t130, by kernel_rfl, rfl, rfl, rfl⟩
instance : Inf Tryz.prog 131 3 24 ((Go.Value.agg #[Go.Value.int Go.IntKind.i64 0, Go.Value.int Go.IntKind.i64 0, Go.Value.int Go.IntKind.i64 0])) := ⟨Tryz.t131, by kernel_rfl, rfl, rfl, rfl⟩
instance : Inf Tryz.prog 132 1 24 ((Go.Value.slice none 0 0)) := ⟨Tryz.t132, by kernel_rfl, rfl, rfl, rfl⟩
instance : Inf Tryz.prog 133 1 8 (Go.Value.nilFunc) := ⟨Tryz.t133, by kernel_rfl, rfl, rfl, rfl⟩
instance : Inf Tryz.prog 134 1 8 (Go.Value.nilFunc) := ⟨Tryz.t134, by kernel_rfl, rfl, rfl, rfl⟩
instance : Inf Tryz.prog 135 1 8 (Go.Value.nilFunc) := ⟨Tryz.t135, by kernel_rfl, rfl, rfl, rfl⟩
instance : Inf Tryz.prog 136 1 0 ((Go.Value.tuple #[Go.Value.agg #[Go.Value.int Go.IntKind.i64 0, Go.Value.int Go.IntKind.u64 0], Go.Value.bool false])) := ⟨Tryz.t136, by kernel_rfl, rfl, rfl, rfl⟩
instance : Inf Tryz.prog 137 1 8 (Go.Value.nilFunc) := ⟨Tryz.t137, by kernel_rfl, rfl, rfl, rfl⟩
instance : Inf Tryz.prog 138 1 8 (Go.Value.nilFunc) := ⟨Tryz.t138, by kernel_rfl, rfl, rfl, rfl⟩
instance : Inf Tryz.prog 139 1 8 (Go.Value.nilFunc) := ⟨Tryz.t139, by kernel_rfl, rfl, rfl, rfl⟩
instance : Inf Tryz.prog 140 1 4 ((Go.Value.int Go.IntKind.u32 0)) := ⟨Tryz.t140, by kernel_rfl, rfl, rfl, rfl⟩
instance : Inf Tryz.prog 141 1 8 (Go.Value.nilFunc) := ⟨Tryz.t141, by kernel_rfl, rfl, rfl, rfl⟩
instance : Inf Tryz.prog 142 1 8 (Go.Value.nilFunc) := ⟨Tryz.t142, by kernel_rfl, rfl, rfl, rfl⟩
instance : Inf Tryz.prog 143 2 32 ((Go.Value.agg #[Go.Value.slice none 0 0, Go.Value.int Go.IntKind.i64 0])) := ⟨Tryz.t143, by kernel_rfl, rfl, rfl, rfl⟩
instance : Inf Tryz.prog 144 2 32 ((Go.Value.agg #[Go.Value.slice none 0 0, Go.Value.int Go.IntKind.i64 0])) := ⟨Tryz.t144, by kernel_rfl, rfl, rfl, rfl⟩
instance : Inf Tryz.prog 145 1 24 ((Go.Value.slice none 0 0)) := ⟨Tryz.t145, by kernel_rfl, rfl, rfl, rfl⟩
instance : Inf Tryz.prog 146 1 8 (Go.Value.nilFunc) := ⟨Tryz.t146, by kernel_rfl, rfl, rfl, rfl⟩
instance : Inf Tryz.prog 147 1 8 (Go.Value.nilFunc) := ⟨Tryz.t147, by kernel_rfl, rfl, rfl, rfl⟩
instance : Inf Tryz.prog 148 1 8 ((Go.Value.pointer none)) := ⟨Tryz.t148, by kernel_rfl, rfl, rfl, rfl⟩
instance : Inf Tryz.prog 149 1 8 (Go.Value.nilFunc) := ⟨Tryz.t149, by kernel_rfl, rfl, rfl, rfl⟩
instance : Inf Tryz.prog 150 1 8 (Go.Value.nilFunc) := ⟨Tryz.t150, by kernel_rfl, rfl, rfl, rfl⟩
instance : Inf Tryz.prog 151 1 0 ((Go.Value.tuple #[Go.Value.slice none 0 0, Go.Value.int Go.IntKind.i64 0])) := ⟨Tryz.t151, by kernel_rfl, rfl, rfl, rfl⟩
instance : Inf Tryz.prog 152 1 8 (Go.Value.nilFunc) := ⟨Tryz.t152, by kernel_rfl, rfl, rfl, rfl⟩
instance : Inf Tryz.prog 153 1 8 (Go.Value.nilFunc) := ⟨Tryz.t153, by kernel_rfl, rfl, rfl, rfl⟩
instance : Inf Tryz.prog 154 1 8 (Go.Value.nilFunc) := ⟨Tryz.t154, by kernel_rfl, rfl, rfl, rfl⟩
instance : Inf Tryz.prog 155 1 0 ((Go.Value.tuple #[Go.Value.slice none 0 0, Go.Value.bool false])) := ⟨Tryz.t155, by kernel_rfl, rfl, rfl, rfl⟩
instance : Inf Tryz.prog 156 1 8 (Go.Value.nilFunc) := ⟨Tryz.t156, by kernel_rfl, rfl, rfl, rfl⟩
instance : Inf Tryz.prog 157 1 8 ((Go.Value.pointer none)) := ⟨Tryz.t157, by kernel_rfl, rfl, rfl, rfl⟩
instance : Inf Tryz.prog 158 1 8 (Go.Value.nilFunc) := ⟨Tryz.t158, by kernel_rfl, rfl, rfl, rfl⟩
instance : Inf Tryz.prog 159 1 8 (Go.Value.nilFunc) := ⟨Tryz.t159, by kernel_rfl, rfl, rfl, rfl⟩
instance : Inf Tryz.prog 160 1 8 (Go.Value.nilFunc) := ⟨Tryz.t160, by kernel_rfl, rfl, rfl, rfl⟩
instance : Inf Tryz.prog 161 1 0 ((Go.Value.tuple #[Go.Value.int Go.IntKind.u64 0, Go.Value.int Go.IntKind.u64 0])) := ⟨Tryz.t161, by kernel_rfl, rfl, rfl, rfl⟩
instance : Inf Tryz.prog 162 1 8 (Go.Value.nilFunc) := ⟨Tryz.t162, by kernel_rfl, rfl, rfl, rfl⟩
instance : Inf Tryz.prog 163 1 8 (Go.Value.nilFunc) := ⟨Tryz.t163, by kernel_rfl, rfl, rfl, rfl⟩
instance : Inf Tryz.prog 164 1 0 ((Go.Value.tuple #[Go.Value.int Go.IntKind.i64 0, Go.Value.bool false])) := ⟨Tryz.t164, by kernel_rfl, rfl, rfl, rfl⟩
instance : Inf Tryz.prog 165 1 8 (Go.Value.nilFunc) := ⟨Tryz.t165, by kernel_rfl, rfl, rfl, rfl⟩
instance : Inf Tryz.prog 166 1 8 (Go.Value.nilFunc) := ⟨Tryz.t166, by kernel_rfl, rfl, rfl, rfl⟩
instance : Inf Tryz.prog 167 1 8 (Go.Value.nilFunc) := ⟨Tryz.t167, by kernel_rfl, rfl, rfl, rfl⟩
instance : Inf Tryz.prog 168 1 8 (Go.Value.nilFunc) := ⟨Tryz.t168, by kernel_rfl, rfl, rfl, rfl⟩
instance : Inf Tryz.prog 169 1 8 (Go.Value.nilFunc) := ⟨Tryz.t169, by kernel_rfl, rfl, rfl, rfl⟩
instance : Inf Tryz.prog 170 1 8 (Go.Value.nilFunc) := ⟨Tryz.t170, by kernel_rfl, rfl, rfl, rfl⟩
instance : Inf Tryz.prog 171 1 8 (Go.Value.nilFunc) := ⟨Tryz.t171, by kernel_rfl, rfl, rfl, rfl⟩
instance : Inf Tryz.prog 172 1 8 (Go.Value.nilFunc) := ⟨Tryz.t172, by kernel_rfl, rfl, rfl, rfl⟩
instance : Inf Tryz.prog 173 1 8 (Go.Value.nilFunc) := ⟨Tryz.t173, by kernel_rfl, rfl, rfl, rfl⟩
instance : Inf Tryz.prog 174 1 8 (Go.Value.nilFunc) := ⟨Tryz.t174, by kernel_rfl, rfl, rfl, rfl⟩
instance : Inf Tryz.prog 175 1 8 (Go.Value.nilFunc) := ⟨Tryz.t175, by kernel_rfl, rfl, rfl, rfl⟩
instance : Inf Tryz.prog 176 1 8 (Go.Value.nilFunc) := ⟨Tryz.t176, by kernel_rfl, rfl, rfl, rfl⟩
instance : Inf Tryz.prog 177 1 16 (Go.Value.nilIface) := ⟨Tryz.t177, by kernel_rfl, rfl, rfl, rfl⟩
instance : Inf Tryz.prog 178 1 16 (Go.Value.nilIface) := ⟨Tryz.t178, by kernel_rfl, rfl, rfl, rfl⟩
instance : Inf Tryz.prog 179 1 8 (Go.Value.nilFunc) := ⟨Tryz.t179, by kernel_rfl, rfl, rfl, rfl⟩
instance : Inf Tryz.prog 180 1 8 (Go.Value.nilFunc) := ⟨Tryz.t180, by kernel_rfl, rfl, rfl, rfl⟩
instance : Inf Tryz.prog 181 1 8 (Go.Value.nilFunc) := ⟨Tryz.t181, by kernel_rfl, rfl, rfl, rfl⟩
instance : Inf Tryz.prog 182 1 8 (Go.Value.nilFunc) := ⟨Tryz.t182, by kernel_rfl, rfl, rfl, rfl⟩
instance : Inf Tryz.prog 183 1 8 (Go.Value.nilFunc) := ⟨Tryz.t183, by kernel_rfl, rfl, rfl, rfl⟩
instance : Inf Tryz.prog 184 1 8 (Go.Value.nilFunc) := ⟨Tryz.t184, by kernel_rfl, rfl, rfl, rfl⟩
instance : Inf Tryz.prog 185 1 8 ((Go.Value.pointer none)) := ⟨Tryz.t185, by kernel_rfl, rfl, rfl, rfl⟩
instance : Inf Tryz.prog 186 1 8 (Go.Value.nilFunc) := ⟨Tryz.t186, by kernel_rfl, rfl, rfl, rfl⟩
instance : Inf Tryz.prog 187 1 0 ((Go.Value.tuple #[Go.Value.slice none 0 0, Go.Value.bool false])) := ⟨Tryz.t187, by kernel_rfl, rfl, rfl, rfl⟩
instance : Inf Tryz.prog 188 1 8 (Go.Value.nilFunc) := ⟨Tryz.t188, by kernel_rfl, rfl, rfl, rfl⟩
instance : Inf Tryz.prog 189 3 40 ((Go.Value.agg #[Go.Value.slice none 0 0, Go.Value.int Go.IntKind.i64 0, Go.Value.bool false])) := ⟨Tryz.t189, by kernel_rfl, rfl, rfl, rfl⟩
instance : Inf Tryz.prog 190 3 40 ((Go.Value.agg #[Go.Value.slice none 0 0, Go.Value.int Go.IntKind.i64 0, Go.Value.bool false])) := ⟨Tryz.t190, by kernel_rfl, rfl, rfl, rfl⟩
instance : Inf Tryz.prog 191 1 8 (Go.Value.nilFunc) := ⟨Tryz.t191, by kernel_rfl, rfl, rfl, rfl⟩
instance : Inf Tryz.prog 192 1 0 ((Go.Value.tuple #[Go.Value.int Go.IntKind.u32 0, Go.Value.bool false])) := ⟨Tryz.t192, by kernel_rfl, rfl, rfl, rfl⟩
instance : Inf Tryz.prog 193 1 8 (Go.Value.nilFunc) := ⟨Tryz.t193, by kernel_rfl, rfl, rfl, rfl⟩
instance : Inf Tryz.prog 194 1 8 (Go.Value.nilFunc) := ⟨Tryz.t194, by kernel_rfl, rfl, rfl, rfl⟩
instance : Inf Tryz.prog 195 1 8 (Go.Value.nilFunc) := ⟨Tryz.t195, by kernel_rfl, rfl, rfl, rfl⟩
instance : Inf Tryz.prog 196 1 8 (Go.Value.nilFunc) := ⟨Tryz.t196, by kernel_rfl, rfl, rfl, rfl⟩
instance : Inf Tryz.prog 204 1 8 (Go.Value.nilFunc) := ⟨Tryz.t204, by kernel_rfl, rfl, rfl, rfl⟩
instance : Inf Tryz.prog 205 1 8 ((Go.Value.pointer none)) := ⟨Tryz.t205, by kernel_rfl, rfl, rfl, rfl⟩
instance : Inf Tryz.prog 210 1 8 (Go.Value.nilFunc) := ⟨Tryz.t210, by kernel_rfl, rfl, rfl, rfl⟩
instance : Inf Tryz.prog 211 1 8 ((Go.Value.pointer none)) := ⟨Tryz.t211, by kernel_rfl, rfl, rfl, rfl⟩
instance : Und Tryz.prog 0 (Tryz.t0.desc) := ⟨Tryz.underlying0⟩
instance : Und Tryz.prog 1 (Tryz.t1.desc) := ⟨Tryz.underlying1⟩
instance : Und Tryz.prog 2 (Go.TypeDesc.int Go.IntKind.i64) := ⟨Tryz.underlying2⟩
instance : Und Tryz.prog 3 (Go.TypeDesc.int Go.IntKind.i64) := ⟨Tryz.underlying3⟩
instance : Und Tryz.prog 4 .bool := ⟨Tryz.underlying4⟩
instance : Und Tryz.prog 5 (Go.TypeDesc.int Go.IntKind.u8) := ⟨Tryz.underlying5⟩
instance : Und Tryz.prog 9 .string := ⟨Tryz.underlying9⟩
instance : Und Tryz.prog 12 (Go.TypeDesc.int Go.IntKind.u64) := ⟨Tryz.underlying12⟩
instance : Und Tryz.prog 13 (Tryz.t13.desc) := ⟨Tryz.underlying13⟩
instance : YesAgg (Tryz.t13.desc) := ⟨by kernel_rfl⟩
instance : Und Tryz.prog 20 (Tryz.t20.desc) := ⟨Tryz.underlying20⟩
instance : Und Tryz.prog 21 (Go.TypeDesc.int Go.IntKind.i32) := ⟨Tryz.underlying21⟩
instance : Und Tryz.prog 22 (Go.TypeDesc.slice 25) := ⟨Tryz.underlying22⟩
instance : Und Tryz.prog 23 (Tryz.t23.desc) := ⟨Tryz.underlying23⟩
instance : YesAgg (Tryz.t23.desc) := ⟨by kernel_rfl⟩
instance : Und Tryz.prog 24 (Tryz.t23.desc) := ⟨Tryz.underlying24⟩
instance : Und Tryz.prog 25 (Go.TypeDesc.int Go.IntKind.i16) := ⟨Tryz.underlying25⟩
instance : Und Tryz.prog 26 (Tryz.t26.desc) := ⟨Tryz.underlying26⟩
instance : Und Tryz.prog 27 (Tryz.t27.desc) := ⟨Tryz.underlying27⟩
instance : YesAgg (Tryz.t27.desc) := ⟨by kernel_rfl⟩
instance : Und Tryz.prog 28 (Tryz.t27.desc) := ⟨Tryz.underlying28⟩
instance : Und Tryz.prog 29 (Tryz.t29.desc) := ⟨Tryz.underlying29⟩
instance : YesAgg (Tryz.t29.desc) := ⟨by kernel_rfl⟩
instance : Und Tryz.prog 30 (Tryz.t29.desc) := ⟨Tryz.underlying30⟩
instance : Und Tryz.prog 31 (Tryz.t31.desc) := ⟨Tryz.underlying31⟩
instance : Und Tryz.prog 32 (Go.TypeDesc.int Go.IntKind.u16) := ⟨Tryz.underlying32⟩
instance : Und Tryz.prog 33 (Go.TypeDesc.pointer 68) := ⟨Tryz.underlying33⟩
instance : Und Tryz.prog 34 (Go.TypeDesc.int Go.IntKind.i64) := ⟨Tryz.underlying34⟩
instance : Und Tryz.prog 35 (Tryz.t35.desc) := ⟨Tryz.underlying35⟩
instance : Und Tryz.prog 36 (Tryz.t36.desc) := ⟨Tryz.underlying36⟩
instance : Und Tryz.prog 37 (Go.TypeDesc.pointer 118) := ⟨Tryz.underlying37⟩
instance : Und Tryz.prog 38 (Tryz.t38.desc) := ⟨Tryz.underlying38⟩
instance : Und Tryz.prog 39 (Tryz.t39.desc) := ⟨Tryz.underlying39⟩
instance : Und Tryz.prog 40 (Tryz.t40.desc) := ⟨Tryz.underlying40⟩
instance : Und Tryz.prog 41 (Tryz.t41.desc) := ⟨Tryz.underlying41⟩
instance : Und Tryz.prog 42 (Tryz.t42.desc) := ⟨Tryz.underlying42⟩
instance : Und Tryz.prog 43 (Tryz.t43.desc) := ⟨Tryz.underlying43⟩
instance : Und Tryz.prog 44 (Tryz.t44.desc) := ⟨Tryz.underlying44⟩
instance : Und Tryz.prog 45 (Tryz.t45.desc) := ⟨Tryz.underlying45⟩
instance : Und Tryz.prog 46 (Go.TypeDesc.int Go.IntKind.u64) := ⟨Tryz.underlying46⟩
instance : Und Tryz.prog 47 (Tryz.t47.desc) := ⟨Tryz.underlying47⟩
instance : Und Tryz.prog 48 (Tryz.t48.desc) := ⟨Tryz.underlying48⟩
instance : Und Tryz.prog 49 (Tryz.t49.desc) := ⟨Tryz.underlying49⟩
instance : Und Tryz.prog 50 (Tryz.t50.desc) := ⟨Tryz.underlying50⟩
instance : Und Tryz.prog 51 (Go.TypeDesc.slice 24) := ⟨Tryz.underlying51⟩
instance : Und Tryz.prog 52 (Tryz.t52.desc) := ⟨Tryz.underlying52⟩
instance : Und Tryz.prog 53 (Tryz.t52.desc) := ⟨Tryz.underlying53⟩
instance : Und Tryz.prog 54 (Tryz.t54.desc) := ⟨Tryz.underlying54⟩
instance : Und Tryz.prog 55 (Tryz.t55.desc) := ⟨Tryz.underlying55⟩
instance : YesAgg (Tryz.t55.desc) := ⟨by kernel_rfl⟩
instance : Und Tryz.prog 56 (Tryz.t55.desc) := ⟨Tryz.underlying56⟩
instance : Und Tryz.prog 57 (Tryz.t57.desc) := ⟨Tryz.underlying57⟩
instance : Und Tryz.prog 58 (Tryz.t58.desc) := ⟨Tryz.underlying58⟩
instance : Und Tryz.prog 59 (Tryz.t59.desc) := ⟨Tryz.underlying59⟩
instance : Und Tryz.prog 60 (Tryz.t60.desc) := ⟨Tryz.underlying60⟩
instance : Und Tryz.prog 61 (Go.TypeDesc.slice 65) := ⟨Tryz.underlying61⟩
instance : Und Tryz.prog 62 (Tryz.t62.desc) := ⟨Tryz.underlying62⟩
instance : YesAgg (Tryz.t62.desc) := ⟨by kernel_rfl⟩
instance : Und Tryz.prog 63 (Tryz.t62.desc) := ⟨Tryz.underlying63⟩
instance : Und Tryz.prog 64 (Tryz.t64.desc) := ⟨Tryz.underlying64⟩
instance : YesAgg (Tryz.t64.desc) := ⟨by kernel_rfl⟩
instance : Und Tryz.prog 65 (Tryz.t64.desc) := ⟨Tryz.underlying65⟩
instance : Und Tryz.prog 66 (Go.TypeDesc.slice 63) := ⟨Tryz.underlying66⟩
instance : Und Tryz.prog 67 (Tryz.t67.desc) := ⟨Tryz.underlying67⟩
instance : YesAgg (Tryz.t67.desc) := ⟨by kernel_rfl⟩
instance : Und Tryz.prog 68 (Tryz.t67.desc) := ⟨Tryz.underlying68⟩
instance : Und Tryz.prog 69 (Tryz.t69.desc) := ⟨Tryz.underlying69⟩
instance : Und Tryz.prog 70 (Go.TypeDesc.slice 5) := ⟨Tryz.underlying70⟩
instance : Und Tryz.prog 71 (Tryz.t71.desc) := ⟨Tryz.underlying71⟩
instance : Und Tryz.prog 72 (Tryz.t72.desc) := ⟨Tryz.underlying72⟩
instance : Und Tryz.prog 73 (Tryz.t73.desc) := ⟨Tryz.underlying73⟩
instance : Und Tryz.prog 74 (Tryz.t74.desc) := ⟨Tryz.underlying74⟩
instance : Und Tryz.prog 75 (Go.TypeDesc.array 4 2) := ⟨Tryz.underlying75⟩
instance : Und Tryz.prog 76 (Tryz.t76.desc) := ⟨Tryz.underlying76⟩
instance : Und Tryz.prog 77 (Tryz.t77.desc) := ⟨Tryz.underlying77⟩
instance : Und Tryz.prog 78 (Tryz.t78.desc) := ⟨Tryz.underlying78⟩
instance : Und Tryz.prog 79 (Tryz.t79.desc) := ⟨Tryz.underlying79⟩
instance : Und Tryz.prog 80 (Tryz.t80.desc) := ⟨Tryz.underlying80⟩
instance : Und Tryz.prog 81 (Tryz.t81.desc) := ⟨Tryz.underlying81⟩
instance : Und Tryz.prog 82 (Tryz.t82.desc) := ⟨Tryz.underlying82⟩
instance : Und Tryz.prog 83 (Tryz.t83.desc) := ⟨Tryz.underlying83⟩
instance : Und Tryz.prog 84 (Tryz.t84.desc) := ⟨Tryz.underlying84⟩
instance : Und Tryz.prog 85 (Tryz.t85.desc) := ⟨Tryz.underlying85⟩
instance : YesAgg (Tryz.t85.desc) := ⟨by kernel_rfl⟩
instance : Und Tryz.prog 86 (Tryz.t85.desc) := ⟨Tryz.underlying86⟩
instance : Und Tryz.prog 87 (Tryz.t87.desc) := ⟨Tryz.underlying87⟩
instance : Und Tryz.prog 88 (Tryz.t88.desc) := ⟨Tryz.underlying88⟩
instance : Und Tryz.prog 89 (Tryz.t89.desc) := ⟨Tryz.underlying89⟩
instance : Und Tryz.prog 90 (Tryz.t90.desc) := ⟨Tryz.underlying90⟩
instance : Und Tryz.prog 91 (Tryz.t91.desc) := ⟨Tryz.underlying91⟩
instance : Und Tryz.prog 92 (Tryz.t92.desc) := ⟨Tryz.underlying92⟩
instance : Und Tryz.prog 93 (Tryz.t93.desc) := ⟨Tryz.underlying93⟩
instance : Und Tryz.prog 94 (Tryz.t94.desc) := ⟨Tryz.underlying94⟩
instance : Und Tryz.prog 95 (Tryz.t95.desc) := ⟨Tryz.underlying95⟩
instance : Und Tryz.prog 96 (Tryz.t96.desc) := ⟨Tryz.underlying96⟩
instance : Und Tryz.prog 97 (Tryz.t97.desc) := ⟨Tryz.underlying97⟩
instance : Und Tryz.prog 98 (Go.TypeDesc.slice 101) := ⟨Tryz.underlying98⟩
instance : Und Tryz.prog 99 (Tryz.t99.desc) := ⟨Tryz.underlying99⟩
instance : Und Tryz.prog 100 (Tryz.t100.desc) := ⟨Tryz.underlying100⟩
instance : YesAgg (Tryz.t100.desc) := ⟨by kernel_rfl⟩
instance : Und Tryz.prog 101 (Tryz.t100.desc) := ⟨Tryz.underlying101⟩
instance : Und Tryz.prog 102 (Tryz.t102.desc) := ⟨Tryz.underlying102⟩
instance : Und Tryz.prog 103 (Tryz.t103.desc) := ⟨Tryz.underlying103⟩
instance : Und Tryz.prog 104 (Tryz.t104.desc) := ⟨Tryz.underlying104⟩
instance : Und Tryz.prog 105 (Tryz.t105.desc) := ⟨Tryz.underlying105⟩
instance : Und Tryz.prog 106 (Tryz.t106.desc) := ⟨Tryz.underlying106⟩
instance : Und Tryz.prog 107 (Tryz.t107.desc) := ⟨Tryz.underlying107⟩
instance : Und Tryz.prog 108 (Tryz.t108.desc) := ⟨Tryz.underlying108⟩
instance : Und Tryz.prog 109 (Tryz.t109.desc) := ⟨Tryz.underlying109⟩
instance : Und Tryz.prog 110 (Go.TypeDesc.slice 3) := ⟨Tryz.underlying110⟩
instance : Und Tryz.prog 111 (Tryz.t111.desc) := ⟨Tryz.underlying111⟩
instance : YesAgg (Tryz.t111.desc) := ⟨by kernel_rfl⟩
instance : Und Tryz.prog 112 (Tryz.t111.desc) := ⟨Tryz.underlying112⟩
instance : Und Tryz.prog 113 (Go.TypeDesc.array 256 25) := ⟨Tryz.underlying113⟩
instance : Und Tryz.prog 114 (Tryz.t114.desc) := ⟨Tryz.underlying114⟩
instance : YesAgg (Tryz.t114.desc) := ⟨by kernel_rfl⟩
instance : Und Tryz.prog 115 (Tryz.t114.desc) := ⟨Tryz.underlying115⟩
instance : Und Tryz.prog 116 (Go.TypeDesc.array 32 115) := ⟨Tryz.underlying116⟩
instance : Und Tryz.prog 117 (Tryz.t117.desc) := ⟨Tryz.underlying117⟩
instance : YesAgg (Tryz.t117.desc) := ⟨by kernel_rfl⟩
instance : Und Tryz.prog 118 (Tryz.t117.desc) := ⟨Tryz.underlying118⟩
instance : Und Tryz.prog 119 (Tryz.t119.desc) := ⟨Tryz.underlying119⟩
instance : Und Tryz.prog 120 (Tryz.t120.desc) := ⟨Tryz.underlying120⟩
instance : Und Tryz.prog 121 (Tryz.t121.desc) := ⟨Tryz.underlying121⟩
instance : Und Tryz.prog 122 (Tryz.t122.desc) := ⟨Tryz.underlying122⟩
instance : Und Tryz.prog 123 (Go.TypeDesc.int Go.IntKind.u64) := ⟨Tryz.underlying123⟩
instance : Und Tryz.prog 124 (Tryz.t124.desc) := ⟨Tryz.underlying124⟩
instance : Und Tryz.prog 125 (Tryz.t125.desc) := ⟨Tryz.underlying125⟩
instance : Und Tryz.prog 126 (Tryz.t126.desc) := ⟨Tryz.underlying126⟩
instance : Und Tryz.prog 127 (Tryz.t127.desc) := ⟨Tryz.underlying127⟩
instance : YesAgg (Tryz.t127.desc) := ⟨by kernel_rfl⟩
instance : Und Tryz.prog 128 (Tryz.t127.desc) := ⟨Tryz.underlying128⟩
instance : Und Tryz.prog 129 (Tryz.t129.desc) := ⟨Tryz.underlying129⟩
instance : Und Tryz.prog 130 (Tryz.t130.desc) := ⟨Tryz.underlying130⟩
instance : YesAgg (Tryz.t130.desc) := ⟨by kernel_rfl⟩
instance : Und Tryz.prog 131 (Tryz.t130.desc) := ⟨Tryz.underlying131⟩
instance : Und Tryz.prog 132 (Go.TypeDesc.slice 131) := ⟨Tryz.underlying132⟩
instance : Und Tryz.prog 133 (Tryz.t133.desc) := ⟨Tryz.underlying133⟩
instance : Und Tryz.prog 134 (Tryz.t134.desc) := ⟨Tryz.underlying134⟩
instance : Und Tryz.prog 135 (Tryz.t135.desc) := ⟨Tryz.underlying135⟩
instance : Und Tryz.prog 136 (Tryz.t136.desc) := ⟨Tryz.underlying136⟩
instance : Und Tryz.prog 137 (Tryz.t137.desc) := ⟨Tryz.underlying137⟩
instance : Und Tryz.prog 138 (Tryz.t138.desc) := ⟨Tryz.underlying138⟩
instance : Und Tryz.prog 139 (Tryz.t139.desc) := ⟨Tryz.underlying139⟩
instance : Und Tryz.prog 140 (Go.TypeDesc.int Go.IntKind.u32) := ⟨Tryz.underlying140⟩
instance : Und Tryz.prog 141 (Tryz.t141.desc) := ⟨Tryz.underlying141⟩
instance : Und Tryz.prog 142 (Tryz.t142.desc) := ⟨Tryz.underlying142⟩
instance : Und Tryz.prog 143 (Tryz.t143.desc) := ⟨Tryz.underlying143⟩
instance : YesAgg (Tryz.t143.desc) := ⟨by kernel_rfl⟩
instance : Und Tryz.prog 144 (Tryz.t143.desc) := ⟨Tryz.underlying144⟩
instance : Und Tryz.prog 145 (Go.TypeDesc.slice 21) := ⟨Tryz.underlying145⟩
instance : Und Tryz.prog 146 (Tryz.t146.desc) := ⟨Tryz.underlying146⟩
instance : Und Tryz.prog 147 (Tryz.t147.desc) := ⟨Tryz.underlying147⟩
instance : Und Tryz.prog 148 (Go.TypeDesc.pointer 144) := ⟨Tryz.underlying148⟩
instance : Und Tryz.prog 149 (Tryz.t149.desc) := ⟨Tryz.underlying149⟩
instance : Und Tryz.prog 150 (Tryz.t150.desc) := ⟨Tryz.underlying150⟩
instance : Und Tryz.prog 151 (Tryz.t151.desc) := ⟨Tryz.underlying151⟩
instance : Und Tryz.prog 152 (Tryz.t152.desc) := ⟨Tryz.underlying152⟩
instance : Und Tryz.prog 153 (Tryz.t153.desc) := ⟨Tryz.underlying153⟩
instance : Und Tryz.prog 154 (Tryz.t154.desc) := ⟨Tryz.underlying154⟩
instance : Und Tryz.prog 155 (Tryz.t155.desc) := ⟨Tryz.underlying155⟩
instance : Und Tryz.prog 156 (Tryz.t156.desc) := ⟨Tryz.underlying156⟩
instance : Und Tryz.prog 157 (Go.TypeDesc.pointer 115) := ⟨Tryz.underlying157⟩
instance : Und Tryz.prog 158 (Tryz.t158.desc) := ⟨Tryz.underlying158⟩
instance : Und Tryz.prog 159 (Tryz.t159.desc) := ⟨Tryz.underlying159⟩
instance : Und Tryz.prog 160 (Tryz.t160.desc) := ⟨Tryz.underlying160⟩
instance : Und Tryz.prog 161 (Tryz.t161.desc) := ⟨Tryz.underlying161⟩
instance : Und Tryz.prog 162 (Tryz.t162.desc) := ⟨Tryz.underlying162⟩
instance : Und Tryz.prog 163 (Tryz.t163.desc) := ⟨Tryz.underlying163⟩
instance : Und Tryz.prog 164 (Tryz.t164.desc) := ⟨Tryz.underlying164⟩
instance : Und Tryz.prog 165 (Tryz.t165.desc) := ⟨Tryz.underlying165⟩
instance : Und Tryz.prog 166 (Tryz.t166.desc) := ⟨Tryz.underlying166⟩
instance : Und Tryz.prog 167 (Tryz.t167.desc) := ⟨Tryz.underlying167⟩
instance : Und Tryz.prog 168 (Tryz.t168.desc) := ⟨Tryz.underlying168⟩
instance : Und Tryz.prog 169 (Tryz.t169.desc) := ⟨Tryz.underlying169⟩
instance : Und Tryz.prog 170 (Tryz.t169.desc) := ⟨Tryz.underlying170⟩
instance : Und Tryz.prog 171 (Tryz.t171.desc) := ⟨Tryz.underlying171⟩
instance : Und Tryz.prog 172 (Tryz.t172.desc) := ⟨Tryz.underlying172⟩
instance : Und Tryz.prog 173 (Tryz.t173.desc) := ⟨Tryz.underlying173⟩
instance : Und Tryz.prog 174 (Tryz.t174.desc) := ⟨Tryz.underlying174⟩
instance : Und Tryz.prog 175 (Tryz.t175.desc) := ⟨Tryz.underlying175⟩
instance : Und Tryz.prog 176 (Tryz.t176.desc) := ⟨Tryz.underlying176⟩
instance : Und Tryz.prog 177 (Tryz.t177.desc) := ⟨Tryz.underlying177⟩
instance : Und Tryz.prog 178 (Tryz.t177.desc) := ⟨Tryz.underlying178⟩
instance : Und Tryz.prog 179 (Tryz.t179.desc) := ⟨Tryz.underlying179⟩
instance : Und Tryz.prog 180 (Tryz.t180.desc) := ⟨Tryz.underlying180⟩
instance : Und Tryz.prog 181 (Tryz.t181.desc) := ⟨Tryz.underlying181⟩
instance : Und Tryz.prog 182 (Tryz.t182.desc) := ⟨Tryz.underlying182⟩
instance : Und Tryz.prog 183 (Tryz.t183.desc) := ⟨Tryz.underlying183⟩
instance : Und Tryz.prog 184 (Tryz.t184.desc) := ⟨Tryz.underlying184⟩
instance : Und Tryz.prog 185 (Go.TypeDesc.pointer 190) := ⟨Tryz.underlying185⟩
instance : Und Tryz.prog 186 (Tryz.t186.desc) := ⟨Tryz.underlying186⟩
instance : Und Tryz.prog 187 (Tryz.t187.desc) := ⟨Tryz.underlying187⟩
instance : Und Tryz.prog 188 (Tryz.t188.desc) := ⟨Tryz.underlying188⟩
instance : Und Tryz.prog 189 (Tryz.t189.desc) := ⟨Tryz.underlying189⟩
instance : YesAgg (Tryz.t189.desc) := ⟨by kernel_rfl⟩
instance : Und Tryz.prog 190 (Tryz.t189.desc) := ⟨Tryz.underlying190⟩
instance : Und Tryz.prog 191 (Tryz.t191.desc) := ⟨Tryz.underlying191⟩
instance : Und Tryz.prog 192 (Tryz.t192.desc) := ⟨Tryz.underlying192⟩
instance : Und Tryz.prog 193 (Tryz.t193.desc) := ⟨Tryz.underlying193⟩
instance : Und Tryz.prog 194 (Tryz.t194.desc) := ⟨Tryz.underlying194⟩
instance : Und Tryz.prog 195 (Tryz.t195.desc) := ⟨Tryz.underlying195⟩
instance : Und Tryz.prog 196 (Tryz.t196.desc) := ⟨Tryz.underlying196⟩
instance : Und Tryz.prog 204 (Tryz.t204.desc) := ⟨Tryz.underlying204⟩
instance : Und Tryz.prog 205 (Go.TypeDesc.pointer 5) := ⟨Tryz.underlying205⟩
instance : Und Tryz.prog 210 (Tryz.t210.desc) := ⟨Tryz.underlying210⟩
instance : Und Tryz.prog 211 (Tryz.t211.desc) := ⟨Tryz.underlying211⟩
instance : Pl Tryz.prog 13 [(0, 1), (1, 1)] := ⟨_, Tryz.underlying13, fun w => by kernel_rfl⟩
instance : Ff Tryz.prog 13 0 0 9 := ⟨_, _, Tryz.underlying13, rfl, rfl, rfl⟩
instance : Fa Tryz.prog 13 0 0 := ⟨_, _, Tryz.t9, Tryz.underlying13, rfl, by kernel_rfl, by decide, rfl⟩
instance : Ff Tryz.prog 13 1 1 12 := ⟨_, _, Tryz.underlying13, rfl, rfl, rfl⟩
instance : Fa Tryz.prog 13 1 1 := ⟨_, _, Tryz.t12, Tryz.underlying13, rfl, by kernel_rfl, by decide, rfl⟩
instance : Pl Tryz.prog 23 [(0, 1), (1, 1)] := ⟨_, Tryz.underlying23, fun w => by kernel_rfl⟩
instance : Ff Tryz.prog 23 0 0 2 := ⟨_, _, Tryz.underlying23, rfl, rfl, rfl⟩
instance : Fa Tryz.prog 23 0 0 := ⟨_, _, Tryz.t2, Tryz.underlying23, rfl, by kernel_rfl, by decide, rfl⟩
instance : Ff Tryz.prog 23 1 1 2 := ⟨_, _, Tryz.underlying23, rfl, rfl, rfl⟩
instance : Fa Tryz.prog 23 1 1 := ⟨_, _, Tryz.t2, Tryz.underlying23, rfl, by kernel_rfl, by decide, rfl⟩
instance : Pl Tryz.prog 24 [(0, 1), (1, 1)] := ⟨_, Tryz.underlying24, fun w => by kernel_rfl⟩
instance : Ff Tryz.prog 24 0 0 2 := ⟨_, _, Tryz.underlying24, rfl, rfl, rfl⟩
instance : Fa Tryz.prog 24 0 0 := ⟨_, _, Tryz.t2, Tryz.underlying24, rfl, by kernel_rfl, by decide, rfl⟩
instance : Ff Tryz.prog 24 1 1 2 := ⟨_, _, Tryz.underlying24, rfl, rfl, rfl⟩
instance : Fa Tryz.prog 24 1 1 := ⟨_, _, Tryz.t2, Tryz.underlying24, rfl, by kernel_rfl, by decide, rfl⟩
instance : Pl Tryz.prog 27 [(0, 1), (1, 1), (2, 1)] := ⟨_, Tryz.underlying27, fun w => by kernel_rfl⟩
instance : Ff Tryz.prog 27 0 0 3 := ⟨_, _, Tryz.underlying27, rfl, rfl, rfl⟩
instance : Fa Tryz.prog 27 0 0 := ⟨_, _, Tryz.t3, Tryz.underlying27, rfl, by kernel_rfl, by decide, rfl⟩
instance : Ff Tryz.prog 27 1 1 3 := ⟨_, _, Tryz.underlying27, rfl, rfl, rfl⟩
instance : Fa Tryz.prog 27 1 1 := ⟨_, _, Tryz.t3, Tryz.underlying27, rfl, by kernel_rfl, by decide, rfl⟩
instance : Ff Tryz.prog 27 2 2 22 := ⟨_, _, Tryz.underlying27, rfl, rfl, rfl⟩
instance : Fa Tryz.prog 27 2 2 := ⟨_, _, Tryz.t22, Tryz.underlying27, rfl, by kernel_rfl, by decide, rfl⟩
instance : Pl Tryz.prog 28 [(0, 1), (1, 1), (2, 1)] := ⟨_, Tryz.underlying28, fun w => by kernel_rfl⟩
instance : Ff Tryz.prog 28 0 0 3 := ⟨_, _, Tryz.underlying28, rfl, rfl, rfl⟩
instance : Fa Tryz.prog 28 0 0 := ⟨_, _, Tryz.t3, Tryz.underlying28, rfl, by kernel_rfl, by decide, rfl⟩
instance : Ff Tryz.prog 28 1 1 3 := ⟨_, _, Tryz.underlying28, rfl, rfl, rfl⟩
instance : Fa Tryz.prog 28 1 1 := ⟨_, _, Tryz.t3, Tryz.underlying28, rfl, by kernel_rfl, by decide, rfl⟩
instance : Ff Tryz.prog 28 2 2 22 := ⟨_, _, Tryz.underlying28, rfl, rfl, rfl⟩
instance : Fa Tryz.prog 28 2 2 := ⟨_, _, Tryz.t22, Tryz.underlying28, rfl, by kernel_rfl, by decide, rfl⟩
instance : Pl Tryz.prog 29 [(0, 3), (3, 1), (4, 1), (5, 1)] := ⟨_, Tryz.underlying29, fun w => by kernel_rfl⟩
instance : Ff Tryz.prog 29 0 0 28 := ⟨_, _, Tryz.underlying29, rfl, rfl, rfl⟩
instance : Fa Tryz.prog 29 0 0 := ⟨_, _, Tryz.t28, Tryz.underlying29, rfl, by kernel_rfl, by decide, rfl⟩
instance : Ff Tryz.prog 29 1 3 3 := ⟨_, _, Tryz.underlying29, rfl, rfl, rfl⟩
instance : Fa Tryz.prog 29 1 3 := ⟨_, _, Tryz.t3, Tryz.underlying29, rfl, by kernel_rfl, by decide, rfl⟩
instance : Ff Tryz.prog 29 2 4 21 := ⟨_, _, Tryz.underlying29, rfl, rfl, rfl⟩
instance : Fa Tryz.prog 29 2 4 := ⟨_, _, Tryz.t21, Tryz.underlying29, rfl, by kernel_rfl, by decide, rfl⟩
instance : Ff Tryz.prog 29 3 5 21 := ⟨_, _, Tryz.underlying29, rfl, rfl, rfl⟩
instance : Fa Tryz.prog 29 3 5 := ⟨_, _, Tryz.t21, Tryz.underlying29, rfl, by kernel_rfl, by decide, rfl⟩
instance : Pl Tryz.prog 30 [(0, 3), (3, 1), (4, 1), (5, 1)] := ⟨_, Tryz.underlying30, fun w => by kernel_rfl⟩
instance : Ff Tryz.prog 30 0 0 28 := ⟨_, _, Tryz.underlying30, rfl, rfl, rfl⟩
instance : Fa Tryz.prog 30 0 0 := ⟨_, _, Tryz.t28, Tryz.underlying30, rfl, by kernel_rfl, by decide, rfl⟩
instance : Ff Tryz.prog 30 1 3 3 := ⟨_, _, Tryz.underlying30, rfl, rfl, rfl⟩
instance : Fa Tryz.prog 30 1 3 := ⟨_, _, Tryz.t3, Tryz.underlying30, rfl, by kernel_rfl, by decide, rfl⟩
instance : Ff Tryz.prog 30 2 4 21 := ⟨_, _, Tryz.underlying30, rfl, rfl, rfl⟩
instance : Fa Tryz.prog 30 2 4 := ⟨_, _, Tryz.t21, Tryz.underlying30, rfl, by kernel_rfl, by decide, rfl⟩
instance : Ff Tryz.prog 30 3 5 21 := ⟨_, _, Tryz.underlying30, rfl, rfl, rfl⟩
instance : Fa Tryz.prog 30 3 5 := ⟨_, _, Tryz.t21, Tryz.underlying30, rfl, by kernel_rfl, by decide, rfl⟩
instance : Pl Tryz.prog 55 [(0, 1), (1, 1), (2, 1)] := ⟨_, Tryz.underlying55, fun w => by kernel_rfl⟩
instance : Ff Tryz.prog 55 0 0 3 := ⟨_, _, Tryz.underlying55, rfl, rfl, rfl⟩
instance : Fa Tryz.prog 55 0 0 := ⟨_, _, Tryz.t3, Tryz.underlying55, rfl, by kernel_rfl, by decide, rfl⟩
instance : Ff Tryz.prog 55 1 1 3 := ⟨_, _, Tryz.underlying55, rfl, rfl, rfl⟩
instance : Fa Tryz.prog 55 1 1 := ⟨_, _, Tryz.t3, Tryz.underlying55, rfl, by kernel_rfl, by decide, rfl⟩
instance : Ff Tryz.prog 55 2 2 3 := ⟨_, _, Tryz.underlying55, rfl, rfl, rfl⟩
instance : Fa Tryz.prog 55 2 2 := ⟨_, _, Tryz.t3, Tryz.underlying55, rfl, by kernel_rfl, by decide, rfl⟩
instance : Pl Tryz.prog 56 [(0, 1), (1, 1), (2, 1)] := ⟨_, Tryz.underlying56, fun w => by kernel_rfl⟩
instance : Ff Tryz.prog 56 0 0 3 := ⟨_, _, Tryz.underlying56, rfl, rfl, rfl⟩
instance : Fa Tryz.prog 56 0 0 := ⟨_, _, Tryz.t3, Tryz.underlying56, rfl, by kernel_rfl, by decide, rfl⟩
instance : Ff Tryz.prog 56 1 1 3 := ⟨_, _, Tryz.underlying56, rfl, rfl, rfl⟩
instance : Fa Tryz.prog 56 1 1 := ⟨_, _, Tryz.t3, Tryz.underlying56, rfl, by kernel_rfl, by decide, rfl⟩
instance : Ff Tryz.prog 56 2 2 3 := ⟨_, _, Tryz.underlying56, rfl, rfl, rfl⟩
instance : Fa Tryz.prog 56 2 2 := ⟨_, _, Tryz.t3, Tryz.underlying56, rfl, by kernel_rfl, by decide, rfl⟩
instance : Pl Tryz.prog 62 [(0, 1), (1, 1), (2, 1)] := ⟨_, Tryz.underlying62, fun w => by kernel_rfl⟩
instance : Ff Tryz.prog 62 0 0 3 := ⟨_, _, Tryz.underlying62, rfl, rfl, rfl⟩
instance : Fa Tryz.prog 62 0 0 := ⟨_, _, Tryz.t3, Tryz.underlying62, rfl, by kernel_rfl, by decide, rfl⟩
instance : Ff Tryz.prog 62 1 1 3 := ⟨_, _, Tryz.underlying62, rfl, rfl, rfl⟩
instance : Fa Tryz.prog 62 1 1 := ⟨_, _, Tryz.t3, Tryz.underlying62, rfl, by kernel_rfl, by decide, rfl⟩
instance : Ff Tryz.prog 62 2 2 61 := ⟨_, _, Tryz.underlying62, rfl, rfl, rfl⟩
instance : Fa Tryz.prog 62 2 2 := ⟨_, _, Tryz.t61, Tryz.underlying62, rfl, by kernel_rfl, by decide, rfl⟩
instance : Pl Tryz.prog 63 [(0, 1), (1, 1), (2, 1)] := ⟨_, Tryz.underlying63, fun w => by kernel_rfl⟩
instance : Ff Tryz.prog 63 0 0 3 := ⟨_, _, Tryz.underlying63, rfl, rfl, rfl⟩
instance : Fa Tryz.prog 63 0 0 := ⟨_, _, Tryz.t3, Tryz.underlying63, rfl, by kernel_rfl, by decide, rfl⟩
instance : Ff Tryz.prog 63 1 1 3 := ⟨_, _, Tryz.underlying63, rfl, rfl, rfl⟩
instance : Fa Tryz.prog 63 1 1 := ⟨_, _, Tryz.t3, Tryz.underlying63, rfl, by kernel_rfl, by decide, rfl⟩
instance : Ff Tryz.prog 63 2 2 61 := ⟨_, _, Tryz.underlying63, rfl, rfl, rfl⟩
instance : Fa Tryz.prog 63 2 2 := ⟨_, _, Tryz.t61, Tryz.underlying63, rfl, by kernel_rfl, by decide, rfl⟩
instance : Pl Tryz.prog 64 [(0, 1), (1, 1), (2, 1)] := ⟨_, Tryz.underlying64, fun w => by kernel_rfl⟩
instance : Ff Tryz.prog 64 0 0 25 := ⟨_, _, Tryz.underlying64, rfl, rfl, rfl⟩
instance : Fa Tryz.prog 64 0 0 := ⟨_, _, Tryz.t25, Tryz.underlying64, rfl, by kernel_rfl, by decide, rfl⟩
instance : Ff Tryz.prog 64 1 1 25 := ⟨_, _, Tryz.underlying64, rfl, rfl, rfl⟩
instance : Fa Tryz.prog 64 1 1 := ⟨_, _, Tryz.t25, Tryz.underlying64, rfl, by kernel_rfl, by decide, rfl⟩
instance : Ff Tryz.prog 64 2 2 3 := ⟨_, _, Tryz.underlying64, rfl, rfl, rfl⟩
instance : Fa Tryz.prog 64 2 2 := ⟨_, _, Tryz.t3, Tryz.underlying64, rfl, by kernel_rfl, by decide, rfl⟩
instance : Pl Tryz.prog 65 [(0, 1), (1, 1), (2, 1)] := ⟨_, Tryz.underlying65, fun w => by kernel_rfl⟩
instance : Ff Tryz.prog 65 0 0 25 := ⟨_, _, Tryz.underlying65, rfl, rfl, rfl⟩
instance : Fa Tryz.prog 65 0 0 := ⟨_, _, Tryz.t25, Tryz.underlying65, rfl, by kernel_rfl, by decide, rfl⟩
instance : Ff Tryz.prog 65 1 1 25 := ⟨_, _, Tryz.underlying65, rfl, rfl, rfl⟩
instance : Fa Tryz.prog 65 1 1 := ⟨_, _, Tryz.t25, Tryz.underlying65, rfl, by kernel_rfl, by decide, rfl⟩
instance : Ff Tryz.prog 65 2 2 3 := ⟨_, _, Tryz.underlying65, rfl, rfl, rfl⟩
instance : Fa Tryz.prog 65 2 2 := ⟨_, _, Tryz.t3, Tryz.underlying65, rfl, by kernel_rfl, by decide, rfl⟩
instance : Pl Tryz.prog 67 [(0, 1), (1, 1)] := ⟨_, Tryz.underlying67, fun w => by kernel_rfl⟩
instance : Ff Tryz.prog 67 0 0 66 := ⟨_, _, Tryz.underlying67, rfl, rfl, rfl⟩
instance : Fa Tryz.prog 67 0 0 := ⟨_, _, Tryz.t66, Tryz.underlying67, rfl, by kernel_rfl, by decide, rfl⟩
instance : Ff Tryz.prog 67 1 1 3 := ⟨_, _, Tryz.underlying67, rfl, rfl, rfl⟩
instance : Fa Tryz.prog 67 1 1 := ⟨_, _, Tryz.t3, Tryz.underlying67, rfl, by kernel_rfl, by decide, rfl⟩
instance : Pl Tryz.prog 68 [(0, 1), (1, 1)] := ⟨_, Tryz.underlying68, fun w => by kernel_rfl⟩
instance : Ff Tryz.prog 68 0 0 66 := ⟨_, _, Tryz.underlying68, rfl, rfl, rfl⟩
instance : Fa Tryz.prog 68 0 0 := ⟨_, _, Tryz.t66, Tryz.underlying68, rfl, by kernel_rfl, by decide, rfl⟩
instance : Ff Tryz.prog 68 1 1 3 := ⟨_, _, Tryz.underlying68, rfl, rfl, rfl⟩
instance : Fa Tryz.prog 68 1 1 := ⟨_, _, Tryz.t3, Tryz.underlying68, rfl, by kernel_rfl, by decide, rfl⟩
instance : Pl Tryz.prog 85 [(0, 1), (1, 1), (2, 1), (3, 1)] := ⟨_, Tryz.underlying85, fun w => by kernel_rfl⟩
instance : Ff Tryz.prog 85 0 0 3 := ⟨_, _, Tryz.underlying85, rfl, rfl, rfl⟩
instance : Fa Tryz.prog 85 0 0 := ⟨_, _, Tryz.t3, Tryz.underlying85, rfl, by kernel_rfl, by decide, rfl⟩
instance : Ff Tryz.prog 85 1 1 3 := ⟨_, _, Tryz.underlying85, rfl, rfl, rfl⟩
instance : Fa Tryz.prog 85 1 1 := ⟨_, _, Tryz.t3, Tryz.underlying85, rfl, by kernel_rfl, by decide, rfl⟩
instance : Ff Tryz.prog 85 2 2 3 := ⟨_, _, Tryz.underlying85, rfl, rfl, rfl⟩
instance : Fa Tryz.prog 85 2 2 := ⟨_, _, Tryz.t3, Tryz.underlying85, rfl, by kernel_rfl, by decide, rfl⟩
instance : Ff Tryz.prog 85 3 3 3 := ⟨_, _, Tryz.underlying85, rfl, rfl, rfl⟩
instance : Fa Tryz.prog 85 3 3 := ⟨_, _, Tryz.t3, Tryz.underlying85, rfl, by kernel_rfl, by decide, rfl⟩
instance : Pl Tryz.prog 86 [(0, 1), (1, 1), (2, 1), (3, 1)] := ⟨_, Tryz.underlying86, fun w => by kernel_rfl⟩
instance : Ff Tryz.prog 86 0 0 3 := ⟨_, _, Tryz.underlying86, rfl, rfl, rfl⟩
instance : Fa Tryz.prog 86 0 0 := ⟨_, _, Tryz.t3, Tryz.underlying86, rfl, by kernel_rfl, by decide, rfl⟩
instance : Ff Tryz.prog 86 1 1 3 := ⟨_, _, Tryz.underlying86, rfl, rfl, rfl⟩
instance : Fa Tryz.prog 86 1 1 := ⟨_, _, Tryz.t3, Tryz.underlying86, rfl, by kernel_rfl, by decide, rfl⟩
instance : Ff Tryz.prog 86 2 2 3 := ⟨_, _, Tryz.underlying86, rfl, rfl, rfl⟩
instance : Fa Tryz.prog 86 2 2 := ⟨_, _, Tryz.t3, Tryz.underlying86, rfl, by kernel_rfl, by decide, rfl⟩
instance : Ff Tryz.prog 86 3 3 3 := ⟨_, _, Tryz.underlying86, rfl, rfl, rfl⟩
instance : Fa Tryz.prog 86 3 3 := ⟨_, _, Tryz.t3, Tryz.underlying86, rfl, by kernel_rfl, by decide, rfl⟩
instance : Pl Tryz.prog 100 [(0, 1), (1, 1)] := ⟨_, Tryz.underlying100, fun w => by kernel_rfl⟩
instance : Ff Tryz.prog 100 0 0 3 := ⟨_, _, Tryz.underlying100, rfl, rfl, rfl⟩
instance : Fa Tryz.prog 100 0 0 := ⟨_, _, Tryz.t3, Tryz.underlying100, rfl, by kernel_rfl, by decide, rfl⟩
instance : Ff Tryz.prog 100 1 1 3 := ⟨_, _, Tryz.underlying100, rfl, rfl, rfl⟩
instance : Fa Tryz.prog 100 1 1 := ⟨_, _, Tryz.t3, Tryz.underlying100, rfl, by kernel_rfl, by decide, rfl⟩
instance : Pl Tryz.prog 101 [(0, 1), (1, 1)] := ⟨_, Tryz.underlying101, fun w => by kernel_rfl⟩
instance : Ff Tryz.prog 101 0 0 3 := ⟨_, _, Tryz.underlying101, rfl, rfl, rfl⟩
instance : Fa Tryz.prog 101 0 0 := ⟨_, _, Tryz.t3, Tryz.underlying101, rfl, by kernel_rfl, by decide, rfl⟩
instance : Ff Tryz.prog 101 1 1 3 := ⟨_, _, Tryz.underlying101, rfl, rfl, rfl⟩
instance : Fa Tryz.prog 101 1 1 := ⟨_, _, Tryz.t3, Tryz.underlying101, rfl, by kernel_rfl, by decide, rfl⟩
instance : Pl Tryz.prog 111 [(0, 6), (6, 1), (7, 1)] := ⟨_, Tryz.underlying111, fun w => by kernel_rfl⟩
instance : Ff Tryz.prog 111 0 0 30 := ⟨_, _, Tryz.underlying111, rfl, rfl, rfl⟩
instance : Fa Tryz.prog 111 0 0 := ⟨_, _, Tryz.t30, Tryz.underlying111, rfl, by kernel_rfl, by decide, rfl⟩
instance : Ff Tryz.prog 111 1 6 110 := ⟨_, _, Tryz.underlying111, rfl, rfl, rfl⟩
instance : Fa Tryz.prog 111 1 6 := ⟨_, _, Tryz.t110, Tryz.underlying111, rfl, by kernel_rfl, by decide, rfl⟩
instance : Ff Tryz.prog 111 2 7 110 := ⟨_, _, Tryz.underlying111, rfl, rfl, rfl⟩
instance : Fa Tryz.prog 111 2 7 := ⟨_, _, Tryz.t110, Tryz.underlying111, rfl, by kernel_rfl, by decide, rfl⟩
instance : Pl Tryz.prog 112 [(0, 6), (6, 1), (7, 1)] := ⟨_, Tryz.underlying112, fun w => by kernel_rfl⟩
instance : Ff Tryz.prog 112 0 0 30 := ⟨_, _, Tryz.underlying112, rfl, rfl, rfl⟩
instance : Fa Tryz.prog 112 0 0 := ⟨_, _, Tryz.t30, Tryz.underlying112, rfl, by kernel_rfl, by decide, rfl⟩
instance : Ff Tryz.prog 112 1 6 110 := ⟨_, _, Tryz.underlying112, rfl, rfl, rfl⟩
instance : Fa Tryz.prog 112 1 6 := ⟨_, _, Tryz.t110, Tryz.underlying112, rfl, by kernel_rfl, by decide, rfl⟩
instance : Ff Tryz.prog 112 2 7 110 := ⟨_, _, Tryz.underlying112, rfl, rfl, rfl⟩
instance : Fa Tryz.prog 112 2 7 := ⟨_, _, Tryz.t110, Tryz.underlying112, rfl, by kernel_rfl, by decide, rfl⟩
instance : Pl Tryz.prog 114 [(0, 1), (1, 1), (2, 256), (258, 1)] := ⟨_, Tryz.underlying114, fun w => by kernel_rfl⟩
instance : Ff Tryz.prog 114 0 0 3 := ⟨_, _, Tryz.underlying114, rfl, rfl, rfl⟩
instance : Fa Tryz.prog 114 0 0 := ⟨_, _, Tryz.t3, Tryz.underlying114, rfl, by kernel_rfl, by decide, rfl⟩
instance : Ff Tryz.prog 114 1 1 3 := ⟨_, _, Tryz.underlying114, rfl, rfl, rfl⟩
instance : Fa Tryz.prog 114 1 1 := ⟨_, _, Tryz.t3, Tryz.underlying114, rfl, by kernel_rfl, by decide, rfl⟩
instance : Ff Tryz.prog 114 2 2 113 := ⟨_, _, Tryz.underlying114, rfl, rfl, rfl⟩
instance : Fa Tryz.prog 114 2 2 := ⟨_, _, Tryz.t113, Tryz.underlying114, rfl, by kernel_rfl, by decide, rfl⟩
instance : Ff Tryz.prog 114 3 258 3 := ⟨_, _, Tryz.underlying114, rfl, rfl, rfl⟩
instance : Fa Tryz.prog 114 3 258 := ⟨_, _, Tryz.t3, Tryz.underlying114, rfl, by kernel_rfl, by decide, rfl⟩
instance : Pl Tryz.prog 115 [(0, 1), (1, 1), (2, 256), (258, 1)] := ⟨_, Tryz.underlying115, fun w => by kernel_rfl⟩
instance : Ff Tryz.prog 115 0 0 3 := ⟨_, _, Tryz.underlying115, rfl, rfl, rfl⟩
instance : Fa Tryz.prog 115 0 0 := ⟨_, _, Tryz.t3, Tryz.underlying115, rfl, by kernel_rfl, by decide, rfl⟩
instance : Ff Tryz.prog 115 1 1 3 := ⟨_, _, Tryz.underlying115, rfl, rfl, rfl⟩
instance : Fa Tryz.prog 115 1 1 := ⟨_, _, Tryz.t3, Tryz.underlying115, rfl, by kernel_rfl, by decide, rfl⟩
instance : Ff Tryz.prog 115 2 2 113 := ⟨_, _, Tryz.underlying115, rfl, rfl, rfl⟩
instance : Fa Tryz.prog 115 2 2 := ⟨_, _, Tryz.t113, Tryz.underlying115, rfl, by kernel_rfl, by decide, rfl⟩
instance : Ff Tryz.prog 115 3 258 3 := ⟨_, _, Tryz.underlying115, rfl, rfl, rfl⟩
instance : Fa Tryz.prog 115 3 258 := ⟨_, _, Tryz.t3, Tryz.underlying115, rfl, by kernel_rfl, by decide, rfl⟩
instance : Pl Tryz.prog 117 [(0, 1), (1, 8), (9, 8288), (8297, 1), (8298, 1), (8299, 1), (8300, 1)] := ⟨_, Tryz.underlying117, fun w => by kernel_rfl⟩
instance : Ff Tryz.prog 117 0 0 70 := ⟨_, _, Tryz.underlying117, rfl, rfl, rfl⟩
instance : Fa Tryz.prog 117 0 0 := ⟨_, _, Tryz.t70, Tryz.underlying117, rfl, by kernel_rfl, by decide, rfl⟩
instance : Ff Tryz.prog 117 1 1 112 := ⟨_, _, Tryz.underlying117, rfl, rfl, rfl⟩
instance : Fa Tryz.prog 117 1 1 := ⟨_, _, Tryz.t112, Tryz.underlying117, rfl, by kernel_rfl, by decide, rfl⟩
instance : Ff Tryz.prog 117 2 9 116 := ⟨_, _, Tryz.underlying117, rfl, rfl, rfl⟩
instance : Fa Tryz.prog 117 2 9 := ⟨_, _, Tryz.t116, Tryz.underlying117, rfl, by kernel_rfl, by decide, rfl⟩
instance : Ff Tryz.prog 117 3 8297 3 := ⟨_, _, Tryz.underlying117, rfl, rfl, rfl⟩
instance : Fa Tryz.prog 117 3 8297 := ⟨_, _, Tryz.t3, Tryz.underlying117, rfl, by kernel_rfl, by decide, rfl⟩
instance : Ff Tryz.prog 117 4 8298 3 := ⟨_, _, Tryz.underlying117, rfl, rfl, rfl⟩
instance : Fa Tryz.prog 117 4 8298 := ⟨_, _, Tryz.t3, Tryz.underlying117, rfl, by kernel_rfl, by decide, rfl⟩
instance : Ff Tryz.prog 117 5 8299 3 := ⟨_, _, Tryz.underlying117, rfl, rfl, rfl⟩
instance : Fa Tryz.prog 117 5 8299 := ⟨_, _, Tryz.t3, Tryz.underlying117, rfl, by kernel_rfl, by decide, rfl⟩
instance : Ff Tryz.prog 117 6 8300 3 := ⟨_, _, Tryz.underlying117, rfl, rfl, rfl⟩
instance : Fa Tryz.prog 117 6 8300 := ⟨_, _, Tryz.t3, Tryz.underlying117, rfl, by kernel_rfl, by decide, rfl⟩
instance : Pl Tryz.prog 118 [(0, 1), (1, 8), (9, 8288), (8297, 1), (8298, 1), (8299, 1), (8300, 1)] := ⟨_, Tryz.underlying118, fun w => by kernel_rfl⟩
instance : Ff Tryz.prog 118 0 0 70 := ⟨_, _, Tryz.underlying118, rfl, rfl, rfl⟩
instance : Fa Tryz.prog 118 0 0 := ⟨_, _, Tryz.t70, Tryz.underlying118, rfl, by kernel_rfl, by decide, rfl⟩
instance : Ff Tryz.prog 118 1 1 112 := ⟨_, _, Tryz.underlying118, rfl, rfl, rfl⟩
instance : Fa Tryz.prog 118 1 1 := ⟨_, _, Tryz.t112, Tryz.underlying118, rfl, by kernel_rfl, by decide, rfl⟩
instance : Ff Tryz.prog 118 2 9 116 := ⟨_, _, Tryz.underlying118, rfl, rfl, rfl⟩
instance : Fa Tryz.prog 118 2 9 := ⟨_, _, Tryz.t116, Tryz.underlying118, rfl, by kernel_rfl, by decide, rfl⟩
instance : Ff Tryz.prog 118 3 8297 3 := ⟨_, _, Tryz.underlying118, rfl, rfl, rfl⟩
instance : Fa Tryz.prog 118 3 8297 := ⟨_, _, Tryz.t3, Tryz.underlying118, rfl, by kernel_rfl, by decide, rfl⟩
instance : Ff Tryz.prog 118 4 8298 3 := ⟨_, _, Tryz.underlying118, rfl, rfl, rfl⟩
instance : Fa Tryz.prog 118 4 8298 := ⟨_, _, Tryz.t3, Tryz.underlying118, rfl, by kernel_rfl, by decide, rfl⟩
instance : Ff Tryz.prog 118 5 8299 3 := ⟨_, _, Tryz.underlying118, rfl, rfl, rfl⟩
instance : Fa Tryz.prog 118 5 8299 := ⟨_, _, Tryz.t3, Tryz.underlying118, rfl, by kernel_rfl, by decide, rfl⟩
instance : Ff Tryz.prog 118 6 8300 3 := ⟨_, _, Tryz.underlying118, rfl, rfl, rfl⟩
instance : Fa Tryz.prog 118 6 8300 := ⟨_, _, Tryz.t3, Tryz.underlying118, rfl, by kernel_rfl, by decide, rfl⟩
instance : Pl Tryz.prog 127 [(0, 1), (1, 1)] := ⟨_, Tryz.underlying127, fun w => by kernel_rfl⟩
instance : Ff Tryz.prog 127 0 0 2 := ⟨_, _, Tryz.underlying127, rfl, rfl, rfl⟩
instance : Fa Tryz.prog 127 0 0 := ⟨_, _, Tryz.t2, Tryz.underlying127, rfl, by kernel_rfl, by decide, rfl⟩
instance : Ff Tryz.prog 127 1 1 46 := ⟨_, _, Tryz.underlying127, rfl, rfl, rfl⟩
instance : Fa Tryz.prog 127 1 1 := ⟨_, _, Tryz.t46, Tryz.underlying127, rfl, by kernel_rfl, by decide, rfl⟩
instance : Pl Tryz.prog 128 [(0, 1), (1, 1)] := ⟨_, Tryz.underlying128, fun w => by kernel_rfl⟩
instance : Ff Tryz.prog 128 0 0 2 := ⟨_, _, Tryz.underlying128, rfl, rfl, rfl⟩
instance : Fa Tryz.prog 128 0 0 := ⟨_, _, Tryz.t2, Tryz.underlying128, rfl, by kernel_rfl, by decide, rfl⟩
instance : Ff Tryz.prog 128 1 1 46 := ⟨_, _, Tryz.underlying128, rfl, rfl, rfl⟩
instance : Fa Tryz.prog 128 1 1 := ⟨_, _, Tryz.t46, Tryz.underlying128, rfl, by kernel_rfl, by decide, rfl⟩
instance : Pl Tryz.prog 130 [(0, 1), (1, 1), (2, 1)] := ⟨_, Tryz.underlying130, fun w => by kernel_rfl⟩
instance : Ff Tryz.prog 130 0 0 3 := ⟨_, _, Tryz.underlying130, rfl, rfl, rfl⟩
instance : Fa Tryz.prog 130 0 0 := ⟨_, _, Tryz.t3, Tryz.underlying130, rfl, by kernel_rfl, by decide, rfl⟩
instance : Ff Tryz.prog 130 1 1 3 := ⟨_, _, Tryz.underlying130, rfl, rfl, rfl⟩
instance : Fa Tryz.prog 130 1 1 := ⟨_, _, Tryz.t3, Tryz.underlying130, rfl, by kernel_rfl, by decide, rfl⟩
instance : Ff Tryz.prog 130 2 2 3 := ⟨_, _, Tryz.underlying130, rfl, rfl, rfl⟩
instance : Fa Tryz.prog 130 2 2 := ⟨_, _, Tryz.t3, Tryz.underlying130, rfl, by kernel_rfl, by decide, rfl⟩
instance : Pl Tryz.prog 131 [(0, 1), (1, 1), (2, 1)] := ⟨_, Tryz.underlying131, fun w => by kernel_rfl⟩
instance : Ff Tryz.prog 131 0 0 3 := ⟨_, _, Tryz.underlying131, rfl, rfl, rfl⟩
instance : Fa Tryz.prog 131 0 0 := ⟨_, _, Tryz.t3, Tryz.underlying131, rfl, by kernel_rfl, by decide, rfl⟩
instance : Ff Tryz.prog 131 1 1 3 := ⟨_, _, Tryz.underlying131, rfl, rfl, rfl⟩
instance : Fa Tryz.prog 131 1 1 := ⟨_, _, Tryz.t3, Tryz.underlying131, rfl, by kernel_rfl, by decide, rfl⟩
instance : Ff Tryz.prog 131 2 2 3 := ⟨_, _, Tryz.underlying131, rfl, rfl, rfl⟩
instance : Fa Tryz.prog 131 2 2 := ⟨_, _, Tryz.t3, Tryz.underlying131, rfl, by kernel_rfl, by decide, rfl⟩
instance : Pl Tryz.prog 143 [(0, 1), (1, 1)] := ⟨_, Tryz.underlying143, fun w => by kernel_rfl⟩
instance : Ff Tryz.prog 143 0 0 70 := ⟨_, _, Tryz.underlying143, rfl, rfl, rfl⟩
instance : Fa Tryz.prog 143 0 0 := ⟨_, _, Tryz.t70, Tryz.underlying143, rfl, by kernel_rfl, by decide, rfl⟩
instance : Ff Tryz.prog 143 1 1 3 := ⟨_, _, Tryz.underlying143, rfl, rfl, rfl⟩
instance : Fa Tryz.prog 143 1 1 := ⟨_, _, Tryz.t3, Tryz.underlying143, rfl, by kernel_rfl, by decide, rfl⟩
instance : Pl Tryz.prog 144 [(0, 1), (1, 1)] := ⟨_, Tryz.underlying144, fun w => by kernel_rfl⟩
instance : Ff Tryz.prog 144 0 0 70 := ⟨_, _, Tryz.underlying144, rfl, rfl, rfl⟩
instance : Fa Tryz.prog 144 0 0 := ⟨_, _, Tryz.t70, Tryz.underlying144, rfl, by kernel_rfl, by decide, rfl⟩
instance : Ff Tryz.prog 144 1 1 3 := ⟨_, _, Tryz.underlying144, rfl, rfl, rfl⟩
instance : Fa Tryz.prog 144 1 1 := ⟨_, _, Tryz.t3, Tryz.underlying144, rfl, by kernel_rfl, by decide, rfl⟩
instance : Pl Tryz.prog 189 [(0, 1), (1, 1), (2, 1)] := ⟨_, Tryz.underlying189, fun w => by kernel_rfl⟩
instance : Ff Tryz.prog 189 0 0 70 := ⟨_, _, Tryz.underlying189, rfl, rfl, rfl⟩
instance : Fa Tryz.prog 189 0 0 := ⟨_, _, Tryz.t70, Tryz.underlying189, rfl, by kernel_rfl, by decide, rfl⟩
instance : Ff Tryz.prog 189 1 1 3 := ⟨_, _, Tryz.underlying189, rfl, rfl, rfl⟩
instance : Fa Tryz.prog 189 1 1 := ⟨_, _, Tryz.t3, Tryz.underlying189, rfl, by kernel_rfl, by decide, rfl⟩
instance : Ff Tryz.prog 189 2 2 4 := ⟨_, _, Tryz.underlying189, rfl, rfl, rfl⟩
instance : Fa Tryz.prog 189 2 2 := ⟨_, _, Tryz.t4, Tryz.underlying189, rfl, by kernel_rfl, by decide, rfl⟩
instance : Pl Tryz.prog 190 [(0, 1), (1, 1), (2, 1)] := ⟨_, Tryz.underlying190, fun w => by kernel_rfl⟩
instance : Ff Tryz.prog 190 0 0 70 := ⟨_, _, Tryz.underlying190, rfl, rfl, rfl⟩
instance : Fa Tryz.prog 190 0 0 := ⟨_, _, Tryz.t70, Tryz.underlying190, rfl, by kernel_rfl, by decide, rfl⟩
instance : Ff Tryz.prog 190 1 1 3 := ⟨_, _, Tryz.underlying190, rfl, rfl, rfl⟩
instance : Fa Tryz.prog 190 1 1 := ⟨_, _, Tryz.t3, Tryz.underlying190, rfl, by kernel_rfl, by decide, rfl⟩
instance : Ff Tryz.prog 190 2 2 4 := ⟨_, _, Tryz.underlying190, rfl, rfl, rfl⟩
instance : Fa Tryz.prog 190 2 2 := ⟨_, _, Tryz.t4, Tryz.underlying190, rfl, by kernel_rfl, by decide, rfl⟩
instance : Cl Tryz.prog 2 := ⟨Tryz.call2⟩
instance : Cl Tryz.prog 3 := ⟨Tryz.call3⟩
instance : Cl Tryz.prog 4 := ⟨Tryz.call4⟩
instance : Cl Tryz.prog 5 := ⟨Tryz.call5⟩
instance : Cl Tryz.prog 6 := ⟨Tryz.call6⟩
instance : Cl Tryz.prog 7 := ⟨Tryz.call7⟩
instance : Cl Tryz.prog 8 := ⟨Tryz.call8⟩
instance : Cl Tryz.prog 9 := ⟨Tryz.call9⟩
instance : Cl Tryz.prog 10 := ⟨Tryz.call10⟩
instance : Cl Tryz.prog 11 := ⟨Tryz.call11⟩
instance : Cl Tryz.prog 12 := ⟨Tryz.call12⟩
instance : Cl Tryz.prog 13 := ⟨Tryz.call13⟩
instance : Cl Tryz.prog 14 := ⟨Tryz.call14⟩
instance : Cl Tryz.prog 15 := ⟨Tryz.call15⟩
instance : Cl Tryz.prog 16 := ⟨Tryz.call16⟩
instance : Cl Tryz.prog 17 := ⟨Tryz.call17⟩
instance : Cl Tryz.prog 18 := ⟨Tryz.call18⟩
instance : Cl Tryz.prog 19 := ⟨Tryz.call19⟩
instance : Cl Tryz.prog 20 := ⟨Tryz.call20⟩
instance : Cl Tryz.prog 21 := ⟨Tryz.call21⟩
instance : Cl Tryz.prog 22 := ⟨Tryz.call22⟩
instance : Cl Tryz.prog 23 := ⟨Tryz.call23⟩
instance : Cl Tryz.prog 24 := ⟨Tryz.call24⟩
instance : Cl Tryz.prog 25 := ⟨Tryz.call25⟩
instance : Cl Tryz.prog 26 := ⟨Tryz.call26⟩
instance : Cl Tryz.prog 27 := ⟨Tryz.call27⟩
instance : Cl Tryz.prog 28 := ⟨Tryz.call28⟩
instance : Cl Tryz.prog 29 := ⟨Tryz.call29⟩
instance : Cl Tryz.prog 30 := ⟨Tryz.call30⟩
instance : Cl Tryz.prog 31 := ⟨Tryz.call31⟩
instance : Cl Tryz.prog 32 := ⟨Tryz.call32⟩
instance : Cl Tryz.prog 33 := ⟨Tryz.call33⟩
instance : Cl Tryz.prog 34 := ⟨Tryz.call34⟩
instance : Cl Tryz.prog 35 := ⟨Tryz.call35⟩
instance : Cl Tryz.prog 36 := ⟨Tryz.call36⟩
instance : Cl Tryz.prog 37 := ⟨Tryz.call37⟩
instance : Cl Tryz.prog 38 := ⟨Tryz.call38⟩
instance : Cl Tryz.prog 39 := ⟨Tryz.call39⟩
instance : Cl Tryz.prog 40 := ⟨Tryz.call40⟩
instance : Cl Tryz.prog 41 := ⟨Tryz.call41⟩
instance : Cl Tryz.prog 42 := ⟨Tryz.call42⟩
instance : Cl Tryz.prog 43 := ⟨Tryz.call43⟩
instance : Cl Tryz.prog 44 := ⟨Tryz.call44⟩
instance : Cl Tryz.prog 45 := ⟨Tryz.call45⟩
instance : Cl Tryz.prog 46 := ⟨Tryz.call46⟩
instance : Cl Tryz.prog 47 := ⟨Tryz.call47⟩
instance : Cl Tryz.prog 48 := ⟨Tryz.call48⟩
instance : Cl Tryz.prog 49 := ⟨Tryz.call49⟩
instance : Cl Tryz.prog 50 := ⟨Tryz.call50⟩
instance : Cl Tryz.prog 51 := ⟨Tryz.call51⟩
instance : Cl Tryz.prog 52 := ⟨Tryz.call52⟩
instance : Cl Tryz.prog 53 := ⟨Tryz.call53⟩
instance : Cl Tryz.prog 54 := ⟨Tryz.call54⟩
instance : Cl Tryz.prog 55 := ⟨Tryz.call55⟩
instance : Cl Tryz.prog 56 := ⟨Tryz.call56⟩
instance : Cl Tryz.prog 57 := ⟨Tryz.call57⟩
instance : Cl Tryz.prog 58 := ⟨Tryz.call58⟩
instance : Cl Tryz.prog 59 := ⟨Tryz.call59⟩
instance : Cl Tryz.prog 60 := ⟨Tryz.call60⟩
instance : Cl Tryz.prog 61 := ⟨Tryz.call61⟩
instance : Cl Tryz.prog 62 := ⟨Tryz.call62⟩
instance : Cl Tryz.prog 63 := ⟨Tryz.call63⟩
instance : Cl Tryz.prog 64 := ⟨Tryz.call64⟩
instance : Cl Tryz.prog 65 := ⟨Tryz.call65⟩
instance : Cl Tryz.prog 66 := ⟨Tryz.call66⟩
instance : Cl Tryz.prog 67 := ⟨Tryz.call67⟩
instance : Cl Tryz.prog 68 := ⟨Tryz.call68⟩
instance : Cl Tryz.prog 69 := ⟨Tryz.call69⟩
instance : Cl Tryz.prog 70 := ⟨Tryz.call70⟩
instance : Cl Tryz.prog 71 := ⟨Tryz.call71⟩
instance : Cl Tryz.prog 72 := ⟨Tryz.call72⟩
instance : Cl Tryz.prog 73 := ⟨Tryz.call73⟩
instance : Cl Tryz.prog 74 := ⟨Tryz.call74⟩
instance : Cl Tryz.prog 75 := ⟨Tryz.call75⟩
instance : Cl Tryz.prog 77 := ⟨Tryz.call77⟩
instance : Cl Tryz.prog 78 := ⟨Tryz.call78⟩
instance : Cl Tryz.prog 79 := ⟨Tryz.call79⟩
instance : Cl Tryz.prog 80 := ⟨Tryz.call80⟩
instance : Cl Tryz.prog 81 := ⟨Tryz.call81⟩
instance : Cl Tryz.prog 82 := ⟨Tryz.call82⟩
instance : Cl Tryz.prog 83 := ⟨Tryz.call83⟩
instance : Cl Tryz.prog 84 := ⟨Tryz.call84⟩
instance : Cl Tryz.prog 86 := ⟨Tryz.call86⟩
instance : Cl Tryz.prog 87 := ⟨Tryz.call87⟩
instance : Cl Tryz.prog 88 := ⟨Tryz.call88⟩
instance : Cl Tryz.prog 89 := ⟨Tryz.call89⟩
instance : Cl Tryz.prog 90 := ⟨Tryz.call90⟩
instance : Cl Tryz.prog 91 := ⟨Tryz.call91⟩
instance : Cl Tryz.prog 92 := ⟨Tryz.call92⟩
instance : Cl Tryz.prog 93 := ⟨Tryz.call93⟩
instance : Cl Tryz.prog 94 := ⟨Tryz.call94⟩
instance : Cl Tryz.prog 95 := ⟨Tryz.call95⟩
instance : Cl Tryz.prog 96 := ⟨Tryz.call96⟩
instance : Cl Tryz.prog 97 := ⟨Tryz.call97⟩
instance : Cl Tryz.prog 98 := ⟨Tryz.call98⟩
instance : Cl Tryz.prog 99 := ⟨Tryz.call99⟩
instance : Cl Tryz.prog 100 := ⟨Tryz.call100⟩
instance : Cl Tryz.prog 101 := ⟨Tryz.call101⟩
instance : Cl Tryz.prog 102 := ⟨Tryz.call102⟩
instance : FRes Tryz.f2 [] := ⟨rfl⟩
instance : FRes Tryz.f3 [Go.ResultVar.tmp 16] := ⟨rfl⟩
instance : FRes Tryz.f4 [Go.ResultVar.tmp 0] := ⟨rfl⟩
instance : FRes Tryz.f5 [Go.ResultVar.cell 12 30] := ⟨rfl⟩
instance : FRes Tryz.f6 [Go.ResultVar.tmp 2, Go.ResultVar.tmp 3] := ⟨rfl⟩
instance : FRes Tryz.f7 [Go.ResultVar.tmp 4] := ⟨rfl⟩
instance : FRes Tryz.f8 [Go.ResultVar.tmp 4] := ⟨rfl⟩
instance : FRes Tryz.f9 [Go.ResultVar.tmp 8, Go.ResultVar.tmp 9] := ⟨rfl⟩
instance : FRes Tryz.f10 [Go.ResultVar.tmp 4, Go.ResultVar.tmp 5] := ⟨rfl⟩
instance : FRes Tryz.f11 [Go.ResultVar.cell 6 25, Go.ResultVar.cell 7 25, Go.ResultVar.cell 8 34] := ⟨rfl⟩
instance : FRes Tryz.f12 [Go.ResultVar.tmp 4, Go.ResultVar.tmp 5] := ⟨rfl⟩
instance : FRes Tryz.f13 [Go.ResultVar.tmp 6, Go.ResultVar.tmp 7, Go.ResultVar.tmp 8] := ⟨rfl⟩
instance : FRes Tryz.f14 [Go.ResultVar.tmp 4] := ⟨rfl⟩
instance : FRes Tryz.f15 [Go.ResultVar.tmp 4] := ⟨rfl⟩
instance : FRes Tryz.f16 [Go.ResultVar.cell 8 4] := ⟨rfl⟩
instance : FRes Tryz.f17 [Go.ResultVar.cell 6 28] := ⟨rfl⟩
instance : FRes Tryz.f18 [Go.ResultVar.tmp 2] := ⟨rfl⟩
instance : FRes Tryz.f19 [Go.ResultVar.cell 2 63] := ⟨rfl⟩
instance : FRes Tryz.f20 [Go.ResultVar.tmp 2, Go.ResultVar.tmp 3] := ⟨rfl⟩
instance : FRes Tryz.f21 [Go.ResultVar.tmp 4, Go.ResultVar.tmp 5] := ⟨rfl⟩
instance : FRes Tryz.f22 [Go.ResultVar.cell 4 75, Go.ResultVar.tmp 5] := ⟨rfl⟩
instance : FRes Tryz.f23 [Go.ResultVar.tmp 2, Go.ResultVar.tmp 3, Go.ResultVar.tmp 4, Go.ResultVar.tmp 5] := ⟨rfl⟩
instance : FRes Tryz.f24 [Go.ResultVar.tmp 8, Go.ResultVar.tmp 9] := ⟨rfl⟩
instance : FRes Tryz.f25 [Go.ResultVar.tmp 6] := ⟨rfl⟩
instance : FRes Tryz.f26 [Go.ResultVar.tmp 4] := ⟨rfl⟩
instance : FRes Tryz.f27 [Go.ResultVar.tmp 4, Go.ResultVar.tmp 5] := ⟨rfl⟩
instance : FRes Tryz.f28 [Go.ResultVar.cell 4 65] := ⟨rfl⟩
instance : FRes Tryz.f29 [Go.ResultVar.cell 2 65] := ⟨rfl⟩
instance : FRes Tryz.f30 [Go.ResultVar.tmp 4, Go.ResultVar.tmp 5] := ⟨rfl⟩
instance : FRes Tryz.f31 [] := ⟨rfl⟩
instance : FRes Tryz.f32 [Go.ResultVar.tmp 4] := ⟨rfl⟩
instance : FRes Tryz.f33 [Go.ResultVar.tmp 4] := ⟨rfl⟩
instance : FRes Tryz.f34 [Go.ResultVar.cell 6 56] := ⟨rfl⟩
instance : FRes Tryz.f35 [Go.ResultVar.cell 6 65] := ⟨rfl⟩
instance : FRes Tryz.f36 [Go.ResultVar.tmp 2] := ⟨rfl⟩
instance : FRes Tryz.f37 [Go.ResultVar.tmp 2] := ⟨rfl⟩
instance : FRes Tryz.f38 [Go.ResultVar.tmp 4] := ⟨rfl⟩
instance : FRes Tryz.f39 [Go.ResultVar.tmp 4] := ⟨rfl⟩
instance : FRes Tryz.f40 [Go.ResultVar.tmp 6, Go.ResultVar.tmp 7, Go.ResultVar.tmp 8, Go.ResultVar.tmp 9] := ⟨rfl⟩
instance : FRes Tryz.f41 [Go.ResultVar.tmp 6, Go.ResultVar.tmp 7] := ⟨rfl⟩
instance : FRes Tryz.f42 [Go.ResultVar.tmp 4] := ⟨rfl⟩
instance : FRes Tryz.f43 [Go.ResultVar.tmp 2] := ⟨rfl⟩
instance : FRes Tryz.f44 [Go.ResultVar.tmp 6] := ⟨rfl⟩
instance : FRes Tryz.f45 [Go.ResultVar.cell 2 30, Go.ResultVar.tmp 3] := ⟨rfl⟩
instance : FRes Tryz.f46 [Go.ResultVar.cell 2 112, Go.ResultVar.tmp 3] := ⟨rfl⟩
instance : FRes Tryz.f47 [Go.ResultVar.tmp 4] := ⟨rfl⟩
instance : FRes Tryz.f48 [Go.ResultVar.cell 2 30] := ⟨rfl⟩
instance : FRes Tryz.f49 [Go.ResultVar.tmp 6, Go.ResultVar.tmp 7] := ⟨rfl⟩
instance : FRes Tryz.f50 [Go.ResultVar.tmp 6, Go.ResultVar.tmp 7] := ⟨rfl⟩
instance : FRes Tryz.f51 [Go.ResultVar.cell 4 128] := ⟨rfl⟩
instance : FRes Tryz.f52 [Go.ResultVar.cell 4 86] := ⟨rfl⟩
instance : FRes Tryz.f53 [Go.ResultVar.tmp 4] := ⟨rfl⟩
instance : FRes Tryz.f54 [Go.ResultVar.tmp 4] := ⟨rfl⟩
instance : FRes Tryz.f55 [Go.ResultVar.tmp 4] := ⟨rfl⟩
instance : FRes Tryz.f56 [Go.ResultVar.cell 4 128, Go.ResultVar.tmp 5] := ⟨rfl⟩
instance : FRes Tryz.f57 [Go.ResultVar.tmp 2] := ⟨rfl⟩
instance : FRes Tryz.f58 [Go.ResultVar.tmp 5] := ⟨rfl⟩
instance : FRes Tryz.f59 [Go.ResultVar.tmp 2] := ⟨rfl⟩
instance : FRes Tryz.f60 [Go.ResultVar.tmp 4] := ⟨rfl⟩
instance : FRes Tryz.f61 [Go.ResultVar.tmp 6] := ⟨rfl⟩
instance : FRes Tryz.f62 [] := ⟨rfl⟩
instance : FRes Tryz.f63 [Go.ResultVar.tmp 2] := ⟨rfl⟩
instance : FRes Tryz.f64 [Go.ResultVar.tmp 2] := ⟨rfl⟩
instance : FRes Tryz.f65 [Go.ResultVar.tmp 6, Go.ResultVar.tmp 7] := ⟨rfl⟩
instance : FRes Tryz.f66 [Go.ResultVar.tmp 6] := ⟨rfl⟩
instance : FRes Tryz.f67 [Go.ResultVar.tmp 6] := ⟨rfl⟩
instance : FRes Tryz.f68 [Go.ResultVar.tmp 2, Go.ResultVar.tmp 3] := ⟨rfl⟩
instance : FRes Tryz.f69 [Go.ResultVar.tmp 4] := ⟨rfl⟩
instance : FRes Tryz.f70 [Go.ResultVar.cell 2 128] := ⟨rfl⟩
instance : FRes Tryz.f71 [Go.ResultVar.tmp 2] := ⟨rfl⟩
instance : FRes Tryz.f72 [Go.ResultVar.tmp 6, Go.ResultVar.tmp 7] := ⟨rfl⟩
instance : FRes Tryz.f73 [Go.ResultVar.tmp 8] := ⟨rfl⟩
instance : FRes Tryz.f74 [Go.ResultVar.tmp 4, Go.ResultVar.tmp 5] := ⟨rfl⟩
instance : FRes Tryz.f75 [Go.ResultVar.tmp 4, Go.ResultVar.tmp 5] := ⟨rfl⟩
instance : FRes Tryz.f77 [Go.ResultVar.tmp 2, Go.ResultVar.tmp 3] := ⟨rfl⟩
instance : FRes Tryz.f78 [] := ⟨rfl⟩
instance : FRes Tryz.f79 [Go.ResultVar.tmp 2] := ⟨rfl⟩
instance : FRes Tryz.f80 [] := ⟨rfl⟩
instance : FRes Tryz.f81 [Go.ResultVar.tmp 2] := ⟨rfl⟩
instance : FRes Tryz.f82 [Go.ResultVar.tmp 6, Go.ResultVar.tmp 7] := ⟨rfl⟩
instance : FRes Tryz.f83 [Go.ResultVar.tmp 6, Go.ResultVar.tmp 7] := ⟨rfl⟩
instance : FRes Tryz.f84 [Go.ResultVar.tmp 2] := ⟨rfl⟩
instance : FRes Tryz.f86 [Go.ResultVar.tmp 2] := ⟨rfl⟩
instance : FRes Tryz.f87 [Go.ResultVar.tmp 4] := ⟨rfl⟩
instance : FRes Tryz.f88 [] := ⟨rfl⟩
instance : FRes Tryz.f89 [] := ⟨rfl⟩
instance : FRes Tryz.f90 [Go.ResultVar.tmp 2] := ⟨rfl⟩
instance : FRes Tryz.f91 [] := ⟨rfl⟩
instance : FRes Tryz.f92 [Go.ResultVar.tmp 2] := ⟨rfl⟩
instance : FRes Tryz.f93 [Go.ResultVar.tmp 4, Go.ResultVar.tmp 5] := ⟨rfl⟩
instance : FRes Tryz.f94 [Go.ResultVar.tmp 2] := ⟨rfl⟩
instance : FRes Tryz.f95 [Go.ResultVar.tmp 2] := ⟨rfl⟩
instance : FRes Tryz.f96 [Go.ResultVar.tmp 4] := ⟨rfl⟩
instance : FRes Tryz.f97 [Go.ResultVar.tmp 2] := ⟨rfl⟩
instance : FRes Tryz.f98 [Go.ResultVar.tmp 4, Go.ResultVar.tmp 5] := ⟨rfl⟩
instance : FRes Tryz.f99 [Go.ResultVar.tmp 2] := ⟨rfl⟩
instance : FRes Tryz.f100 [Go.ResultVar.tmp 2] := ⟨rfl⟩
instance : FRes Tryz.f101 [Go.ResultVar.tmp 2] := ⟨rfl⟩
instance : FRes Tryz.f102 [Go.ResultVar.tmp 4] := ⟨rfl⟩
end Go.Proofs.YtpmomimaihjmjaaGreat
/- Package bits: the writer and the reader. -/
namespace Go.Proofs.YtpmomimaihjmjaaGreat
open Go.RowKit

/-- Bits as bytes, the highest of each byte first. -/
def bitN (bs : List Bool) (i : Nat) : Nat := if bs.getD i false then 1 else 0
def packAt (bs : List Bool) (k : Nat) : Nat := 128 * bitN bs (8 * k) + 64 * bitN bs (8 * k + 1) + 32 * bitN bs (8 * k + 2) + 16 * bitN bs (8 * k + 3) + 8 * bitN bs (8 * k + 4) + 4 * bitN bs (8 * k + 5) + 2 * bitN bs (8 * k + 6) + bitN bs (8 * k + 7)
def pack (bs : List Bool) : List Int := (List.range ((bs.length + 7) / 8)).map fun k => (packAt bs k : Int)

/-- A writer at block g. -/
abbrev Wr (g : Nat) (A : Option Addr) (c : Nat) (bs : List Bool) : List HE :=
  [.blk g 144 [.slice A (pack bs).length c, .int .i64 bs.length], .row (.slice A (pack bs).length c) 5 1 (pack bs).length (ints .u8 (pack bs))]

theorem pack_len (bs : List Bool) : (pack bs).length = (bs.length + 7) / 8 := by simp [pack]
def grow (bs : List Bool) : List Int := if bs.length % 8 = 0 then pack bs ++ [0] else pack bs
theorem grow_len (bs : List Bool) : (grow bs).length = bs.length / 8 + 1 := by
  unfold grow; split <;> simp [pack_len] <;> omega
theorem bitN_snoc (bs : List Bool) (b : Bool) (i : Nat) : bitN (bs ++ [b]) i = bitN bs i + if i = bs.length ∧ b = true then 1 else 0 := by
  unfold bitN
  rcases Nat.lt_trichotomy i bs.length with h | h | h
  · rw [if_neg (fun e : i = bs.length ∧ b = true => by omega)]
    simp [List.getD_eq_getElem?_getD, List.getElem?_append_left h]
  · subst h
    cases b <;> simp [List.getD_eq_getElem?_getD]
  · rw [if_neg (fun e : i = bs.length ∧ b = true => by omega)]
    have h1 : (bs ++ [b])[i]? = none := List.getElem?_eq_none (by simp; omega)
    have h2 : bs[i]? = none := List.getElem?_eq_none (by omega)
    simp [List.getD_eq_getElem?_getD, h1, h2]
theorem bitN_le (bs : List Bool) (i : Nat) : bitN bs i ≤ 1 := by unfold bitN; split <;> omega
theorem bitN_out (bs : List Bool) (i : Nat) (h : bs.length ≤ i) : bitN bs i = 0 := by
  unfold bitN
  have h2 : bs[i]? = none := List.getElem?_eq_none h
  simp [List.getD_eq_getElem?_getD, h2]
theorem packAt_lt (bs : List Bool) (k : Nat) : packAt bs k < 256 := by
  unfold packAt
  have := bitN_le bs
  have h0 := this (8 * k); have h1 := this (8 * k + 1); have h2 := this (8 * k + 2); have h3 := this (8 * k + 3); have h4 := this (8 * k + 4); have h5 := this (8 * k + 5); have h6 := this (8 * k + 6); have h7 := this (8 * k + 7)
  omega
theorem packAt_snoc (bs : List Bool) (b : Bool) (k : Nat) : packAt (bs ++ [b]) k = packAt bs k + if bs.length / 8 = k ∧ b = true then 2 ^ (7 - bs.length % 8) else 0 := by
  unfold packAt
  simp only [bitN_snoc]
  cases b with
  | false => simp
  | true =>
    simp only [and_true]
    by_cases hk : bs.length / 8 = k
    · rw [if_pos hk]
      obtain h | h | h | h | h | h | h | h : bs.length % 8 = 0 ∨ bs.length % 8 = 1 ∨ bs.length % 8 = 2 ∨ bs.length % 8 = 3 ∨ bs.length % 8 = 4 ∨ bs.length % 8 = 5 ∨ bs.length % 8 = 6 ∨ bs.length % 8 = 7 := by omega
      all_goals
        rw [h]
        have e : bs.length = 8 * k + bs.length % 8 := by omega
        rw [h] at e
        rw [e]
        simp
        try omega
    · rw [if_neg hk]
      have : ∀ r, r < 8 → ¬ (8 * k + r = bs.length) := fun r hr e => hk (by omega)
      have h0 := this 0 (by omega); have h1 := this 1 (by omega); have h2 := this 2 (by omega); have h3 := this 3 (by omega); have h4 := this 4 (by omega); have h5 := this 5 (by omega); have h6 := this 6 (by omega); have h7 := this 7 (by omega)
      rw [Nat.add_zero] at h0
      simp [h0, h1, h2, h3, h4, h5, h6, h7]
theorem packAt_low (bs : List Bool) : packAt bs (bs.length / 8) % 2 ^ (7 - bs.length % 8 + 1) = 0 := by
  unfold packAt
  have o := bitN_out bs
  obtain h | h | h | h | h | h | h | h : bs.length % 8 = 0 ∨ bs.length % 8 = 1 ∨ bs.length % 8 = 2 ∨ bs.length % 8 = 3 ∨ bs.length % 8 = 4 ∨ bs.length % 8 = 5 ∨ bs.length % 8 = 6 ∨ bs.length % 8 = 7 := by omega
  all_goals
    rw [h]
    simp only [Nat.reduceSub, Nat.reduceAdd, Nat.reducePow]
    try rw [o (8 * (bs.length / 8)) (by omega)]
    try rw [o (8 * (bs.length / 8) + 1) (by omega)]
    try rw [o (8 * (bs.length / 8) + 2) (by omega)]
    try rw [o (8 * (bs.length / 8) + 3) (by omega)]
    try rw [o (8 * (bs.length / 8) + 4) (by omega)]
    try rw [o (8 * (bs.length / 8) + 5) (by omega)]
    try rw [o (8 * (bs.length / 8) + 6) (by omega)]
    try rw [o (8 * (bs.length / 8) + 7) (by omega)]
    try omega
theorem getElem?_pack (bs : List Bool) (k : Nat) : (pack bs)[k]? = if k < (bs.length + 7) / 8 then some (packAt bs k : Int) else none := by
  unfold pack
  rw [List.getElem?_map]
  by_cases h : k < (bs.length + 7) / 8
  · simp [h]
  · simp [h]
theorem grow_at (bs : List Bool) : (grow bs)[bs.length / 8]? = some (packAt bs (bs.length / 8) : Int) := by
  unfold grow
  split
  · rename_i h
    have hz : packAt bs (bs.length / 8) = 0 := by
      have h1 := packAt_low bs
      have h2 := packAt_lt bs (bs.length / 8)
      rw [h] at h1
      simp at h1
      omega
    rw [hz, List.getElem?_append_right (by rw [pack_len]; omega), show bs.length / 8 - (pack bs).length = 0 from by rw [pack_len]; omega]
    rfl
  · rw [getElem?_pack, if_pos (by omega)]
theorem pack_snoc (bs : List Bool) (b : Bool) : pack (bs ++ [b]) = (grow bs).set (bs.length / 8) ((packAt bs (bs.length / 8) + if b = true then 2 ^ (7 - bs.length % 8) else 0 : Nat) : Int) := by
  apply List.ext_getElem?
  intro k
  rw [getElem?_pack, packAt_snoc, List.length_append, List.length_singleton]
  by_cases hk : bs.length / 8 = k
  · subst hk
    rw [List.getElem?_set_self (by rw [grow_len]; omega), if_pos (by omega)]
    simp
  · rw [List.getElem?_set_ne hk, if_neg (fun e : bs.length / 8 = k ∧ b = true => hk e.1)]
    by_cases h8 : bs.length % 8 = 0
    · rw [grow, if_pos h8]
      rcases Nat.lt_or_ge k (pack bs).length with h | h
      · rw [List.getElem?_append_left h, getElem?_pack]
        rw [pack_len] at h
        rw [if_pos (by omega), if_pos h]; simp
      · rw [List.getElem?_append_right h]
        rw [pack_len] at h ⊢
        rw [if_neg (by omega), List.getElem?_eq_none (by simp; omega)]
    · rw [grow, if_neg h8, getElem?_pack]
      by_cases h : k < (bs.length + 7) / 8
      · rw [if_pos h, if_pos (by omega)]; simp
      · rw [if_neg h, if_neg (by omega)]
theorem or_byte : ∀ (x : Fin 256) (r : Fin 8), (x : Nat) % 2 ^ (7 - (r : Nat) + 1) = 0 → bits .or .u8 ((x : Nat) : Int) (128 / 2 ^ (r : Nat)) = ((x + 2 ^ (7 - (r : Nat)) : Nat) : Int) := by decide +kernel

attribute [local irreducible] OJ J HdJ Code.wpIn wpListIn Oper.wpIn bodyPost CallsIn Does
set_option maxRecDepth 4000
set_option maxHeartbeats 1000000 in
theorem bit_any (g c : Nat) (A : Option Addr) (bs : List Bool) (b : Bool) (w : World) (hown : Own (Wr g A c bs) w) (hm : bs.length < 1000000000) :
    Does Tryz.prog 88 [.pointer (some ⟨g, 0, none⟩), .bool b] (Wr g A c bs) w (fun v S' => v = .tuple #[] ∧ ∃ A' c', S' = Wr g A' c' (bs ++ [b])) := by
  have hpl := pack_len bs
  refine does_of Tryz.func88 rfl Tryz.ntmps88 rfl hown (fun n => ?_)
  simp only [slots]
  refine z_go2
  refine c_seam (X := Option Addr × Nat) (fun _ => True) (fun _ => [(0, .pointer (some ⟨g, 0, none⟩)), (1, .bool b)])
    (fun x => [.blk g 144 [.slice x.1 (grow bs).length x.2, .int .i64 bs.length], .row (.slice x.1 (grow bs).length x.2) 5 1 (grow bs).length (ints .u8 (grow bs))]) ?_ ?_
  · refine c_cond rfl (fun h => ?_) (fun h => ?_)
    · have hg : grow bs = pack bs ++ [0] := if_pos (by have := beq_iff_eq.1 h; omega)
      refine z_go2
      rw [hg]
      exact c_at_seam (_, _) trivial ⟨rfl, rfl, trivial⟩ (.cons (Has.there _ (Has.here _ _)) (.cons (Has.there _ (Has.here _ _)) (.nil _)))
    · have hg : grow bs = pack bs := if_neg (by have := beq_eq_false_iff_ne.1 h; omega)
      refine z_go2
      rw [hg]
      exact c_at_seam (A, c) trivial ⟨rfl, rfl, trivial⟩ (Sub.refl _)
  · rintro ⟨A1, c1⟩ -
    have hgl := grow_len bs
    have hga := grow_at bs
    have hps := pack_snoc bs b
    simp only
    refine z_go2
    refine c_cond rfl (fun h => ?_) (fun h => ?_)
    · subst h
      refine j_opn (A := A1) (m := (grow bs).length) (cc := c1) (by omega) ?_
      rintro g1 rfl
      refine z_go2
      have hr := or_byte ⟨packAt bs (bs.length / 8), packAt_lt _ _⟩ ⟨bs.length % 8, by omega⟩ (packAt_low bs)
      have e0 : ((bs.length : Int) / 8).toNat = bs.length / 8 := by omega
      have e3 : ((bs.length : Int) % 8).toNat = bs.length % 8 := by omega
      have e1 : (pack (bs ++ [true])).length = (grow bs).length := by rw [hps, List.length_set]
      have e2 : pack (bs ++ [true]) = (grow bs).set (bs.length / 8) (bits .or .u8 ((grow bs).getD (bs.length / 8) 0) (128 / 2 ^ (bs.length % 8))) := by
        rw [List.getD_eq_getElem?_getD, hga, Option.getD_some, hr, hps]; simp
      refine j_outN (S' := Wr g (some ⟨g1, 0, none⟩) c1 (bs ++ [true])) rfl ?_ ⟨rfl, _, _, rfl⟩
      simp only [Wr, e0, e3, e1, List.length_append]
      rw [e2]
      exact Sub.refl _
    · subst h
      refine z_go2
      have e1 : pack (bs ++ [false]) = grow bs := by
        rw [hps]
        apply List.ext_getElem?
        intro k
        by_cases hk : bs.length / 8 = k
        · subst hk; rw [List.getElem?_set_self (by omega), hga]; simp
        · rw [List.getElem?_set_ne hk]
      refine j_outN (S' := Wr g A1 c1 (bs ++ [false])) rfl ?_ ⟨rfl, _, _, rfl⟩
      simp only [Wr, e1, List.length_append]
      exact Sub.refl _

set_option maxHeartbeats 1000000 in
theorem bytes_any (g c : Nat) (A : Option Addr) (bs : List Bool) (w : World) (hown : Own (Wr g A c bs) w) (hm : bs.length < 1000000000) :
    Does Tryz.prog 63 [.pointer (some ⟨g, 0, none⟩)] (Wr g A c bs) w
      (fun v S' => ∃ A' c', v = .slice A' (pack bs).length c' ∧ S' = .row (.slice A' (pack bs).length c') 5 1 (pack bs).length (ints .u8 (pack bs)) :: Wr g A c bs) := by
  have hpl := pack_len bs
  refine does_of Tryz.func63 rfl Tryz.ntmps63 rfl hown (fun n => ?_)
  simp only [slots]
  refine z_go2
  exact j_out1 rfl rfl (Sub.refl _) ⟨_, _, rfl, rfl⟩

set_option maxHeartbeats 1000000 in
theorem ones_any (g c : Nat) (A : Option Addr) (bs : List Bool) (m : Nat) (w : World) (hown : Own (Wr g A c bs) w) (hm : bs.length + m < 900000000) :
    Does Tryz.prog 91 [.pointer (some ⟨g, 0, none⟩), .int .i64 m] (Wr g A c bs) w (fun v S' => v = .tuple #[] ∧ ∃ A' c', S' = Wr g A' c' (bs ++ List.replicate m true ++ [false])) := by
  refine does_of Tryz.func91 rfl Tryz.ntmps91 rfl hown (fun n => ?_)
  simp only [slots]
  refine z_go2
  refine c_loop (X := Nat × Option Addr × Nat) (fun x => x.1 ≤ m) (fun x => [(0, .pointer (some ⟨g, 0, none⟩)), (4, .int .i64 m), (5, .int .i64 x.1)]) (fun x => Wr g x.2.1 x.2.2 (bs ++ List.replicate x.1 true)) (fun x => m - x.1) (0, A, c) (by simp) ⟨rfl, rfl, rfl, trivial⟩ ?_ ?_
  · simp only [List.replicate_zero, List.append_nil]; exact Sub.refl _
  rintro ⟨i, A1, c1⟩ hi
  simp only at hi ⊢
  refine z_go2
  refine c_cond rfl (fun h => ?_) (fun h => ?_)
  · have hlt : i < m := by simpa using h
    refine z_go2
    refine lfn rfl rfl (Split.cons (Has.here _ _) (Split.cons (Has.here _ _) (Split.nil _))) rfl (fun w hw ho => bit_any g c1 A1 _ true w ho (by simp; omega)) ?_
    rintro v S' ⟨rfl, A2, c2, rfl⟩
    refine z_go2
    refine c_round (i + 1, A2, c2) (by show i + 1 ≤ m; omega) (by show m - (i + 1) < m - i; omega) (by exact ⟨rfl, rfl, by simp [look], trivial⟩) ?_
    rw [List.append_assoc, show List.replicate i true ++ [true] = List.replicate (i + 1) true from by rw [List.replicate_succ']]
    exact Sub.refl _
  · have hge : i = m := by simp at h; omega
    subst hge
    refine z_go2
    refine lfn rfl rfl (Split.cons (Has.here _ _) (Split.cons (Has.here _ _) (Split.nil _))) rfl (fun w hw ho => bit_any g c1 A1 _ false w ho (by simp; omega)) ?_
    rintro v S' ⟨rfl, A2, c2, rfl⟩
    refine z_go2
    exact j_outN rfl (Sub.refl _) ⟨rfl, A2, c2, rfl⟩
end Go.Proofs.YtpmomimaihjmjaaGreat
/- Package bits: the writer's Num; the reader. -/
namespace Go.Proofs.YtpmomimaihjmjaaGreat
open Go.RowKit
attribute [local irreducible] OJ J HdJ Code.wpIn wpListIn Oper.wpIn bodyPost CallsIn Does
set_option maxRecDepth 4000

theorem and_oneN (n : Nat) (h : n < 18446744073709551616) : bits .and .u64 (n : Int) 1 = ((n % 2 : Nat) : Int) := by
  show IntKind.u64.wrap ((BitVec.ofInt 64 (n : Int) &&& BitVec.ofInt 64 1).toNat : Int) = _
  have e : (BitVec.ofInt 64 (n : Int) &&& BitVec.ofInt 64 1).toNat = n % 2 := by
    rw [BitVec.toNat_and, BitVec.ofInt_natCast, BitVec.toNat_ofNat, Nat.mod_eq_of_lt (by omega)]
    exact Nat.and_one_is_mod n
  rw [e, wrap_in (k := .u64) (c := ((n % 2 : Nat) : Int)) ⟨by omega, by omega⟩]
/-- The lowest bits of a number, the highest first. -/
def numBits (x m : Nat) : List Bool := (List.range m).map fun i => x.testBit (m - 1 - i)
theorem numBits_len (x m : Nat) : (numBits x m).length = m := by simp [numBits]
theorem numBits_take (x m i : Nat) (h : i < m) : (numBits x m).take (i + 1) = (numBits x m).take i ++ [x.testBit (m - 1 - i)] := by
  rw [List.take_succ_eq_append_getElem (by rw [numBits_len]; exact h)]
  simp [numBits]

set_option maxHeartbeats 1000000 in
theorem num_any (g c : Nat) (A : Option Addr) (bs : List Bool) (x m : Nat) (w : World) (hown : Own (Wr g A c bs) w) (hm : bs.length < 800000000) (hx : x < 18446744073709551616) (h64 : m ≤ 64) :
    Does Tryz.prog 78 [.pointer (some ⟨g, 0, none⟩), .int .u64 x, .int .i64 m] (Wr g A c bs) w (fun v S' => v = .tuple #[] ∧ ∃ A' c', S' = Wr g A' c' (bs ++ numBits x m)) := by
  have hnl := numBits_len x m
  refine does_of Tryz.func78 rfl Tryz.ntmps78 rfl hown (fun n => ?_)
  simp only [slots]
  refine z_go2
  refine c_loop (X := Nat × Option Addr × Nat) (fun x => x.1 ≤ m) (fun y => [(0, .pointer (some ⟨g, 0, none⟩)), (1, .int .u64 x), (2, .int .i64 m), (8, .int .i64 m), (9, .int .i64 y.1)]) (fun y => Wr g y.2.1 y.2.2 (bs ++ (numBits x m).take y.1)) (fun y => m - y.1) (0, A, c) (by simp) ⟨rfl, rfl, rfl, rfl, rfl, trivial⟩ ?_ ?_
  · simp only [List.take_zero, List.append_nil]; exact Sub.refl _
  rintro ⟨i, A1, c1⟩ hi
  simp only at hi ⊢
  refine z_go2
  refine c_cond rfl (fun h => ?_) (fun h => ?_)
  · have hlt : i < m := by simpa using h
    refine z_go2
    refine j_case 19 rfl (fun h2 => ?_) (fun h2 => by exfalso; simp at h2; omega)
    refine z_go2
    have hx2 : x / 2 ^ (m - 1 - i) < 18446744073709551616 := Nat.lt_of_le_of_lt (Nat.div_le_self _ _) hx
    have hb : (bits .and .u64 ((x : Int) / 2 ^ ((m : Int) - 1 - i).toNat) 1 == 1) = x.testBit (m - 1 - i) := by
      have e : (x : Int) / 2 ^ ((m : Int) - 1 - i).toNat = ((x / 2 ^ (m - 1 - i) : Nat) : Int) := by
        rw [show ((m : Int) - 1 - i).toNat = m - 1 - i from by omega]; push_cast; rfl
      rw [e, and_oneN _ hx2]
      rw [Nat.testBit_eq_decide_div_mod_eq, Bool.eq_iff_iff]; simp only [beq_iff_eq, decide_eq_true_eq]; omega
    rw [hb]
    refine lfn rfl rfl (Split.cons (Has.here _ _) (Split.cons (Has.here _ _) (Split.nil _))) rfl (fun w hw ho => bit_any g c1 A1 _ _ w ho (by simp; omega)) ?_
    rintro v S' ⟨rfl, A2, c2, rfl⟩
    refine z_go2
    refine c_round (i + 1, A2, c2) (by show i + 1 ≤ m; omega) (by show m - (i + 1) < m - i; omega) (by exact ⟨rfl, rfl, rfl, rfl, by simp [look], trivial⟩) ?_
    rw [numBits_take x m i hlt, ← List.append_assoc]
    exact Sub.refl _
  · have hge : i = m := by simp at h; omega
    subst hge
    refine z_go2
    rw [List.take_of_length_le (by omega)]
    exact j_outN rfl (Sub.refl _) ⟨rfl, A1, c1, rfl⟩

/-- A reader at block g, of the bytes ys, at bit p. -/
abbrev Rd (g : Nat) (A : Option Addr) (c : Nat) (ys : List Int) (p : Nat) (wr : Bool) : List HE :=
  [.blk g 190 [.slice A ys.length c, .int .i64 p, .bool wr], .row (.slice A ys.length c) 5 1 ys.length (ints .u8 ys)]

set_option maxHeartbeats 1000000 in
theorem read_any (u : Value) (ys : List Int) (w : World) (hr : Ro w (blocks []) 1 u ys.length (ints .u8 ys)) (hm : ys.length < 100000000) :
    Does Tryz.prog 92 [u] [] w (fun v S' => ∃ g A' c', v = .pointer (some ⟨g, 0, none⟩) ∧ S' = Rd g A' c' ys 0 false) := by
  refine does_of Tryz.func92 rfl Tryz.ntmps92 rfl ⟨by simp, .nil⟩ (fun n => ?_)
  simp only [slots]
  have := RoC.mk hr
  refine z_go2
  exact j_out1 rfl rfl (Sub.refl _) ⟨_, _, _, rfl, rfl⟩

set_option maxHeartbeats 1000000 in
theorem right_any (g c : Nat) (A : Option Addr) (ys : List Int) (p : Nat) (wr : Bool) (w : World) (hown : Own (Rd g A c ys p wr) w) :
    Does Tryz.prog 97 [.pointer (some ⟨g, 0, none⟩)] (Rd g A c ys p wr) w (fun v S' => v = .bool (!wr) ∧ S' = Rd g A c ys p wr) := by
  refine does_of Tryz.func97 rfl Tryz.ntmps97 rfl hown (fun n => ?_)
  simp only [slots]
  refine z_go2
  exact j_out1 rfl rfl (Sub.refl _) ⟨rfl, rfl⟩
set_option maxHeartbeats 1000000 in
theorem left_any (g c : Nat) (A : Option Addr) (ys : List Int) (p : Nat) (wr : Bool) (w : World) (hown : Own (Rd g A c ys p wr) w) (hm : ys.length < 100000000) (hp : p ≤ 8 * ys.length) :
    Does Tryz.prog 100 [.pointer (some ⟨g, 0, none⟩)] (Rd g A c ys p wr) w (fun v S' => v = .int .i64 (8 * ys.length - p) ∧ S' = Rd g A c ys p wr) := by
  refine does_of Tryz.func100 rfl Tryz.ntmps100 rfl hown (fun n => ?_)
  simp only [slots]
  refine z_go2
  exact j_out1 rfl rfl (Sub.refl _) ⟨rfl, rfl⟩

/-- Bit number i of bytes, as the program reckons it. -/
def bitY (ys : List Int) (i : Nat) : Bool := bits .and .u8 (ys.getD (i / 8) 0) (128 / 2 ^ (i % 8)) != 0

set_option maxHeartbeats 2000000 in
theorem rbit_yes (g c : Nat) (A : Option Addr) (ys : List Int) (p : Nat) (w : World) (hown : Own (Rd g A c ys p false) w) (hm : ys.length < 100000000) (hp : p < 8 * ys.length) :
    Does Tryz.prog 101 [.pointer (some ⟨g, 0, none⟩)] (Rd g A c ys p false) w (fun v S' => v = .bool (bitY ys p) ∧ S' = Rd g A c ys (p + 1) false) := by
  refine does_of Tryz.func101 rfl Tryz.ntmps101 rfl hown (fun n => ?_)
  simp only [slots]
  refine z_go2
  refine lfk (v := .int .i64 (8 * ys.length - p)) rfl rfl (Split.cons (Has.here _ _) (Split.cons (Has.here _ _) (Split.nil _))) (Sub.refl _) rfl (fun w hw ho => left_any g c A ys p false w ho hm (by omega)) ?_
  refine z_go2
  refine c_cond rfl (fun h => by exfalso; simp at h; omega) (fun h => ?_)
  refine z_go2
  refine j_opn (A := A) (m := ys.length) (cc := c) (by omega) ?_
  rintro g1 rfl
  refine z_go2
  have e0 : ((p : Int) / 8).toNat = p / 8 := by omega
  have e3 : ((p : Int) % 8).toNat = p % 8 := by omega
  rw [e0, e3]
  exact j_out1 rfl rfl (Sub.refl _) ⟨rfl, rfl⟩

set_option maxHeartbeats 2000000 in
theorem rbit_no (g c : Nat) (A : Option Addr) (ys : List Int) (p : Nat) (wr : Bool) (w : World) (hown : Own (Rd g A c ys p wr) w) (hm : ys.length < 100000000) (hp : wr = true ∧ p ≤ 8 * ys.length ∨ p = 8 * ys.length) :
    Does Tryz.prog 101 [.pointer (some ⟨g, 0, none⟩)] (Rd g A c ys p wr) w (fun v S' => v = .bool false ∧ S' = Rd g A c ys p true) := by
  refine does_of Tryz.func101 rfl Tryz.ntmps101 rfl hown (fun n => ?_)
  simp only [slots]
  cases wr with
  | true =>
    refine z_go2
    exact j_out1 rfl rfl (Sub.refl _) ⟨rfl, rfl⟩
  | false =>
    refine z_go2
    refine lfk (v := .int .i64 (8 * ys.length - p)) rfl rfl (Split.cons (Has.here _ _) (Split.cons (Has.here _ _) (Split.nil _))) (Sub.refl _) rfl (fun w hw ho => left_any g c A ys p false w ho hm (by omega)) ?_
    refine z_go2
    have hp' : p = 8 * ys.length := by rcases hp with ⟨h, -⟩ | h; cases h; exact h
    refine c_cond rfl (fun h => ?_) (fun h => by exfalso; simp at h; omega)
    refine z_go2
    exact j_out1 rfl rfl (Sub.refl _) ⟨rfl, rfl⟩

/-- The number of some bits. -/
def numV (ys : List Int) (p : Nat) : Nat → Nat
  | 0 => 0
  | k + 1 => 2 * numV ys p k + if bitY ys (p + k) then 1 else 0
theorem numV_lt (ys : List Int) (p k : Nat) : numV ys p k < 2 ^ k := by
  induction k with
  | zero => simp [numV]
  | succ k ih => simp only [numV, Nat.pow_succ]; split <;> omega
theorem or_one (v : Nat) (h : 2 * v + 1 < 18446744073709551616) : bits .or .u64 ((2 * v : Nat) : Int) 1 = ((2 * v + 1 : Nat) : Int) := by
  have e : (2 * v) ||| 1 = 2 * v + 1 := by
    have := Nat.two_pow_add_eq_or_of_lt (i := 1) (b := 1) (by omega) v
    simpa using this.symm
  have h1 : (BitVec.ofInt 64 ((2 * v : Nat) : Int) ||| BitVec.ofInt 64 1).toNat = 2 * v + 1 := by
    rw [BitVec.toNat_or, BitVec.ofInt_natCast, BitVec.toNat_ofNat, Nat.mod_eq_of_lt (by omega)]
    exact e
  show IntKind.u64.wrap ((BitVec.ofInt 64 ((2 * v : Nat) : Int) ||| BitVec.ofInt 64 1).toNat : Int) = _
  rw [h1, wrap_in]
  exact ⟨by omega, by omega⟩

set_option maxHeartbeats 2000000 in
theorem rnum_yes (g c : Nat) (A : Option Addr) (ys : List Int) (p m : Nat) (w : World) (hown : Own (Rd g A c ys p false) w) (hm : ys.length < 100000000) (hp : p + m ≤ 8 * ys.length) (h64 : m ≤ 63) :
    Does Tryz.prog 96 [.pointer (some ⟨g, 0, none⟩), .int .i64 m] (Rd g A c ys p false) w (fun v S' => v = .int .u64 (numV ys p m) ∧ S' = Rd g A c ys (p + m) false) := by
  refine does_of Tryz.func96 rfl Tryz.ntmps96 rfl hown (fun n => ?_)
  simp only [slots]
  refine z_go2
  refine j_case 8 rfl (fun h => by exfalso; simp at h; omega) (fun h => ?_)
  refine z_go2
  refine lfk (v := .int .i64 (8 * ys.length - p)) rfl rfl (Split.cons (Has.here _ _) (Split.cons (Has.here _ _) (Split.nil _))) (Sub.refl _) rfl (fun w hw ho => left_any g c A ys p false w ho hm (by omega)) ?_
  refine z_go2
  refine j_case 14 rfl (fun h => by exfalso; simp at h; omega) (fun h => ?_)
  refine z_go2
  refine c_loop (X := Nat) (fun i => i ≤ m) (fun i => [(0, .pointer (some ⟨g, 0, none⟩)), (1, .int .i64 m), (5, .int .u64 (numV ys p i)), (23, .int .i64 m), (24, .int .i64 i)]) (fun i => Rd g A c ys (p + i) false) (fun i => m - i) 0 (by simp) ⟨rfl, rfl, rfl, rfl, rfl, trivial⟩ (Sub.refl _) ?_
  intro i hi
  refine z_go2
  refine c_cond rfl (fun h => ?_) (fun h => ?_)
  · have hlt : i < m := by simpa using h
    have hv := numV_lt ys p i
    have h2 : 2 ^ i * 4 ≤ 2 ^ 64 := by rw [show (4 : Nat) = 2 ^ 2 from rfl, ← Nat.pow_add]; exact Nat.pow_le_pow_right (by omega) (by omega)
    rw [show (2 : Nat) ^ 64 = 18446744073709551616 from by decide] at h2
    refine z_go2
    rw [show (numV ys p i : Int) * 2 ^ 1 = ((2 * numV ys p i : Nat) : Int) from by omega]
    refine lfn rfl rfl (Split.cons (Has.here _ _) (Split.cons (Has.here _ _) (Split.nil _))) rfl (fun w hw ho => rbit_yes g c A ys (p + i) w ho hm (by omega)) ?_
    rintro v S' ⟨rfl, rfl⟩
    refine z_go2
    have hor := or_one (numV ys p i) (by omega)
    refine c_cond rfl (fun hb => ?_) (fun hb => ?_)
    · have e1 : numV ys p (i + 1) = 2 * numV ys p i + 1 := by simp [numV, hb]
      refine z_go2
      refine c_round (i + 1) (by show i + 1 ≤ m; omega) (by show m - (i + 1) < m - i; omega) (by refine ⟨rfl, rfl, ?_, rfl, by simp [look], trivial⟩; rw [e1, ← hor]; rfl) ?_
      exact (Sub.refl _)
    · have e1 : numV ys p (i + 1) = 2 * numV ys p i := by simp [numV, hb]
      refine z_go2
      refine c_round (i + 1) (by show i + 1 ≤ m; omega) (by show m - (i + 1) < m - i; omega) (by refine ⟨rfl, rfl, ?_, rfl, by simp [look], trivial⟩; rw [e1]; rfl) ?_
      exact (Sub.refl _)
  · have hge : i = m := by simp at h; omega
    subst hge
    refine z_go2
    exact j_out1 rfl rfl (Sub.refl _) ⟨rfl, rfl⟩

set_option maxHeartbeats 2000000 in
theorem rnum_no (g c : Nat) (A : Option Addr) (ys : List Int) (p m : Nat) (wr : Bool) (w : World) (hown : Own (Rd g A c ys p wr) w) (hm : ys.length < 100000000) (hp : p ≤ 8 * ys.length) (h64 : m ≤ 63) (hno : wr = true ∨ 8 * ys.length < p + m) :
    Does Tryz.prog 96 [.pointer (some ⟨g, 0, none⟩), .int .i64 m] (Rd g A c ys p wr) w (fun v S' => v = .int .u64 0 ∧ S' = Rd g A c ys p true) := by
  refine does_of Tryz.func96 rfl Tryz.ntmps96 rfl hown (fun n => ?_)
  simp only [slots]
  refine z_go2
  refine j_case 8 rfl (fun h => by exfalso; simp at h; omega) (fun h => ?_)
  refine z_go2
  refine lfk (v := .int .i64 (8 * ys.length - p)) rfl rfl (Split.cons (Has.here _ _) (Split.cons (Has.here _ _) (Split.nil _))) (Sub.refl _) rfl (fun w hw ho => left_any g c A ys p wr w ho hm (by omega)) ?_
  refine z_go2
  refine j_case 14 rfl (fun h => ?_) (fun h => ?_)
  · refine z_go2
    exact j_out1 rfl rfl (Sub.refl _) ⟨rfl, rfl⟩
  · obtain rfl : wr = true := by rcases hno with e | e; exact e; exfalso; simp at h; omega
    refine z_go2
    exact j_out1 rfl rfl (Sub.refl _) ⟨rfl, rfl⟩

set_option maxHeartbeats 2000000 in
theorem rones_yes (g c : Nat) (A : Option Addr) (ys : List Int) (p m j : Nat) (w : World) (hown : Own (Rd g A c ys p false) w) (hm : ys.length < 100000000) (hj : j ≤ m) (hp : p + j < 8 * ys.length) (hm2 : m < 1000000)
    (h1 : ∀ i, i < j → bitY ys (p + i) = true) (h0 : bitY ys (p + j) = false) :
    Does Tryz.prog 102 [.pointer (some ⟨g, 0, none⟩), .int .i64 m] (Rd g A c ys p false) w (fun v S' => v = .int .i64 j ∧ S' = Rd g A c ys (p + j + 1) false) := by
  refine does_of Tryz.func102 rfl Tryz.ntmps102 rfl hown (fun n => ?_)
  simp only [slots]
  refine z_go2
  refine c_loop (X := Nat) (fun i => i ≤ j) (fun i => [(0, .pointer (some ⟨g, 0, none⟩)), (1, .int .i64 m), (5, .int .i64 i)]) (fun i => Rd g A c ys (p + i) false) (fun i => j - i) 0 (by simp) ⟨rfl, rfl, rfl, trivial⟩ (Sub.refl _) ?_
  intro i hi
  refine z_go2
  refine lfn rfl rfl (Split.cons (Has.here _ _) (Split.cons (Has.here _ _) (Split.nil _))) rfl (fun w hw ho => rbit_yes g c A ys (p + i) w ho hm (by omega)) ?_
  rintro v S' ⟨rfl, rfl⟩
  by_cases hlt : i < j
  · rw [h1 i hlt]
    refine z_go2
    refine c_cond rfl (fun h => by exfalso; simp at h; omega) (fun h => ?_)
    refine z_go2
    exact c_round (i + 1) (by show i + 1 ≤ j; omega) (by show j - (i + 1) < j - i; omega) (by exact ⟨rfl, rfl, by simp [look], trivial⟩) (Sub.refl _)
  · obtain rfl : i = j := by omega
    rw [h0]
    refine z_go2
    exact j_out1 rfl rfl (Sub.refl _) ⟨rfl, rfl⟩

set_option maxHeartbeats 2000000 in
theorem rones_no (g c : Nat) (A : Option Addr) (ys : List Int) (p m : Nat) (w : World) (hown : Own (Rd g A c ys p false) w) (hm : ys.length < 100000000) (hp : p ≤ 8 * ys.length) (hm2 : m < 1000000)
    (hno : ∀ j, j ≤ m → p + j < 8 * ys.length → (∀ i, i < j → bitY ys (p + i) = true) → bitY ys (p + j) = true) :
    Does Tryz.prog 102 [.pointer (some ⟨g, 0, none⟩), .int .i64 m] (Rd g A c ys p false) w (fun v S' => v = .int .i64 0 ∧ ∃ p', p' ≤ 8 * ys.length ∧ S' = Rd g A c ys p' true) := by
  refine does_of Tryz.func102 rfl Tryz.ntmps102 rfl hown (fun n => ?_)
  simp only [slots]
  refine z_go2
  refine c_loop (X := Nat) (fun i => i ≤ m ∧ p + i ≤ 8 * ys.length ∧ ∀ k, k < i → bitY ys (p + k) = true) (fun i => [(0, .pointer (some ⟨g, 0, none⟩)), (1, .int .i64 m), (5, .int .i64 i)]) (fun i => Rd g A c ys (p + i) false) (fun i => m - i) 0 (by simp; omega) ⟨rfl, rfl, rfl, trivial⟩ (Sub.refl _) ?_
  rintro i ⟨hi1, hi2, hi3⟩
  refine z_go2
  by_cases hlt : p + i < 8 * ys.length
  · have hb := hno i hi1 hlt hi3
    refine lfn rfl rfl (Split.cons (Has.here _ _) (Split.cons (Has.here _ _) (Split.nil _))) rfl (fun w hw ho => rbit_yes g c A ys (p + i) w ho hm (by omega)) ?_
    rintro v S' ⟨rfl, rfl⟩
    rw [hb]
    refine z_go2
    refine c_cond rfl (fun h => ?_) (fun h => ?_)
    · refine z_go2
      exact j_out1 rfl rfl (Sub.refl _) ⟨rfl, p + i + 1, by omega, rfl⟩
    · have hlm : i < m := by simp at h; omega
      refine z_go2
      refine c_round (i + 1) ⟨by omega, by omega, fun k hk => ?_⟩ (by show m - (i + 1) < m - i; omega) (by exact ⟨rfl, rfl, by simp [look], trivial⟩) (Sub.refl _)
      by_cases e : k = i
      · subst e; exact hb
      · exact hi3 k (by omega)
  · refine lfn rfl rfl (Split.cons (Has.here _ _) (Split.cons (Has.here _ _) (Split.nil _))) rfl (fun w hw ho => rbit_no g c A ys (p + i) false w ho hm (.inr (by omega))) ?_
    rintro v S' ⟨rfl, rfl⟩
    refine z_go2
    exact j_out1 rfl rfl (Sub.refl _) ⟨rfl, p + i, by omega, rfl⟩
end Go.Proofs.YtpmomimaihjmjaaGreat
/- Package rice, and the reference's layer 7: the functions that only reckon; the numbers behind them. -/
namespace Go.Proofs.YtpmomimaihjmjaaGreat
open Go.RowKit

theorem xor_zero (a : Int) : bits .xor .i32 a 0 = IntKind.i32.wrap a := by
  show IntKind.i32.wrap ((BitVec.ofInt 32 a ^^^ BitVec.ofInt 32 0).toNat : Int) = _
  rw [show BitVec.ofInt 32 0 = 0#32 from rfl, BitVec.xor_zero, BitVec.toNat_ofInt]
  simp [IntKind.wrap, IntKind.bits, IntKind.signed]
  omega
theorem xor_ones (a : Int) : bits .xor .i32 a (-1) = IntKind.i32.wrap (-a - 1) := by
  show IntKind.i32.wrap ((BitVec.ofInt 32 a ^^^ BitVec.ofInt 32 (-1)).toNat : Int) = _
  rw [show BitVec.ofInt 32 (-1) = BitVec.allOnes 32 from by decide, BitVec.xor_allOnes, BitVec.toNat_not, BitVec.toNat_ofInt]
  simp [IntKind.wrap, IntKind.bits, IntKind.signed]
  omega

/-- A number folded, and what was folded. -/
def foldI (x : Int) : Int := if x < 0 then -2 * x - 1 else 2 * x
def unfoldI (n : Int) : Int := if n % 2 = 0 then n / 2 else -(n / 2) - 1
theorem foldI_range (x : Int) (h0 : -2147483648 ≤ x) (h1 : x ≤ 2147483647) : 0 ≤ foldI x ∧ foldI x ≤ 4294967295 := by unfold foldI; split <;> omega
theorem fold_eq (x : Int) (h0 : -2147483648 ≤ x) (h1 : x ≤ 2147483647) :
    IntKind.u32.wrap (bits .xor .i32 (IntKind.i32.wrap (x * 2 ^ 1)) (x / 2 ^ 31)) = foldI x := by
  unfold foldI
  by_cases hx : x < 0
  · rw [if_pos hx, show x / 2 ^ 31 = -1 from by omega, xor_ones]
    simp [IntKind.wrap, IntKind.bits, IntKind.signed]
    omega
  · rw [if_neg hx, show x / 2 ^ 31 = 0 from by omega, xor_zero]
    simp [IntKind.wrap, IntKind.bits, IntKind.signed]
    omega
theorem and_one_u32 (n : Int) (h0 : 0 ≤ n) (h1 : n ≤ 4294967295) : bits .and .u32 n 1 = n % 2 := by
  obtain ⟨m, rfl⟩ := Int.eq_ofNat_of_zero_le h0
  show IntKind.u32.wrap ((BitVec.ofInt 32 (m : Int) &&& BitVec.ofInt 32 1).toNat : Int) = _
  have e : (BitVec.ofInt 32 (m : Int) &&& BitVec.ofInt 32 1).toNat = m % 2 := by
    rw [BitVec.toNat_and, BitVec.ofInt_natCast, BitVec.toNat_ofNat, Nat.mod_eq_of_lt (by omega)]
    exact Nat.and_one_is_mod m
  rw [e, wrap_in (k := .u32) (c := ((m % 2 : Nat) : Int)) ⟨by omega, by omega⟩]
  omega
theorem unfold_eq (n : Int) (h0 : 0 ≤ n) (h1 : n ≤ 4294967295) :
    bits .xor .i32 (n / 2 ^ 1) (IntKind.i32.wrap (0 - IntKind.i32.wrap (bits .and .u32 n 1))) = unfoldI n := by
  rw [and_one_u32 n h0 h1]
  unfold unfoldI
  by_cases hx : n % 2 = 0
  · rw [if_pos hx, hx, show IntKind.i32.wrap (0 - IntKind.i32.wrap 0) = 0 from by decide, xor_zero]
    simp [IntKind.wrap, IntKind.bits, IntKind.signed]
    omega
  · rw [if_neg hx, show n % 2 = 1 from by omega, show IntKind.i32.wrap (0 - IntKind.i32.wrap 1) = -1 from by decide, xor_ones]
    simp [IntKind.wrap, IntKind.bits, IntKind.signed]
    omega
theorem unfold_fold (x : Int) : unfoldI (foldI x) = x := by unfold unfoldI foldI; split <;> split <;> omega
theorem fold_unfold (n : Int) (h : 0 ≤ n) : foldI (unfoldI n) = n := by unfold unfoldI foldI; split <;> split <;> omega
theorem unfoldI_range (n : Int) (h0 : 0 ≤ n) (h1 : n ≤ 4294967295) : -2147483648 ≤ unfoldI n ∧ unfoldI n ≤ 2147483647 := by unfold unfoldI; split <;> omega
theorem foldI_inj (x y : Int) : foldI x = foldI y ↔ x = y := ⟨fun h => by rw [← unfold_fold x, h, unfold_fold], fun h => by rw [h]⟩

def foldN (x : Int) : Nat := (foldI x).toNat
theorem foldN_cast (x : Int) : (foldN x : Int) = foldI x := by unfold foldN foldI; split <;> omega
theorem foldN_le (x : Int) (h0 : -2147483648 ≤ x) (h1 : x ≤ 2147483647) : foldN x ≤ 4294967295 := by have := foldI_range x h0 h1; have := foldN_cast x; omega
attribute [local irreducible] OJ J HdJ Code.wpIn wpListIn Oper.wpIn bodyPost CallsIn Does
set_option maxRecDepth 4000

set_option maxHeartbeats 1000000 in
theorem fold_any (x : Int) (w : World) (h0 : -2147483648 ≤ x) (h1 : x ≤ 2147483647) : Does Tryz.prog 90 [.int .i32 x] [] w (fun v S' => v = .int .u32 (foldN x : Nat) ∧ S' = []) := by
  have he := fold_eq x h0 h1
  refine does_of Tryz.func90 rfl Tryz.ntmps90 rfl ⟨by simp, .nil⟩ (fun n => ?_)
  simp only [slots]
  refine z_go2
  exact j_out1 rfl rfl (.nil _) ⟨congrArg (Value.int .u32) (he.trans (foldN_cast x).symm), rfl⟩
set_option maxHeartbeats 1000000 in
theorem unfold_any (x : Int) (w : World) (h0 : 0 ≤ x) (h1 : x ≤ 4294967295) : Does Tryz.prog 99 [.int .u32 x] [] w (fun v S' => v = .int .i32 (unfoldI x) ∧ S' = []) := by
  have he := unfold_eq x h0 h1
  refine does_of Tryz.func99 rfl Tryz.ntmps99 rfl ⟨by simp, .nil⟩ (fun n => ?_)
  simp only [slots]
  refine z_go2
  exact j_out1 rfl rfl (.nil _) ⟨congrArg (Value.int .i32) he, rfl⟩
/-- How many bits a code has. -/
def sizeN (n k : Nat) : Nat := if shN n k < 20 then shN n k + 1 + k else 38
set_option maxHeartbeats 1000000 in
theorem size_any (x k : Nat) (w : World) (hx : x ≤ 4294967295) (hk : k ≤ 16) : Does Tryz.prog 87 [.int .u32 x, .int .i64 k] [] w (fun v S' => v = .int .i64 (sizeN x k) ∧ S' = []) := by
  have hd : shN x k ≤ x := shN_le _ _
  refine does_of Tryz.func87 rfl Tryz.ntmps87 rfl ⟨by simp, .nil⟩ (fun n => ?_)
  simp only [slots]
  refine z_go2
  refine c_cond rfl (fun h => ?_) (fun h => ?_)
  · have hx : shN x k < 20 := by have := of_decide_eq_true h; omega
    have he : sizeN x k = shN x k + 1 + k := if_pos hx
    refine z_go2
    exact j_out1 rfl rfl (.nil _) ⟨by rw [he]; simp, rfl⟩
  · have hx : ¬ shN x k < 20 := by have := of_decide_eq_false h; omega
    have he : sizeN x k = 38 := if_neg hx
    refine z_go2
    exact j_out1 rfl rfl (.nil _) ⟨by rw [he]; rfl, rfl⟩

/-- A number's code. -/
def codeB (n k : Nat) : List Bool := if shN n k < 20 then List.replicate (shN n k) true ++ [false] ++ numBits n k else List.replicate 20 true ++ [false] ++ numBits n 17
theorem codeB_len (n k : Nat) : (codeB n k).length = sizeN n k := by
  unfold codeB sizeN; split <;> simp [numBits_len]; omega
set_option maxHeartbeats 1000000 in
theorem put_any (g c : Nat) (A : Option Addr) (bs : List Bool) (x k : Nat) (w : World) (hown : Own (Wr g A c bs) w) (hm : bs.length < 700000000) (hx : x ≤ 4294967295) (hk : k ≤ 16) :
    Does Tryz.prog 80 [.pointer (some ⟨g, 0, none⟩), .int .u32 x, .int .i64 k] (Wr g A c bs) w (fun v S' => v = .tuple #[] ∧ ∃ A' c', S' = Wr g A' c' (bs ++ codeB x k)) := by
  have hd : shN x k ≤ x := shN_le _ _
  refine does_of Tryz.func80 rfl Tryz.ntmps80 rfl hown (fun n => ?_)
  simp only [slots]
  refine z_go2
  refine c_cond rfl (fun h => ?_) (fun h => ?_)
  · have hx : shN x k < 20 := by have := of_decide_eq_true h; omega
    have he : codeB x k = List.replicate (shN x k) true ++ [false] ++ numBits x k := if_pos hx
    refine z_go2
    refine lfn rfl rfl (Split.cons (Has.here _ _) (Split.cons (Has.here _ _) (Split.nil _))) rfl (fun w hw ho => ones_any g c A bs _ w ho (by omega)) ?_
    rintro v S' ⟨rfl, A1, c1, rfl⟩
    refine z_go2
    refine lfn rfl rfl (Split.cons (Has.here _ _) (Split.cons (Has.here _ _) (Split.nil _))) rfl (fun w hw ho => num_any g c1 A1 _ x k w ho (by simp; omega) (by omega) (by omega)) ?_
    rintro v S' ⟨rfl, A2, c2, rfl⟩
    refine z_go2
    rw [List.append_assoc, List.append_assoc, ← List.append_assoc _ [false], ← he]
    exact j_out0 rfl (Sub.refl _) ⟨rfl, A2, c2, rfl⟩
  · have hx : ¬ shN x k < 20 := by have := of_decide_eq_false h; omega
    have he : codeB x k = List.replicate 20 true ++ [false] ++ numBits x 17 := if_neg hx
    refine z_go2
    refine lfn rfl rfl (Split.cons (Has.here _ _) (Split.cons (Has.here _ _) (Split.nil _))) rfl (fun w hw ho => ones_any g c A bs 20 w ho (by omega)) ?_
    rintro v S' ⟨rfl, A1, c1, rfl⟩
    refine z_go2
    refine lfn rfl rfl (Split.cons (Has.here _ _) (Split.cons (Has.here _ _) (Split.nil _))) rfl (fun w hw ho => num_any g c1 A1 _ x 17 w ho (by simp; omega) (by omega) (by omega)) ?_
    rintro v S' ⟨rfl, A2, c2, rfl⟩
    refine z_go2
    rw [List.append_assoc, List.append_assoc, ← List.append_assoc _ [false], ← he]
    exact j_outN rfl (Sub.refl _) ⟨rfl, A2, c2, rfl⟩
end Go.Proofs.YtpmomimaihjmjaaGreat
/- Package bits: what is read, as rows of bits. -/
namespace Go.Proofs.YtpmomimaihjmjaaGreat
open Go.RowKit
/-- From bit p on these bits stand. -/
def isAt (ys : List Int) (p : Nat) (l : List Bool) : Prop := p + l.length ≤ 8 * ys.length ∧ ∀ i, i < l.length → bitY ys (p + i) = l.getD i false
theorem getD_append_left {l r : List Bool} {i : Nat} (h : i < l.length) : (l ++ r).getD i false = l.getD i false := by
  simp [List.getD_eq_getElem?_getD, List.getElem?_append_left h]
theorem getD_append_right {l r : List Bool} {i : Nat} (h : l.length ≤ i) : (l ++ r).getD i false = r.getD (i - l.length) false := by
  simp [List.getD_eq_getElem?_getD, List.getElem?_append_right h]
theorem isAt_append {ys : List Int} {p : Nat} {l r : List Bool} : isAt ys p (l ++ r) ↔ isAt ys p l ∧ isAt ys (p + l.length) r := by
  constructor
  · rintro ⟨h1, h2⟩
    rw [List.length_append] at h1
    refine ⟨⟨by omega, fun i hi => ?_⟩, ⟨by omega, fun i hi => ?_⟩⟩
    · rw [h2 i (by rw [List.length_append]; omega), getD_append_left hi]
    · rw [Nat.add_assoc, h2 (l.length + i) (by rw [List.length_append]; omega), getD_append_right (by omega), Nat.add_sub_cancel_left]
  · rintro ⟨⟨h1, h2⟩, ⟨h3, h4⟩⟩
    refine ⟨by rw [List.length_append]; omega, fun i hi => ?_⟩
    rw [List.length_append] at hi
    rcases Nat.lt_or_ge i l.length with h | h
    · rw [h2 i h, getD_append_left h]
    · rw [getD_append_right h, ← h4 (i - l.length) (by omega), show p + l.length + (i - l.length) = p + i from by omega]
theorem isAt_nil {ys : List Int} {p : Nat} : isAt ys p [] ↔ p ≤ 8 * ys.length := ⟨fun h => by simpa using h.1, fun h => ⟨by simpa using h, fun i hi => by simp at hi⟩⟩
theorem isAt_one {ys : List Int} {p : Nat} {b : Bool} : isAt ys p [b] ↔ p < 8 * ys.length ∧ bitY ys p = b := by
  constructor
  · rintro ⟨h1, h2⟩; exact ⟨by rw [List.length_singleton] at h1; omega, by simpa using h2 0 (by simp)⟩
  · rintro ⟨h1, h2⟩; refine ⟨by rw [List.length_singleton]; omega, fun i hi => ?_⟩
    obtain rfl : i = 0 := by simpa using hi
    simpa using h2
theorem isAt_ones {ys : List Int} {p j : Nat} : isAt ys p (List.replicate j true) ↔ p + j ≤ 8 * ys.length ∧ ∀ i, i < j → bitY ys (p + i) = true := by
  have e : ∀ i, i < j → (List.replicate j true).getD i false = true := fun i hi => by simp [List.getD_eq_getElem?_getD, hi]
  constructor
  · rintro ⟨h1, h2⟩; rw [List.length_replicate] at h1 h2; exact ⟨h1, fun i hi => by rw [h2 i hi, e i hi]⟩
  · rintro ⟨h1, h2⟩; refine ⟨by rw [List.length_replicate]; exact h1, fun i hi => ?_⟩
    rw [List.length_replicate] at hi; rw [h2 i hi, e i hi]
theorem numV_bit (ys : List Int) (p : Nat) : ∀ (m i : Nat), i < m → (numV ys p m).testBit (m - 1 - i) = bitY ys (p + i)
  | 0, i, h => by omega
  | m + 1, i, h => by
    by_cases hi : i = m
    · subst hi
      rw [show i + 1 - 1 - i = 0 from by omega, Nat.testBit_zero, numV]
      cases bitY ys (p + i) <;> simp [Nat.add_mod]
    · rw [show m + 1 - 1 - i = (m - 1 - i) + 1 from by omega, Nat.testBit_succ, numV,
        show (2 * numV ys p m + (if bitY ys (p + m) = true then 1 else 0)) / 2 = numV ys p m from by split <;> omega]
      exact numV_bit ys p m i (by omega)
theorem numBits_get (n m i : Nat) (h : i < m) : (numBits n m).getD i false = n.testBit (m - 1 - i) := by
  simp [numBits, List.getD_eq_getElem?_getD, h]
theorem isAt_num {ys : List Int} {p n m : Nat} : isAt ys p (numBits n m) ↔ p + m ≤ 8 * ys.length ∧ numV ys p m = n % 2 ^ m := by
  constructor
  · rintro ⟨h1, h2⟩
    rw [numBits_len] at h1 h2
    refine ⟨h1, Nat.eq_of_testBit_eq fun j => ?_⟩
    rw [Nat.testBit_mod_two_pow]
    by_cases hj : j < m
    · have := numV_bit ys p m (m - 1 - j) (by omega)
      rw [h2 (m - 1 - j) (by omega), numBits_get n m _ (by omega), show m - 1 - (m - 1 - j) = j from by omega] at this
      simp [this, hj]
    · rw [Nat.testBit_lt_two_pow (Nat.lt_of_lt_of_le (numV_lt ys p m) (Nat.pow_le_pow_right (by omega) (by omega)))]
      simp [hj]
  · rintro ⟨h1, h2⟩
    refine ⟨by rw [numBits_len]; exact h1, fun i hi => ?_⟩
    rw [numBits_len] at hi
    rw [numBits_get n m i hi, ← numV_bit ys p m i hi, h2, Nat.testBit_mod_two_pow]
    simp [show m - 1 - i < m from by omega]

set_option maxRecDepth 4000
/-- What the reader's Ones comes to. -/
theorem rones_any (g c : Nat) (A : Option Addr) (ys : List Int) (p m : Nat) (w : World) (hown : Own (Rd g A c ys p false) w) (hm : ys.length < 100000000) (hp : p ≤ 8 * ys.length) (hm2 : m < 1000000) :
    Does Tryz.prog 102 [.pointer (some ⟨g, 0, none⟩), .int .i64 m] (Rd g A c ys p false) w (fun v S' => ∃ (j p' : Nat) (wr : Bool), v = .int .i64 j ∧ S' = Rd g A c ys p' wr ∧ p' ≤ 8 * ys.length ∧
      ((wr = false ∧ j ≤ m ∧ p' = p + j + 1 ∧ isAt ys p (List.replicate j true ++ [false])) ∨ (wr = true ∧ ∀ j, j ≤ m → ¬ isAt ys p (List.replicate j true ++ [false])))) := by
  by_cases h : ∃ j, j ≤ m ∧ isAt ys p (List.replicate j true ++ [false])
  · obtain ⟨j, hj, hat⟩ := h
    have h2 := isAt_append.1 hat
    rw [isAt_ones, List.length_replicate, isAt_one] at h2
    obtain ⟨⟨-, h3⟩, h4, h5⟩ := h2
    refine (rones_yes g c A ys p m j w hown hm hj h4 hm2 h3 h5).mono ?_
    rintro v S' ⟨rfl, rfl⟩
    exact ⟨j, p + j + 1, false, rfl, rfl, by omega, .inl ⟨rfl, hj, rfl, hat⟩⟩
  · refine (rones_no g c A ys p m w hown hm hp hm2 fun j hj hlt h1 => ?_).mono ?_
    · cases hb : bitY ys (p + j) with
      | true => rfl
      | false => exact absurd ⟨j, hj, isAt_append.2 ⟨isAt_ones.2 ⟨by omega, h1⟩, by rw [List.length_replicate]; exact isAt_one.2 ⟨hlt, hb⟩⟩⟩ h
    · rintro v S' ⟨rfl, p', hp', rfl⟩
      exact ⟨0, p', true, rfl, rfl, hp', .inr ⟨rfl, fun j hj hat => h ⟨j, hj, hat⟩⟩⟩
/-- What the reader's Num comes to. -/
theorem rnum_any (g c : Nat) (A : Option Addr) (ys : List Int) (p m : Nat) (wr : Bool) (w : World) (hown : Own (Rd g A c ys p wr) w) (hm : ys.length < 100000000) (hp : p ≤ 8 * ys.length) (h64 : m ≤ 63) :
    Does Tryz.prog 96 [.pointer (some ⟨g, 0, none⟩), .int .i64 m] (Rd g A c ys p wr) w (fun v S' => ∃ (x p' : Nat) (wr' : Bool), v = .int .u64 x ∧ x < 2 ^ m ∧ S' = Rd g A c ys p' wr' ∧ p' ≤ 8 * ys.length ∧
      ((wr' = false ∧ wr = false ∧ p' = p + m ∧ isAt ys p (numBits x m)) ∨ (wr' = true ∧ (wr = false → ∀ n, ¬ isAt ys p (numBits n m))))) := by
  by_cases h : wr = false ∧ p + m ≤ 8 * ys.length
  · obtain ⟨rfl, h⟩ := h
    refine (rnum_yes g c A ys p m w hown hm h h64).mono ?_
    rintro v S' ⟨rfl, rfl⟩
    exact ⟨_, p + m, false, rfl, numV_lt ys p m, rfl, h, .inl ⟨rfl, rfl, rfl, isAt_num.2 ⟨h, (Nat.mod_eq_of_lt (numV_lt ys p m)).symm⟩⟩⟩
  · refine (rnum_no g c A ys p m wr w hown hm hp h64 ?_).mono ?_
    · cases wr with
      | true => exact .inl rfl
      | false => exact .inr (by have : ¬ p + m ≤ 8 * ys.length := fun e => h ⟨rfl, e⟩; omega)
    · rintro v S' ⟨rfl, rfl⟩
      refine ⟨0, p, true, rfl, Nat.pow_pos (by omega), rfl, hp, .inr ⟨rfl, fun hwr n hat => h ⟨hwr, ?_⟩⟩⟩
      exact (isAt_num.1 hat).1
end Go.Proofs.YtpmomimaihjmjaaGreat
