
import Derived.Test.YtemmnpgebpffbaaGreatMG03
set_option linter.unusedVariables false
set_option linter.unusedSimpArgs false
/- The facts on types and functions of this translation, as instances. Printed by a program of mine. -/
namespace Go.Proofs.YtemmnpgebpffbaaGreat
open Go
instance : Inf Tryz.prog 0 1 0 ((Go.Value.tuple #[])) := ⟨Tryz.t0, by kernel_rfl, rfl, rfl, rfl⟩
instance : Inf Tryz.prog 1 1 8 (Go.Value.nilFunc) := ⟨Tryz.t1, by kernel_rfl, rfl, rfl, rfl⟩
instance : Inf Tryz.prog 2 1 8 ((Go.Value.int Go.IntKind.i64 0)) := ⟨Tryz.t2, by kernel_rfl, rfl, rfl, rfl⟩
instance : Inf Tryz.prog 3 1 8 ((Go.Value.int Go.IntKind.i64 0)) := ⟨Tryz.t3, by kernel_rfl, rfl, rfl, rfl⟩
instance : Inf Tryz.prog 4 1 1 ((Go.Value.bool false)) := ⟨Tryz.t4, by kernel_rfl, rfl, rfl, rfl⟩
instance : Inf Tryz.prog 5 1 1 ((Go.Value.int Go.IntKind.u8 0)) := ⟨Tryz.t5, by kernel_rfl, rfl, rfl, rfl⟩
instance : Inf Tryz.prog 9 1 16 ((Go.Value.string { data := #[] })) := ⟨Tryz.t9, by kernel_rfl, rfl, rfl, rfl⟩
instance : Inf Tryz.prog 12 1 8 ((Go.Value.int Go.IntKind.u64 0)) := ⟨Tryz.t12, by kernel_rfl, rfl, rfl, rfl⟩
instance : Inf Tryz.prog 13 2 24 ((Go.Value.agg #[Go.Value.string { data := #[] }, Go.Value.int Go.IntKind.u64 0])) := ⟨Tryz.t13, by kernel_rfl, rfl, rfl, rfl⟩
instance : Inf Tryz.prog 20 1 16 (Go.Value.nilIface) := ⟨Tryz.t20, by kernel_rfl, rfl, rfl, rfl⟩
instance : Inf Tryz.prog 21 1 4 ((Go.Value.int Go.IntKind.i32 0)) := ⟨Tryz.t21, by kernel_rfl, rfl, rfl, rfl⟩
instance : Inf Tryz.prog 22 1 24 ((Go.Value.slice none 0 0)) := ⟨Tryz.t22, by kernel_rfl, rfl, rfl, rfl⟩
instance : Inf Tryz.prog 23 2 16 ((Go.Value.agg #[Go.Value.int Go.IntKind.i64 0, Go.Value.int Go.IntKind.i64 0])) := ⟨Tryz.t23, by kernel_rfl, rfl, rfl, rfl⟩
instance : Inf Tryz.prog 24 2 16 ((Go.Value.agg #[Go.Value.int Go.IntKind.i64 0, Go.Value.int Go.IntKind.i64 0])) := ⟨Tryz.t24, by kernel_rfl, rfl, rfl, rfl⟩
instance : Inf Tryz.prog 25 4 32 ((Go.Value.agg #[Go.Value.int Go.IntKind.i64 0, Go.Value.int Go.IntKind.i64 0, Go.Value.int Go.IntKind.i64 0, Go.Value.int Go.IntKind.i64 0])) := ⟨Tryz.t25, by kernel_rfl, rfl, rfl, rfl⟩
instance : Inf Tryz.prog 26 4 32 ((Go.Value.agg #[Go.Value.int Go.IntKind.i64 0, Go.Value.int Go.IntKind.i64 0, Go.Value.int Go.IntKind.i64 0, Go.Value.int Go.IntKind.i64 0])) := ⟨Tryz.t26, by kernel_rfl, rfl, rfl, rfl⟩
instance : Inf Tryz.prog 27 1 24 ((Go.Value.slice none 0 0)) := ⟨Tryz.t27, by kernel_rfl, rfl, rfl, rfl⟩
instance : Inf Tryz.prog 28 1 8 (Go.Value.nilFunc) := ⟨Tryz.t28, by kernel_rfl, rfl, rfl, rfl⟩
instance : Inf Tryz.prog 29 1 8 (Go.Value.nilFunc) := ⟨Tryz.t29, by kernel_rfl, rfl, rfl, rfl⟩
instance : Inf Tryz.prog 30 3 40 ((Go.Value.agg #[Go.Value.int Go.IntKind.i64 0, Go.Value.int Go.IntKind.i64 0, Go.Value.slice none 0 0])) := ⟨Tryz.t30, by kernel_rfl, rfl, rfl, rfl⟩
instance : Inf Tryz.prog 31 3 40 ((Go.Value.agg #[Go.Value.int Go.IntKind.i64 0, Go.Value.int Go.IntKind.i64 0, Go.Value.slice none 0 0])) := ⟨Tryz.t31, by kernel_rfl, rfl, rfl, rfl⟩
instance : Inf Tryz.prog 32 6 56 ((Go.Value.agg #[Go.Value.int Go.IntKind.i64 0, Go.Value.int Go.IntKind.i64 0, Go.Value.slice none 0 0, Go.Value.int Go.IntKind.i64 0, Go.Value.int Go.IntKind.i32 0, Go.Value.int Go.IntKind.i32 0])) := ⟨Tryz.t32, by kernel_rfl, rfl, rfl, rfl⟩
instance : Inf Tryz.prog 33 6 56 ((Go.Value.agg #[Go.Value.int Go.IntKind.i64 0, Go.Value.int Go.IntKind.i64 0, Go.Value.slice none 0 0, Go.Value.int Go.IntKind.i64 0, Go.Value.int Go.IntKind.i32 0, Go.Value.int Go.IntKind.i32 0])) := ⟨Tryz.t33, by kernel_rfl, rfl, rfl, rfl⟩
instance : Inf Tryz.prog 34 1 8 (Go.Value.nilFunc) := ⟨Tryz.t34, by kernel_rfl, rfl, rfl, rfl⟩
instance : Inf Tryz.prog 35 1 2 ((Go.Value.int Go.IntKind.u16 0)) := ⟨Tryz.t35, by kernel_rfl, rfl, rfl, rfl⟩
instance : Inf Tryz.prog 36 1 8 ((Go.Value.pointer none)) := ⟨Tryz.t36, by kernel_rfl, rfl, rfl, rfl⟩
instance : Inf Tryz.prog 37 1 8 (Go.Value.nilFunc) := ⟨Tryz.t37, by kernel_rfl, rfl, rfl, rfl⟩
instance : Inf Tryz.prog 38 1 24 ((Go.Value.slice none 0 0)) := ⟨Tryz.t38, by kernel_rfl, rfl, rfl, rfl⟩
instance : Inf Tryz.prog 39 1 8 (Go.Value.nilFunc) := ⟨Tryz.t39, by kernel_rfl, rfl, rfl, rfl⟩
instance : Inf Tryz.prog 40 1 0 ((Go.Value.tuple #[Go.Value.int Go.IntKind.i64 0, Go.Value.int Go.IntKind.i64 0])) := ⟨Tryz.t40, by kernel_rfl, rfl, rfl, rfl⟩
instance : Inf Tryz.prog 41 1 8 (Go.Value.nilFunc) := ⟨Tryz.t41, by kernel_rfl, rfl, rfl, rfl⟩
instance : Inf Tryz.prog 42 3 24 ((Go.Value.agg #[Go.Value.int Go.IntKind.i64 0, Go.Value.int Go.IntKind.i64 0, Go.Value.int Go.IntKind.i64 0])) := ⟨Tryz.t42, by kernel_rfl, rfl, rfl, rfl⟩
instance : Inf Tryz.prog 43 3 24 ((Go.Value.agg #[Go.Value.int Go.IntKind.i64 0, Go.Value.int Go.IntKind.i64 0, Go.Value.int Go.IntKind.i64 0])) := ⟨Tryz.t43, by kernel_rfl, rfl, rfl, rfl⟩
instance : Inf Tryz.prog 44 1 0 ((Go.Value.tuple #[Go.Value.agg #[Go.Value.int Go.IntKind.i64 0, Go.Value.int Go.IntKind.i64 0, Go.Value.int Go.IntKind.i64 0], Go.Value.int Go.IntKind.i64 0, Go.Value.int Go.IntKind.i64 0])) := ⟨Tryz.t44, by kernel_rfl, rfl, rfl, rfl⟩
instance : Inf Tryz.prog 45 1 8 (Go.Value.nilFunc) := ⟨Tryz.t45, by kernel_rfl, rfl, rfl, rfl⟩
instance : Inf Tryz.prog 46 3 24 ((Go.Value.agg #[Go.Value.int Go.IntKind.i64 0, Go.Value.int Go.IntKind.i64 0, Go.Value.int Go.IntKind.i64 0])) := ⟨Tryz.t46, by kernel_rfl, rfl, rfl, rfl⟩
instance : Inf Tryz.prog 47 1 8 (Go.Value.nilFunc) := ⟨Tryz.t47, by kernel_rfl, rfl, rfl, rfl⟩
instance : Inf Tryz.prog 48 1 24 ((Go.Value.slice none 0 0)) := ⟨Tryz.t48, by kernel_rfl, rfl, rfl, rfl⟩
instance : Inf Tryz.prog 49 1 8 ((Go.Value.int Go.IntKind.i64 0)) := ⟨Tryz.t49, by kernel_rfl, rfl, rfl, rfl⟩
instance : Inf Tryz.prog 50 1 8 (Go.Value.nilFunc) := ⟨Tryz.t50, by kernel_rfl, rfl, rfl, rfl⟩
instance : Inf Tryz.prog 51 1 0 ((Go.Value.tuple #[Go.Value.slice none 0 0, Go.Value.int Go.IntKind.i64 0, Go.Value.int Go.IntKind.i64 0])) := ⟨Tryz.t51, by kernel_rfl, rfl, rfl, rfl⟩
instance : Inf Tryz.prog 52 1 8 (Go.Value.nilFunc) := ⟨Tryz.t52, by kernel_rfl, rfl, rfl, rfl⟩
instance : Inf Tryz.prog 53 1 8 (Go.Value.nilFunc) := ⟨Tryz.t53, by kernel_rfl, rfl, rfl, rfl⟩
instance : Inf Tryz.prog 54 1 8 (Go.Value.nilFunc) := ⟨Tryz.t54, by kernel_rfl, rfl, rfl, rfl⟩
instance : Inf Tryz.prog 55 1 8 (Go.Value.nilFunc) := ⟨Tryz.t55, by kernel_rfl, rfl, rfl, rfl⟩
instance : Inf Tryz.prog 56 1 8 (Go.Value.nilFunc) := ⟨Tryz.t56, by kernel_rfl, rfl, rfl, rfl⟩
instance : Inf Tryz.prog 57 1 8 (Go.Value.nilFunc) := ⟨Tryz.t57, by kernel_rfl, rfl, rfl, rfl⟩
instance : Inf Tryz.prog 58 1 24 ((Go.Value.slice none 0 0)) := ⟨Tryz.t58, by kernel_rfl, rfl, rfl, rfl⟩
instance : Inf Tryz.prog 59 6 64 ((Go.Value.agg #[Go.Value.int Go.IntKind.i64 0, Go.Value.int Go.IntKind.i64 0, Go.Value.int Go.IntKind.i64 0, Go.Value.int Go.IntKind.i64 0, Go.Value.int Go.IntKind.i64 0, Go.Value.slice none 0 0])) := ⟨Tryz.t59, by kernel_rfl, rfl, rfl, rfl⟩
instance : Inf Tryz.prog 60 6 64 ((Go.Value.agg #[Go.Value.int Go.IntKind.i64 0, Go.Value.int Go.IntKind.i64 0, Go.Value.int Go.IntKind.i64 0, Go.Value.int Go.IntKind.i64 0, Go.Value.int Go.IntKind.i64 0, Go.Value.slice none 0 0])) := ⟨Tryz.t60, by kernel_rfl, rfl, rfl, rfl⟩
instance : Inf Tryz.prog 61 1 0 ((Go.Value.tuple #[Go.Value.agg #[Go.Value.int Go.IntKind.i64 0, Go.Value.int Go.IntKind.i64 0, Go.Value.int Go.IntKind.i64 0, Go.Value.int Go.IntKind.i64 0, Go.Value.int Go.IntKind.i64 0, Go.Value.slice none 0 0], Go.Value.agg #[Go.Value.int Go.IntKind.i64 0, Go.Value.int Go.IntKind.i64 0, Go.Value.int Go.IntKind.i64 0], Go.Value.int Go.IntKind.i64 0])) := ⟨Tryz.t61, by kernel_rfl, rfl, rfl, rfl⟩
instance : Inf Tryz.prog 62 1 8 (Go.Value.nilFunc) := ⟨Tryz.t62, by kernel_rfl, rfl, rfl, rfl⟩
instance : Inf Tryz.prog 63 1 0 ((Go.Value.tuple #[Go.Value.agg #[Go.Value.int Go.IntKind.i64 0, Go.Value.int Go.IntKind.i64 0, Go.Value.int Go.IntKind.i64 0, Go.Value.int Go.IntKind.i64 0, Go.Value.int Go.IntKind.i64 0, Go.Value.slice none 0 0], Go.Value.int Go.IntKind.i64 0])) := ⟨Tryz.t63, by kernel_rfl, rfl, rfl, rfl⟩
instance : Inf Tryz.prog 64 1 8 (Go.Value.nilFunc) := ⟨Tryz.t64, by kernel_rfl, rfl, rfl, rfl⟩
instance : Inf Tryz.prog 65 1 8 (Go.Value.nilFunc) := ⟨Tryz.t65, by kernel_rfl, rfl, rfl, rfl⟩
instance : Inf Tryz.prog 66 1 8 (Go.Value.nilFunc) := ⟨Tryz.t66, by kernel_rfl, rfl, rfl, rfl⟩
instance : Inf Tryz.prog 67 1 8 (Go.Value.nilFunc) := ⟨Tryz.t67, by kernel_rfl, rfl, rfl, rfl⟩
instance : Inf Tryz.prog 68 1 8 (Go.Value.nilFunc) := ⟨Tryz.t68, by kernel_rfl, rfl, rfl, rfl⟩
instance : Inf Tryz.prog 69 1 8 (Go.Value.nilFunc) := ⟨Tryz.t69, by kernel_rfl, rfl, rfl, rfl⟩
instance : Inf Tryz.prog 70 1 8 (Go.Value.nilFunc) := ⟨Tryz.t70, by kernel_rfl, rfl, rfl, rfl⟩
instance : Inf Tryz.prog 71 1 8 (Go.Value.nilFunc) := ⟨Tryz.t71, by kernel_rfl, rfl, rfl, rfl⟩
instance : Inf Tryz.prog 72 3 24 ((Go.Value.agg #[Go.Value.int Go.IntKind.i64 0, Go.Value.int Go.IntKind.i64 0, Go.Value.int Go.IntKind.i64 0])) := ⟨Tryz.t72, by kernel_rfl, rfl, rfl, rfl⟩
instance : Inf Tryz.prog 73 3 24 ((Go.Value.agg #[Go.Value.int Go.IntKind.i64 0, Go.Value.int Go.IntKind.i64 0, Go.Value.int Go.IntKind.i64 0])) := ⟨Tryz.t73, by kernel_rfl, rfl, rfl, rfl⟩
instance : Inf Tryz.prog 74 1 0 ((Go.Value.tuple #[Go.Value.int Go.IntKind.i64 0, Go.Value.int Go.IntKind.i64 0])) := ⟨Tryz.t74, by kernel_rfl, rfl, rfl, rfl⟩
instance : Inf Tryz.prog 75 1 8 (Go.Value.nilFunc) := ⟨Tryz.t75, by kernel_rfl, rfl, rfl, rfl⟩
instance : Inf Tryz.prog 76 1 8 (Go.Value.nilFunc) := ⟨Tryz.t76, by kernel_rfl, rfl, rfl, rfl⟩
instance : Inf Tryz.prog 77 1 8 (Go.Value.nilFunc) := ⟨Tryz.t77, by kernel_rfl, rfl, rfl, rfl⟩
instance : Inf Tryz.prog 78 1 8 (Go.Value.nilFunc) := ⟨Tryz.t78, by kernel_rfl, rfl, rfl, rfl⟩
instance : Inf Tryz.prog 79 1 8 (Go.Value.nilFunc) := ⟨Tryz.t79, by kernel_rfl, rfl, rfl, rfl⟩
instance : Inf Tryz.prog 80 1 0 ((Go.Value.tuple #[Go.Value.slice none 0 0, Go.Value.bool false])) := ⟨Tryz.t80, by kernel_rfl, rfl, rfl, rfl⟩
instance : Inf Tryz.prog 81 1 8 (Go.Value.nilFunc) := ⟨Tryz.t81, by kernel_rfl, rfl, rfl, rfl⟩
instance : Inf Tryz.prog 82 1 8 (Go.Value.nilFunc) := ⟨Tryz.t82, by kernel_rfl, rfl, rfl, rfl⟩
instance : Inf Tryz.prog 83 1 8 (Go.Value.nilFunc) := ⟨Tryz.t83, by kernel_rfl, rfl, rfl, rfl⟩
instance : Inf Tryz.prog 84 1 24 ((Go.Value.slice none 0 0)) := ⟨Tryz.t84, by kernel_rfl, rfl, rfl, rfl⟩
instance : Inf Tryz.prog 85 1 0 ((Go.Value.tuple #[Go.Value.slice none 0 0, Go.Value.int Go.IntKind.i64 0])) := ⟨Tryz.t85, by kernel_rfl, rfl, rfl, rfl⟩
instance : Inf Tryz.prog 86 1 8 (Go.Value.nilFunc) := ⟨Tryz.t86, by kernel_rfl, rfl, rfl, rfl⟩
instance : Inf Tryz.prog 87 1 0 ((Go.Value.tuple #[Go.Value.pointer none, Go.Value.int Go.IntKind.i64 0])) := ⟨Tryz.t87, by kernel_rfl, rfl, rfl, rfl⟩
instance : Inf Tryz.prog 88 1 8 (Go.Value.nilFunc) := ⟨Tryz.t88, by kernel_rfl, rfl, rfl, rfl⟩
instance : Inf Tryz.prog 89 1 8 (Go.Value.nilFunc) := ⟨Tryz.t89, by kernel_rfl, rfl, rfl, rfl⟩
instance : Inf Tryz.prog 90 1 8 (Go.Value.nilFunc) := ⟨Tryz.t90, by kernel_rfl, rfl, rfl, rfl⟩
instance : Inf Tryz.prog 91 1 8 (Go.Value.nilFunc) := ⟨Tryz.t91, by kernel_rfl, rfl, rfl, rfl⟩
instance : Inf Tryz.prog 92 1 2 ((Go.Value.int Go.IntKind.i16 0)) := ⟨Tryz.t92, by kernel_rfl, rfl, rfl, rfl⟩
instance : Inf Tryz.prog 93 1 8 (Go.Value.nilFunc) := ⟨Tryz.t93, by kernel_rfl, rfl, rfl, rfl⟩
instance : Inf Tryz.prog 94 2 16 ((Go.Value.agg #[Go.Value.int Go.IntKind.i64 0, Go.Value.int Go.IntKind.i64 0])) := ⟨Tryz.t94, by kernel_rfl, rfl, rfl, rfl⟩
instance : Inf Tryz.prog 95 1 8 (Go.Value.nilFunc) := ⟨Tryz.t95, by kernel_rfl, rfl, rfl, rfl⟩
instance : Inf Tryz.prog 96 1 8 ((Go.Value.pointer none)) := ⟨Tryz.t96, by kernel_rfl, rfl, rfl, rfl⟩
instance : Inf Tryz.prog 97 1 24 ((Go.Value.slice none 0 0)) := ⟨Tryz.t97, by kernel_rfl, rfl, rfl, rfl⟩
instance : Inf Tryz.prog 98 1 24 ((Go.Value.slice none 0 0)) := ⟨Tryz.t98, by kernel_rfl, rfl, rfl, rfl⟩
instance : Inf Tryz.prog 99 7 88 ((Go.Value.agg #[Go.Value.int Go.IntKind.i64 0, Go.Value.int Go.IntKind.i64 0, Go.Value.int Go.IntKind.i64 0, Go.Value.int Go.IntKind.i64 0, Go.Value.int Go.IntKind.i64 0, Go.Value.slice none 0 0, Go.Value.slice none 0 0])) := ⟨Tryz.t99, by kernel_rfl, rfl, rfl, rfl⟩
instance : Inf Tryz.prog 100 7 88 ((Go.Value.agg #[Go.Value.int Go.IntKind.i64 0, Go.Value.int Go.IntKind.i64 0, Go.Value.int Go.IntKind.i64 0, Go.Value.int Go.IntKind.i64 0, Go.Value.int Go.IntKind.i64 0, Go.Value.slice none 0 0, Go.Value.slice none 0 0])) := ⟨Tryz.t100, by kernel_rfl, rfl, rfl, rfl⟩
instance : Inf Tryz.prog 101 1 8 (Go.Value.nilFunc) := ⟨Tryz.t101, by kernel_rfl, rfl, rfl, rfl⟩
instance : Inf Tryz.prog 102 1 8 (Go.Value.nilFunc) := ⟨Tryz.t102, by kernel_rfl, rfl, rfl, rfl⟩
instance : Inf Tryz.prog 103 1 8 (Go.Value.nilFunc) := ⟨Tryz.t103, by kernel_rfl, rfl, rfl, rfl⟩
instance : Inf Tryz.prog 104 1 8 (Go.Value.nilFunc) := ⟨Tryz.t104, by kernel_rfl, rfl, rfl, rfl⟩
instance : Inf Tryz.prog 105 1 8 (Go.Value.nilFunc) := ⟨Tryz.t105, by kernel_rfl, rfl, rfl, rfl⟩
instance : Inf Tryz.prog 106 1 24 ((Go.Value.slice none 0 0)) := ⟨Tryz.t106, by kernel_rfl, rfl, rfl, rfl⟩
instance : Inf Tryz.prog 107 1 8 (Go.Value.nilFunc) := ⟨Tryz.t107, by kernel_rfl, rfl, rfl, rfl⟩
instance : Inf Tryz.prog 108 1 8 (Go.Value.nilFunc) := ⟨Tryz.t108, by kernel_rfl, rfl, rfl, rfl⟩
instance : Inf Tryz.prog 109 1 8 (Go.Value.nilFunc) := ⟨Tryz.t109, by kernel_rfl, rfl, rfl, rfl⟩
instance : Inf Tryz.prog 110 1 8 ((Go.Value.int Go.IntKind.u64 0)) := ⟨Tryz.t110, by kernel_rfl, rfl, rfl, rfl⟩
instance : Inf Tryz.prog 111 2 16 ((Go.Value.agg #[Go.Value.int Go.IntKind.i64 0, Go.Value.int Go.IntKind.u64 0])) := ⟨Tryz.t111, by kernel_rfl, rfl, rfl, rfl⟩
instance : Inf Tryz.prog 112 2 16 ((Go.Value.agg #[Go.Value.int Go.IntKind.i64 0, Go.Value.int Go.IntKind.u64 0])) := ⟨Tryz.t112, by kernel_rfl, rfl, rfl, rfl⟩
instance : Inf Tryz.prog 113 1 8 (Go.Value.nilFunc) := ⟨Tryz.t113, by kernel_rfl, rfl, rfl, rfl⟩
instance : Inf Tryz.prog 114 1 8 (Go.Value.nilFunc) := ⟨Tryz.t114, by kernel_rfl, rfl, rfl, rfl⟩
instance : Inf Tryz.prog 115 1 8 (Go.Value.nilFunc) := ⟨Tryz.t115, by kernel_rfl, rfl, rfl, rfl⟩
instance : Inf Tryz.prog 116 1 8 (Go.Value.nilFunc) := ⟨Tryz.t116, by kernel_rfl, rfl, rfl, rfl⟩
instance : Inf Tryz.prog 120 1 8 (Go.Value.nilFunc) := ⟨Tryz.t120, by kernel_rfl, rfl, rfl, rfl⟩
instance : Inf Tryz.prog 121 1 8 (Go.Value.nilFunc) := ⟨Tryz.t121, by kernel_rfl, rfl, rfl, rfl⟩
instance : Inf Tryz.prog 122 1 8 (Go.Value.nilFunc) := ⟨Tryz.t122, by kernel_rfl, rfl, rfl, rfl⟩
instance : Inf Tryz.prog 123 1 8 (Go.Value.nilFunc) := ⟨Tryz.t123, by kernel_rfl, rfl, rfl, rfl⟩
instance : Inf Tryz.prog 124 1 8 (Go.Value.nilFunc) := ⟨Tryz.t124, by kernel_rfl, rfl, rfl, rfl⟩
instance : Inf Tryz.prog 125 1 0 ((Go.Value.tuple #[Go.Value.agg #[Go.Value.int Go.IntKind.i64 0, Go.Value.int Go.IntKind.i64 0, Go.Value.int Go.IntKind.i64 0, Go.Value.int Go.IntKind.i64 0, Go.Value.int Go.IntKind.i64 0, Go.Value.slice none 0 0], Go.Value.agg #[Go.Value.int Go.IntKind.i64 0, Go.Value.int Go.IntKind.u64 0], Go.Value.int Go.IntKind.i64 0, Go.Value.int Go.IntKind.i64 0])) := ⟨Tryz.t125, by kernel_rfl, rfl, rfl, rfl⟩
instance : Inf Tryz.prog 126 1 8 (Go.Value.nilFunc) := ⟨Tryz.t126, by kernel_rfl, rfl, rfl, rfl⟩
instance : Inf Tryz.prog 127 1 8 (Go.Value.nilFunc) := ⟨Tryz.t127, by kernel_rfl, rfl, rfl, rfl⟩
instance : Inf Tryz.prog 128 1 8 (Go.Value.nilFunc) := ⟨Tryz.t128, by kernel_rfl, rfl, rfl, rfl⟩
instance : Inf Tryz.prog 129 4 32 ((Go.Value.agg #[Go.Value.int Go.IntKind.i64 0, Go.Value.int Go.IntKind.i64 0, Go.Value.int Go.IntKind.i64 0, Go.Value.int Go.IntKind.i64 0])) := ⟨Tryz.t129, by kernel_rfl, rfl, rfl, rfl⟩
instance : Inf Tryz.prog 130 1 0 ((Go.Value.tuple #[Go.Value.agg #[Go.Value.int Go.IntKind.i64 0, Go.Value.int Go.IntKind.i64 0, Go.Value.int Go.IntKind.i64 0, Go.Value.int Go.IntKind.i64 0], Go.Value.int Go.IntKind.i64 0])) := ⟨Tryz.t130, by kernel_rfl, rfl, rfl, rfl⟩
instance : Inf Tryz.prog 131 1 8 (Go.Value.nilFunc) := ⟨Tryz.t131, by kernel_rfl, rfl, rfl, rfl⟩
instance : Inf Tryz.prog 132 1 0 ((Go.Value.tuple #[Go.Value.int Go.IntKind.i64 0, Go.Value.int Go.IntKind.i64 0, Go.Value.int Go.IntKind.i64 0, Go.Value.int Go.IntKind.i64 0])) := ⟨Tryz.t132, by kernel_rfl, rfl, rfl, rfl⟩
instance : Inf Tryz.prog 133 1 8 (Go.Value.nilFunc) := ⟨Tryz.t133, by kernel_rfl, rfl, rfl, rfl⟩
instance : Inf Tryz.prog 134 1 8 (Go.Value.nilFunc) := ⟨Tryz.t134, by kernel_rfl, rfl, rfl, rfl⟩
instance : Inf Tryz.prog 135 1 8 (Go.Value.nilFunc) := ⟨Tryz.t135, by kernel_rfl, rfl, rfl, rfl⟩
instance : Inf Tryz.prog 136 1 8 (Go.Value.nilFunc) := ⟨Tryz.t136, by kernel_rfl, rfl, rfl, rfl⟩
instance : Inf Tryz.prog 137 1 8 (Go.Value.nilFunc) := ⟨Tryz.t137, by kernel_rfl, rfl, rfl, rfl⟩
instance : Inf Tryz.prog 138 1 8 (Go.Value.nilFunc) := ⟨Tryz.t138, by kernel_rfl, rfl, rfl, rfl⟩
instance : Inf Tryz.prog 139 1 24 ((Go.Value.slice none 0 0)) := ⟨Tryz.t139, by kernel_rfl, rfl, rfl, rfl⟩
instance : Inf Tryz.prog 140 1 8 (Go.Value.nilFunc) := ⟨Tryz.t140, by kernel_rfl, rfl, rfl, rfl⟩
instance : Inf Tryz.prog 141 2 16 ((Go.Value.agg #[Go.Value.int Go.IntKind.i64 0, Go.Value.int Go.IntKind.i64 0])) := ⟨Tryz.t141, by kernel_rfl, rfl, rfl, rfl⟩
instance : Inf Tryz.prog 142 2 16 ((Go.Value.agg #[Go.Value.int Go.IntKind.i64 0, Go.Value.int Go.IntKind.i64 0])) := ⟨Tryz.t142, by kernel_rfl, rfl, rfl, rfl⟩
instance : Inf Tryz.prog 143 1 0 ((Go.Value.tuple #[Go.Value.int Go.IntKind.i64 0, Go.Value.int Go.IntKind.i64 0, Go.Value.int Go.IntKind.i64 0, Go.Value.int Go.IntKind.i64 0])) := ⟨Tryz.t143, by kernel_rfl, rfl, rfl, rfl⟩
instance : Inf Tryz.prog 144 1 8 (Go.Value.nilFunc) := ⟨Tryz.t144, by kernel_rfl, rfl, rfl, rfl⟩
instance : Inf Tryz.prog 145 1 8 (Go.Value.nilFunc) := ⟨Tryz.t145, by kernel_rfl, rfl, rfl, rfl⟩
instance : Inf Tryz.prog 146 1 8 (Go.Value.nilFunc) := ⟨Tryz.t146, by kernel_rfl, rfl, rfl, rfl⟩
instance : Inf Tryz.prog 147 1 8 (Go.Value.nilFunc) := ⟨Tryz.t147, by kernel_rfl, rfl, rfl, rfl⟩
instance : Inf Tryz.prog 148 1 8 (Go.Value.nilFunc) := ⟨Tryz.t148, by kernel_rfl, rfl, rfl, rfl⟩
instance : Inf Tryz.prog 149 1 0 ((Go.Value.tuple #[Go.Value.agg #[Go.Value.int Go.IntKind.i64 0, Go.Value.int Go.IntKind.i64 0, Go.Value.slice none 0 0, Go.Value.int Go.IntKind.i64 0, Go.Value.int Go.IntKind.i32 0, Go.Value.int Go.IntKind.i32 0], Go.Value.int Go.IntKind.i64 0])) := ⟨Tryz.t149, by kernel_rfl, rfl, rfl, rfl⟩
instance : Inf Tryz.prog 150 1 8 (Go.Value.nilFunc) := ⟨Tryz.t150, by kernel_rfl, rfl, rfl, rfl⟩
instance : Inf Tryz.prog 151 8 104 ((Go.Value.agg #[Go.Value.int Go.IntKind.i64 0, Go.Value.int Go.IntKind.i64 0, Go.Value.slice none 0 0, Go.Value.int Go.IntKind.i64 0, Go.Value.int Go.IntKind.i32 0, Go.Value.int Go.IntKind.i32 0, Go.Value.slice none 0 0, Go.Value.slice none 0 0])) := ⟨Tryz.t151, by kernel_rfl, rfl, rfl, rfl⟩
instance : Inf Tryz.prog 152 8 104 ((Go.Value.agg #[Go.Value.int Go.IntKind.i64 0, Go.Value.int Go.IntKind.i64 0, Go.Value.slice none 0 0, Go.Value.int Go.IntKind.i64 0, Go.Value.int Go.IntKind.i32 0, Go.Value.int Go.IntKind.i32 0, Go.Value.slice none 0 0, Go.Value.slice none 0 0])) := ⟨Tryz.t152, by kernel_rfl, rfl, rfl, rfl⟩
instance : Inf Tryz.prog 159 1 0 ((Go.Value.tuple #[Go.Value.agg #[Go.Value.int Go.IntKind.i64 0, Go.Value.int Go.IntKind.i64 0, Go.Value.slice none 0 0, Go.Value.int Go.IntKind.i64 0, Go.Value.int Go.IntKind.i32 0, Go.Value.int Go.IntKind.i32 0, Go.Value.slice none 0 0, Go.Value.slice none 0 0], Go.Value.int Go.IntKind.i64 0])) := ⟨Tryz.t159, by kernel_rfl, rfl, rfl, rfl⟩
instance : Inf Tryz.prog 160 1 8 (Go.Value.nilFunc) := ⟨Tryz.t160, by kernel_rfl, rfl, rfl, rfl⟩
instance : Inf Tryz.prog 161 1 8 (Go.Value.nilFunc) := ⟨Tryz.t161, by kernel_rfl, rfl, rfl, rfl⟩
instance : Inf Tryz.prog 162 1 8 (Go.Value.nilFunc) := ⟨Tryz.t162, by kernel_rfl, rfl, rfl, rfl⟩
instance : Inf Tryz.prog 163 1 0 ((Go.Value.tuple #[Go.Value.agg (([Go.Value.bool false, Go.Value.int Go.IntKind.i64 0, Go.Value.int Go.IntKind.i64 0, Go.Value.int Go.IntKind.i64 0, Go.Value.int Go.IntKind.i64 0, Go.Value.int Go.IntKind.i64 0, Go.Value.int Go.IntKind.i64 0, Go.Value.int Go.IntKind.i64 0, Go.Value.int Go.IntKind.i64 0, Go.Value.int Go.IntKind.i64 0, Go.Value.int Go.IntKind.i64 0, Go.Value.int Go.IntKind.i64 0, Go.Value.int Go.IntKind.i64 0, Go.Value.int Go.IntKind.i64 0, Go.Value.int Go.IntKind.i64 0, Go.Value.int Go.IntKind.i64 0, Go.Value.int Go.IntKind.i64 0, Go.Value.int Go.IntKind.i64 0, Go.Value.int Go.IntKind.i64 0, Go.Value.int Go.IntKind.i64 0, Go.Value.int Go.IntKind.i64 0, Go.Value.int Go.IntKind.i64 0, Go.Value.int Go.IntKind.i64 0, Go.Value.int Go.IntKind.i64 0, Go.Value.int Go.IntKind.i64 0, Go.Value.int Go.IntKind.i64 0, Go.Value.int Go.IntKind.i64 0, Go.Value.int Go.IntKind.i64 0, Go.Value.int Go.IntKind.i64 0, Go.Value.int Go.IntKind.i64 0, Go.Value.int Go.IntKind.i64 0, Go.Value.int Go.IntKind.i64 0].append [Go.Value.int Go.IntKind.i64 0, Go.Value.int Go.IntKind.i64 0, Go.Value.int Go.IntKind.i64 0, Go.Value.int Go.IntKind.i64 0, Go.Value.int Go.IntKind.i64 0, Go.Value.int Go.IntKind.i64 0, Go.Value.int Go.IntKind.i64 0, Go.Value.int Go.IntKind.i64 0, Go.Value.int Go.IntKind.i64 0, Go.Value.int Go.IntKind.i64 0, Go.Value.int Go.IntKind.i64 0, Go.Value.int Go.IntKind.i64 0, Go.Value.int Go.IntKind.i64 0, Go.Value.int Go.IntKind.i64 0, Go.Value.int Go.IntKind.i64 0, Go.Value.int Go.IntKind.i64 0, Go.Value.int Go.IntKind.i64 0, Go.Value.int Go.IntKind.i64 0, Go.Value.int Go.IntKind.i64 0, Go.Value.int Go.IntKind.i64 0, Go.Value.int Go.IntKind.i64 0, Go.Value.int Go.IntKind.i64 0, Go.Value.int Go.IntKind.i64 0, Go.Value.int Go.IntKind.i64 0, Go.Value.int Go.IntKind.i64 0, Go.Value.int Go.IntKind.i64 0, Go.Value.int Go.IntKind.i64 0, Go.Value.int Go.IntKind.i64 0, Go.Value.int Go.IntKind.i64 0, Go.Value.int Go.IntKind.i64 0, Go.Value.int Go.IntKind.i64 0, Go.Value.int Go.IntKind.i64 0, Go.Value.int Go.IntKind.i64 0]).append ([Go.Value.int Go.IntKind.i64 0, Go.Value.int Go.IntKind.i64 0, Go.Value.int Go.IntKind.i64 0, Go.Value.int Go.IntKind.i64 0, Go.Value.int Go.IntKind.i64 0, Go.Value.int Go.IntKind.i64 0, Go.Value.int Go.IntKind.i64 0, Go.Value.int Go.IntKind.i64 0, Go.Value.int Go.IntKind.i64 0, Go.Value.int Go.IntKind.i64 0, Go.Value.int Go.IntKind.i64 0, Go.Value.int Go.IntKind.i64 0, Go.Value.int Go.IntKind.i64 0, Go.Value.int Go.IntKind.i64 0, Go.Value.int Go.IntKind.i64 0, Go.Value.int Go.IntKind.i64 0, Go.Value.int Go.IntKind.i64 0, Go.Value.int Go.IntKind.i64 0, Go.Value.int Go.IntKind.i64 0, Go.Value.int Go.IntKind.i64 0, Go.Value.int Go.IntKind.i64 0, Go.Value.int Go.IntKind.i64 0, Go.Value.int Go.IntKind.i64 0, Go.Value.int Go.IntKind.i64 0, Go.Value.int Go.IntKind.i64 0, Go.Value.int Go.IntKind.i64 0, Go.Value.int Go.IntKind.i64 0, Go.Value.int Go.IntKind.i64 0, Go.Value.int Go.IntKind.i64 0, Go.Value.int Go.IntKind.i64 0, Go.Value.int Go.IntKind.i64 0, Go.Value.int Go.IntKind.i64 0].append [Go.Value.int Go.IntKind.i64 0, Go.Value.int Go.IntKind.i64 0, Go.Value.int Go.IntKind.i64 0, Go.Value.int Go.IntKind.i64 0, Go.Value.int Go.IntKind.i64 0, Go.Value.int Go.IntKind.i64 0, Go.Value.int Go.IntKind.i64 0, Go.Value.int Go.IntKind.i64 0, Go.Value.int Go.IntKind.i64 0, Go.Value.int Go.IntKind.i64 0, Go.Value.int Go.IntKind.i64 0, Go.Value.int Go.IntKind.i64 0, Go.Value.int Go.IntKind.i64 0, Go.Value.int Go.IntKind.i64 0, Go.Value.int Go.IntKind.i64 0, Go.Value.int Go.IntKind.i64 0, Go.Value.int Go.IntKind.i64 0, Go.Value.int Go.IntKind.i64 0, Go.Value.int Go.IntKind.i64 0, Go.Value.int Go.IntKind.i64 0, Go.Value.int Go.IntKind.i64 0, Go.Value.int Go.IntKind.i64 0, Go.Value.int Go.IntKind.i64 0, Go.Value.int Go.IntKind.i64 0, Go.Value.int Go.IntKind.i64 0, Go.Value.int Go.IntKind.i64 0, Go.Value.int Go.IntKind.i64 0, Go.Value.int Go.IntKind.i64 0, Go.Value.int Go.IntKind.i64 0, Go.Value.int Go.IntKind.i64 0, Go.Value.int Go.IntKind.i64 0, Go.Value.int Go.IntKind.i64 0, Go.Value.int Go.IntKind.i64 0])).toArray, Go.Value.bool false])) := ⟨Tryz.t163, by kernel_rfl, rfl, rfl, rfl⟩
instance : Inf Tryz.prog 164 1 8 (Go.Value.nilFunc) := ⟨Tryz.t164, by kernel_rfl, rfl, rfl, rfl⟩
instance : Inf Tryz.prog 165 1 0 ((Go.Value.tuple #[Go.Value.int Go.IntKind.i64 0, Go.Value.int Go.IntKind.u64 0])) := ⟨Tryz.t165, by kernel_rfl, rfl, rfl, rfl⟩
instance : Inf Tryz.prog 166 1 8 (Go.Value.nilFunc) := ⟨Tryz.t166, by kernel_rfl, rfl, rfl, rfl⟩
instance : Inf Tryz.prog 167 1 0 ((Go.Value.tuple #[Go.Value.int Go.IntKind.i64 0, Go.Value.bool false])) := ⟨Tryz.t167, by kernel_rfl, rfl, rfl, rfl⟩
instance : Inf Tryz.prog 168 1 8 (Go.Value.nilFunc) := ⟨Tryz.t168, by kernel_rfl, rfl, rfl, rfl⟩
instance : Inf Tryz.prog 169 1 8 (Go.Value.nilFunc) := ⟨Tryz.t169, by kernel_rfl, rfl, rfl, rfl⟩
instance : Inf Tryz.prog 170 1 8 ((Go.Value.int Go.IntKind.u64 0)) := ⟨Tryz.t170, by kernel_rfl, rfl, rfl, rfl⟩
instance : Inf Tryz.prog 171 1 0 ((Go.Value.tuple #[Go.Value.int Go.IntKind.u64 0, Go.Value.int Go.IntKind.u64 0])) := ⟨Tryz.t171, by kernel_rfl, rfl, rfl, rfl⟩
instance : Inf Tryz.prog 172 1 8 (Go.Value.nilFunc) := ⟨Tryz.t172, by kernel_rfl, rfl, rfl, rfl⟩
instance : Inf Tryz.prog 173 1 8 (Go.Value.nilFunc) := ⟨Tryz.t173, by kernel_rfl, rfl, rfl, rfl⟩
instance : Inf Tryz.prog 174 1 8 (Go.Value.nilFunc) := ⟨Tryz.t174, by kernel_rfl, rfl, rfl, rfl⟩
instance : Inf Tryz.prog 175 1 8 (Go.Value.nilFunc) := ⟨Tryz.t175, by kernel_rfl, rfl, rfl, rfl⟩
instance : Inf Tryz.prog 176 1 8 (Go.Value.nilFunc) := ⟨Tryz.t176, by kernel_rfl, rfl, rfl, rfl⟩
instance : Inf Tryz.prog 177 1 8 (Go.Value.nilFunc) := ⟨Tryz.t177, by kernel_rfl, rfl, rfl, rfl⟩
instance : Inf Tryz.prog 178 1 8 (Go.Value.nilFunc) := ⟨Tryz.t178, by kernel_rfl, rfl, rfl, rfl⟩
instance : Inf Tryz.prog 179 1 8 (Go.Value.nilFunc) := ⟨Tryz.t179, by kernel_rfl, rfl, rfl, rfl⟩
instance : Inf Tryz.prog 180 1 0 ((Go.Value.tuple #[Go.Value.agg ([Go.Value.int Go.IntKind.i64 0, Go.Value.int Go.IntKind.i64 0, Go.Value.int Go.IntKind.i64 0, Go.Value.int Go.IntKind.i64 0, Go.Value.int Go.IntKind.i64 0, Go.Value.int Go.IntKind.i64 0, Go.Value.int Go.IntKind.i64 0, Go.Value.int Go.IntKind.i64 0, Go.Value.int Go.IntKind.i64 0, Go.Value.int Go.IntKind.i64 0, Go.Value.int Go.IntKind.i64 0, Go.Value.int Go.IntKind.i64 0, Go.Value.int Go.IntKind.i64 0, Go.Value.int Go.IntKind.i64 0, Go.Value.int Go.IntKind.i64 0, Go.Value.int Go.IntKind.i64 0, Go.Value.int Go.IntKind.i64 0, Go.Value.int Go.IntKind.i64 0, Go.Value.int Go.IntKind.i64 0, Go.Value.int Go.IntKind.i64 0, Go.Value.int Go.IntKind.i64 0, Go.Value.int Go.IntKind.i64 0, Go.Value.int Go.IntKind.i64 0, Go.Value.int Go.IntKind.i64 0, Go.Value.int Go.IntKind.i64 0, Go.Value.int Go.IntKind.i64 0, Go.Value.int Go.IntKind.i64 0, Go.Value.int Go.IntKind.i64 0, Go.Value.int Go.IntKind.i64 0, Go.Value.int Go.IntKind.i64 0, Go.Value.int Go.IntKind.i64 0, Go.Value.int Go.IntKind.i64 0, Go.Value.int Go.IntKind.i64 0, Go.Value.int Go.IntKind.i64 0, Go.Value.int Go.IntKind.i64 0, Go.Value.int Go.IntKind.i64 0, Go.Value.int Go.IntKind.i64 0, Go.Value.int Go.IntKind.i64 0, Go.Value.int Go.IntKind.i64 0, Go.Value.int Go.IntKind.i64 0, Go.Value.int Go.IntKind.i64 0, Go.Value.int Go.IntKind.i64 0, Go.Value.int Go.IntKind.i64 0, Go.Value.int Go.IntKind.i64 0, Go.Value.int Go.IntKind.i64 0, Go.Value.int Go.IntKind.i64 0, Go.Value.int Go.IntKind.i64 0, Go.Value.int Go.IntKind.i64 0, Go.Value.int Go.IntKind.i64 0, Go.Value.int Go.IntKind.i64 0, Go.Value.int Go.IntKind.i64 0, Go.Value.int Go.IntKind.i64 0, Go.Value.int Go.IntKind.i64 0, Go.Value.int Go.IntKind.i64 0, Go.Value.int Go.IntKind.i64 0, Go.Value.int Go.IntKind.i64 0, Go.Value.int Go.IntKind.i64 0, Go.Value.int Go.IntKind.i64 0, Go.Value.int Go.IntKind.i64 0, Go.Value.int Go.IntKind.i64 0, Go.Value.int Go.IntKind.i64 0, Go.Value.int Go.IntKind.i64 0, Go.Value.int Go.IntKind.i64 0, Go.Value.int Go.IntKind.i64 0].append ([Go.Value.int Go.IntKind.i64 0, Go.Value.int Go.IntKind.i64 0, Go.Value.int Go.IntKind.i64 0, Go.Value.int Go.IntKind.i64 0, Go.Value.int Go.IntKind.i64 0, Go.Value.int Go.IntKind.i64 0, Go.Value.int Go.IntKind.i64 0, Go.Value.int Go.IntKind.i64 0, Go.Value.int Go.IntKind.i64 0, Go.Value.int Go.IntKind.i64 0, Go.Value.int Go.IntKind.i64 0, Go.Value.int Go.IntKind.i64 0, Go.Value.int Go.IntKind.i64 0, Go.Value.int Go.IntKind.i64 0, Go.Value.int Go.IntKind.i64 0, Go.Value.int Go.IntKind.i64 0, Go.Value.int Go.IntKind.i64 0, Go.Value.int Go.IntKind.i64 0, Go.Value.int Go.IntKind.i64 0, Go.Value.int Go.IntKind.i64 0, Go.Value.int Go.IntKind.i64 0, Go.Value.int Go.IntKind.i64 0, Go.Value.int Go.IntKind.i64 0, Go.Value.int Go.IntKind.i64 0, Go.Value.int Go.IntKind.i64 0, Go.Value.int Go.IntKind.i64 0, Go.Value.int Go.IntKind.i64 0, Go.Value.int Go.IntKind.i64 0, Go.Value.int Go.IntKind.i64 0, Go.Value.int Go.IntKind.i64 0, Go.Value.int Go.IntKind.i64 0, Go.Value.int Go.IntKind.i64 0].append [Go.Value.int Go.IntKind.i64 0, Go.Value.int Go.IntKind.i64 0, Go.Value.int Go.IntKind.i64 0, Go.Value.int Go.IntKind.i64 0, Go.Value.int Go.IntKind.i64 0, Go.Value.int Go.IntKind.i64 0, Go.Value.int Go.IntKind.i64 0, Go.Value.int Go.IntKind.i64 0, Go.Value.int Go.IntKind.i64 0, Go.Value.int Go.IntKind.i64 0, Go.Value.int Go.IntKind.i64 0, Go.Value.int Go.IntKind.i64 0, Go.Value.int Go.IntKind.i64 0, Go.Value.int Go.IntKind.i64 0, Go.Value.int Go.IntKind.i64 0, Go.Value.int Go.IntKind.i64 0, Go.Value.int Go.IntKind.i64 0, Go.Value.int Go.IntKind.i64 0, Go.Value.int Go.IntKind.i64 0, Go.Value.int Go.IntKind.i64 0, Go.Value.int Go.IntKind.i64 0, Go.Value.int Go.IntKind.i64 0, Go.Value.int Go.IntKind.i64 0, Go.Value.int Go.IntKind.i64 0, Go.Value.int Go.IntKind.i64 0, Go.Value.int Go.IntKind.i64 0, Go.Value.int Go.IntKind.i64 0, Go.Value.int Go.IntKind.i64 0, Go.Value.int Go.IntKind.i64 0, Go.Value.int Go.IntKind.i64 0, Go.Value.int Go.IntKind.i64 0, Go.Value.int Go.IntKind.i64 0, Go.Value.int Go.IntKind.i64 0])).toArray, Go.Value.agg ([Go.Value.int Go.IntKind.i64 0, Go.Value.int Go.IntKind.i64 0, Go.Value.int Go.IntKind.i64 0, Go.Value.int Go.IntKind.i64 0, Go.Value.int Go.IntKind.i64 0, Go.Value.int Go.IntKind.i64 0, Go.Value.int Go.IntKind.i64 0, Go.Value.int Go.IntKind.i64 0, Go.Value.int Go.IntKind.i64 0, Go.Value.int Go.IntKind.i64 0, Go.Value.int Go.IntKind.i64 0, Go.Value.int Go.IntKind.i64 0, Go.Value.int Go.IntKind.i64 0, Go.Value.int Go.IntKind.i64 0, Go.Value.int Go.IntKind.i64 0, Go.Value.int Go.IntKind.i64 0, Go.Value.int Go.IntKind.i64 0, Go.Value.int Go.IntKind.i64 0, Go.Value.int Go.IntKind.i64 0, Go.Value.int Go.IntKind.i64 0, Go.Value.int Go.IntKind.i64 0, Go.Value.int Go.IntKind.i64 0, Go.Value.int Go.IntKind.i64 0, Go.Value.int Go.IntKind.i64 0, Go.Value.int Go.IntKind.i64 0, Go.Value.int Go.IntKind.i64 0, Go.Value.int Go.IntKind.i64 0, Go.Value.int Go.IntKind.i64 0, Go.Value.int Go.IntKind.i64 0, Go.Value.int Go.IntKind.i64 0, Go.Value.int Go.IntKind.i64 0, Go.Value.int Go.IntKind.i64 0, Go.Value.int Go.IntKind.i64 0, Go.Value.int Go.IntKind.i64 0, Go.Value.int Go.IntKind.i64 0, Go.Value.int Go.IntKind.i64 0, Go.Value.int Go.IntKind.i64 0, Go.Value.int Go.IntKind.i64 0, Go.Value.int Go.IntKind.i64 0, Go.Value.int Go.IntKind.i64 0, Go.Value.int Go.IntKind.i64 0, Go.Value.int Go.IntKind.i64 0, Go.Value.int Go.IntKind.i64 0, Go.Value.int Go.IntKind.i64 0, Go.Value.int Go.IntKind.i64 0, Go.Value.int Go.IntKind.i64 0, Go.Value.int Go.IntKind.i64 0, Go.Value.int Go.IntKind.i64 0, Go.Value.int Go.IntKind.i64 0, Go.Value.int Go.IntKind.i64 0, Go.Value.int Go.IntKind.i64 0, Go.Value.int Go.IntKind.i64 0, Go.Value.int Go.IntKind.i64 0, Go.Value.int Go.IntKind.i64 0, Go.Value.int Go.IntKind.i64 0, Go.Value.int Go.IntKind.i64 0, Go.Value.int Go.IntKind.i64 0, Go.Value.int Go.IntKind.i64 0, Go.Value.int Go.IntKind.i64 0, Go.Value.int Go.IntKind.i64 0, Go.Value.int Go.IntKind.i64 0, Go.Value.int Go.IntKind.i64 0, Go.Value.int Go.IntKind.i64 0, Go.Value.int Go.IntKind.i64 0].append ([Go.Value.int Go.IntKind.i64 0, Go.Value.int Go.IntKind.i64 0, Go.Value.int Go.IntKind.i64 0, Go.Value.int Go.IntKind.i64 0, Go.Value.int Go.IntKind.i64 0, Go.Value.int Go.IntKind.i64 0, Go.Value.int Go.IntKind.i64 0, Go.Value.int Go.IntKind.i64 0, Go.Value.int Go.IntKind.i64 0, Go.Value.int Go.IntKind.i64 0, Go.Value.int Go.IntKind.i64 0, Go.Value.int Go.IntKind.i64 0, Go.Value.int Go.IntKind.i64 0, Go.Value.int Go.IntKind.i64 0, Go.Value.int Go.IntKind.i64 0, Go.Value.int Go.IntKind.i64 0, Go.Value.int Go.IntKind.i64 0, Go.Value.int Go.IntKind.i64 0, Go.Value.int Go.IntKind.i64 0, Go.Value.int Go.IntKind.i64 0, Go.Value.int Go.IntKind.i64 0, Go.Value.int Go.IntKind.i64 0, Go.Value.int Go.IntKind.i64 0, Go.Value.int Go.IntKind.i64 0, Go.Value.int Go.IntKind.i64 0, Go.Value.int Go.IntKind.i64 0, Go.Value.int Go.IntKind.i64 0, Go.Value.int Go.IntKind.i64 0, Go.Value.int Go.IntKind.i64 0, Go.Value.int Go.IntKind.i64 0, Go.Value.int Go.IntKind.i64 0, Go.Value.int Go.IntKind.i64 0].append [Go.Value.int Go.IntKind.i64 0, Go.Value.int Go.IntKind.i64 0, Go.Value.int Go.IntKind.i64 0, Go.Value.int Go.IntKind.i64 0, Go.Value.int Go.IntKind.i64 0, Go.Value.int Go.IntKind.i64 0, Go.Value.int Go.IntKind.i64 0, Go.Value.int Go.IntKind.i64 0, Go.Value.int Go.IntKind.i64 0, Go.Value.int Go.IntKind.i64 0, Go.Value.int Go.IntKind.i64 0, Go.Value.int Go.IntKind.i64 0, Go.Value.int Go.IntKind.i64 0, Go.Value.int Go.IntKind.i64 0, Go.Value.int Go.IntKind.i64 0, Go.Value.int Go.IntKind.i64 0, Go.Value.int Go.IntKind.i64 0, Go.Value.int Go.IntKind.i64 0, Go.Value.int Go.IntKind.i64 0, Go.Value.int Go.IntKind.i64 0, Go.Value.int Go.IntKind.i64 0, Go.Value.int Go.IntKind.i64 0, Go.Value.int Go.IntKind.i64 0, Go.Value.int Go.IntKind.i64 0, Go.Value.int Go.IntKind.i64 0, Go.Value.int Go.IntKind.i64 0, Go.Value.int Go.IntKind.i64 0, Go.Value.int Go.IntKind.i64 0, Go.Value.int Go.IntKind.i64 0, Go.Value.int Go.IntKind.i64 0, Go.Value.int Go.IntKind.i64 0, Go.Value.int Go.IntKind.i64 0, Go.Value.int Go.IntKind.i64 0])).toArray])) := ⟨Tryz.t180, by kernel_rfl, rfl, rfl, rfl⟩
instance : Inf Tryz.prog 181 1 8 (Go.Value.nilFunc) := ⟨Tryz.t181, by kernel_rfl, rfl, rfl, rfl⟩
instance : Inf Tryz.prog 182 1 8 (Go.Value.nilFunc) := ⟨Tryz.t182, by kernel_rfl, rfl, rfl, rfl⟩
instance : Inf Tryz.prog 183 1 8 (Go.Value.nilFunc) := ⟨Tryz.t183, by kernel_rfl, rfl, rfl, rfl⟩
instance : Inf Tryz.prog 184 1 0 ((Go.Value.tuple #[Go.Value.agg #[Go.Value.int Go.IntKind.i64 0, Go.Value.int Go.IntKind.u64 0], Go.Value.bool false])) := ⟨Tryz.t184, by kernel_rfl, rfl, rfl, rfl⟩
instance : Inf Tryz.prog 185 1 8 (Go.Value.nilFunc) := ⟨Tryz.t185, by kernel_rfl, rfl, rfl, rfl⟩
instance : Inf Tryz.prog 186 1 8 (Go.Value.nilFunc) := ⟨Tryz.t186, by kernel_rfl, rfl, rfl, rfl⟩
instance : Inf Tryz.prog 187 1 0 ((Go.Value.tuple #[Go.Value.int Go.IntKind.i64 0, Go.Value.int Go.IntKind.i64 0])) := ⟨Tryz.t187, by kernel_rfl, rfl, rfl, rfl⟩
instance : Inf Tryz.prog 188 1 8 (Go.Value.nilFunc) := ⟨Tryz.t188, by kernel_rfl, rfl, rfl, rfl⟩
instance : Inf Tryz.prog 189 1 8 (Go.Value.nilFunc) := ⟨Tryz.t189, by kernel_rfl, rfl, rfl, rfl⟩
instance : Inf Tryz.prog 190 1 8 (Go.Value.nilFunc) := ⟨Tryz.t190, by kernel_rfl, rfl, rfl, rfl⟩
instance : Inf Tryz.prog 191 1 8 (Go.Value.nilFunc) := ⟨Tryz.t191, by kernel_rfl, rfl, rfl, rfl⟩
instance : Inf Tryz.prog 192 1 8 (Go.Value.nilFunc) := ⟨Tryz.t192, by kernel_rfl, rfl, rfl, rfl⟩
instance : Inf Tryz.prog 193 1 0 ((Go.Value.tuple #[Go.Value.int Go.IntKind.i16 0, Go.Value.int Go.IntKind.i64 0])) := ⟨Tryz.t193, by kernel_rfl, rfl, rfl, rfl⟩
instance : Inf Tryz.prog 194 1 8 (Go.Value.nilFunc) := ⟨Tryz.t194, by kernel_rfl, rfl, rfl, rfl⟩
instance : Inf Tryz.prog 195 1 8 (Go.Value.nilFunc) := ⟨Tryz.t195, by kernel_rfl, rfl, rfl, rfl⟩
instance : Inf Tryz.prog 196 1 4 ((Go.Value.int Go.IntKind.u32 0)) := ⟨Tryz.t196, by kernel_rfl, rfl, rfl, rfl⟩
instance : Inf Tryz.prog 197 1 8 (Go.Value.nilFunc) := ⟨Tryz.t197, by kernel_rfl, rfl, rfl, rfl⟩
instance : Inf Tryz.prog 198 2 32 ((Go.Value.agg #[Go.Value.slice none 0 0, Go.Value.int Go.IntKind.i64 0])) := ⟨Tryz.t198, by kernel_rfl, rfl, rfl, rfl⟩
instance : Inf Tryz.prog 199 2 32 ((Go.Value.agg #[Go.Value.slice none 0 0, Go.Value.int Go.IntKind.i64 0])) := ⟨Tryz.t199, by kernel_rfl, rfl, rfl, rfl⟩
instance : Inf Tryz.prog 200 1 24 ((Go.Value.slice none 0 0)) := ⟨Tryz.t200, by kernel_rfl, rfl, rfl, rfl⟩
instance : Inf Tryz.prog 201 1 8 (Go.Value.nilFunc) := ⟨Tryz.t201, by kernel_rfl, rfl, rfl, rfl⟩
instance : Inf Tryz.prog 202 1 8 (Go.Value.nilFunc) := ⟨Tryz.t202, by kernel_rfl, rfl, rfl, rfl⟩
instance : Inf Tryz.prog 203 1 8 ((Go.Value.pointer none)) := ⟨Tryz.t203, by kernel_rfl, rfl, rfl, rfl⟩
instance : Inf Tryz.prog 204 1 8 (Go.Value.nilFunc) := ⟨Tryz.t204, by kernel_rfl, rfl, rfl, rfl⟩
instance : Inf Tryz.prog 205 1 8 (Go.Value.nilFunc) := ⟨Tryz.t205, by kernel_rfl, rfl, rfl, rfl⟩
instance : Inf Tryz.prog 206 1 0 ((Go.Value.tuple #[Go.Value.slice none 0 0, Go.Value.int Go.IntKind.i64 0])) := ⟨Tryz.t206, by kernel_rfl, rfl, rfl, rfl⟩
instance : Inf Tryz.prog 207 1 8 (Go.Value.nilFunc) := ⟨Tryz.t207, by kernel_rfl, rfl, rfl, rfl⟩
instance : Inf Tryz.prog 208 1 8 (Go.Value.nilFunc) := ⟨Tryz.t208, by kernel_rfl, rfl, rfl, rfl⟩
instance : Inf Tryz.prog 209 1 8 (Go.Value.nilFunc) := ⟨Tryz.t209, by kernel_rfl, rfl, rfl, rfl⟩
instance : Inf Tryz.prog 210 1 0 ((Go.Value.tuple #[Go.Value.slice none 0 0, Go.Value.bool false])) := ⟨Tryz.t210, by kernel_rfl, rfl, rfl, rfl⟩
instance : Inf Tryz.prog 211 1 8 (Go.Value.nilFunc) := ⟨Tryz.t211, by kernel_rfl, rfl, rfl, rfl⟩
instance : Inf Tryz.prog 212 1 8 (Go.Value.nilFunc) := ⟨Tryz.t212, by kernel_rfl, rfl, rfl, rfl⟩
instance : Inf Tryz.prog 213 1 8 (Go.Value.nilFunc) := ⟨Tryz.t213, by kernel_rfl, rfl, rfl, rfl⟩
instance : Inf Tryz.prog 214 1 8 (Go.Value.nilFunc) := ⟨Tryz.t214, by kernel_rfl, rfl, rfl, rfl⟩
instance : Inf Tryz.prog 215 1 8 (Go.Value.nilFunc) := ⟨Tryz.t215, by kernel_rfl, rfl, rfl, rfl⟩
instance : Inf Tryz.prog 216 1 8 (Go.Value.nilFunc) := ⟨Tryz.t216, by kernel_rfl, rfl, rfl, rfl⟩
instance : Inf Tryz.prog 217 1 8 (Go.Value.nilFunc) := ⟨Tryz.t217, by kernel_rfl, rfl, rfl, rfl⟩
instance : Inf Tryz.prog 218 1 8 ((Go.Value.pointer none)) := ⟨Tryz.t218, by kernel_rfl, rfl, rfl, rfl⟩
instance : Inf Tryz.prog 219 1 8 (Go.Value.nilFunc) := ⟨Tryz.t219, by kernel_rfl, rfl, rfl, rfl⟩
instance : Inf Tryz.prog 220 1 0 ((Go.Value.tuple #[Go.Value.int Go.IntKind.i64 0, Go.Value.int Go.IntKind.i64 0])) := ⟨Tryz.t220, by kernel_rfl, rfl, rfl, rfl⟩
instance : Inf Tryz.prog 221 1 8 (Go.Value.nilFunc) := ⟨Tryz.t221, by kernel_rfl, rfl, rfl, rfl⟩
instance : Inf Tryz.prog 222 1 8 (Go.Value.nilFunc) := ⟨Tryz.t222, by kernel_rfl, rfl, rfl, rfl⟩
instance : Inf Tryz.prog 223 1 8 (Go.Value.nilFunc) := ⟨Tryz.t223, by kernel_rfl, rfl, rfl, rfl⟩
instance : Inf Tryz.prog 224 1 8 (Go.Value.nilFunc) := ⟨Tryz.t224, by kernel_rfl, rfl, rfl, rfl⟩
instance : Inf Tryz.prog 225 1 8 (Go.Value.nilFunc) := ⟨Tryz.t225, by kernel_rfl, rfl, rfl, rfl⟩
instance : Inf Tryz.prog 226 1 8 (Go.Value.nilFunc) := ⟨Tryz.t226, by kernel_rfl, rfl, rfl, rfl⟩
instance : Inf Tryz.prog 227 1 8 (Go.Value.nilFunc) := ⟨Tryz.t227, by kernel_rfl, rfl, rfl, rfl⟩
instance : Inf Tryz.prog 228 1 8 (Go.Value.nilFunc) := ⟨Tryz.t228, by kernel_rfl, rfl, rfl, rfl⟩
instance : Inf Tryz.prog 229 1 0 ((Go.Value.tuple #[Go.Value.int Go.IntKind.u64 0, Go.Value.int Go.IntKind.i64 0])) := ⟨Tryz.t229, by kernel_rfl, rfl, rfl, rfl⟩
instance : Inf Tryz.prog 230 1 8 (Go.Value.nilFunc) := ⟨Tryz.t230, by kernel_rfl, rfl, rfl, rfl⟩
instance : Inf Tryz.prog 231 1 8 (Go.Value.nilFunc) := ⟨Tryz.t231, by kernel_rfl, rfl, rfl, rfl⟩
instance : Inf Tryz.prog 232 1 16 (Go.Value.nilIface) := ⟨Tryz.t232, by kernel_rfl, rfl, rfl, rfl⟩
instance : Inf Tryz.prog 233 1 16 (Go.Value.nilIface) := ⟨Tryz.t233, by kernel_rfl, rfl, rfl, rfl⟩
instance : Inf Tryz.prog 234 1 8 (Go.Value.nilFunc) := ⟨Tryz.t234, by kernel_rfl, rfl, rfl, rfl⟩
instance : Inf Tryz.prog 235 1 8 (Go.Value.nilFunc) := ⟨Tryz.t235, by kernel_rfl, rfl, rfl, rfl⟩
instance : Inf Tryz.prog 236 1 8 (Go.Value.nilFunc) := ⟨Tryz.t236, by kernel_rfl, rfl, rfl, rfl⟩
instance : Inf Tryz.prog 237 1 8 (Go.Value.nilFunc) := ⟨Tryz.t237, by kernel_rfl, rfl, rfl, rfl⟩
instance : Inf Tryz.prog 238 1 8 (Go.Value.nilFunc) := ⟨Tryz.t238, by kernel_rfl, rfl, rfl, rfl⟩
instance : Inf Tryz.prog 239 1 8 (Go.Value.nilFunc) := ⟨Tryz.t239, by kernel_rfl, rfl, rfl, rfl⟩
instance : Inf Tryz.prog 240 1 8 (Go.Value.nilFunc) := ⟨Tryz.t240, by kernel_rfl, rfl, rfl, rfl⟩
instance : Inf Tryz.prog 241 1 8 ((Go.Value.pointer none)) := ⟨Tryz.t241, by kernel_rfl, rfl, rfl, rfl⟩
instance : Inf Tryz.prog 242 1 8 (Go.Value.nilFunc) := ⟨Tryz.t242, by kernel_rfl, rfl, rfl, rfl⟩
instance : Inf Tryz.prog 243 1 0 ((Go.Value.tuple #[Go.Value.slice none 0 0, Go.Value.bool false])) := ⟨Tryz.t243, by kernel_rfl, rfl, rfl, rfl⟩
instance : Inf Tryz.prog 244 1 8 (Go.Value.nilFunc) := ⟨Tryz.t244, by kernel_rfl, rfl, rfl, rfl⟩
instance : Inf Tryz.prog 245 1 8 (Go.Value.nilFunc) := ⟨Tryz.t245, by kernel_rfl, rfl, rfl, rfl⟩
instance : Inf Tryz.prog 246 1 8 (Go.Value.nilFunc) := ⟨Tryz.t246, by kernel_rfl, rfl, rfl, rfl⟩
instance : Inf Tryz.prog 247 3 40 ((Go.Value.agg #[Go.Value.slice none 0 0, Go.Value.int Go.IntKind.i64 0, Go.Value.bool false])) := ⟨Tryz.t247, by kernel_rfl, rfl, rfl, rfl⟩
instance : Inf Tryz.prog 248 3 40 ((Go.Value.agg #[Go.Value.slice none 0 0, Go.Value.int Go.IntKind.i64 0, Go.Value.bool false])) := ⟨Tryz.t248, by kernel_rfl, rfl, rfl, rfl⟩
instance : Inf Tryz.prog 249 1 8 (Go.Value.nilFunc) := ⟨Tryz.t249, by kernel_rfl, rfl, rfl, rfl⟩
instance : Inf Tryz.prog 250 1 0 ((Go.Value.tuple #[Go.Value.int Go.IntKind.u32 0, Go.Value.bool false])) := ⟨Tryz.t250, by kernel_rfl, rfl, rfl, rfl⟩
instance : Inf Tryz.prog 251 1 8 (Go.Value.nilFunc) := ⟨Tryz.t251, by kernel_rfl, rfl, rfl, rfl⟩
instance : Inf Tryz.prog 252 1 8 (Go.Value.nilFunc) := ⟨Tryz.t252, by kernel_rfl, rfl, rfl, rfl⟩
instance : Inf Tryz.prog 253 1 8 (Go.Value.nilFunc) := ⟨Tryz.t253, by kernel_rfl, rfl, rfl, rfl⟩
instance : Inf Tryz.prog 261 1 8 (Go.Value.nilFunc) := ⟨Tryz.t261, by kernel_rfl, rfl, rfl, rfl⟩
instance : Inf Tryz.prog 262 1 8 ((Go.Value.pointer none)) := ⟨Tryz.t262, by kernel_rfl, rfl, rfl, rfl⟩
instance : Inf Tryz.prog 267 1 8 (Go.Value.nilFunc) := ⟨Tryz.t267, by kernel_rfl, rfl, rfl, rfl⟩
instance : Inf Tryz.prog 268 1 8 ((Go.Value.pointer none)) := ⟨Tryz.t268, by kernel_rfl, rfl, rfl, rfl⟩
instance : Und Tryz.prog 0 (Tryz.t0.desc) := ⟨Tryz.underlying0⟩
instance : Und Tryz.prog 1 (Tryz.t1.desc) := ⟨Tryz.underlying1⟩
instance : Und Tryz.prog 2 (Go.TypeDesc.int Go.IntKind.i64) := ⟨Tryz.underlying2⟩
instance : Und Tryz.prog 3 (Go.TypeDesc.int Go.IntKind.i64) := ⟨Tryz.underlying3⟩
instance : Und Tryz.prog 4 .bool := ⟨Tryz.underlying4⟩
instance : Und Tryz.prog 5 (Go.TypeDesc.int Go.IntKind.u8) := ⟨Tryz.underlying5⟩
instance : Und Tryz.prog 9 .string := ⟨Tryz.underlying9⟩
instance : Und Tryz.prog 12 (Go.TypeDesc.int Go.IntKind.u64) := ⟨Tryz.underlying12⟩
instance : Und Tryz.prog 13 (Tryz.t13.desc) := ⟨Tryz.underlying13⟩
instance : YesAgg (Tryz.t13.desc) := ⟨by kernel_rfl⟩
instance : Und Tryz.prog 20 (Tryz.t20.desc) := ⟨Tryz.underlying20⟩
instance : Und Tryz.prog 21 (Go.TypeDesc.int Go.IntKind.i32) := ⟨Tryz.underlying21⟩
instance : Und Tryz.prog 22 (Go.TypeDesc.slice 92) := ⟨Tryz.underlying22⟩
instance : Und Tryz.prog 23 (Tryz.t23.desc) := ⟨Tryz.underlying23⟩
instance : YesAgg (Tryz.t23.desc) := ⟨by kernel_rfl⟩
instance : Und Tryz.prog 24 (Tryz.t23.desc) := ⟨Tryz.underlying24⟩
instance : Und Tryz.prog 25 (Tryz.t25.desc) := ⟨Tryz.underlying25⟩
instance : YesAgg (Tryz.t25.desc) := ⟨by kernel_rfl⟩
instance : Und Tryz.prog 26 (Tryz.t25.desc) := ⟨Tryz.underlying26⟩
instance : Und Tryz.prog 27 (Go.TypeDesc.slice 73) := ⟨Tryz.underlying27⟩
instance : Und Tryz.prog 28 (Tryz.t28.desc) := ⟨Tryz.underlying28⟩
instance : Und Tryz.prog 29 (Tryz.t29.desc) := ⟨Tryz.underlying29⟩
instance : Und Tryz.prog 30 (Tryz.t30.desc) := ⟨Tryz.underlying30⟩
instance : YesAgg (Tryz.t30.desc) := ⟨by kernel_rfl⟩
instance : Und Tryz.prog 31 (Tryz.t30.desc) := ⟨Tryz.underlying31⟩
instance : Und Tryz.prog 32 (Tryz.t32.desc) := ⟨Tryz.underlying32⟩
instance : YesAgg (Tryz.t32.desc) := ⟨by kernel_rfl⟩
instance : Und Tryz.prog 33 (Tryz.t32.desc) := ⟨Tryz.underlying33⟩
instance : Und Tryz.prog 34 (Tryz.t34.desc) := ⟨Tryz.underlying34⟩
instance : Und Tryz.prog 35 (Go.TypeDesc.int Go.IntKind.u16) := ⟨Tryz.underlying35⟩
instance : Und Tryz.prog 36 (Go.TypeDesc.pointer 158) := ⟨Tryz.underlying36⟩
instance : Und Tryz.prog 37 (Tryz.t37.desc) := ⟨Tryz.underlying37⟩
instance : Und Tryz.prog 38 (Go.TypeDesc.slice 46) := ⟨Tryz.underlying38⟩
instance : Und Tryz.prog 39 (Tryz.t39.desc) := ⟨Tryz.underlying39⟩
instance : Und Tryz.prog 40 (Tryz.t40.desc) := ⟨Tryz.underlying40⟩
instance : Und Tryz.prog 41 (Tryz.t41.desc) := ⟨Tryz.underlying41⟩
instance : Und Tryz.prog 42 (Tryz.t42.desc) := ⟨Tryz.underlying42⟩
instance : YesAgg (Tryz.t42.desc) := ⟨by kernel_rfl⟩
instance : Und Tryz.prog 43 (Tryz.t42.desc) := ⟨Tryz.underlying43⟩
instance : Und Tryz.prog 44 (Tryz.t44.desc) := ⟨Tryz.underlying44⟩
instance : Und Tryz.prog 45 (Tryz.t45.desc) := ⟨Tryz.underlying45⟩
instance : Und Tryz.prog 46 (Tryz.t42.desc) := ⟨Tryz.underlying46⟩
instance : Und Tryz.prog 47 (Tryz.t47.desc) := ⟨Tryz.underlying47⟩
instance : Und Tryz.prog 48 (Go.TypeDesc.slice 94) := ⟨Tryz.underlying48⟩
instance : Und Tryz.prog 49 (Go.TypeDesc.int Go.IntKind.i64) := ⟨Tryz.underlying49⟩
instance : Und Tryz.prog 50 (Tryz.t50.desc) := ⟨Tryz.underlying50⟩
instance : Und Tryz.prog 51 (Tryz.t51.desc) := ⟨Tryz.underlying51⟩
instance : Und Tryz.prog 52 (Tryz.t52.desc) := ⟨Tryz.underlying52⟩
instance : Und Tryz.prog 53 (Tryz.t53.desc) := ⟨Tryz.underlying53⟩
instance : Und Tryz.prog 54 (Tryz.t54.desc) := ⟨Tryz.underlying54⟩
instance : Und Tryz.prog 55 (Tryz.t55.desc) := ⟨Tryz.underlying55⟩
instance : Und Tryz.prog 56 (Tryz.t56.desc) := ⟨Tryz.underlying56⟩
instance : Und Tryz.prog 57 (Tryz.t57.desc) := ⟨Tryz.underlying57⟩
instance : Und Tryz.prog 58 (Go.TypeDesc.slice 2) := ⟨Tryz.underlying58⟩
instance : Und Tryz.prog 59 (Tryz.t59.desc) := ⟨Tryz.underlying59⟩
instance : YesAgg (Tryz.t59.desc) := ⟨by kernel_rfl⟩
instance : Und Tryz.prog 60 (Tryz.t59.desc) := ⟨Tryz.underlying60⟩
instance : Und Tryz.prog 61 (Tryz.t61.desc) := ⟨Tryz.underlying61⟩
instance : Und Tryz.prog 62 (Tryz.t62.desc) := ⟨Tryz.underlying62⟩
instance : Und Tryz.prog 63 (Tryz.t63.desc) := ⟨Tryz.underlying63⟩
instance : Und Tryz.prog 64 (Tryz.t64.desc) := ⟨Tryz.underlying64⟩
instance : Und Tryz.prog 65 (Tryz.t65.desc) := ⟨Tryz.underlying65⟩
instance : Und Tryz.prog 66 (Tryz.t66.desc) := ⟨Tryz.underlying66⟩
instance : Und Tryz.prog 67 (Tryz.t67.desc) := ⟨Tryz.underlying67⟩
instance : Und Tryz.prog 68 (Tryz.t68.desc) := ⟨Tryz.underlying68⟩
instance : Und Tryz.prog 69 (Tryz.t69.desc) := ⟨Tryz.underlying69⟩
instance : Und Tryz.prog 70 (Tryz.t70.desc) := ⟨Tryz.underlying70⟩
instance : Und Tryz.prog 71 (Tryz.t71.desc) := ⟨Tryz.underlying71⟩
instance : Und Tryz.prog 72 (Tryz.t72.desc) := ⟨Tryz.underlying72⟩
instance : YesAgg (Tryz.t72.desc) := ⟨by kernel_rfl⟩
instance : Und Tryz.prog 73 (Tryz.t72.desc) := ⟨Tryz.underlying73⟩
instance : Und Tryz.prog 74 (Tryz.t74.desc) := ⟨Tryz.underlying74⟩
instance : Und Tryz.prog 75 (Tryz.t75.desc) := ⟨Tryz.underlying75⟩
instance : Und Tryz.prog 76 (Tryz.t76.desc) := ⟨Tryz.underlying76⟩
instance : Und Tryz.prog 77 (Tryz.t77.desc) := ⟨Tryz.underlying77⟩
instance : Und Tryz.prog 78 (Tryz.t77.desc) := ⟨Tryz.underlying78⟩
instance : Und Tryz.prog 79 (Tryz.t79.desc) := ⟨Tryz.underlying79⟩
instance : Und Tryz.prog 80 (Tryz.t80.desc) := ⟨Tryz.underlying80⟩
instance : Und Tryz.prog 81 (Tryz.t81.desc) := ⟨Tryz.underlying81⟩
instance : Und Tryz.prog 82 (Tryz.t82.desc) := ⟨Tryz.underlying82⟩
instance : Und Tryz.prog 83 (Tryz.t83.desc) := ⟨Tryz.underlying83⟩
instance : Und Tryz.prog 84 (Go.TypeDesc.slice 5) := ⟨Tryz.underlying84⟩
instance : Und Tryz.prog 85 (Tryz.t85.desc) := ⟨Tryz.underlying85⟩
instance : Und Tryz.prog 86 (Tryz.t86.desc) := ⟨Tryz.underlying86⟩
instance : Und Tryz.prog 87 (Tryz.t87.desc) := ⟨Tryz.underlying87⟩
instance : Und Tryz.prog 88 (Tryz.t88.desc) := ⟨Tryz.underlying88⟩
instance : Und Tryz.prog 89 (Tryz.t89.desc) := ⟨Tryz.underlying89⟩
instance : Und Tryz.prog 90 (Tryz.t90.desc) := ⟨Tryz.underlying90⟩
instance : Und Tryz.prog 91 (Tryz.t91.desc) := ⟨Tryz.underlying91⟩
instance : Und Tryz.prog 92 (Go.TypeDesc.int Go.IntKind.i16) := ⟨Tryz.underlying92⟩
instance : Und Tryz.prog 93 (Tryz.t93.desc) := ⟨Tryz.underlying93⟩
instance : Und Tryz.prog 94 (Go.TypeDesc.array 2 3) := ⟨Tryz.underlying94⟩
instance : Und Tryz.prog 95 (Tryz.t95.desc) := ⟨Tryz.underlying95⟩
instance : Und Tryz.prog 96 (Go.TypeDesc.pointer 100) := ⟨Tryz.underlying96⟩
instance : Und Tryz.prog 97 (Go.TypeDesc.slice 58) := ⟨Tryz.underlying97⟩
instance : Und Tryz.prog 98 (Go.TypeDesc.slice 106) := ⟨Tryz.underlying98⟩
instance : Und Tryz.prog 99 (Tryz.t99.desc) := ⟨Tryz.underlying99⟩
instance : YesAgg (Tryz.t99.desc) := ⟨by kernel_rfl⟩
instance : Und Tryz.prog 100 (Tryz.t99.desc) := ⟨Tryz.underlying100⟩
instance : Und Tryz.prog 101 (Tryz.t101.desc) := ⟨Tryz.underlying101⟩
instance : Und Tryz.prog 102 (Tryz.t102.desc) := ⟨Tryz.underlying102⟩
instance : Und Tryz.prog 103 (Tryz.t103.desc) := ⟨Tryz.underlying103⟩
instance : Und Tryz.prog 104 (Tryz.t103.desc) := ⟨Tryz.underlying104⟩
instance : Und Tryz.prog 105 (Tryz.t105.desc) := ⟨Tryz.underlying105⟩
instance : Und Tryz.prog 106 (Go.TypeDesc.slice 3) := ⟨Tryz.underlying106⟩
instance : Und Tryz.prog 107 (Tryz.t107.desc) := ⟨Tryz.underlying107⟩
instance : Und Tryz.prog 108 (Tryz.t108.desc) := ⟨Tryz.underlying108⟩
instance : Und Tryz.prog 109 (Tryz.t109.desc) := ⟨Tryz.underlying109⟩
instance : Und Tryz.prog 110 (Go.TypeDesc.int Go.IntKind.u64) := ⟨Tryz.underlying110⟩
instance : Und Tryz.prog 111 (Tryz.t111.desc) := ⟨Tryz.underlying111⟩
instance : YesAgg (Tryz.t111.desc) := ⟨by kernel_rfl⟩
instance : Und Tryz.prog 112 (Tryz.t111.desc) := ⟨Tryz.underlying112⟩
instance : Und Tryz.prog 113 (Tryz.t113.desc) := ⟨Tryz.underlying113⟩
instance : Und Tryz.prog 114 (Tryz.t114.desc) := ⟨Tryz.underlying114⟩
instance : Und Tryz.prog 115 (Tryz.t115.desc) := ⟨Tryz.underlying115⟩
instance : Und Tryz.prog 116 (Tryz.t116.desc) := ⟨Tryz.underlying116⟩
instance : Und Tryz.prog 117 (Go.TypeDesc.array 129 3) := ⟨Tryz.underlying117⟩
instance : Und Tryz.prog 118 (Tryz.t118.desc) := ⟨Tryz.underlying118⟩
instance : YesAgg (Tryz.t118.desc) := ⟨by kernel_rfl⟩
instance : Und Tryz.prog 119 (Tryz.t118.desc) := ⟨Tryz.underlying119⟩
instance : Und Tryz.prog 120 (Tryz.t120.desc) := ⟨Tryz.underlying120⟩
instance : Und Tryz.prog 121 (Tryz.t121.desc) := ⟨Tryz.underlying121⟩
instance : Und Tryz.prog 122 (Tryz.t122.desc) := ⟨Tryz.underlying122⟩
instance : Und Tryz.prog 123 (Tryz.t123.desc) := ⟨Tryz.underlying123⟩
instance : Und Tryz.prog 124 (Tryz.t124.desc) := ⟨Tryz.underlying124⟩
instance : Und Tryz.prog 125 (Tryz.t125.desc) := ⟨Tryz.underlying125⟩
instance : Und Tryz.prog 126 (Tryz.t126.desc) := ⟨Tryz.underlying126⟩
instance : Und Tryz.prog 127 (Tryz.t127.desc) := ⟨Tryz.underlying127⟩
instance : Und Tryz.prog 128 (Tryz.t128.desc) := ⟨Tryz.underlying128⟩
instance : Und Tryz.prog 129 (Go.TypeDesc.array 4 2) := ⟨Tryz.underlying129⟩
instance : Und Tryz.prog 130 (Tryz.t130.desc) := ⟨Tryz.underlying130⟩
instance : Und Tryz.prog 131 (Tryz.t131.desc) := ⟨Tryz.underlying131⟩
instance : Und Tryz.prog 132 (Tryz.t132.desc) := ⟨Tryz.underlying132⟩
instance : Und Tryz.prog 133 (Tryz.t133.desc) := ⟨Tryz.underlying133⟩
instance : Und Tryz.prog 134 (Tryz.t134.desc) := ⟨Tryz.underlying134⟩
instance : Und Tryz.prog 135 (Tryz.t135.desc) := ⟨Tryz.underlying135⟩
instance : Und Tryz.prog 136 (Tryz.t136.desc) := ⟨Tryz.underlying136⟩
instance : Und Tryz.prog 137 (Tryz.t137.desc) := ⟨Tryz.underlying137⟩
instance : Und Tryz.prog 138 (Tryz.t138.desc) := ⟨Tryz.underlying138⟩
instance : Und Tryz.prog 139 (Go.TypeDesc.slice 142) := ⟨Tryz.underlying139⟩
instance : Und Tryz.prog 140 (Tryz.t140.desc) := ⟨Tryz.underlying140⟩
instance : Und Tryz.prog 141 (Tryz.t141.desc) := ⟨Tryz.underlying141⟩
instance : YesAgg (Tryz.t141.desc) := ⟨by kernel_rfl⟩
instance : Und Tryz.prog 142 (Tryz.t141.desc) := ⟨Tryz.underlying142⟩
instance : Und Tryz.prog 143 (Tryz.t143.desc) := ⟨Tryz.underlying143⟩
instance : Und Tryz.prog 144 (Tryz.t144.desc) := ⟨Tryz.underlying144⟩
instance : Und Tryz.prog 145 (Tryz.t145.desc) := ⟨Tryz.underlying145⟩
instance : Und Tryz.prog 146 (Tryz.t146.desc) := ⟨Tryz.underlying146⟩
instance : Und Tryz.prog 147 (Tryz.t147.desc) := ⟨Tryz.underlying147⟩
instance : Und Tryz.prog 148 (Tryz.t148.desc) := ⟨Tryz.underlying148⟩
instance : Und Tryz.prog 149 (Tryz.t149.desc) := ⟨Tryz.underlying149⟩
instance : Und Tryz.prog 150 (Tryz.t150.desc) := ⟨Tryz.underlying150⟩
instance : Und Tryz.prog 151 (Tryz.t151.desc) := ⟨Tryz.underlying151⟩
instance : YesAgg (Tryz.t151.desc) := ⟨by kernel_rfl⟩
instance : Und Tryz.prog 152 (Tryz.t151.desc) := ⟨Tryz.underlying152⟩
instance : Und Tryz.prog 153 (Go.TypeDesc.array 256 92) := ⟨Tryz.underlying153⟩
instance : Und Tryz.prog 154 (Tryz.t154.desc) := ⟨Tryz.underlying154⟩
instance : YesAgg (Tryz.t154.desc) := ⟨by kernel_rfl⟩
instance : Und Tryz.prog 155 (Tryz.t154.desc) := ⟨Tryz.underlying155⟩
instance : Und Tryz.prog 156 (Go.TypeDesc.array 32 155) := ⟨Tryz.underlying156⟩
instance : Und Tryz.prog 157 (Tryz.t157.desc) := ⟨Tryz.underlying157⟩
instance : YesAgg (Tryz.t157.desc) := ⟨by kernel_rfl⟩
instance : Und Tryz.prog 158 (Tryz.t157.desc) := ⟨Tryz.underlying158⟩
instance : Und Tryz.prog 159 (Tryz.t159.desc) := ⟨Tryz.underlying159⟩
instance : Und Tryz.prog 160 (Tryz.t160.desc) := ⟨Tryz.underlying160⟩
instance : Und Tryz.prog 161 (Tryz.t161.desc) := ⟨Tryz.underlying161⟩
instance : Und Tryz.prog 162 (Tryz.t162.desc) := ⟨Tryz.underlying162⟩
instance : Und Tryz.prog 163 (Tryz.t163.desc) := ⟨Tryz.underlying163⟩
instance : Und Tryz.prog 164 (Tryz.t164.desc) := ⟨Tryz.underlying164⟩
instance : Und Tryz.prog 165 (Tryz.t165.desc) := ⟨Tryz.underlying165⟩
instance : Und Tryz.prog 166 (Tryz.t166.desc) := ⟨Tryz.underlying166⟩
instance : Und Tryz.prog 167 (Tryz.t167.desc) := ⟨Tryz.underlying167⟩
instance : Und Tryz.prog 168 (Tryz.t168.desc) := ⟨Tryz.underlying168⟩
instance : Und Tryz.prog 169 (Tryz.t169.desc) := ⟨Tryz.underlying169⟩
instance : Und Tryz.prog 170 (Go.TypeDesc.int Go.IntKind.u64) := ⟨Tryz.underlying170⟩
instance : Und Tryz.prog 171 (Tryz.t171.desc) := ⟨Tryz.underlying171⟩
instance : Und Tryz.prog 172 (Tryz.t172.desc) := ⟨Tryz.underlying172⟩
instance : Und Tryz.prog 173 (Tryz.t173.desc) := ⟨Tryz.underlying173⟩
instance : Und Tryz.prog 174 (Tryz.t174.desc) := ⟨Tryz.underlying174⟩
instance : Und Tryz.prog 175 (Tryz.t175.desc) := ⟨Tryz.underlying175⟩
instance : Und Tryz.prog 176 (Tryz.t176.desc) := ⟨Tryz.underlying176⟩
instance : Und Tryz.prog 177 (Tryz.t177.desc) := ⟨Tryz.underlying177⟩
instance : Und Tryz.prog 178 (Tryz.t178.desc) := ⟨Tryz.underlying178⟩
instance : Und Tryz.prog 179 (Tryz.t179.desc) := ⟨Tryz.underlying179⟩
instance : Und Tryz.prog 180 (Tryz.t180.desc) := ⟨Tryz.underlying180⟩
instance : Und Tryz.prog 181 (Tryz.t181.desc) := ⟨Tryz.underlying181⟩
instance : Und Tryz.prog 182 (Tryz.t182.desc) := ⟨Tryz.underlying182⟩
instance : Und Tryz.prog 183 (Tryz.t183.desc) := ⟨Tryz.underlying183⟩
instance : Und Tryz.prog 184 (Tryz.t184.desc) := ⟨Tryz.underlying184⟩
instance : Und Tryz.prog 185 (Tryz.t185.desc) := ⟨Tryz.underlying185⟩
instance : Und Tryz.prog 186 (Tryz.t186.desc) := ⟨Tryz.underlying186⟩
instance : Und Tryz.prog 187 (Tryz.t187.desc) := ⟨Tryz.underlying187⟩
instance : Und Tryz.prog 188 (Tryz.t188.desc) := ⟨Tryz.underlying188⟩
instance : Und Tryz.prog 189 (Tryz.t189.desc) := ⟨Tryz.underlying189⟩
instance : Und Tryz.prog 190 (Tryz.t190.desc) := ⟨Tryz.underlying190⟩
instance : Und Tryz.prog 191 (Tryz.t191.desc) := ⟨Tryz.underlying191⟩
instance : Und Tryz.prog 192 (Tryz.t192.desc) := ⟨Tryz.underlying192⟩
instance : Und Tryz.prog 193 (Tryz.t193.desc) := ⟨Tryz.underlying193⟩
instance : Und Tryz.prog 194 (Tryz.t194.desc) := ⟨Tryz.underlying194⟩
instance : Und Tryz.prog 195 (Tryz.t195.desc) := ⟨Tryz.underlying195⟩
instance : Und Tryz.prog 196 (Go.TypeDesc.int Go.IntKind.u32) := ⟨Tryz.underlying196⟩
instance : Und Tryz.prog 197 (Tryz.t197.desc) := ⟨Tryz.underlying197⟩
instance : Und Tryz.prog 198 (Tryz.t198.desc) := ⟨Tryz.underlying198⟩
instance : YesAgg (Tryz.t198.desc) := ⟨by kernel_rfl⟩
instance : Und Tryz.prog 199 (Tryz.t198.desc) := ⟨Tryz.underlying199⟩
instance : Und Tryz.prog 200 (Go.TypeDesc.slice 21) := ⟨Tryz.underlying200⟩
instance : Und Tryz.prog 201 (Tryz.t201.desc) := ⟨Tryz.underlying201⟩
instance : Und Tryz.prog 202 (Tryz.t202.desc) := ⟨Tryz.underlying202⟩
instance : Und Tryz.prog 203 (Go.TypeDesc.pointer 199) := ⟨Tryz.underlying203⟩
instance : Und Tryz.prog 204 (Tryz.t204.desc) := ⟨Tryz.underlying204⟩
instance : Und Tryz.prog 205 (Tryz.t205.desc) := ⟨Tryz.underlying205⟩
instance : Und Tryz.prog 206 (Tryz.t206.desc) := ⟨Tryz.underlying206⟩
instance : Und Tryz.prog 207 (Tryz.t207.desc) := ⟨Tryz.underlying207⟩
instance : Und Tryz.prog 208 (Tryz.t208.desc) := ⟨Tryz.underlying208⟩
instance : Und Tryz.prog 209 (Tryz.t209.desc) := ⟨Tryz.underlying209⟩
instance : Und Tryz.prog 210 (Tryz.t210.desc) := ⟨Tryz.underlying210⟩
instance : Und Tryz.prog 211 (Tryz.t211.desc) := ⟨Tryz.underlying211⟩
instance : Und Tryz.prog 212 (Tryz.t212.desc) := ⟨Tryz.underlying212⟩
instance : Und Tryz.prog 213 (Tryz.t213.desc) := ⟨Tryz.underlying213⟩
instance : Und Tryz.prog 214 (Tryz.t214.desc) := ⟨Tryz.underlying214⟩
instance : Und Tryz.prog 215 (Tryz.t215.desc) := ⟨Tryz.underlying215⟩
instance : Und Tryz.prog 216 (Tryz.t216.desc) := ⟨Tryz.underlying216⟩
instance : Und Tryz.prog 217 (Tryz.t217.desc) := ⟨Tryz.underlying217⟩
instance : Und Tryz.prog 218 (Go.TypeDesc.pointer 155) := ⟨Tryz.underlying218⟩
instance : Und Tryz.prog 219 (Tryz.t219.desc) := ⟨Tryz.underlying219⟩
instance : Und Tryz.prog 220 (Tryz.t220.desc) := ⟨Tryz.underlying220⟩
instance : Und Tryz.prog 221 (Tryz.t221.desc) := ⟨Tryz.underlying221⟩
instance : Und Tryz.prog 222 (Tryz.t222.desc) := ⟨Tryz.underlying222⟩
instance : Und Tryz.prog 223 (Tryz.t223.desc) := ⟨Tryz.underlying223⟩
instance : Und Tryz.prog 224 (Tryz.t223.desc) := ⟨Tryz.underlying224⟩
instance : Und Tryz.prog 225 (Tryz.t225.desc) := ⟨Tryz.underlying225⟩
instance : Und Tryz.prog 226 (Tryz.t226.desc) := ⟨Tryz.underlying226⟩
instance : Und Tryz.prog 227 (Tryz.t227.desc) := ⟨Tryz.underlying227⟩
instance : Und Tryz.prog 228 (Tryz.t228.desc) := ⟨Tryz.underlying228⟩
instance : Und Tryz.prog 229 (Tryz.t229.desc) := ⟨Tryz.underlying229⟩
instance : Und Tryz.prog 230 (Tryz.t230.desc) := ⟨Tryz.underlying230⟩
instance : Und Tryz.prog 231 (Tryz.t231.desc) := ⟨Tryz.underlying231⟩
instance : Und Tryz.prog 232 (Tryz.t232.desc) := ⟨Tryz.underlying232⟩
instance : Und Tryz.prog 233 (Tryz.t232.desc) := ⟨Tryz.underlying233⟩
instance : Und Tryz.prog 234 (Tryz.t234.desc) := ⟨Tryz.underlying234⟩
instance : Und Tryz.prog 235 (Tryz.t235.desc) := ⟨Tryz.underlying235⟩
instance : Und Tryz.prog 236 (Tryz.t236.desc) := ⟨Tryz.underlying236⟩
instance : Und Tryz.prog 237 (Tryz.t237.desc) := ⟨Tryz.underlying237⟩
instance : Und Tryz.prog 238 (Tryz.t238.desc) := ⟨Tryz.underlying238⟩
instance : Und Tryz.prog 239 (Tryz.t239.desc) := ⟨Tryz.underlying239⟩
instance : Und Tryz.prog 240 (Tryz.t240.desc) := ⟨Tryz.underlying240⟩
instance : Und Tryz.prog 241 (Go.TypeDesc.pointer 248) := ⟨Tryz.underlying241⟩
instance : Und Tryz.prog 242 (Tryz.t242.desc) := ⟨Tryz.underlying242⟩
instance : Und Tryz.prog 243 (Tryz.t243.desc) := ⟨Tryz.underlying243⟩
instance : Und Tryz.prog 244 (Tryz.t244.desc) := ⟨Tryz.underlying244⟩
instance : Und Tryz.prog 245 (Tryz.t245.desc) := ⟨Tryz.underlying245⟩
instance : Und Tryz.prog 246 (Tryz.t246.desc) := ⟨Tryz.underlying246⟩
instance : Und Tryz.prog 247 (Tryz.t247.desc) := ⟨Tryz.underlying247⟩
instance : YesAgg (Tryz.t247.desc) := ⟨by kernel_rfl⟩
instance : Und Tryz.prog 248 (Tryz.t247.desc) := ⟨Tryz.underlying248⟩
instance : Und Tryz.prog 249 (Tryz.t249.desc) := ⟨Tryz.underlying249⟩
instance : Und Tryz.prog 250 (Tryz.t250.desc) := ⟨Tryz.underlying250⟩
instance : Und Tryz.prog 251 (Tryz.t251.desc) := ⟨Tryz.underlying251⟩
instance : Und Tryz.prog 252 (Tryz.t252.desc) := ⟨Tryz.underlying252⟩
instance : Und Tryz.prog 253 (Tryz.t253.desc) := ⟨Tryz.underlying253⟩
instance : Und Tryz.prog 261 (Tryz.t261.desc) := ⟨Tryz.underlying261⟩
instance : Und Tryz.prog 262 (Go.TypeDesc.pointer 5) := ⟨Tryz.underlying262⟩
instance : Und Tryz.prog 267 (Tryz.t267.desc) := ⟨Tryz.underlying267⟩
instance : Und Tryz.prog 268 (Tryz.t268.desc) := ⟨Tryz.underlying268⟩
instance : Pl Tryz.prog 13 [(0, 1), (1, 1)] := ⟨_, Tryz.underlying13, fun w => by kernel_rfl⟩
instance : Ff Tryz.prog 13 0 0 9 := ⟨_, _, Tryz.underlying13, rfl, rfl, rfl⟩
instance : Fa Tryz.prog 13 0 0 := ⟨_, _, Tryz.t9, Tryz.underlying13, rfl, by kernel_rfl, by decide, rfl⟩
instance : Ff Tryz.prog 13 1 1 12 := ⟨_, _, Tryz.underlying13, rfl, rfl, rfl⟩
instance : Fa Tryz.prog 13 1 1 := ⟨_, _, Tryz.t12, Tryz.underlying13, rfl, by kernel_rfl, by decide, rfl⟩
instance : Pl Tryz.prog 23 [(0, 1), (1, 1)] := ⟨_, Tryz.underlying23, fun w => by kernel_rfl⟩
instance : Ff Tryz.prog 23 0 0 2 := ⟨_, _, Tryz.underlying23, rfl, rfl, rfl⟩
instance : Fa Tryz.prog 23 0 0 := ⟨_, _, Tryz.t2, Tryz.underlying23, rfl, by kernel_rfl, by decide, rfl⟩
instance : Ff Tryz.prog 23 1 1 2 := ⟨_, _, Tryz.underlying23, rfl, rfl, rfl⟩
instance : Fa Tryz.prog 23 1 1 := ⟨_, _, Tryz.t2, Tryz.underlying23, rfl, by kernel_rfl, by decide, rfl⟩
instance : Pl Tryz.prog 24 [(0, 1), (1, 1)] := ⟨_, Tryz.underlying24, fun w => by kernel_rfl⟩
instance : Ff Tryz.prog 24 0 0 2 := ⟨_, _, Tryz.underlying24, rfl, rfl, rfl⟩
instance : Fa Tryz.prog 24 0 0 := ⟨_, _, Tryz.t2, Tryz.underlying24, rfl, by kernel_rfl, by decide, rfl⟩
instance : Ff Tryz.prog 24 1 1 2 := ⟨_, _, Tryz.underlying24, rfl, rfl, rfl⟩
instance : Fa Tryz.prog 24 1 1 := ⟨_, _, Tryz.t2, Tryz.underlying24, rfl, by kernel_rfl, by decide, rfl⟩
instance : Pl Tryz.prog 25 [(0, 2), (2, 1), (3, 1)] := ⟨_, Tryz.underlying25, fun w => by kernel_rfl⟩
instance : Ff Tryz.prog 25 0 0 24 := ⟨_, _, Tryz.underlying25, rfl, rfl, rfl⟩
instance : Fa Tryz.prog 25 0 0 := ⟨_, _, Tryz.t24, Tryz.underlying25, rfl, by kernel_rfl, by decide, rfl⟩
instance : Ff Tryz.prog 25 1 2 3 := ⟨_, _, Tryz.underlying25, rfl, rfl, rfl⟩
instance : Fa Tryz.prog 25 1 2 := ⟨_, _, Tryz.t3, Tryz.underlying25, rfl, by kernel_rfl, by decide, rfl⟩
instance : Ff Tryz.prog 25 2 3 2 := ⟨_, _, Tryz.underlying25, rfl, rfl, rfl⟩
instance : Fa Tryz.prog 25 2 3 := ⟨_, _, Tryz.t2, Tryz.underlying25, rfl, by kernel_rfl, by decide, rfl⟩
instance : Pl Tryz.prog 26 [(0, 2), (2, 1), (3, 1)] := ⟨_, Tryz.underlying26, fun w => by kernel_rfl⟩
instance : Ff Tryz.prog 26 0 0 24 := ⟨_, _, Tryz.underlying26, rfl, rfl, rfl⟩
instance : Fa Tryz.prog 26 0 0 := ⟨_, _, Tryz.t24, Tryz.underlying26, rfl, by kernel_rfl, by decide, rfl⟩
instance : Ff Tryz.prog 26 1 2 3 := ⟨_, _, Tryz.underlying26, rfl, rfl, rfl⟩
instance : Fa Tryz.prog 26 1 2 := ⟨_, _, Tryz.t3, Tryz.underlying26, rfl, by kernel_rfl, by decide, rfl⟩
instance : Ff Tryz.prog 26 2 3 2 := ⟨_, _, Tryz.underlying26, rfl, rfl, rfl⟩
instance : Fa Tryz.prog 26 2 3 := ⟨_, _, Tryz.t2, Tryz.underlying26, rfl, by kernel_rfl, by decide, rfl⟩
instance : Pl Tryz.prog 30 [(0, 1), (1, 1), (2, 1)] := ⟨_, Tryz.underlying30, fun w => by kernel_rfl⟩
instance : Ff Tryz.prog 30 0 0 3 := ⟨_, _, Tryz.underlying30, rfl, rfl, rfl⟩
instance : Fa Tryz.prog 30 0 0 := ⟨_, _, Tryz.t3, Tryz.underlying30, rfl, by kernel_rfl, by decide, rfl⟩
instance : Ff Tryz.prog 30 1 1 3 := ⟨_, _, Tryz.underlying30, rfl, rfl, rfl⟩
instance : Fa Tryz.prog 30 1 1 := ⟨_, _, Tryz.t3, Tryz.underlying30, rfl, by kernel_rfl, by decide, rfl⟩
instance : Ff Tryz.prog 30 2 2 22 := ⟨_, _, Tryz.underlying30, rfl, rfl, rfl⟩
instance : Fa Tryz.prog 30 2 2 := ⟨_, _, Tryz.t22, Tryz.underlying30, rfl, by kernel_rfl, by decide, rfl⟩
instance : Pl Tryz.prog 31 [(0, 1), (1, 1), (2, 1)] := ⟨_, Tryz.underlying31, fun w => by kernel_rfl⟩
instance : Ff Tryz.prog 31 0 0 3 := ⟨_, _, Tryz.underlying31, rfl, rfl, rfl⟩
instance : Fa Tryz.prog 31 0 0 := ⟨_, _, Tryz.t3, Tryz.underlying31, rfl, by kernel_rfl, by decide, rfl⟩
instance : Ff Tryz.prog 31 1 1 3 := ⟨_, _, Tryz.underlying31, rfl, rfl, rfl⟩
instance : Fa Tryz.prog 31 1 1 := ⟨_, _, Tryz.t3, Tryz.underlying31, rfl, by kernel_rfl, by decide, rfl⟩
instance : Ff Tryz.prog 31 2 2 22 := ⟨_, _, Tryz.underlying31, rfl, rfl, rfl⟩
instance : Fa Tryz.prog 31 2 2 := ⟨_, _, Tryz.t22, Tryz.underlying31, rfl, by kernel_rfl, by decide, rfl⟩
instance : Pl Tryz.prog 32 [(0, 3), (3, 1), (4, 1), (5, 1)] := ⟨_, Tryz.underlying32, fun w => by kernel_rfl⟩
instance : Ff Tryz.prog 32 0 0 31 := ⟨_, _, Tryz.underlying32, rfl, rfl, rfl⟩
instance : Fa Tryz.prog 32 0 0 := ⟨_, _, Tryz.t31, Tryz.underlying32, rfl, by kernel_rfl, by decide, rfl⟩
instance : Ff Tryz.prog 32 1 3 3 := ⟨_, _, Tryz.underlying32, rfl, rfl, rfl⟩
instance : Fa Tryz.prog 32 1 3 := ⟨_, _, Tryz.t3, Tryz.underlying32, rfl, by kernel_rfl, by decide, rfl⟩
instance : Ff Tryz.prog 32 2 4 21 := ⟨_, _, Tryz.underlying32, rfl, rfl, rfl⟩
instance : Fa Tryz.prog 32 2 4 := ⟨_, _, Tryz.t21, Tryz.underlying32, rfl, by kernel_rfl, by decide, rfl⟩
instance : Ff Tryz.prog 32 3 5 21 := ⟨_, _, Tryz.underlying32, rfl, rfl, rfl⟩
instance : Fa Tryz.prog 32 3 5 := ⟨_, _, Tryz.t21, Tryz.underlying32, rfl, by kernel_rfl, by decide, rfl⟩
instance : Pl Tryz.prog 33 [(0, 3), (3, 1), (4, 1), (5, 1)] := ⟨_, Tryz.underlying33, fun w => by kernel_rfl⟩
instance : Ff Tryz.prog 33 0 0 31 := ⟨_, _, Tryz.underlying33, rfl, rfl, rfl⟩
instance : Fa Tryz.prog 33 0 0 := ⟨_, _, Tryz.t31, Tryz.underlying33, rfl, by kernel_rfl, by decide, rfl⟩
instance : Ff Tryz.prog 33 1 3 3 := ⟨_, _, Tryz.underlying33, rfl, rfl, rfl⟩
instance : Fa Tryz.prog 33 1 3 := ⟨_, _, Tryz.t3, Tryz.underlying33, rfl, by kernel_rfl, by decide, rfl⟩
instance : Ff Tryz.prog 33 2 4 21 := ⟨_, _, Tryz.underlying33, rfl, rfl, rfl⟩
instance : Fa Tryz.prog 33 2 4 := ⟨_, _, Tryz.t21, Tryz.underlying33, rfl, by kernel_rfl, by decide, rfl⟩
instance : Ff Tryz.prog 33 3 5 21 := ⟨_, _, Tryz.underlying33, rfl, rfl, rfl⟩
instance : Fa Tryz.prog 33 3 5 := ⟨_, _, Tryz.t21, Tryz.underlying33, rfl, by kernel_rfl, by decide, rfl⟩
instance : Pl Tryz.prog 42 [(0, 1), (1, 1), (2, 1)] := ⟨_, Tryz.underlying42, fun w => by kernel_rfl⟩
instance : Ff Tryz.prog 42 0 0 3 := ⟨_, _, Tryz.underlying42, rfl, rfl, rfl⟩
instance : Fa Tryz.prog 42 0 0 := ⟨_, _, Tryz.t3, Tryz.underlying42, rfl, by kernel_rfl, by decide, rfl⟩
instance : Ff Tryz.prog 42 1 1 3 := ⟨_, _, Tryz.underlying42, rfl, rfl, rfl⟩
instance : Fa Tryz.prog 42 1 1 := ⟨_, _, Tryz.t3, Tryz.underlying42, rfl, by kernel_rfl, by decide, rfl⟩
instance : Ff Tryz.prog 42 2 2 2 := ⟨_, _, Tryz.underlying42, rfl, rfl, rfl⟩
instance : Fa Tryz.prog 42 2 2 := ⟨_, _, Tryz.t2, Tryz.underlying42, rfl, by kernel_rfl, by decide, rfl⟩
instance : Pl Tryz.prog 43 [(0, 1), (1, 1), (2, 1)] := ⟨_, Tryz.underlying43, fun w => by kernel_rfl⟩
instance : Ff Tryz.prog 43 0 0 3 := ⟨_, _, Tryz.underlying43, rfl, rfl, rfl⟩
instance : Fa Tryz.prog 43 0 0 := ⟨_, _, Tryz.t3, Tryz.underlying43, rfl, by kernel_rfl, by decide, rfl⟩
instance : Ff Tryz.prog 43 1 1 3 := ⟨_, _, Tryz.underlying43, rfl, rfl, rfl⟩
instance : Fa Tryz.prog 43 1 1 := ⟨_, _, Tryz.t3, Tryz.underlying43, rfl, by kernel_rfl, by decide, rfl⟩
instance : Ff Tryz.prog 43 2 2 2 := ⟨_, _, Tryz.underlying43, rfl, rfl, rfl⟩
instance : Fa Tryz.prog 43 2 2 := ⟨_, _, Tryz.t2, Tryz.underlying43, rfl, by kernel_rfl, by decide, rfl⟩
instance : Pl Tryz.prog 46 [(0, 1), (1, 1), (2, 1)] := ⟨_, Tryz.underlying46, fun w => by kernel_rfl⟩
instance : Ff Tryz.prog 46 0 0 3 := ⟨_, _, Tryz.underlying46, rfl, rfl, rfl⟩
instance : Fa Tryz.prog 46 0 0 := ⟨_, _, Tryz.t3, Tryz.underlying46, rfl, by kernel_rfl, by decide, rfl⟩
instance : Ff Tryz.prog 46 1 1 3 := ⟨_, _, Tryz.underlying46, rfl, rfl, rfl⟩
instance : Fa Tryz.prog 46 1 1 := ⟨_, _, Tryz.t3, Tryz.underlying46, rfl, by kernel_rfl, by decide, rfl⟩
instance : Ff Tryz.prog 46 2 2 2 := ⟨_, _, Tryz.underlying46, rfl, rfl, rfl⟩
instance : Fa Tryz.prog 46 2 2 := ⟨_, _, Tryz.t2, Tryz.underlying46, rfl, by kernel_rfl, by decide, rfl⟩
instance : Pl Tryz.prog 59 [(0, 1), (1, 1), (2, 1), (3, 1), (4, 1), (5, 1)] := ⟨_, Tryz.underlying59, fun w => by kernel_rfl⟩
instance : Ff Tryz.prog 59 0 0 3 := ⟨_, _, Tryz.underlying59, rfl, rfl, rfl⟩
instance : Fa Tryz.prog 59 0 0 := ⟨_, _, Tryz.t3, Tryz.underlying59, rfl, by kernel_rfl, by decide, rfl⟩
instance : Ff Tryz.prog 59 1 1 3 := ⟨_, _, Tryz.underlying59, rfl, rfl, rfl⟩
instance : Fa Tryz.prog 59 1 1 := ⟨_, _, Tryz.t3, Tryz.underlying59, rfl, by kernel_rfl, by decide, rfl⟩
instance : Ff Tryz.prog 59 2 2 2 := ⟨_, _, Tryz.underlying59, rfl, rfl, rfl⟩
instance : Fa Tryz.prog 59 2 2 := ⟨_, _, Tryz.t2, Tryz.underlying59, rfl, by kernel_rfl, by decide, rfl⟩
instance : Ff Tryz.prog 59 3 3 2 := ⟨_, _, Tryz.underlying59, rfl, rfl, rfl⟩
instance : Fa Tryz.prog 59 3 3 := ⟨_, _, Tryz.t2, Tryz.underlying59, rfl, by kernel_rfl, by decide, rfl⟩
instance : Ff Tryz.prog 59 4 4 2 := ⟨_, _, Tryz.underlying59, rfl, rfl, rfl⟩
instance : Fa Tryz.prog 59 4 4 := ⟨_, _, Tryz.t2, Tryz.underlying59, rfl, by kernel_rfl, by decide, rfl⟩
instance : Ff Tryz.prog 59 5 5 58 := ⟨_, _, Tryz.underlying59, rfl, rfl, rfl⟩
instance : Fa Tryz.prog 59 5 5 := ⟨_, _, Tryz.t58, Tryz.underlying59, rfl, by kernel_rfl, by decide, rfl⟩
instance : Pl Tryz.prog 60 [(0, 1), (1, 1), (2, 1), (3, 1), (4, 1), (5, 1)] := ⟨_, Tryz.underlying60, fun w => by kernel_rfl⟩
instance : Ff Tryz.prog 60 0 0 3 := ⟨_, _, Tryz.underlying60, rfl, rfl, rfl⟩
instance : Fa Tryz.prog 60 0 0 := ⟨_, _, Tryz.t3, Tryz.underlying60, rfl, by kernel_rfl, by decide, rfl⟩
instance : Ff Tryz.prog 60 1 1 3 := ⟨_, _, Tryz.underlying60, rfl, rfl, rfl⟩
instance : Fa Tryz.prog 60 1 1 := ⟨_, _, Tryz.t3, Tryz.underlying60, rfl, by kernel_rfl, by decide, rfl⟩
instance : Ff Tryz.prog 60 2 2 2 := ⟨_, _, Tryz.underlying60, rfl, rfl, rfl⟩
instance : Fa Tryz.prog 60 2 2 := ⟨_, _, Tryz.t2, Tryz.underlying60, rfl, by kernel_rfl, by decide, rfl⟩
instance : Ff Tryz.prog 60 3 3 2 := ⟨_, _, Tryz.underlying60, rfl, rfl, rfl⟩
instance : Fa Tryz.prog 60 3 3 := ⟨_, _, Tryz.t2, Tryz.underlying60, rfl, by kernel_rfl, by decide, rfl⟩
instance : Ff Tryz.prog 60 4 4 2 := ⟨_, _, Tryz.underlying60, rfl, rfl, rfl⟩
instance : Fa Tryz.prog 60 4 4 := ⟨_, _, Tryz.t2, Tryz.underlying60, rfl, by kernel_rfl, by decide, rfl⟩
instance : Ff Tryz.prog 60 5 5 58 := ⟨_, _, Tryz.underlying60, rfl, rfl, rfl⟩
instance : Fa Tryz.prog 60 5 5 := ⟨_, _, Tryz.t58, Tryz.underlying60, rfl, by kernel_rfl, by decide, rfl⟩
instance : Pl Tryz.prog 72 [(0, 1), (1, 1), (2, 1)] := ⟨_, Tryz.underlying72, fun w => by kernel_rfl⟩
instance : Ff Tryz.prog 72 0 0 2 := ⟨_, _, Tryz.underlying72, rfl, rfl, rfl⟩
instance : Fa Tryz.prog 72 0 0 := ⟨_, _, Tryz.t2, Tryz.underlying72, rfl, by kernel_rfl, by decide, rfl⟩
instance : Ff Tryz.prog 72 1 1 2 := ⟨_, _, Tryz.underlying72, rfl, rfl, rfl⟩
instance : Fa Tryz.prog 72 1 1 := ⟨_, _, Tryz.t2, Tryz.underlying72, rfl, by kernel_rfl, by decide, rfl⟩
instance : Ff Tryz.prog 72 2 2 2 := ⟨_, _, Tryz.underlying72, rfl, rfl, rfl⟩
instance : Fa Tryz.prog 72 2 2 := ⟨_, _, Tryz.t2, Tryz.underlying72, rfl, by kernel_rfl, by decide, rfl⟩
instance : Pl Tryz.prog 73 [(0, 1), (1, 1), (2, 1)] := ⟨_, Tryz.underlying73, fun w => by kernel_rfl⟩
instance : Ff Tryz.prog 73 0 0 2 := ⟨_, _, Tryz.underlying73, rfl, rfl, rfl⟩
instance : Fa Tryz.prog 73 0 0 := ⟨_, _, Tryz.t2, Tryz.underlying73, rfl, by kernel_rfl, by decide, rfl⟩
instance : Ff Tryz.prog 73 1 1 2 := ⟨_, _, Tryz.underlying73, rfl, rfl, rfl⟩
instance : Fa Tryz.prog 73 1 1 := ⟨_, _, Tryz.t2, Tryz.underlying73, rfl, by kernel_rfl, by decide, rfl⟩
instance : Ff Tryz.prog 73 2 2 2 := ⟨_, _, Tryz.underlying73, rfl, rfl, rfl⟩
instance : Fa Tryz.prog 73 2 2 := ⟨_, _, Tryz.t2, Tryz.underlying73, rfl, by kernel_rfl, by decide, rfl⟩
instance : Pl Tryz.prog 99 [(0, 4), (4, 1), (5, 1), (6, 1)] := ⟨_, Tryz.underlying99, fun w => by kernel_rfl⟩
instance : Ff Tryz.prog 99 0 0 26 := ⟨_, _, Tryz.underlying99, rfl, rfl, rfl⟩
instance : Fa Tryz.prog 99 0 0 := ⟨_, _, Tryz.t26, Tryz.underlying99, rfl, by kernel_rfl, by decide, rfl⟩
instance : Ff Tryz.prog 99 1 4 2 := ⟨_, _, Tryz.underlying99, rfl, rfl, rfl⟩
instance : Fa Tryz.prog 99 1 4 := ⟨_, _, Tryz.t2, Tryz.underlying99, rfl, by kernel_rfl, by decide, rfl⟩
instance : Ff Tryz.prog 99 2 5 97 := ⟨_, _, Tryz.underlying99, rfl, rfl, rfl⟩
instance : Fa Tryz.prog 99 2 5 := ⟨_, _, Tryz.t97, Tryz.underlying99, rfl, by kernel_rfl, by decide, rfl⟩
instance : Ff Tryz.prog 99 3 6 98 := ⟨_, _, Tryz.underlying99, rfl, rfl, rfl⟩
instance : Fa Tryz.prog 99 3 6 := ⟨_, _, Tryz.t98, Tryz.underlying99, rfl, by kernel_rfl, by decide, rfl⟩
instance : Pl Tryz.prog 100 [(0, 4), (4, 1), (5, 1), (6, 1)] := ⟨_, Tryz.underlying100, fun w => by kernel_rfl⟩
instance : Ff Tryz.prog 100 0 0 26 := ⟨_, _, Tryz.underlying100, rfl, rfl, rfl⟩
instance : Fa Tryz.prog 100 0 0 := ⟨_, _, Tryz.t26, Tryz.underlying100, rfl, by kernel_rfl, by decide, rfl⟩
instance : Ff Tryz.prog 100 1 4 2 := ⟨_, _, Tryz.underlying100, rfl, rfl, rfl⟩
instance : Fa Tryz.prog 100 1 4 := ⟨_, _, Tryz.t2, Tryz.underlying100, rfl, by kernel_rfl, by decide, rfl⟩
instance : Ff Tryz.prog 100 2 5 97 := ⟨_, _, Tryz.underlying100, rfl, rfl, rfl⟩
instance : Fa Tryz.prog 100 2 5 := ⟨_, _, Tryz.t97, Tryz.underlying100, rfl, by kernel_rfl, by decide, rfl⟩
instance : Ff Tryz.prog 100 3 6 98 := ⟨_, _, Tryz.underlying100, rfl, rfl, rfl⟩
instance : Fa Tryz.prog 100 3 6 := ⟨_, _, Tryz.t98, Tryz.underlying100, rfl, by kernel_rfl, by decide, rfl⟩
instance : Pl Tryz.prog 111 [(0, 1), (1, 1)] := ⟨_, Tryz.underlying111, fun w => by kernel_rfl⟩
instance : Ff Tryz.prog 111 0 0 2 := ⟨_, _, Tryz.underlying111, rfl, rfl, rfl⟩
instance : Fa Tryz.prog 111 0 0 := ⟨_, _, Tryz.t2, Tryz.underlying111, rfl, by kernel_rfl, by decide, rfl⟩
instance : Ff Tryz.prog 111 1 1 110 := ⟨_, _, Tryz.underlying111, rfl, rfl, rfl⟩
instance : Fa Tryz.prog 111 1 1 := ⟨_, _, Tryz.t110, Tryz.underlying111, rfl, by kernel_rfl, by decide, rfl⟩
instance : Pl Tryz.prog 112 [(0, 1), (1, 1)] := ⟨_, Tryz.underlying112, fun w => by kernel_rfl⟩
instance : Ff Tryz.prog 112 0 0 2 := ⟨_, _, Tryz.underlying112, rfl, rfl, rfl⟩
instance : Fa Tryz.prog 112 0 0 := ⟨_, _, Tryz.t2, Tryz.underlying112, rfl, by kernel_rfl, by decide, rfl⟩
instance : Ff Tryz.prog 112 1 1 110 := ⟨_, _, Tryz.underlying112, rfl, rfl, rfl⟩
instance : Fa Tryz.prog 112 1 1 := ⟨_, _, Tryz.t110, Tryz.underlying112, rfl, by kernel_rfl, by decide, rfl⟩
instance : Pl Tryz.prog 118 [(0, 1), (1, 129)] := ⟨_, Tryz.underlying118, fun w => by kernel_rfl⟩
instance : Ff Tryz.prog 118 0 0 4 := ⟨_, _, Tryz.underlying118, rfl, rfl, rfl⟩
instance : Fa Tryz.prog 118 0 0 := ⟨_, _, Tryz.t4, Tryz.underlying118, rfl, by kernel_rfl, by decide, rfl⟩
instance : Ff Tryz.prog 118 1 1 117 := ⟨_, _, Tryz.underlying118, rfl, rfl, rfl⟩
instance : Fa Tryz.prog 118 1 1 := ⟨_, _, Tryz.t117, Tryz.underlying118, rfl, by kernel_rfl, by decide, rfl⟩
instance : Pl Tryz.prog 119 [(0, 1), (1, 129)] := ⟨_, Tryz.underlying119, fun w => by kernel_rfl⟩
instance : Ff Tryz.prog 119 0 0 4 := ⟨_, _, Tryz.underlying119, rfl, rfl, rfl⟩
instance : Fa Tryz.prog 119 0 0 := ⟨_, _, Tryz.t4, Tryz.underlying119, rfl, by kernel_rfl, by decide, rfl⟩
instance : Ff Tryz.prog 119 1 1 117 := ⟨_, _, Tryz.underlying119, rfl, rfl, rfl⟩
instance : Fa Tryz.prog 119 1 1 := ⟨_, _, Tryz.t117, Tryz.underlying119, rfl, by kernel_rfl, by decide, rfl⟩
instance : Pl Tryz.prog 141 [(0, 1), (1, 1)] := ⟨_, Tryz.underlying141, fun w => by kernel_rfl⟩
instance : Ff Tryz.prog 141 0 0 3 := ⟨_, _, Tryz.underlying141, rfl, rfl, rfl⟩
instance : Fa Tryz.prog 141 0 0 := ⟨_, _, Tryz.t3, Tryz.underlying141, rfl, by kernel_rfl, by decide, rfl⟩
instance : Ff Tryz.prog 141 1 1 3 := ⟨_, _, Tryz.underlying141, rfl, rfl, rfl⟩
instance : Fa Tryz.prog 141 1 1 := ⟨_, _, Tryz.t3, Tryz.underlying141, rfl, by kernel_rfl, by decide, rfl⟩
instance : Pl Tryz.prog 142 [(0, 1), (1, 1)] := ⟨_, Tryz.underlying142, fun w => by kernel_rfl⟩
instance : Ff Tryz.prog 142 0 0 3 := ⟨_, _, Tryz.underlying142, rfl, rfl, rfl⟩
instance : Fa Tryz.prog 142 0 0 := ⟨_, _, Tryz.t3, Tryz.underlying142, rfl, by kernel_rfl, by decide, rfl⟩
instance : Ff Tryz.prog 142 1 1 3 := ⟨_, _, Tryz.underlying142, rfl, rfl, rfl⟩
instance : Fa Tryz.prog 142 1 1 := ⟨_, _, Tryz.t3, Tryz.underlying142, rfl, by kernel_rfl, by decide, rfl⟩
instance : Pl Tryz.prog 151 [(0, 6), (6, 1), (7, 1)] := ⟨_, Tryz.underlying151, fun w => by kernel_rfl⟩
instance : Ff Tryz.prog 151 0 0 33 := ⟨_, _, Tryz.underlying151, rfl, rfl, rfl⟩
instance : Fa Tryz.prog 151 0 0 := ⟨_, _, Tryz.t33, Tryz.underlying151, rfl, by kernel_rfl, by decide, rfl⟩
instance : Ff Tryz.prog 151 1 6 106 := ⟨_, _, Tryz.underlying151, rfl, rfl, rfl⟩
instance : Fa Tryz.prog 151 1 6 := ⟨_, _, Tryz.t106, Tryz.underlying151, rfl, by kernel_rfl, by decide, rfl⟩
instance : Ff Tryz.prog 151 2 7 106 := ⟨_, _, Tryz.underlying151, rfl, rfl, rfl⟩
instance : Fa Tryz.prog 151 2 7 := ⟨_, _, Tryz.t106, Tryz.underlying151, rfl, by kernel_rfl, by decide, rfl⟩
instance : Pl Tryz.prog 152 [(0, 6), (6, 1), (7, 1)] := ⟨_, Tryz.underlying152, fun w => by kernel_rfl⟩
instance : Ff Tryz.prog 152 0 0 33 := ⟨_, _, Tryz.underlying152, rfl, rfl, rfl⟩
instance : Fa Tryz.prog 152 0 0 := ⟨_, _, Tryz.t33, Tryz.underlying152, rfl, by kernel_rfl, by decide, rfl⟩
instance : Ff Tryz.prog 152 1 6 106 := ⟨_, _, Tryz.underlying152, rfl, rfl, rfl⟩
instance : Fa Tryz.prog 152 1 6 := ⟨_, _, Tryz.t106, Tryz.underlying152, rfl, by kernel_rfl, by decide, rfl⟩
instance : Ff Tryz.prog 152 2 7 106 := ⟨_, _, Tryz.underlying152, rfl, rfl, rfl⟩
instance : Fa Tryz.prog 152 2 7 := ⟨_, _, Tryz.t106, Tryz.underlying152, rfl, by kernel_rfl, by decide, rfl⟩
instance : Pl Tryz.prog 154 [(0, 1), (1, 1), (2, 256), (258, 1)] := ⟨_, Tryz.underlying154, fun w => by kernel_rfl⟩
instance : Ff Tryz.prog 154 0 0 3 := ⟨_, _, Tryz.underlying154, rfl, rfl, rfl⟩
instance : Fa Tryz.prog 154 0 0 := ⟨_, _, Tryz.t3, Tryz.underlying154, rfl, by kernel_rfl, by decide, rfl⟩
instance : Ff Tryz.prog 154 1 1 3 := ⟨_, _, Tryz.underlying154, rfl, rfl, rfl⟩
instance : Fa Tryz.prog 154 1 1 := ⟨_, _, Tryz.t3, Tryz.underlying154, rfl, by kernel_rfl, by decide, rfl⟩
instance : Ff Tryz.prog 154 2 2 153 := ⟨_, _, Tryz.underlying154, rfl, rfl, rfl⟩
instance : Fa Tryz.prog 154 2 2 := ⟨_, _, Tryz.t153, Tryz.underlying154, rfl, by kernel_rfl, by decide, rfl⟩
instance : Ff Tryz.prog 154 3 258 3 := ⟨_, _, Tryz.underlying154, rfl, rfl, rfl⟩
instance : Fa Tryz.prog 154 3 258 := ⟨_, _, Tryz.t3, Tryz.underlying154, rfl, by kernel_rfl, by decide, rfl⟩
instance : Pl Tryz.prog 155 [(0, 1), (1, 1), (2, 256), (258, 1)] := ⟨_, Tryz.underlying155, fun w => by kernel_rfl⟩
instance : Ff Tryz.prog 155 0 0 3 := ⟨_, _, Tryz.underlying155, rfl, rfl, rfl⟩
instance : Fa Tryz.prog 155 0 0 := ⟨_, _, Tryz.t3, Tryz.underlying155, rfl, by kernel_rfl, by decide, rfl⟩
instance : Ff Tryz.prog 155 1 1 3 := ⟨_, _, Tryz.underlying155, rfl, rfl, rfl⟩
instance : Fa Tryz.prog 155 1 1 := ⟨_, _, Tryz.t3, Tryz.underlying155, rfl, by kernel_rfl, by decide, rfl⟩
instance : Ff Tryz.prog 155 2 2 153 := ⟨_, _, Tryz.underlying155, rfl, rfl, rfl⟩
instance : Fa Tryz.prog 155 2 2 := ⟨_, _, Tryz.t153, Tryz.underlying155, rfl, by kernel_rfl, by decide, rfl⟩
instance : Ff Tryz.prog 155 3 258 3 := ⟨_, _, Tryz.underlying155, rfl, rfl, rfl⟩
instance : Fa Tryz.prog 155 3 258 := ⟨_, _, Tryz.t3, Tryz.underlying155, rfl, by kernel_rfl, by decide, rfl⟩
instance : Pl Tryz.prog 157 [(0, 1), (1, 8), (9, 8288), (8297, 1), (8298, 1), (8299, 1), (8300, 1)] := ⟨_, Tryz.underlying157, fun w => by kernel_rfl⟩
instance : Ff Tryz.prog 157 0 0 84 := ⟨_, _, Tryz.underlying157, rfl, rfl, rfl⟩
instance : Fa Tryz.prog 157 0 0 := ⟨_, _, Tryz.t84, Tryz.underlying157, rfl, by kernel_rfl, by decide, rfl⟩
instance : Ff Tryz.prog 157 1 1 152 := ⟨_, _, Tryz.underlying157, rfl, rfl, rfl⟩
instance : Fa Tryz.prog 157 1 1 := ⟨_, _, Tryz.t152, Tryz.underlying157, rfl, by kernel_rfl, by decide, rfl⟩
instance : Ff Tryz.prog 157 2 9 156 := ⟨_, _, Tryz.underlying157, rfl, rfl, rfl⟩
instance : Fa Tryz.prog 157 2 9 := ⟨_, _, Tryz.t156, Tryz.underlying157, rfl, by kernel_rfl, by decide, rfl⟩
instance : Ff Tryz.prog 157 3 8297 3 := ⟨_, _, Tryz.underlying157, rfl, rfl, rfl⟩
instance : Fa Tryz.prog 157 3 8297 := ⟨_, _, Tryz.t3, Tryz.underlying157, rfl, by kernel_rfl, by decide, rfl⟩
instance : Ff Tryz.prog 157 4 8298 3 := ⟨_, _, Tryz.underlying157, rfl, rfl, rfl⟩
instance : Fa Tryz.prog 157 4 8298 := ⟨_, _, Tryz.t3, Tryz.underlying157, rfl, by kernel_rfl, by decide, rfl⟩
instance : Ff Tryz.prog 157 5 8299 3 := ⟨_, _, Tryz.underlying157, rfl, rfl, rfl⟩
instance : Fa Tryz.prog 157 5 8299 := ⟨_, _, Tryz.t3, Tryz.underlying157, rfl, by kernel_rfl, by decide, rfl⟩
instance : Ff Tryz.prog 157 6 8300 3 := ⟨_, _, Tryz.underlying157, rfl, rfl, rfl⟩
instance : Fa Tryz.prog 157 6 8300 := ⟨_, _, Tryz.t3, Tryz.underlying157, rfl, by kernel_rfl, by decide, rfl⟩
instance : Pl Tryz.prog 158 [(0, 1), (1, 8), (9, 8288), (8297, 1), (8298, 1), (8299, 1), (8300, 1)] := ⟨_, Tryz.underlying158, fun w => by kernel_rfl⟩
instance : Ff Tryz.prog 158 0 0 84 := ⟨_, _, Tryz.underlying158, rfl, rfl, rfl⟩
instance : Fa Tryz.prog 158 0 0 := ⟨_, _, Tryz.t84, Tryz.underlying158, rfl, by kernel_rfl, by decide, rfl⟩
instance : Ff Tryz.prog 158 1 1 152 := ⟨_, _, Tryz.underlying158, rfl, rfl, rfl⟩
instance : Fa Tryz.prog 158 1 1 := ⟨_, _, Tryz.t152, Tryz.underlying158, rfl, by kernel_rfl, by decide, rfl⟩
instance : Ff Tryz.prog 158 2 9 156 := ⟨_, _, Tryz.underlying158, rfl, rfl, rfl⟩
instance : Fa Tryz.prog 158 2 9 := ⟨_, _, Tryz.t156, Tryz.underlying158, rfl, by kernel_rfl, by decide, rfl⟩
instance : Ff Tryz.prog 158 3 8297 3 := ⟨_, _, Tryz.underlying158, rfl, rfl, rfl⟩
instance : Fa Tryz.prog 158 3 8297 := ⟨_, _, Tryz.t3, Tryz.underlying158, rfl, by kernel_rfl, by decide, rfl⟩
instance : Ff Tryz.prog 158 4 8298 3 := ⟨_, _, Tryz.underlying158, rfl, rfl, rfl⟩
instance : Fa Tryz.prog 158 4 8298 := ⟨_, _, Tryz.t3, Tryz.underlying158, rfl, by kernel_rfl, by decide, rfl⟩
instance : Ff Tryz.prog 158 5 8299 3 := ⟨_, _, Tryz.underlying158, rfl, rfl, rfl⟩
instance : Fa Tryz.prog 158 5 8299 := ⟨_, _, Tryz.t3, Tryz.underlying158, rfl, by kernel_rfl, by decide, rfl⟩
instance : Ff Tryz.prog 158 6 8300 3 := ⟨_, _, Tryz.underlying158, rfl, rfl, rfl⟩
instance : Fa Tryz.prog 158 6 8300 := ⟨_, _, Tryz.t3, Tryz.underlying158, rfl, by kernel_rfl, by decide, rfl⟩
instance : Pl Tryz.prog 198 [(0, 1), (1, 1)] := ⟨_, Tryz.underlying198, fun w => by kernel_rfl⟩
instance : Ff Tryz.prog 198 0 0 84 := ⟨_, _, Tryz.underlying198, rfl, rfl, rfl⟩
instance : Fa Tryz.prog 198 0 0 := ⟨_, _, Tryz.t84, Tryz.underlying198, rfl, by kernel_rfl, by decide, rfl⟩
instance : Ff Tryz.prog 198 1 1 3 := ⟨_, _, Tryz.underlying198, rfl, rfl, rfl⟩
instance : Fa Tryz.prog 198 1 1 := ⟨_, _, Tryz.t3, Tryz.underlying198, rfl, by kernel_rfl, by decide, rfl⟩
instance : Pl Tryz.prog 199 [(0, 1), (1, 1)] := ⟨_, Tryz.underlying199, fun w => by kernel_rfl⟩
instance : Ff Tryz.prog 199 0 0 84 := ⟨_, _, Tryz.underlying199, rfl, rfl, rfl⟩
instance : Fa Tryz.prog 199 0 0 := ⟨_, _, Tryz.t84, Tryz.underlying199, rfl, by kernel_rfl, by decide, rfl⟩
instance : Ff Tryz.prog 199 1 1 3 := ⟨_, _, Tryz.underlying199, rfl, rfl, rfl⟩
instance : Fa Tryz.prog 199 1 1 := ⟨_, _, Tryz.t3, Tryz.underlying199, rfl, by kernel_rfl, by decide, rfl⟩
instance : Pl Tryz.prog 247 [(0, 1), (1, 1), (2, 1)] := ⟨_, Tryz.underlying247, fun w => by kernel_rfl⟩
instance : Ff Tryz.prog 247 0 0 84 := ⟨_, _, Tryz.underlying247, rfl, rfl, rfl⟩
instance : Fa Tryz.prog 247 0 0 := ⟨_, _, Tryz.t84, Tryz.underlying247, rfl, by kernel_rfl, by decide, rfl⟩
instance : Ff Tryz.prog 247 1 1 3 := ⟨_, _, Tryz.underlying247, rfl, rfl, rfl⟩
instance : Fa Tryz.prog 247 1 1 := ⟨_, _, Tryz.t3, Tryz.underlying247, rfl, by kernel_rfl, by decide, rfl⟩
instance : Ff Tryz.prog 247 2 2 4 := ⟨_, _, Tryz.underlying247, rfl, rfl, rfl⟩
instance : Fa Tryz.prog 247 2 2 := ⟨_, _, Tryz.t4, Tryz.underlying247, rfl, by kernel_rfl, by decide, rfl⟩
instance : Pl Tryz.prog 248 [(0, 1), (1, 1), (2, 1)] := ⟨_, Tryz.underlying248, fun w => by kernel_rfl⟩
instance : Ff Tryz.prog 248 0 0 84 := ⟨_, _, Tryz.underlying248, rfl, rfl, rfl⟩
instance : Fa Tryz.prog 248 0 0 := ⟨_, _, Tryz.t84, Tryz.underlying248, rfl, by kernel_rfl, by decide, rfl⟩
instance : Ff Tryz.prog 248 1 1 3 := ⟨_, _, Tryz.underlying248, rfl, rfl, rfl⟩
instance : Fa Tryz.prog 248 1 1 := ⟨_, _, Tryz.t3, Tryz.underlying248, rfl, by kernel_rfl, by decide, rfl⟩
instance : Ff Tryz.prog 248 2 2 4 := ⟨_, _, Tryz.underlying248, rfl, rfl, rfl⟩
instance : Fa Tryz.prog 248 2 2 := ⟨_, _, Tryz.t4, Tryz.underlying248, rfl, by kernel_rfl, by decide, rfl⟩
instance : Cl Tryz.prog 2 := ⟨Tryz.call2⟩
instance : Cl Tryz.prog 3 := ⟨Tryz.call3⟩
instance : Cl Tryz.prog 4 := ⟨Tryz.call4⟩
instance : Cl Tryz.prog 5 := ⟨Tryz.call5⟩
instance : Cl Tryz.prog 6 := ⟨Tryz.call6⟩
instance : Cl Tryz.prog 7 := ⟨Tryz.call7⟩
instance : Cl Tryz.prog 8 := ⟨Tryz.call8⟩
instance : Cl Tryz.prog 9 := ⟨Tryz.call9⟩
instance : Cl Tryz.prog 10 := ⟨Tryz.call10⟩
instance : Cl Tryz.prog 11 := ⟨Tryz.call11⟩
instance : Cl Tryz.prog 12 := ⟨Tryz.call12⟩
instance : Cl Tryz.prog 13 := ⟨Tryz.call13⟩
instance : Cl Tryz.prog 14 := ⟨Tryz.call14⟩
instance : Cl Tryz.prog 15 := ⟨Tryz.call15⟩
instance : Cl Tryz.prog 16 := ⟨Tryz.call16⟩
instance : Cl Tryz.prog 17 := ⟨Tryz.call17⟩
instance : Cl Tryz.prog 18 := ⟨Tryz.call18⟩
instance : Cl Tryz.prog 19 := ⟨Tryz.call19⟩
instance : Cl Tryz.prog 20 := ⟨Tryz.call20⟩
instance : Cl Tryz.prog 21 := ⟨Tryz.call21⟩
instance : Cl Tryz.prog 22 := ⟨Tryz.call22⟩
instance : Cl Tryz.prog 23 := ⟨Tryz.call23⟩
instance : Cl Tryz.prog 24 := ⟨Tryz.call24⟩
instance : Cl Tryz.prog 25 := ⟨Tryz.call25⟩
instance : Cl Tryz.prog 26 := ⟨Tryz.call26⟩
instance : Cl Tryz.prog 27 := ⟨Tryz.call27⟩
instance : Cl Tryz.prog 28 := ⟨Tryz.call28⟩
instance : Cl Tryz.prog 29 := ⟨Tryz.call29⟩
instance : Cl Tryz.prog 30 := ⟨Tryz.call30⟩
instance : Cl Tryz.prog 31 := ⟨Tryz.call31⟩
instance : Cl Tryz.prog 32 := ⟨Tryz.call32⟩
instance : Cl Tryz.prog 33 := ⟨Tryz.call33⟩
instance : Cl Tryz.prog 34 := ⟨Tryz.call34⟩
instance : Cl Tryz.prog 35 := ⟨Tryz.call35⟩
instance : Cl Tryz.prog 36 := ⟨Tryz.call36⟩
instance : Cl Tryz.prog 37 := ⟨Tryz.call37⟩
instance : Cl Tryz.prog 38 := ⟨Tryz.call38⟩
instance : Cl Tryz.prog 39 := ⟨Tryz.call39⟩
instance : Cl Tryz.prog 40 := ⟨Tryz.call40⟩
instance : Cl Tryz.prog 41 := ⟨Tryz.call41⟩
instance : Cl Tryz.prog 42 := ⟨Tryz.call42⟩
instance : Cl Tryz.prog 43 := ⟨Tryz.call43⟩
instance : Cl Tryz.prog 44 := ⟨Tryz.call44⟩
instance : Cl Tryz.prog 45 := ⟨Tryz.call45⟩
instance : Cl Tryz.prog 46 := ⟨Tryz.call46⟩
instance : Cl Tryz.prog 47 := ⟨Tryz.call47⟩
instance : Cl Tryz.prog 48 := ⟨Tryz.call48⟩
instance : Cl Tryz.prog 49 := ⟨Tryz.call49⟩
instance : Cl Tryz.prog 50 := ⟨Tryz.call50⟩
instance : Cl Tryz.prog 51 := ⟨Tryz.call51⟩
instance : Cl Tryz.prog 52 := ⟨Tryz.call52⟩
instance : Cl Tryz.prog 53 := ⟨Tryz.call53⟩
instance : Cl Tryz.prog 54 := ⟨Tryz.call54⟩
instance : Cl Tryz.prog 55 := ⟨Tryz.call55⟩
instance : Cl Tryz.prog 56 := ⟨Tryz.call56⟩
instance : Cl Tryz.prog 57 := ⟨Tryz.call57⟩
instance : Cl Tryz.prog 58 := ⟨Tryz.call58⟩
instance : Cl Tryz.prog 59 := ⟨Tryz.call59⟩
instance : Cl Tryz.prog 60 := ⟨Tryz.call60⟩
instance : Cl Tryz.prog 61 := ⟨Tryz.call61⟩
instance : Cl Tryz.prog 62 := ⟨Tryz.call62⟩
instance : Cl Tryz.prog 63 := ⟨Tryz.call63⟩
instance : Cl Tryz.prog 64 := ⟨Tryz.call64⟩
instance : Cl Tryz.prog 65 := ⟨Tryz.call65⟩
instance : Cl Tryz.prog 66 := ⟨Tryz.call66⟩
instance : Cl Tryz.prog 67 := ⟨Tryz.call67⟩
instance : Cl Tryz.prog 68 := ⟨Tryz.call68⟩
instance : Cl Tryz.prog 69 := ⟨Tryz.call69⟩
instance : Cl Tryz.prog 70 := ⟨Tryz.call70⟩
instance : Cl Tryz.prog 71 := ⟨Tryz.call71⟩
instance : Cl Tryz.prog 72 := ⟨Tryz.call72⟩
instance : Cl Tryz.prog 73 := ⟨Tryz.call73⟩
instance : Cl Tryz.prog 74 := ⟨Tryz.call74⟩
instance : Cl Tryz.prog 75 := ⟨Tryz.call75⟩
instance : Cl Tryz.prog 76 := ⟨Tryz.call76⟩
instance : Cl Tryz.prog 77 := ⟨Tryz.call77⟩
instance : Cl Tryz.prog 78 := ⟨Tryz.call78⟩
instance : Cl Tryz.prog 79 := ⟨Tryz.call79⟩
instance : Cl Tryz.prog 80 := ⟨Tryz.call80⟩
instance : Cl Tryz.prog 81 := ⟨Tryz.call81⟩
instance : Cl Tryz.prog 82 := ⟨Tryz.call82⟩
instance : Cl Tryz.prog 83 := ⟨Tryz.call83⟩
instance : Cl Tryz.prog 84 := ⟨Tryz.call84⟩
instance : Cl Tryz.prog 85 := ⟨Tryz.call85⟩
instance : Cl Tryz.prog 86 := ⟨Tryz.call86⟩
instance : Cl Tryz.prog 87 := ⟨Tryz.call87⟩
instance : Cl Tryz.prog 88 := ⟨Tryz.call88⟩
instance : Cl Tryz.prog 89 := ⟨Tryz.call89⟩
instance : Cl Tryz.prog 90 := ⟨Tryz.call90⟩
instance : Cl Tryz.prog 91 := ⟨Tryz.call91⟩
instance : Cl Tryz.prog 92 := ⟨Tryz.call92⟩
instance : Cl Tryz.prog 93 := ⟨Tryz.call93⟩
instance : Cl Tryz.prog 94 := ⟨Tryz.call94⟩
instance : Cl Tryz.prog 95 := ⟨Tryz.call95⟩
instance : Cl Tryz.prog 96 := ⟨Tryz.call96⟩
instance : Cl Tryz.prog 97 := ⟨Tryz.call97⟩
instance : Cl Tryz.prog 98 := ⟨Tryz.call98⟩
instance : Cl Tryz.prog 99 := ⟨Tryz.call99⟩
instance : Cl Tryz.prog 100 := ⟨Tryz.call100⟩
instance : Cl Tryz.prog 101 := ⟨Tryz.call101⟩
instance : Cl Tryz.prog 102 := ⟨Tryz.call102⟩
instance : Cl Tryz.prog 103 := ⟨Tryz.call103⟩
instance : Cl Tryz.prog 104 := ⟨Tryz.call104⟩
instance : Cl Tryz.prog 105 := ⟨Tryz.call105⟩
instance : Cl Tryz.prog 106 := ⟨Tryz.call106⟩
instance : Cl Tryz.prog 107 := ⟨Tryz.call107⟩
instance : Cl Tryz.prog 108 := ⟨Tryz.call108⟩
instance : Cl Tryz.prog 109 := ⟨Tryz.call109⟩
instance : Cl Tryz.prog 110 := ⟨Tryz.call110⟩
instance : Cl Tryz.prog 111 := ⟨Tryz.call111⟩
instance : Cl Tryz.prog 112 := ⟨Tryz.call112⟩
instance : Cl Tryz.prog 113 := ⟨Tryz.call113⟩
instance : Cl Tryz.prog 114 := ⟨Tryz.call114⟩
instance : Cl Tryz.prog 115 := ⟨Tryz.call115⟩
instance : Cl Tryz.prog 116 := ⟨Tryz.call116⟩
instance : Cl Tryz.prog 117 := ⟨Tryz.call117⟩
instance : Cl Tryz.prog 118 := ⟨Tryz.call118⟩
instance : Cl Tryz.prog 119 := ⟨Tryz.call119⟩
instance : Cl Tryz.prog 120 := ⟨Tryz.call120⟩
instance : Cl Tryz.prog 121 := ⟨Tryz.call121⟩
instance : Cl Tryz.prog 122 := ⟨Tryz.call122⟩
instance : Cl Tryz.prog 123 := ⟨Tryz.call123⟩
instance : Cl Tryz.prog 124 := ⟨Tryz.call124⟩
instance : Cl Tryz.prog 125 := ⟨Tryz.call125⟩
instance : Cl Tryz.prog 127 := ⟨Tryz.call127⟩
instance : Cl Tryz.prog 128 := ⟨Tryz.call128⟩
instance : Cl Tryz.prog 129 := ⟨Tryz.call129⟩
instance : Cl Tryz.prog 131 := ⟨Tryz.call131⟩
instance : Cl Tryz.prog 132 := ⟨Tryz.call132⟩
instance : Cl Tryz.prog 133 := ⟨Tryz.call133⟩
instance : Cl Tryz.prog 134 := ⟨Tryz.call134⟩
instance : Cl Tryz.prog 135 := ⟨Tryz.call135⟩
instance : Cl Tryz.prog 136 := ⟨Tryz.call136⟩
instance : Cl Tryz.prog 137 := ⟨Tryz.call137⟩
instance : Cl Tryz.prog 138 := ⟨Tryz.call138⟩
instance : Cl Tryz.prog 139 := ⟨Tryz.call139⟩
instance : Cl Tryz.prog 140 := ⟨Tryz.call140⟩
instance : Cl Tryz.prog 141 := ⟨Tryz.call141⟩
instance : Cl Tryz.prog 142 := ⟨Tryz.call142⟩
instance : Cl Tryz.prog 143 := ⟨Tryz.call143⟩
instance : Cl Tryz.prog 144 := ⟨Tryz.call144⟩
instance : Cl Tryz.prog 145 := ⟨Tryz.call145⟩
instance : Cl Tryz.prog 146 := ⟨Tryz.call146⟩
instance : Cl Tryz.prog 147 := ⟨Tryz.call147⟩
instance : Cl Tryz.prog 148 := ⟨Tryz.call148⟩
instance : Cl Tryz.prog 149 := ⟨Tryz.call149⟩
instance : Cl Tryz.prog 150 := ⟨Tryz.call150⟩
instance : Cl Tryz.prog 151 := ⟨Tryz.call151⟩
instance : Cl Tryz.prog 152 := ⟨Tryz.call152⟩
instance : Cl Tryz.prog 153 := ⟨Tryz.call153⟩
instance : Cl Tryz.prog 154 := ⟨Tryz.call154⟩
instance : Cl Tryz.prog 155 := ⟨Tryz.call155⟩
instance : Cl Tryz.prog 156 := ⟨Tryz.call156⟩
instance : Cl Tryz.prog 157 := ⟨Tryz.call157⟩
instance : Cl Tryz.prog 158 := ⟨Tryz.call158⟩
instance : Cl Tryz.prog 159 := ⟨Tryz.call159⟩
instance : Cl Tryz.prog 160 := ⟨Tryz.call160⟩
instance : FRes Tryz.f2 [] := ⟨rfl⟩
instance : FRes Tryz.f3 [Go.ResultVar.tmp 14] := ⟨rfl⟩
instance : FRes Tryz.f4 [Go.ResultVar.tmp 14] := ⟨rfl⟩
instance : FRes Tryz.f5 [Go.ResultVar.tmp 8] := ⟨rfl⟩
instance : FRes Tryz.f6 [Go.ResultVar.tmp 14] := ⟨rfl⟩
instance : FRes Tryz.f7 [Go.ResultVar.tmp 2] := ⟨rfl⟩
instance : FRes Tryz.f8 [Go.ResultVar.tmp 0] := ⟨rfl⟩
instance : FRes Tryz.f9 [Go.ResultVar.cell 2 26] := ⟨rfl⟩
instance : FRes Tryz.f10 [Go.ResultVar.cell 12 33] := ⟨rfl⟩
instance : FRes Tryz.f11 [Go.ResultVar.tmp 4] := ⟨rfl⟩
instance : FRes Tryz.f12 [Go.ResultVar.tmp 8] := ⟨rfl⟩
instance : FRes Tryz.f13 [Go.ResultVar.tmp 4, Go.ResultVar.tmp 5] := ⟨rfl⟩
instance : FRes Tryz.f14 [Go.ResultVar.cell 10 43, Go.ResultVar.tmp 11, Go.ResultVar.tmp 12] := ⟨rfl⟩
instance : FRes Tryz.f15 [Go.ResultVar.cell 2 26] := ⟨rfl⟩
instance : FRes Tryz.f16 [Go.ResultVar.tmp 6] := ⟨rfl⟩
instance : FRes Tryz.f17 [Go.ResultVar.tmp 0] := ⟨rfl⟩
instance : FRes Tryz.f18 [Go.ResultVar.tmp 8, Go.ResultVar.tmp 9, Go.ResultVar.tmp 10] := ⟨rfl⟩
instance : FRes Tryz.f19 [Go.ResultVar.tmp 8] := ⟨rfl⟩
instance : FRes Tryz.f20 [Go.ResultVar.tmp 10] := ⟨rfl⟩
instance : FRes Tryz.f21 [Go.ResultVar.tmp 6] := ⟨rfl⟩
instance : FRes Tryz.f22 [Go.ResultVar.tmp 6] := ⟨rfl⟩
instance : FRes Tryz.f23 [Go.ResultVar.tmp 0] := ⟨rfl⟩
instance : FRes Tryz.f24 [Go.ResultVar.cell 2 26] := ⟨rfl⟩
instance : FRes Tryz.f25 [Go.ResultVar.cell 10 60, Go.ResultVar.cell 11 43, Go.ResultVar.tmp 12] := ⟨rfl⟩
instance : FRes Tryz.f26 [Go.ResultVar.cell 10 60, Go.ResultVar.tmp 11] := ⟨rfl⟩
instance : FRes Tryz.f27 [Go.ResultVar.tmp 4] := ⟨rfl⟩
instance : FRes Tryz.f28 [Go.ResultVar.tmp 2] := ⟨rfl⟩
instance : FRes Tryz.f29 [Go.ResultVar.cell 2 60, Go.ResultVar.tmp 3] := ⟨rfl⟩
instance : FRes Tryz.f30 [Go.ResultVar.cell 10 60, Go.ResultVar.tmp 11] := ⟨rfl⟩
instance : FRes Tryz.f31 [Go.ResultVar.cell 0 31] := ⟨rfl⟩
instance : FRes Tryz.f32 [Go.ResultVar.tmp 4, Go.ResultVar.tmp 5] := ⟨rfl⟩
instance : FRes Tryz.f33 [Go.ResultVar.tmp 4, Go.ResultVar.tmp 5] := ⟨rfl⟩
instance : FRes Tryz.f34 [Go.ResultVar.tmp 8] := ⟨rfl⟩
instance : FRes Tryz.f35 [Go.ResultVar.tmp 6, Go.ResultVar.tmp 7] := ⟨rfl⟩
instance : FRes Tryz.f36 [Go.ResultVar.tmp 8] := ⟨rfl⟩
instance : FRes Tryz.f37 [Go.ResultVar.tmp 4] := ⟨rfl⟩
instance : FRes Tryz.f38 [Go.ResultVar.cell 6 31] := ⟨rfl⟩
instance : FRes Tryz.f39 [Go.ResultVar.tmp 2, Go.ResultVar.tmp 3] := ⟨rfl⟩
instance : FRes Tryz.f40 [Go.ResultVar.tmp 4, Go.ResultVar.tmp 5] := ⟨rfl⟩
instance : FRes Tryz.f41 [Go.ResultVar.tmp 4] := ⟨rfl⟩
instance : FRes Tryz.f42 [Go.ResultVar.tmp 8, Go.ResultVar.tmp 9] := ⟨rfl⟩
instance : FRes Tryz.f43 [Go.ResultVar.tmp 4, Go.ResultVar.tmp 5] := ⟨rfl⟩
instance : FRes Tryz.f44 [Go.ResultVar.tmp 6] := ⟨rfl⟩
instance : FRes Tryz.f45 [Go.ResultVar.tmp 6] := ⟨rfl⟩
instance : FRes Tryz.f46 [Go.ResultVar.tmp 8] := ⟨rfl⟩
instance : FRes Tryz.f47 [Go.ResultVar.tmp 2] := ⟨rfl⟩
instance : FRes Tryz.f48 [Go.ResultVar.tmp 6] := ⟨rfl⟩
instance : FRes Tryz.f49 [] := ⟨rfl⟩
instance : FRes Tryz.f50 [Go.ResultVar.tmp 2] := ⟨rfl⟩
instance : FRes Tryz.f51 [Go.ResultVar.tmp 2] := ⟨rfl⟩
instance : FRes Tryz.f52 [Go.ResultVar.tmp 10] := ⟨rfl⟩
instance : FRes Tryz.f53 [Go.ResultVar.tmp 2] := ⟨rfl⟩
instance : FRes Tryz.f54 [Go.ResultVar.tmp 4] := ⟨rfl⟩
instance : FRes Tryz.f55 [Go.ResultVar.cell 2 112] := ⟨rfl⟩
instance : FRes Tryz.f56 [Go.ResultVar.cell 4 112] := ⟨rfl⟩
instance : FRes Tryz.f57 [Go.ResultVar.tmp 8, Go.ResultVar.tmp 9] := ⟨rfl⟩
instance : FRes Tryz.f58 [Go.ResultVar.tmp 4] := ⟨rfl⟩
instance : FRes Tryz.f59 [Go.ResultVar.cell 2 119] := ⟨rfl⟩
instance : FRes Tryz.f60 [Go.ResultVar.cell 4 119] := ⟨rfl⟩
instance : FRes Tryz.f61 [Go.ResultVar.tmp 6, Go.ResultVar.tmp 7] := ⟨rfl⟩
instance : FRes Tryz.f62 [Go.ResultVar.tmp 2] := ⟨rfl⟩
instance : FRes Tryz.f63 [Go.ResultVar.cell 10 60, Go.ResultVar.tmp 11] := ⟨rfl⟩
instance : FRes Tryz.f64 [Go.ResultVar.tmp 4] := ⟨rfl⟩
instance : FRes Tryz.f65 [Go.ResultVar.cell 4 60, Go.ResultVar.cell 5 112, Go.ResultVar.tmp 6, Go.ResultVar.tmp 7] := ⟨rfl⟩
instance : FRes Tryz.f66 [Go.ResultVar.cell 4 60, Go.ResultVar.tmp 5] := ⟨rfl⟩
instance : FRes Tryz.f67 [Go.ResultVar.tmp 2] := ⟨rfl⟩
instance : FRes Tryz.f68 [Go.ResultVar.tmp 6] := ⟨rfl⟩
instance : FRes Tryz.f69 [Go.ResultVar.cell 4 129, Go.ResultVar.tmp 5] := ⟨rfl⟩
instance : FRes Tryz.f70 [Go.ResultVar.tmp 2, Go.ResultVar.tmp 3, Go.ResultVar.tmp 4, Go.ResultVar.tmp 5] := ⟨rfl⟩
instance : FRes Tryz.f71 [Go.ResultVar.tmp 6] := ⟨rfl⟩
instance : FRes Tryz.f72 [] := ⟨rfl⟩
instance : FRes Tryz.f73 [Go.ResultVar.tmp 2] := ⟨rfl⟩
instance : FRes Tryz.f74 [Go.ResultVar.tmp 2] := ⟨rfl⟩
instance : FRes Tryz.f75 [Go.ResultVar.tmp 4] := ⟨rfl⟩
instance : FRes Tryz.f76 [Go.ResultVar.tmp 4] := ⟨rfl⟩
instance : FRes Tryz.f77 [Go.ResultVar.tmp 6, Go.ResultVar.tmp 7, Go.ResultVar.tmp 8, Go.ResultVar.tmp 9] := ⟨rfl⟩
instance : FRes Tryz.f78 [Go.ResultVar.tmp 6, Go.ResultVar.tmp 7] := ⟨rfl⟩
instance : FRes Tryz.f79 [Go.ResultVar.tmp 4] := ⟨rfl⟩
instance : FRes Tryz.f80 [Go.ResultVar.tmp 2] := ⟨rfl⟩
instance : FRes Tryz.f81 [Go.ResultVar.tmp 6] := ⟨rfl⟩
instance : FRes Tryz.f82 [Go.ResultVar.cell 2 33, Go.ResultVar.tmp 3] := ⟨rfl⟩
instance : FRes Tryz.f83 [Go.ResultVar.cell 2 152, Go.ResultVar.tmp 3] := ⟨rfl⟩
instance : FRes Tryz.f84 [Go.ResultVar.tmp 4] := ⟨rfl⟩
instance : FRes Tryz.f85 [Go.ResultVar.tmp 6, Go.ResultVar.tmp 7] := ⟨rfl⟩
instance : FRes Tryz.f86 [Go.ResultVar.cell 4 119, Go.ResultVar.tmp 5] := ⟨rfl⟩
instance : FRes Tryz.f87 [Go.ResultVar.tmp 2, Go.ResultVar.tmp 3] := ⟨rfl⟩
instance : FRes Tryz.f88 [Go.ResultVar.tmp 6, Go.ResultVar.tmp 7] := ⟨rfl⟩
instance : FRes Tryz.f89 [] := ⟨rfl⟩
instance : FRes Tryz.f90 [Go.ResultVar.tmp 4, Go.ResultVar.tmp 5] := ⟨rfl⟩
instance : FRes Tryz.f91 [Go.ResultVar.tmp 2] := ⟨rfl⟩
instance : FRes Tryz.f92 [Go.ResultVar.cell 2 112] := ⟨rfl⟩
instance : FRes Tryz.f93 [Go.ResultVar.tmp 6, Go.ResultVar.tmp 7] := ⟨rfl⟩
instance : FRes Tryz.f94 [Go.ResultVar.tmp 2] := ⟨rfl⟩
instance : FRes Tryz.f95 [Go.ResultVar.tmp 4] := ⟨rfl⟩
instance : FRes Tryz.f96 [Go.ResultVar.cell 4 117] := ⟨rfl⟩
instance : FRes Tryz.f97 [Go.ResultVar.cell 2 117] := ⟨rfl⟩
instance : FRes Tryz.f98 [Go.ResultVar.cell 4 117, Go.ResultVar.cell 5 117] := ⟨rfl⟩
instance : FRes Tryz.f99 [Go.ResultVar.tmp 8] := ⟨rfl⟩
instance : FRes Tryz.f100 [Go.ResultVar.tmp 4] := ⟨rfl⟩
instance : FRes Tryz.f101 [Go.ResultVar.cell 4 112, Go.ResultVar.tmp 5] := ⟨rfl⟩
instance : FRes Tryz.f102 [Go.ResultVar.tmp 2] := ⟨rfl⟩
instance : FRes Tryz.f103 [Go.ResultVar.tmp 2] := ⟨rfl⟩
instance : FRes Tryz.f104 [Go.ResultVar.tmp 4, Go.ResultVar.tmp 5] := ⟨rfl⟩
instance : FRes Tryz.f105 [Go.ResultVar.tmp 4] := ⟨rfl⟩
instance : FRes Tryz.f106 [Go.ResultVar.cell 4 60] := ⟨rfl⟩
instance : FRes Tryz.f107 [Go.ResultVar.tmp 4] := ⟨rfl⟩
instance : FRes Tryz.f108 [Go.ResultVar.cell 2 33] := ⟨rfl⟩
instance : FRes Tryz.f109 [Go.ResultVar.tmp 6, Go.ResultVar.tmp 7] := ⟨rfl⟩
instance : FRes Tryz.f110 [Go.ResultVar.tmp 2] := ⟨rfl⟩
instance : FRes Tryz.f111 [Go.ResultVar.tmp 2] := ⟨rfl⟩
instance : FRes Tryz.f112 [Go.ResultVar.tmp 4] := ⟨rfl⟩
instance : FRes Tryz.f113 [Go.ResultVar.tmp 6] := ⟨rfl⟩
instance : FRes Tryz.f114 [] := ⟨rfl⟩
instance : FRes Tryz.f115 [Go.ResultVar.tmp 2] := ⟨rfl⟩
instance : FRes Tryz.f116 [Go.ResultVar.tmp 2] := ⟨rfl⟩
instance : FRes Tryz.f117 [Go.ResultVar.tmp 6, Go.ResultVar.tmp 7] := ⟨rfl⟩
instance : FRes Tryz.f118 [Go.ResultVar.tmp 6] := ⟨rfl⟩
instance : FRes Tryz.f119 [Go.ResultVar.tmp 6] := ⟨rfl⟩
instance : FRes Tryz.f120 [Go.ResultVar.tmp 2, Go.ResultVar.tmp 3] := ⟨rfl⟩
instance : FRes Tryz.f121 [Go.ResultVar.tmp 6] := ⟨rfl⟩
instance : FRes Tryz.f122 [Go.ResultVar.tmp 4] := ⟨rfl⟩
instance : FRes Tryz.f123 [Go.ResultVar.tmp 6] := ⟨rfl⟩
instance : FRes Tryz.f124 [Go.ResultVar.cell 4 117] := ⟨rfl⟩
instance : FRes Tryz.f125 [Go.ResultVar.tmp 4] := ⟨rfl⟩
instance : FRes Tryz.f127 [Go.ResultVar.tmp 6, Go.ResultVar.tmp 7] := ⟨rfl⟩
instance : FRes Tryz.f128 [Go.ResultVar.tmp 8] := ⟨rfl⟩
instance : FRes Tryz.f129 [Go.ResultVar.tmp 4, Go.ResultVar.tmp 5] := ⟨rfl⟩
instance : FRes Tryz.f131 [Go.ResultVar.tmp 4] := ⟨rfl⟩
instance : FRes Tryz.f132 [Go.ResultVar.tmp 2, Go.ResultVar.tmp 3] := ⟨rfl⟩
instance : FRes Tryz.f133 [] := ⟨rfl⟩
instance : FRes Tryz.f134 [Go.ResultVar.tmp 2] := ⟨rfl⟩
instance : FRes Tryz.f135 [] := ⟨rfl⟩
instance : FRes Tryz.f136 [Go.ResultVar.tmp 2] := ⟨rfl⟩
instance : FRes Tryz.f137 [Go.ResultVar.tmp 6, Go.ResultVar.tmp 7] := ⟨rfl⟩
instance : FRes Tryz.f138 [Go.ResultVar.tmp 6, Go.ResultVar.tmp 7] := ⟨rfl⟩
instance : FRes Tryz.f139 [Go.ResultVar.tmp 10, Go.ResultVar.tmp 11] := ⟨rfl⟩
instance : FRes Tryz.f140 [Go.ResultVar.tmp 4] := ⟨rfl⟩
instance : FRes Tryz.f141 [Go.ResultVar.tmp 2] := ⟨rfl⟩
instance : FRes Tryz.f142 [Go.ResultVar.tmp 2] := ⟨rfl⟩
instance : FRes Tryz.f143 [Go.ResultVar.tmp 4] := ⟨rfl⟩
instance : FRes Tryz.f144 [] := ⟨rfl⟩
instance : FRes Tryz.f145 [] := ⟨rfl⟩
instance : FRes Tryz.f146 [Go.ResultVar.tmp 2] := ⟨rfl⟩
instance : FRes Tryz.f147 [] := ⟨rfl⟩
instance : FRes Tryz.f148 [Go.ResultVar.tmp 2] := ⟨rfl⟩
instance : FRes Tryz.f149 [Go.ResultVar.tmp 4, Go.ResultVar.tmp 5] := ⟨rfl⟩
instance : FRes Tryz.f150 [Go.ResultVar.tmp 2] := ⟨rfl⟩
instance : FRes Tryz.f151 [Go.ResultVar.tmp 6] := ⟨rfl⟩
instance : FRes Tryz.f152 [Go.ResultVar.tmp 6, Go.ResultVar.tmp 7] := ⟨rfl⟩
instance : FRes Tryz.f153 [Go.ResultVar.tmp 2] := ⟨rfl⟩
instance : FRes Tryz.f154 [Go.ResultVar.tmp 4] := ⟨rfl⟩
instance : FRes Tryz.f155 [Go.ResultVar.tmp 2] := ⟨rfl⟩
instance : FRes Tryz.f156 [Go.ResultVar.tmp 4, Go.ResultVar.tmp 5] := ⟨rfl⟩
instance : FRes Tryz.f157 [Go.ResultVar.tmp 2] := ⟨rfl⟩
instance : FRes Tryz.f158 [Go.ResultVar.tmp 2] := ⟨rfl⟩
instance : FRes Tryz.f159 [Go.ResultVar.tmp 2] := ⟨rfl⟩
instance : FRes Tryz.f160 [Go.ResultVar.tmp 4] := ⟨rfl⟩
end Go.Proofs.YtemmnpgebpffbaaGreat
/- Package bits: the writer and the reader. -/
namespace Go.Proofs.YtemmnpgebpffbaaGreat
open Go.RowKit

/-- Bits as bytes, the highest of each byte first. -/
def bitN (bs : List Bool) (i : Nat) : Nat := if bs.getD i false then 1 else 0
def packAt (bs : List Bool) (k : Nat) : Nat := 128 * bitN bs (8 * k) + 64 * bitN bs (8 * k + 1) + 32 * bitN bs (8 * k + 2) + 16 * bitN bs (8 * k + 3) + 8 * bitN bs (8 * k + 4) + 4 * bitN bs (8 * k + 5) + 2 * bitN bs (8 * k + 6) + bitN bs (8 * k + 7)
def pack (bs : List Bool) : List Int := (List.range ((bs.length + 7) / 8)).map fun k => (packAt bs k : Int)

/-- A writer at block g. -/
abbrev Wr (g : Nat) (A : Option Addr) (c : Nat) (bs : List Bool) : List HE :=
  [.blk g 199 [.slice A (pack bs).length c, .int .i64 bs.length], .row (.slice A (pack bs).length c) 5 1 (pack bs).length (ints .u8 (pack bs))]

theorem pack_len (bs : List Bool) : (pack bs).length = (bs.length + 7) / 8 := by simp [pack]
def grow (bs : List Bool) : List Int := if bs.length % 8 = 0 then pack bs ++ [0] else pack bs
theorem grow_len (bs : List Bool) : (grow bs).length = bs.length / 8 + 1 := by
  unfold grow; split <;> simp [pack_len] <;> omega
theorem bitN_snoc (bs : List Bool) (b : Bool) (i : Nat) : bitN (bs ++ [b]) i = bitN bs i + if i = bs.length ∧ b = true then 1 else 0 := by
  unfold bitN
  rcases Nat.lt_trichotomy i bs.length with h | h | h
  · rw [if_neg (fun e : i = bs.length ∧ b = true => by omega)]
    simp [List.getD_eq_getElem?_getD, List.getElem?_append_left h]
  · subst h
    cases b <;> simp [List.getD_eq_getElem?_getD]
  · rw [if_neg (fun e : i = bs.length ∧ b = true => by omega)]
    have h1 : (bs ++ [b])[i]? = none := List.getElem?_eq_none (by simp; omega)
    have h2 : bs[i]? = none := List.getElem?_eq_none (by omega)
    simp [List.getD_eq_getElem?_getD, h1, h2]
theorem bitN_le (bs : List Bool) (i : Nat) : bitN bs i ≤ 1 := by unfold bitN; split <;> omega
theorem bitN_out (bs : List Bool) (i : Nat) (h : bs.length ≤ i) : bitN bs i = 0 := by
  unfold bitN
  have h2 : bs[i]? = none := List.getElem?_eq_none h
  simp [List.getD_eq_getElem?_getD, h2]
theorem packAt_lt (bs : List Bool) (k : Nat) : packAt bs k < 256 := by
  unfold packAt
  have := bitN_le bs
  have h0 := this (8 * k); have h1 := this (8 * k + 1); have h2 := this (8 * k + 2); have h3 := this (8 * k + 3); have h4 := this (8 * k + 4); have h5 := this (8 * k + 5); have h6 := this (8 * k + 6); have h7 := this (8 * k + 7)
  omega
theorem packAt_snoc (bs : List Bool) (b : Bool) (k : Nat) : packAt (bs ++ [b]) k = packAt bs k + if bs.length / 8 = k ∧ b = true then 2 ^ (7 - bs.length % 8) else 0 := by
  unfold packAt
  simp only [bitN_snoc]
  cases b with
  | false => simp
  | true =>
    simp only [and_true]
    by_cases hk : bs.length / 8 = k
    · rw [if_pos hk]
      obtain h | h | h | h | h | h | h | h : bs.length % 8 = 0 ∨ bs.length % 8 = 1 ∨ bs.length % 8 = 2 ∨ bs.length % 8 = 3 ∨ bs.length % 8 = 4 ∨ bs.length % 8 = 5 ∨ bs.length % 8 = 6 ∨ bs.length % 8 = 7 := by omega
      all_goals
        rw [h]
        have e : bs.length = 8 * k + bs.length % 8 := by omega
        rw [h] at e
        rw [e]
        simp
        try omega
    · rw [if_neg hk]
      have : ∀ r, r < 8 → ¬ (8 * k + r = bs.length) := fun r hr e => hk (by omega)
      have h0 := this 0 (by omega); have h1 := this 1 (by omega); have h2 := this 2 (by omega); have h3 := this 3 (by omega); have h4 := this 4 (by omega); have h5 := this 5 (by omega); have h6 := this 6 (by omega); have h7 := this 7 (by omega)
      rw [Nat.add_zero] at h0
      simp [h0, h1, h2, h3, h4, h5, h6, h7]
theorem packAt_low (bs : List Bool) : packAt bs (bs.length / 8) % 2 ^ (7 - bs.length % 8 + 1) = 0 := by
  unfold packAt
  have o := bitN_out bs
  obtain h | h | h | h | h | h | h | h : bs.length % 8 = 0 ∨ bs.length % 8 = 1 ∨ bs.length % 8 = 2 ∨ bs.length % 8 = 3 ∨ bs.length % 8 = 4 ∨ bs.length % 8 = 5 ∨ bs.length % 8 = 6 ∨ bs.length % 8 = 7 := by omega
  all_goals
    rw [h]
    simp only [Nat.reduceSub, Nat.reduceAdd, Nat.reducePow]
    try rw [o (8 * (bs.length / 8)) (by omega)]
    try rw [o (8 * (bs.length / 8) + 1) (by omega)]
    try rw [o (8 * (bs.length / 8) + 2) (by omega)]
    try rw [o (8 * (bs.length / 8) + 3) (by omega)]
    try rw [o (8 * (bs.length / 8) + 4) (by omega)]
    try rw [o (8 * (bs.length / 8) + 5) (by omega)]
    try rw [o (8 * (bs.length / 8) + 6) (by omega)]
    try rw [o (8 * (bs.length / 8) + 7) (by omega)]
    try omega
theorem getElem?_pack (bs : List Bool) (k : Nat) : (pack bs)[k]? = if k < (bs.length + 7) / 8 then some (packAt bs k : Int) else none := by
  unfold pack
  rw [List.getElem?_map]
  by_cases h : k < (bs.length + 7) / 8
  · simp [h]
  · simp [h]
theorem grow_at (bs : List Bool) : (grow bs)[bs.length / 8]? = some (packAt bs (bs.length / 8) : Int) := by
  unfold grow
  split
  · rename_i h
    have hz : packAt bs (bs.length / 8) = 0 := by
      have h1 := packAt_low bs
      have h2 := packAt_lt bs (bs.length / 8)
      rw [h] at h1
      simp at h1
      omega
    rw [hz, List.getElem?_append_right (by rw [pack_len]; omega), show bs.length / 8 - (pack bs).length = 0 from by rw [pack_len]; omega]
    rfl
  · rw [getElem?_pack, if_pos (by omega)]
theorem pack_snoc (bs : List Bool) (b : Bool) : pack (bs ++ [b]) = (grow bs).set (bs.length / 8) ((packAt bs (bs.length / 8) + if b = true then 2 ^ (7 - bs.length % 8) else 0 : Nat) : Int) := by
  apply List.ext_getElem?
  intro k
  rw [getElem?_pack, packAt_snoc, List.length_append, List.length_singleton]
  by_cases hk : bs.length / 8 = k
  · subst hk
    rw [List.getElem?_set_self (by rw [grow_len]; omega), if_pos (by omega)]
    simp
  · rw [List.getElem?_set_ne hk, if_neg (fun e : bs.length / 8 = k ∧ b = true => hk e.1)]
    by_cases h8 : bs.length % 8 = 0
    · rw [grow, if_pos h8]
      rcases Nat.lt_or_ge k (pack bs).length with h | h
      · rw [List.getElem?_append_left h, getElem?_pack]
        rw [pack_len] at h
        rw [if_pos (by omega), if_pos h]; simp
      · rw [List.getElem?_append_right h]
        rw [pack_len] at h ⊢
        rw [if_neg (by omega), List.getElem?_eq_none (by simp; omega)]
    · rw [grow, if_neg h8, getElem?_pack]
      by_cases h : k < (bs.length + 7) / 8
      · rw [if_pos h, if_pos (by omega)]; simp
      · rw [if_neg h, if_neg (by omega)]
theorem or_byte : ∀ (x : Fin 256) (r : Fin 8), (x : Nat) % 2 ^ (7 - (r : Nat) + 1) = 0 → bits .or .u8 ((x : Nat) : Int) (128 / 2 ^ (r : Nat)) = ((x + 2 ^ (7 - (r : Nat)) : Nat) : Int) := by decide +kernel

attribute [local irreducible] OJ J HdJ Code.wpIn wpListIn Oper.wpIn bodyPost CallsIn Does
set_option maxRecDepth 4000
set_option maxHeartbeats 1000000 in
theorem bit_any (g c : Nat) (A : Option Addr) (bs : List Bool) (b : Bool) (w : World) (hown : Own (Wr g A c bs) w) (hm : bs.length < 1000000000) :
    Does Tryz.prog 144 [.pointer (some ⟨g, 0, none⟩), .bool b] (Wr g A c bs) w (fun v S' => v = .tuple #[] ∧ ∃ A' c', S' = Wr g A' c' (bs ++ [b])) := by
  have hpl := pack_len bs
  refine does_of Tryz.func144 rfl Tryz.ntmps144 rfl hown (fun n => ?_)
  simp only [slots]
  refine z_go2
  refine c_seam (X := Option Addr × Nat) (fun _ => True) (fun _ => [(0, .pointer (some ⟨g, 0, none⟩)), (1, .bool b)])
    (fun x => [.blk g 199 [.slice x.1 (grow bs).length x.2, .int .i64 bs.length], .row (.slice x.1 (grow bs).length x.2) 5 1 (grow bs).length (ints .u8 (grow bs))]) ?_ ?_
  · refine c_cond rfl (fun h => ?_) (fun h => ?_)
    · have hg : grow bs = pack bs ++ [0] := if_pos (by have := beq_iff_eq.1 h; omega)
      refine z_go2
      rw [hg]
      exact c_at_seam (_, _) trivial ⟨rfl, rfl, trivial⟩ (.cons (Has.there _ (Has.here _ _)) (.cons (Has.there _ (Has.here _ _)) (.nil _)))
    · have hg : grow bs = pack bs := if_neg (by have := beq_eq_false_iff_ne.1 h; omega)
      refine z_go2
      rw [hg]
      exact c_at_seam (A, c) trivial ⟨rfl, rfl, trivial⟩ (Sub.refl _)
  · rintro ⟨A1, c1⟩ -
    have hgl := grow_len bs
    have hga := grow_at bs
    have hps := pack_snoc bs b
    simp only
    refine z_go2
    refine c_cond rfl (fun h => ?_) (fun h => ?_)
    · subst h
      refine j_opn (A := A1) (m := (grow bs).length) (cc := c1) (by omega) ?_
      rintro g1 rfl
      refine z_go2
      have hr := or_byte ⟨packAt bs (bs.length / 8), packAt_lt _ _⟩ ⟨bs.length % 8, by omega⟩ (packAt_low bs)
      have e0 : ((bs.length : Int) / 8).toNat = bs.length / 8 := by omega
      have e3 : ((bs.length : Int) % 8).toNat = bs.length % 8 := by omega
      have e1 : (pack (bs ++ [true])).length = (grow bs).length := by rw [hps, List.length_set]
      have e2 : pack (bs ++ [true]) = (grow bs).set (bs.length / 8) (bits .or .u8 ((grow bs).getD (bs.length / 8) 0) (128 / 2 ^ (bs.length % 8))) := by
        rw [List.getD_eq_getElem?_getD, hga, Option.getD_some, hr, hps]; simp
      refine j_outN (S' := Wr g (some ⟨g1, 0, none⟩) c1 (bs ++ [true])) rfl ?_ ⟨rfl, _, _, rfl⟩
      simp only [Wr, e0, e3, e1, List.length_append]
      rw [e2]
      exact Sub.refl _
    · subst h
      refine z_go2
      have e1 : pack (bs ++ [false]) = grow bs := by
        rw [hps]
        apply List.ext_getElem?
        intro k
        by_cases hk : bs.length / 8 = k
        · subst hk; rw [List.getElem?_set_self (by omega), hga]; simp
        · rw [List.getElem?_set_ne hk]
      refine j_outN (S' := Wr g A1 c1 (bs ++ [false])) rfl ?_ ⟨rfl, _, _, rfl⟩
      simp only [Wr, e1, List.length_append]
      exact Sub.refl _

set_option maxHeartbeats 1000000 in
theorem bytes_any (g c : Nat) (A : Option Addr) (bs : List Bool) (w : World) (hown : Own (Wr g A c bs) w) (hm : bs.length < 1000000000) :
    Does Tryz.prog 115 [.pointer (some ⟨g, 0, none⟩)] (Wr g A c bs) w
      (fun v S' => ∃ A' c', v = .slice A' (pack bs).length c' ∧ S' = .row (.slice A' (pack bs).length c') 5 1 (pack bs).length (ints .u8 (pack bs)) :: Wr g A c bs) := by
  have hpl := pack_len bs
  refine does_of Tryz.func115 rfl Tryz.ntmps115 rfl hown (fun n => ?_)
  simp only [slots]
  refine z_go2
  exact j_out1 rfl rfl (Sub.refl _) ⟨_, _, rfl, rfl⟩

set_option maxHeartbeats 1000000 in
theorem ones_any (g c : Nat) (A : Option Addr) (bs : List Bool) (m : Nat) (w : World) (hown : Own (Wr g A c bs) w) (hm : bs.length + m < 900000000) :
    Does Tryz.prog 147 [.pointer (some ⟨g, 0, none⟩), .int .i64 m] (Wr g A c bs) w (fun v S' => v = .tuple #[] ∧ ∃ A' c', S' = Wr g A' c' (bs ++ List.replicate m true ++ [false])) := by
  refine does_of Tryz.func147 rfl Tryz.ntmps147 rfl hown (fun n => ?_)
  simp only [slots]
  refine z_go2
  refine c_loop (X := Nat × Option Addr × Nat) (fun x => x.1 ≤ m) (fun x => [(0, .pointer (some ⟨g, 0, none⟩)), (4, .int .i64 m), (5, .int .i64 x.1)]) (fun x => Wr g x.2.1 x.2.2 (bs ++ List.replicate x.1 true)) (fun x => m - x.1) (0, A, c) (by simp) ⟨rfl, rfl, rfl, trivial⟩ ?_ ?_
  · simp only [List.replicate_zero, List.append_nil]; exact Sub.refl _
  rintro ⟨i, A1, c1⟩ hi
  simp only at hi ⊢
  refine z_go2
  refine c_cond rfl (fun h => ?_) (fun h => ?_)
  · have hlt : i < m := by simpa using h
    refine z_go2
    refine lfn rfl rfl (Split.cons (Has.here _ _) (Split.cons (Has.here _ _) (Split.nil _))) rfl (fun w hw ho => bit_any g c1 A1 _ true w ho (by simp; omega)) ?_
    rintro v S' ⟨rfl, A2, c2, rfl⟩
    refine z_go2
    refine c_round (i + 1, A2, c2) (by show i + 1 ≤ m; omega) (by show m - (i + 1) < m - i; omega) (by exact ⟨rfl, rfl, by simp [look], trivial⟩) ?_
    rw [List.append_assoc, show List.replicate i true ++ [true] = List.replicate (i + 1) true from by rw [List.replicate_succ']]
    exact Sub.refl _
  · have hge : i = m := by simp at h; omega
    subst hge
    refine z_go2
    refine lfn rfl rfl (Split.cons (Has.here _ _) (Split.cons (Has.here _ _) (Split.nil _))) rfl (fun w hw ho => bit_any g c1 A1 _ false w ho (by simp; omega)) ?_
    rintro v S' ⟨rfl, A2, c2, rfl⟩
    refine z_go2
    exact j_outN rfl (Sub.refl _) ⟨rfl, A2, c2, rfl⟩
end Go.Proofs.YtemmnpgebpffbaaGreat
