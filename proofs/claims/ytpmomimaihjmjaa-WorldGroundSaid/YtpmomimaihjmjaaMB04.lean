
import Derived.Test.YtpmomimaihjmjaaMB03
set_option linter.unusedVariables false
set_option linter.unusedSimpArgs false
/- The facts on types and functions of this translation, as instances. Printed by a program of mine. -/
namespace Go.Proofs.Ytpmomimaihjmjaa
open Go
instance : Inf Try.prog 0 1 0 ((Go.Value.tuple #[])) := ⟨Try.t0, by kernel_rfl, rfl, rfl, rfl⟩
instance : Inf Try.prog 1 1 8 (Go.Value.nilFunc) := ⟨Try.t1, by kernel_rfl, rfl, rfl, rfl⟩
instance : Inf Try.prog 2 1 8 ((Go.Value.int Go.IntKind.i64 0)) := ⟨Try.t2, by kernel_rfl, rfl, rfl, rfl⟩
instance : Inf Try.prog 3 1 8 ((Go.Value.int Go.IntKind.i64 0)) := ⟨Try.t3, by kernel_rfl, rfl, rfl, rfl⟩
instance : Inf Try.prog 4 1 1 ((Go.Value.bool false)) := ⟨Try.t4, by kernel_rfl, rfl, rfl, rfl⟩
instance : Inf Try.prog 5 1 1 ((Go.Value.int Go.IntKind.u8 0)) := ⟨Try.t5, by kernel_rfl, rfl, rfl, rfl⟩
instance : Inf Try.prog 9 1 16 ((Go.Value.string { data := #[] })) := ⟨Try.t9, by kernel_rfl, rfl, rfl, rfl⟩
instance : Inf Try.prog 12 1 8 ((Go.Value.int Go.IntKind.u64 0)) := ⟨Try.t12, by kernel_rfl, rfl, rfl, rfl⟩
instance : Inf Try.prog 13 2 24 ((Go.Value.agg #[Go.Value.string { data := #[] }, Go.Value.int Go.IntKind.u64 0])) := ⟨Try.t13, by kernel_rfl, rfl, rfl, rfl⟩
instance : Inf Try.prog 20 1 16 (Go.Value.nilIface) := ⟨Try.t20, by kernel_rfl, rfl, rfl, rfl⟩
instance : Inf Try.prog 21 1 4 ((Go.Value.int Go.IntKind.i32 0)) := ⟨Try.t21, by kernel_rfl, rfl, rfl, rfl⟩
instance : Inf Try.prog 22 1 24 ((Go.Value.slice none 0 0)) := ⟨Try.t22, by kernel_rfl, rfl, rfl, rfl⟩
instance : Inf Try.prog 23 1 24 ((Go.Value.slice none 0 0)) := ⟨Try.t23, by kernel_rfl, rfl, rfl, rfl⟩
instance : Inf Try.prog 24 1 8 (Go.Value.nilFunc) := ⟨Try.t24, by kernel_rfl, rfl, rfl, rfl⟩
instance : Inf Try.prog 25 3 40 ((Go.Value.agg #[Go.Value.int Go.IntKind.i64 0, Go.Value.int Go.IntKind.i64 0, Go.Value.slice none 0 0])) := ⟨Try.t25, by kernel_rfl, rfl, rfl, rfl⟩
instance : Inf Try.prog 26 3 40 ((Go.Value.agg #[Go.Value.int Go.IntKind.i64 0, Go.Value.int Go.IntKind.i64 0, Go.Value.slice none 0 0])) := ⟨Try.t26, by kernel_rfl, rfl, rfl, rfl⟩
instance : Inf Try.prog 27 6 56 ((Go.Value.agg #[Go.Value.int Go.IntKind.i64 0, Go.Value.int Go.IntKind.i64 0, Go.Value.slice none 0 0, Go.Value.int Go.IntKind.i64 0, Go.Value.int Go.IntKind.i32 0, Go.Value.int Go.IntKind.i32 0])) := ⟨Try.t27, by kernel_rfl, rfl, rfl, rfl⟩
instance : Inf Try.prog 28 6 56 ((Go.Value.agg #[Go.Value.int Go.IntKind.i64 0, Go.Value.int Go.IntKind.i64 0, Go.Value.slice none 0 0, Go.Value.int Go.IntKind.i64 0, Go.Value.int Go.IntKind.i32 0, Go.Value.int Go.IntKind.i32 0])) := ⟨Try.t28, by kernel_rfl, rfl, rfl, rfl⟩
instance : Inf Try.prog 29 1 8 (Go.Value.nilFunc) := ⟨Try.t29, by kernel_rfl, rfl, rfl, rfl⟩
instance : Inf Try.prog 30 1 2 ((Go.Value.int Go.IntKind.u16 0)) := ⟨Try.t30, by kernel_rfl, rfl, rfl, rfl⟩
instance : Inf Try.prog 31 1 8 ((Go.Value.pointer none)) := ⟨Try.t31, by kernel_rfl, rfl, rfl, rfl⟩
instance : Inf Try.prog 32 1 8 (Go.Value.nilFunc) := ⟨Try.t32, by kernel_rfl, rfl, rfl, rfl⟩
instance : Inf Try.prog 33 1 8 (Go.Value.nilFunc) := ⟨Try.t33, by kernel_rfl, rfl, rfl, rfl⟩
instance : Inf Try.prog 34 1 2 ((Go.Value.int Go.IntKind.i16 0)) := ⟨Try.t34, by kernel_rfl, rfl, rfl, rfl⟩
instance : Inf Try.prog 35 1 8 ((Go.Value.int Go.IntKind.i64 0)) := ⟨Try.t35, by kernel_rfl, rfl, rfl, rfl⟩
instance : Inf Try.prog 36 1 0 ((Go.Value.tuple #[Go.Value.int Go.IntKind.i16 0, Go.Value.int Go.IntKind.i64 0])) := ⟨Try.t36, by kernel_rfl, rfl, rfl, rfl⟩
instance : Inf Try.prog 37 1 8 (Go.Value.nilFunc) := ⟨Try.t37, by kernel_rfl, rfl, rfl, rfl⟩
instance : Inf Try.prog 38 2 16 ((Go.Value.agg #[Go.Value.int Go.IntKind.i64 0, Go.Value.int Go.IntKind.i64 0])) := ⟨Try.t38, by kernel_rfl, rfl, rfl, rfl⟩
instance : Inf Try.prog 39 2 16 ((Go.Value.agg #[Go.Value.int Go.IntKind.i64 0, Go.Value.int Go.IntKind.i64 0])) := ⟨Try.t39, by kernel_rfl, rfl, rfl, rfl⟩
instance : Inf Try.prog 40 1 8 (Go.Value.nilFunc) := ⟨Try.t40, by kernel_rfl, rfl, rfl, rfl⟩
instance : Inf Try.prog 41 1 8 (Go.Value.nilFunc) := ⟨Try.t41, by kernel_rfl, rfl, rfl, rfl⟩
instance : Inf Try.prog 42 1 24 ((Go.Value.slice none 0 0)) := ⟨Try.t42, by kernel_rfl, rfl, rfl, rfl⟩
instance : Inf Try.prog 43 4 48 ((Go.Value.agg #[Go.Value.int Go.IntKind.i64 0, Go.Value.slice none 0 0, Go.Value.int Go.IntKind.i64 0, Go.Value.int Go.IntKind.i64 0])) := ⟨Try.t43, by kernel_rfl, rfl, rfl, rfl⟩
instance : Inf Try.prog 44 4 48 ((Go.Value.agg #[Go.Value.int Go.IntKind.i64 0, Go.Value.slice none 0 0, Go.Value.int Go.IntKind.i64 0, Go.Value.int Go.IntKind.i64 0])) := ⟨Try.t44, by kernel_rfl, rfl, rfl, rfl⟩
instance : Inf Try.prog 45 1 8 (Go.Value.nilFunc) := ⟨Try.t45, by kernel_rfl, rfl, rfl, rfl⟩
instance : Inf Try.prog 46 1 8 (Go.Value.nilFunc) := ⟨Try.t46, by kernel_rfl, rfl, rfl, rfl⟩
instance : Inf Try.prog 47 1 0 ((Go.Value.tuple #[Go.Value.int Go.IntKind.i64 0, Go.Value.int Go.IntKind.i64 0])) := ⟨Try.t47, by kernel_rfl, rfl, rfl, rfl⟩
instance : Inf Try.prog 48 1 8 (Go.Value.nilFunc) := ⟨Try.t48, by kernel_rfl, rfl, rfl, rfl⟩
instance : Inf Try.prog 49 1 8 (Go.Value.nilFunc) := ⟨Try.t49, by kernel_rfl, rfl, rfl, rfl⟩
instance : Inf Try.prog 50 1 8 (Go.Value.nilFunc) := ⟨Try.t50, by kernel_rfl, rfl, rfl, rfl⟩
instance : Inf Try.prog 51 1 8 (Go.Value.nilFunc) := ⟨Try.t51, by kernel_rfl, rfl, rfl, rfl⟩
instance : Inf Try.prog 52 1 24 ((Go.Value.slice none 0 0)) := ⟨Try.t52, by kernel_rfl, rfl, rfl, rfl⟩
instance : Inf Try.prog 53 1 0 ((Go.Value.tuple #[Go.Value.slice none 0 0, Go.Value.int Go.IntKind.i64 0])) := ⟨Try.t53, by kernel_rfl, rfl, rfl, rfl⟩
instance : Inf Try.prog 54 1 8 (Go.Value.nilFunc) := ⟨Try.t54, by kernel_rfl, rfl, rfl, rfl⟩
instance : Inf Try.prog 55 1 0 ((Go.Value.tuple #[Go.Value.pointer none, Go.Value.int Go.IntKind.i64 0])) := ⟨Try.t55, by kernel_rfl, rfl, rfl, rfl⟩
instance : Inf Try.prog 56 1 8 (Go.Value.nilFunc) := ⟨Try.t56, by kernel_rfl, rfl, rfl, rfl⟩
instance : Inf Try.prog 57 1 0 ((Go.Value.tuple #[Go.Value.agg #[Go.Value.int Go.IntKind.i64 0, Go.Value.int Go.IntKind.i64 0, Go.Value.slice none 0 0, Go.Value.int Go.IntKind.i64 0, Go.Value.int Go.IntKind.i32 0, Go.Value.int Go.IntKind.i32 0], Go.Value.int Go.IntKind.i64 0])) := ⟨Try.t57, by kernel_rfl, rfl, rfl, rfl⟩
instance : Inf Try.prog 58 1 8 (Go.Value.nilFunc) := ⟨Try.t58, by kernel_rfl, rfl, rfl, rfl⟩
instance : Inf Try.prog 59 1 8 (Go.Value.nilFunc) := ⟨Try.t59, by kernel_rfl, rfl, rfl, rfl⟩
instance : Inf Try.prog 60 2 16 ((Go.Value.agg #[Go.Value.int Go.IntKind.i64 0, Go.Value.int Go.IntKind.i64 0])) := ⟨Try.t60, by kernel_rfl, rfl, rfl, rfl⟩
instance : Inf Try.prog 61 2 16 ((Go.Value.agg #[Go.Value.int Go.IntKind.i64 0, Go.Value.int Go.IntKind.i64 0])) := ⟨Try.t61, by kernel_rfl, rfl, rfl, rfl⟩
instance : Inf Try.prog 62 1 24 ((Go.Value.slice none 0 0)) := ⟨Try.t62, by kernel_rfl, rfl, rfl, rfl⟩
instance : Inf Try.prog 63 1 8 ((Go.Value.pointer none)) := ⟨Try.t63, by kernel_rfl, rfl, rfl, rfl⟩
instance : Inf Try.prog 64 1 0 ((Go.Value.tuple #[Go.Value.pointer none, Go.Value.int Go.IntKind.i64 0])) := ⟨Try.t64, by kernel_rfl, rfl, rfl, rfl⟩
instance : Inf Try.prog 65 1 8 (Go.Value.nilFunc) := ⟨Try.t65, by kernel_rfl, rfl, rfl, rfl⟩
instance : Inf Try.prog 66 1 8 (Go.Value.nilFunc) := ⟨Try.t66, by kernel_rfl, rfl, rfl, rfl⟩
instance : Inf Try.prog 67 1 4 ((Go.Value.int Go.IntKind.u32 0)) := ⟨Try.t67, by kernel_rfl, rfl, rfl, rfl⟩
instance : Inf Try.prog 68 6 48 ((Go.Value.agg #[Go.Value.int Go.IntKind.i64 0, Go.Value.int Go.IntKind.i64 0, Go.Value.int Go.IntKind.i64 0, Go.Value.int Go.IntKind.i64 0, Go.Value.int Go.IntKind.u32 0, Go.Value.int Go.IntKind.i64 0])) := ⟨Try.t68, by kernel_rfl, rfl, rfl, rfl⟩
instance : Inf Try.prog 69 6 48 ((Go.Value.agg #[Go.Value.int Go.IntKind.i64 0, Go.Value.int Go.IntKind.i64 0, Go.Value.int Go.IntKind.i64 0, Go.Value.int Go.IntKind.i64 0, Go.Value.int Go.IntKind.u32 0, Go.Value.int Go.IntKind.i64 0])) := ⟨Try.t69, by kernel_rfl, rfl, rfl, rfl⟩
instance : Inf Try.prog 70 1 8 (Go.Value.nilFunc) := ⟨Try.t70, by kernel_rfl, rfl, rfl, rfl⟩
instance : Inf Try.prog 71 1 24 ((Go.Value.slice none 0 0)) := ⟨Try.t71, by kernel_rfl, rfl, rfl, rfl⟩
instance : Inf Try.prog 72 1 0 ((Go.Value.tuple #[Go.Value.slice none 0 0, Go.Value.int Go.IntKind.i64 0])) := ⟨Try.t72, by kernel_rfl, rfl, rfl, rfl⟩
instance : Inf Try.prog 73 1 8 (Go.Value.nilFunc) := ⟨Try.t73, by kernel_rfl, rfl, rfl, rfl⟩
instance : Inf Try.prog 74 4 32 ((Go.Value.agg #[Go.Value.int Go.IntKind.i64 0, Go.Value.int Go.IntKind.i64 0, Go.Value.int Go.IntKind.i64 0, Go.Value.int Go.IntKind.u32 0])) := ⟨Try.t74, by kernel_rfl, rfl, rfl, rfl⟩
instance : Inf Try.prog 75 4 32 ((Go.Value.agg #[Go.Value.int Go.IntKind.i64 0, Go.Value.int Go.IntKind.i64 0, Go.Value.int Go.IntKind.i64 0, Go.Value.int Go.IntKind.u32 0])) := ⟨Try.t75, by kernel_rfl, rfl, rfl, rfl⟩
instance : Inf Try.prog 76 1 0 ((Go.Value.tuple #[Go.Value.agg #[Go.Value.int Go.IntKind.i64 0, Go.Value.int Go.IntKind.i64 0, Go.Value.int Go.IntKind.i64 0, Go.Value.int Go.IntKind.i64 0, Go.Value.int Go.IntKind.u32 0, Go.Value.int Go.IntKind.i64 0], Go.Value.slice none 0 0, Go.Value.int Go.IntKind.i64 0])) := ⟨Try.t76, by kernel_rfl, rfl, rfl, rfl⟩
instance : Inf Try.prog 77 1 8 (Go.Value.nilFunc) := ⟨Try.t77, by kernel_rfl, rfl, rfl, rfl⟩
instance : Inf Try.prog 78 1 0 ((Go.Value.tuple #[Go.Value.int Go.IntKind.u32 0, Go.Value.int Go.IntKind.i64 0])) := ⟨Try.t78, by kernel_rfl, rfl, rfl, rfl⟩
instance : Inf Try.prog 79 1 8 (Go.Value.nilFunc) := ⟨Try.t79, by kernel_rfl, rfl, rfl, rfl⟩
instance : Inf Try.prog 80 1 8 (Go.Value.nilFunc) := ⟨Try.t80, by kernel_rfl, rfl, rfl, rfl⟩
instance : Inf Try.prog 81 1 8 (Go.Value.nilFunc) := ⟨Try.t81, by kernel_rfl, rfl, rfl, rfl⟩
instance : Inf Try.prog 82 6 32 ((Go.Value.agg #[Go.Value.int Go.IntKind.i64 0, Go.Value.int Go.IntKind.u16 0, Go.Value.int Go.IntKind.u32 0, Go.Value.int Go.IntKind.i32 0, Go.Value.int Go.IntKind.i32 0, Go.Value.int Go.IntKind.i32 0])) := ⟨Try.t82, by kernel_rfl, rfl, rfl, rfl⟩
instance : Inf Try.prog 83 6 32 ((Go.Value.agg #[Go.Value.int Go.IntKind.i64 0, Go.Value.int Go.IntKind.u16 0, Go.Value.int Go.IntKind.u32 0, Go.Value.int Go.IntKind.i32 0, Go.Value.int Go.IntKind.i32 0, Go.Value.int Go.IntKind.i32 0])) := ⟨Try.t83, by kernel_rfl, rfl, rfl, rfl⟩
instance : Inf Try.prog 84 1 0 ((Go.Value.tuple #[Go.Value.int Go.IntKind.i64 0, Go.Value.bool false])) := ⟨Try.t84, by kernel_rfl, rfl, rfl, rfl⟩
instance : Inf Try.prog 85 1 8 (Go.Value.nilFunc) := ⟨Try.t85, by kernel_rfl, rfl, rfl, rfl⟩
instance : Inf Try.prog 86 1 0 ((Go.Value.tuple #[Go.Value.int Go.IntKind.i64 0, Go.Value.int Go.IntKind.i64 0])) := ⟨Try.t86, by kernel_rfl, rfl, rfl, rfl⟩
instance : Inf Try.prog 87 1 8 (Go.Value.nilFunc) := ⟨Try.t87, by kernel_rfl, rfl, rfl, rfl⟩
instance : Inf Try.prog 88 1 8 (Go.Value.nilFunc) := ⟨Try.t88, by kernel_rfl, rfl, rfl, rfl⟩
instance : Inf Try.prog 89 1 8 (Go.Value.nilFunc) := ⟨Try.t89, by kernel_rfl, rfl, rfl, rfl⟩
instance : Inf Try.prog 90 1 8 (Go.Value.nilFunc) := ⟨Try.t90, by kernel_rfl, rfl, rfl, rfl⟩
instance : Inf Try.prog 91 1 24 ((Go.Value.slice none 0 0)) := ⟨Try.t91, by kernel_rfl, rfl, rfl, rfl⟩
instance : Inf Try.prog 92 1 8 (Go.Value.nilFunc) := ⟨Try.t92, by kernel_rfl, rfl, rfl, rfl⟩
instance : Inf Try.prog 93 1 8 (Go.Value.nilFunc) := ⟨Try.t93, by kernel_rfl, rfl, rfl, rfl⟩
instance : Inf Try.prog 94 1 8 (Go.Value.nilFunc) := ⟨Try.t94, by kernel_rfl, rfl, rfl, rfl⟩
instance : Inf Try.prog 95 1 8 (Go.Value.nilFunc) := ⟨Try.t95, by kernel_rfl, rfl, rfl, rfl⟩
instance : Inf Try.prog 96 1 8 (Go.Value.nilFunc) := ⟨Try.t96, by kernel_rfl, rfl, rfl, rfl⟩
instance : Inf Try.prog 97 1 8 (Go.Value.nilFunc) := ⟨Try.t97, by kernel_rfl, rfl, rfl, rfl⟩
instance : Inf Try.prog 98 1 8 (Go.Value.nilFunc) := ⟨Try.t98, by kernel_rfl, rfl, rfl, rfl⟩
instance : Inf Try.prog 99 1 8 (Go.Value.nilFunc) := ⟨Try.t99, by kernel_rfl, rfl, rfl, rfl⟩
instance : Inf Try.prog 100 1 0 ((Go.Value.tuple #[Go.Value.int Go.IntKind.i64 0, Go.Value.int Go.IntKind.i64 0, Go.Value.int Go.IntKind.i64 0])) := ⟨Try.t100, by kernel_rfl, rfl, rfl, rfl⟩
instance : Inf Try.prog 101 1 8 (Go.Value.nilFunc) := ⟨Try.t101, by kernel_rfl, rfl, rfl, rfl⟩
instance : Inf Try.prog 102 1 8 (Go.Value.nilFunc) := ⟨Try.t102, by kernel_rfl, rfl, rfl, rfl⟩
instance : Inf Try.prog 103 1 8 (Go.Value.nilFunc) := ⟨Try.t103, by kernel_rfl, rfl, rfl, rfl⟩
instance : Inf Try.prog 104 1 1 ((Go.Value.int Go.IntKind.i8 0)) := ⟨Try.t104, by kernel_rfl, rfl, rfl, rfl⟩
instance : Inf Try.prog 105 1 0 ((Go.Value.tuple #[Go.Value.int Go.IntKind.i64 0, Go.Value.int Go.IntKind.i64 0])) := ⟨Try.t105, by kernel_rfl, rfl, rfl, rfl⟩
instance : Inf Try.prog 106 1 8 (Go.Value.nilFunc) := ⟨Try.t106, by kernel_rfl, rfl, rfl, rfl⟩
instance : Inf Try.prog 107 1 8 (Go.Value.nilFunc) := ⟨Try.t107, by kernel_rfl, rfl, rfl, rfl⟩
instance : Inf Try.prog 108 1 8 (Go.Value.nilFunc) := ⟨Try.t108, by kernel_rfl, rfl, rfl, rfl⟩
instance : Inf Try.prog 109 1 0 ((Go.Value.tuple #[Go.Value.agg #[Go.Value.int Go.IntKind.i64 0, Go.Value.int Go.IntKind.i64 0], Go.Value.bool false])) := ⟨Try.t109, by kernel_rfl, rfl, rfl, rfl⟩
instance : Inf Try.prog 110 1 8 (Go.Value.nilFunc) := ⟨Try.t110, by kernel_rfl, rfl, rfl, rfl⟩
instance : Inf Try.prog 111 1 8 (Go.Value.nilFunc) := ⟨Try.t111, by kernel_rfl, rfl, rfl, rfl⟩
instance : Inf Try.prog 112 1 0 ((Go.Value.tuple #[Go.Value.int Go.IntKind.i64 0, Go.Value.int Go.IntKind.i64 0, Go.Value.bool false])) := ⟨Try.t112, by kernel_rfl, rfl, rfl, rfl⟩
instance : Inf Try.prog 113 1 8 (Go.Value.nilFunc) := ⟨Try.t113, by kernel_rfl, rfl, rfl, rfl⟩
instance : Inf Try.prog 114 1 8 (Go.Value.nilFunc) := ⟨Try.t114, by kernel_rfl, rfl, rfl, rfl⟩
instance : Inf Try.prog 115 4 32 ((Go.Value.agg #[Go.Value.int Go.IntKind.u32 0, Go.Value.int Go.IntKind.i64 0, Go.Value.int Go.IntKind.i64 0, Go.Value.int Go.IntKind.i64 0])) := ⟨Try.t115, by kernel_rfl, rfl, rfl, rfl⟩
instance : Inf Try.prog 116 4 32 ((Go.Value.agg #[Go.Value.int Go.IntKind.u32 0, Go.Value.int Go.IntKind.i64 0, Go.Value.int Go.IntKind.i64 0, Go.Value.int Go.IntKind.i64 0])) := ⟨Try.t116, by kernel_rfl, rfl, rfl, rfl⟩
instance : Inf Try.prog 117 7 56 ((Go.Value.agg #[Go.Value.int Go.IntKind.i64 0, Go.Value.int Go.IntKind.i64 0, Go.Value.int Go.IntKind.i64 0, Go.Value.int Go.IntKind.i64 0, Go.Value.int Go.IntKind.i64 0, Go.Value.int Go.IntKind.i64 0, Go.Value.int Go.IntKind.i64 0])) := ⟨Try.t117, by kernel_rfl, rfl, rfl, rfl⟩
instance : Inf Try.prog 118 20 136 ((Go.Value.agg #[Go.Value.int Go.IntKind.u32 0, Go.Value.int Go.IntKind.i64 0, Go.Value.int Go.IntKind.i64 0, Go.Value.int Go.IntKind.i64 0, Go.Value.bool false, Go.Value.int Go.IntKind.u16 0, Go.Value.int Go.IntKind.u32 0, Go.Value.int Go.IntKind.i64 0, Go.Value.int Go.IntKind.u32 0, Go.Value.bool false, Go.Value.int Go.IntKind.i64 0, Go.Value.bool false, Go.Value.int Go.IntKind.i64 0, Go.Value.int Go.IntKind.i64 0, Go.Value.int Go.IntKind.i64 0, Go.Value.int Go.IntKind.i64 0, Go.Value.int Go.IntKind.i64 0, Go.Value.int Go.IntKind.i64 0, Go.Value.int Go.IntKind.i64 0, Go.Value.int Go.IntKind.i64 0])) := ⟨Try.t118, by kernel_rfl, rfl, rfl, rfl⟩
instance : Inf Try.prog 119 20 136 ((Go.Value.agg #[Go.Value.int Go.IntKind.u32 0, Go.Value.int Go.IntKind.i64 0, Go.Value.int Go.IntKind.i64 0, Go.Value.int Go.IntKind.i64 0, Go.Value.bool false, Go.Value.int Go.IntKind.u16 0, Go.Value.int Go.IntKind.u32 0, Go.Value.int Go.IntKind.i64 0, Go.Value.int Go.IntKind.u32 0, Go.Value.bool false, Go.Value.int Go.IntKind.i64 0, Go.Value.bool false, Go.Value.int Go.IntKind.i64 0, Go.Value.int Go.IntKind.i64 0, Go.Value.int Go.IntKind.i64 0, Go.Value.int Go.IntKind.i64 0, Go.Value.int Go.IntKind.i64 0, Go.Value.int Go.IntKind.i64 0, Go.Value.int Go.IntKind.i64 0, Go.Value.int Go.IntKind.i64 0])) := ⟨Try.t119, by kernel_rfl, rfl, rfl, rfl⟩
instance : Inf Try.prog 120 1 0 ((Go.Value.tuple #[Go.Value.agg #[Go.Value.int Go.IntKind.u32 0, Go.Value.int Go.IntKind.i64 0, Go.Value.int Go.IntKind.i64 0, Go.Value.int Go.IntKind.i64 0, Go.Value.bool false, Go.Value.int Go.IntKind.u16 0, Go.Value.int Go.IntKind.u32 0, Go.Value.int Go.IntKind.i64 0, Go.Value.int Go.IntKind.u32 0, Go.Value.bool false, Go.Value.int Go.IntKind.i64 0, Go.Value.bool false, Go.Value.int Go.IntKind.i64 0, Go.Value.int Go.IntKind.i64 0, Go.Value.int Go.IntKind.i64 0, Go.Value.int Go.IntKind.i64 0, Go.Value.int Go.IntKind.i64 0, Go.Value.int Go.IntKind.i64 0, Go.Value.int Go.IntKind.i64 0, Go.Value.int Go.IntKind.i64 0], Go.Value.int Go.IntKind.i64 0])) := ⟨Try.t120, by kernel_rfl, rfl, rfl, rfl⟩
instance : Inf Try.prog 121 1 8 (Go.Value.nilFunc) := ⟨Try.t121, by kernel_rfl, rfl, rfl, rfl⟩
instance : Inf Try.prog 122 1 0 ((Go.Value.tuple #[Go.Value.int Go.IntKind.i64 0, Go.Value.int Go.IntKind.i64 0, Go.Value.bool false])) := ⟨Try.t122, by kernel_rfl, rfl, rfl, rfl⟩
instance : Inf Try.prog 123 1 8 (Go.Value.nilFunc) := ⟨Try.t123, by kernel_rfl, rfl, rfl, rfl⟩
instance : Inf Try.prog 124 1 8 (Go.Value.nilFunc) := ⟨Try.t124, by kernel_rfl, rfl, rfl, rfl⟩
instance : Inf Try.prog 125 8 104 ((Go.Value.agg #[Go.Value.int Go.IntKind.i64 0, Go.Value.int Go.IntKind.i64 0, Go.Value.slice none 0 0, Go.Value.int Go.IntKind.i64 0, Go.Value.int Go.IntKind.i32 0, Go.Value.int Go.IntKind.i32 0, Go.Value.slice none 0 0, Go.Value.slice none 0 0])) := ⟨Try.t125, by kernel_rfl, rfl, rfl, rfl⟩
instance : Inf Try.prog 126 8 104 ((Go.Value.agg #[Go.Value.int Go.IntKind.i64 0, Go.Value.int Go.IntKind.i64 0, Go.Value.slice none 0 0, Go.Value.int Go.IntKind.i64 0, Go.Value.int Go.IntKind.i32 0, Go.Value.int Go.IntKind.i32 0, Go.Value.slice none 0 0, Go.Value.slice none 0 0])) := ⟨Try.t126, by kernel_rfl, rfl, rfl, rfl⟩
instance : Inf Try.prog 133 1 8 ((Go.Value.pointer none)) := ⟨Try.t133, by kernel_rfl, rfl, rfl, rfl⟩
instance : Inf Try.prog 134 1 8 (Go.Value.nilFunc) := ⟨Try.t134, by kernel_rfl, rfl, rfl, rfl⟩
instance : Inf Try.prog 135 1 8 (Go.Value.nilFunc) := ⟨Try.t135, by kernel_rfl, rfl, rfl, rfl⟩
instance : Inf Try.prog 136 1 8 (Go.Value.nilFunc) := ⟨Try.t136, by kernel_rfl, rfl, rfl, rfl⟩
instance : Inf Try.prog 137 1 8 (Go.Value.nilFunc) := ⟨Try.t137, by kernel_rfl, rfl, rfl, rfl⟩
instance : Inf Try.prog 138 1 24 ((Go.Value.slice none 0 0)) := ⟨Try.t138, by kernel_rfl, rfl, rfl, rfl⟩
instance : Inf Try.prog 139 1 8 (Go.Value.nilFunc) := ⟨Try.t139, by kernel_rfl, rfl, rfl, rfl⟩
instance : Inf Try.prog 140 2 16 ((Go.Value.agg #[Go.Value.int Go.IntKind.i64 0, Go.Value.int Go.IntKind.i64 0])) := ⟨Try.t140, by kernel_rfl, rfl, rfl, rfl⟩
instance : Inf Try.prog 141 1 0 ((Go.Value.tuple #[Go.Value.int Go.IntKind.i64 0, Go.Value.int Go.IntKind.i64 0, Go.Value.int Go.IntKind.i64 0, Go.Value.int Go.IntKind.i64 0])) := ⟨Try.t141, by kernel_rfl, rfl, rfl, rfl⟩
instance : Inf Try.prog 142 1 8 (Go.Value.nilFunc) := ⟨Try.t142, by kernel_rfl, rfl, rfl, rfl⟩
instance : Inf Try.prog 143 1 8 (Go.Value.nilFunc) := ⟨Try.t143, by kernel_rfl, rfl, rfl, rfl⟩
instance : Inf Try.prog 144 1 8 (Go.Value.nilFunc) := ⟨Try.t144, by kernel_rfl, rfl, rfl, rfl⟩
instance : Inf Try.prog 145 1 8 (Go.Value.nilFunc) := ⟨Try.t145, by kernel_rfl, rfl, rfl, rfl⟩
instance : Inf Try.prog 146 1 8 (Go.Value.nilFunc) := ⟨Try.t146, by kernel_rfl, rfl, rfl, rfl⟩
instance : Inf Try.prog 147 1 8 ((Go.Value.int Go.IntKind.u64 0)) := ⟨Try.t147, by kernel_rfl, rfl, rfl, rfl⟩
instance : Inf Try.prog 148 1 0 ((Go.Value.tuple #[Go.Value.agg #[Go.Value.int Go.IntKind.i64 0, Go.Value.int Go.IntKind.i64 0, Go.Value.slice none 0 0, Go.Value.int Go.IntKind.i64 0, Go.Value.int Go.IntKind.i32 0, Go.Value.int Go.IntKind.i32 0, Go.Value.slice none 0 0, Go.Value.slice none 0 0], Go.Value.int Go.IntKind.i64 0])) := ⟨Try.t148, by kernel_rfl, rfl, rfl, rfl⟩
instance : Inf Try.prog 149 1 8 (Go.Value.nilFunc) := ⟨Try.t149, by kernel_rfl, rfl, rfl, rfl⟩
instance : Inf Try.prog 150 1 0 ((Go.Value.tuple #[Go.Value.slice none 0 0, Go.Value.int Go.IntKind.i64 0])) := ⟨Try.t150, by kernel_rfl, rfl, rfl, rfl⟩
instance : Inf Try.prog 151 1 8 (Go.Value.nilFunc) := ⟨Try.t151, by kernel_rfl, rfl, rfl, rfl⟩
instance : Inf Try.prog 152 1 8 (Go.Value.nilFunc) := ⟨Try.t152, by kernel_rfl, rfl, rfl, rfl⟩
instance : Inf Try.prog 153 1 8 (Go.Value.nilFunc) := ⟨Try.t153, by kernel_rfl, rfl, rfl, rfl⟩
instance : Inf Try.prog 154 1 24 ((Go.Value.slice none 0 0)) := ⟨Try.t154, by kernel_rfl, rfl, rfl, rfl⟩
instance : Inf Try.prog 155 10 96 ((Go.Value.agg #[Go.Value.pointer none, Go.Value.int Go.IntKind.i64 0, Go.Value.int Go.IntKind.i64 0, Go.Value.int Go.IntKind.i64 0, Go.Value.int Go.IntKind.i64 0, Go.Value.int Go.IntKind.i64 0, Go.Value.int Go.IntKind.i64 0, Go.Value.int Go.IntKind.u32 0, Go.Value.int Go.IntKind.i64 0, Go.Value.slice none 0 0])) := ⟨Try.t155, by kernel_rfl, rfl, rfl, rfl⟩
instance : Inf Try.prog 156 10 96 ((Go.Value.agg #[Go.Value.pointer none, Go.Value.int Go.IntKind.i64 0, Go.Value.int Go.IntKind.i64 0, Go.Value.int Go.IntKind.i64 0, Go.Value.int Go.IntKind.i64 0, Go.Value.int Go.IntKind.i64 0, Go.Value.int Go.IntKind.i64 0, Go.Value.int Go.IntKind.u32 0, Go.Value.int Go.IntKind.i64 0, Go.Value.slice none 0 0])) := ⟨Try.t156, by kernel_rfl, rfl, rfl, rfl⟩
instance : Inf Try.prog 157 1 8 (Go.Value.nilFunc) := ⟨Try.t157, by kernel_rfl, rfl, rfl, rfl⟩
instance : Inf Try.prog 158 2 16 ((Go.Value.agg #[Go.Value.int Go.IntKind.i64 0, Go.Value.nilFunc])) := ⟨Try.t158, by kernel_rfl, rfl, rfl, rfl⟩
instance : Inf Try.prog 159 2 16 ((Go.Value.agg #[Go.Value.int Go.IntKind.i64 0, Go.Value.nilFunc])) := ⟨Try.t159, by kernel_rfl, rfl, rfl, rfl⟩
instance : Inf Try.prog 160 1 8 (Go.Value.nilFunc) := ⟨Try.t160, by kernel_rfl, rfl, rfl, rfl⟩
instance : Inf Try.prog 161 1 0 ((Go.Value.tuple #[Go.Value.agg #[Go.Value.int Go.IntKind.i64 0, Go.Value.int Go.IntKind.i64 0, Go.Value.int Go.IntKind.i64 0, Go.Value.int Go.IntKind.i64 0, Go.Value.int Go.IntKind.u32 0, Go.Value.int Go.IntKind.i64 0], Go.Value.agg #[Go.Value.int Go.IntKind.i64 0, Go.Value.int Go.IntKind.u16 0, Go.Value.int Go.IntKind.u32 0, Go.Value.int Go.IntKind.i32 0, Go.Value.int Go.IntKind.i32 0, Go.Value.int Go.IntKind.i32 0]])) := ⟨Try.t161, by kernel_rfl, rfl, rfl, rfl⟩
instance : Inf Try.prog 162 1 8 (Go.Value.nilFunc) := ⟨Try.t162, by kernel_rfl, rfl, rfl, rfl⟩
instance : Inf Try.prog 163 1 8 (Go.Value.nilFunc) := ⟨Try.t163, by kernel_rfl, rfl, rfl, rfl⟩
instance : Inf Try.prog 164 4 32 ((Go.Value.agg #[Go.Value.int Go.IntKind.i64 0, Go.Value.int Go.IntKind.i64 0, Go.Value.int Go.IntKind.i64 0, Go.Value.int Go.IntKind.i64 0])) := ⟨Try.t164, by kernel_rfl, rfl, rfl, rfl⟩
instance : Inf Try.prog 165 1 0 ((Go.Value.tuple #[Go.Value.agg #[Go.Value.int Go.IntKind.i64 0, Go.Value.int Go.IntKind.i64 0, Go.Value.int Go.IntKind.i64 0, Go.Value.int Go.IntKind.i64 0], Go.Value.int Go.IntKind.i64 0])) := ⟨Try.t165, by kernel_rfl, rfl, rfl, rfl⟩
instance : Inf Try.prog 166 1 8 (Go.Value.nilFunc) := ⟨Try.t166, by kernel_rfl, rfl, rfl, rfl⟩
instance : Inf Try.prog 167 1 0 ((Go.Value.tuple #[Go.Value.int Go.IntKind.i64 0, Go.Value.int Go.IntKind.i64 0, Go.Value.int Go.IntKind.i64 0, Go.Value.int Go.IntKind.i64 0])) := ⟨Try.t167, by kernel_rfl, rfl, rfl, rfl⟩
instance : Inf Try.prog 168 1 8 (Go.Value.nilFunc) := ⟨Try.t168, by kernel_rfl, rfl, rfl, rfl⟩
instance : Inf Try.prog 169 1 8 (Go.Value.nilFunc) := ⟨Try.t169, by kernel_rfl, rfl, rfl, rfl⟩
instance : Inf Try.prog 170 1 8 (Go.Value.nilFunc) := ⟨Try.t170, by kernel_rfl, rfl, rfl, rfl⟩
instance : Inf Try.prog 171 1 8 (Go.Value.nilFunc) := ⟨Try.t171, by kernel_rfl, rfl, rfl, rfl⟩
instance : Inf Try.prog 172 1 8 (Go.Value.nilFunc) := ⟨Try.t172, by kernel_rfl, rfl, rfl, rfl⟩
instance : Inf Try.prog 173 1 8 (Go.Value.nilFunc) := ⟨Try.t173, by kernel_rfl, rfl, rfl, rfl⟩
instance : Inf Try.prog 174 1 24 ((Go.Value.slice none 0 0)) := ⟨Try.t174, by kernel_rfl, rfl, rfl, rfl⟩
instance : Inf Try.prog 175 1 8 (Go.Value.nilFunc) := ⟨Try.t175, by kernel_rfl, rfl, rfl, rfl⟩
instance : Inf Try.prog 176 1 8 ((Go.Value.pointer none)) := ⟨Try.t176, by kernel_rfl, rfl, rfl, rfl⟩
instance : Inf Try.prog 177 1 8 (Go.Value.nilFunc) := ⟨Try.t177, by kernel_rfl, rfl, rfl, rfl⟩
instance : Inf Try.prog 178 1 8 (Go.Value.nilFunc) := ⟨Try.t178, by kernel_rfl, rfl, rfl, rfl⟩
instance : Inf Try.prog 179 1 8 (Go.Value.nilFunc) := ⟨Try.t179, by kernel_rfl, rfl, rfl, rfl⟩
instance : Inf Try.prog 180 1 8 (Go.Value.nilFunc) := ⟨Try.t180, by kernel_rfl, rfl, rfl, rfl⟩
instance : Inf Try.prog 181 2 32 ((Go.Value.agg #[Go.Value.slice none 0 0, Go.Value.int Go.IntKind.i64 0])) := ⟨Try.t181, by kernel_rfl, rfl, rfl, rfl⟩
instance : Inf Try.prog 182 2 32 ((Go.Value.agg #[Go.Value.slice none 0 0, Go.Value.int Go.IntKind.i64 0])) := ⟨Try.t182, by kernel_rfl, rfl, rfl, rfl⟩
instance : Inf Try.prog 183 1 24 ((Go.Value.slice none 0 0)) := ⟨Try.t183, by kernel_rfl, rfl, rfl, rfl⟩
instance : Inf Try.prog 184 1 8 (Go.Value.nilFunc) := ⟨Try.t184, by kernel_rfl, rfl, rfl, rfl⟩
instance : Inf Try.prog 185 1 8 (Go.Value.nilFunc) := ⟨Try.t185, by kernel_rfl, rfl, rfl, rfl⟩
instance : Inf Try.prog 186 1 8 ((Go.Value.pointer none)) := ⟨Try.t186, by kernel_rfl, rfl, rfl, rfl⟩
instance : Inf Try.prog 187 1 8 (Go.Value.nilFunc) := ⟨Try.t187, by kernel_rfl, rfl, rfl, rfl⟩
instance : Inf Try.prog 188 1 8 (Go.Value.nilFunc) := ⟨Try.t188, by kernel_rfl, rfl, rfl, rfl⟩
instance : Inf Try.prog 189 1 8 ((Go.Value.int Go.IntKind.u64 0)) := ⟨Try.t189, by kernel_rfl, rfl, rfl, rfl⟩
instance : Inf Try.prog 190 1 8 (Go.Value.nilFunc) := ⟨Try.t190, by kernel_rfl, rfl, rfl, rfl⟩
instance : Inf Try.prog 191 1 0 ((Go.Value.tuple #[Go.Value.slice none 0 0, Go.Value.bool false])) := ⟨Try.t191, by kernel_rfl, rfl, rfl, rfl⟩
instance : Inf Try.prog 192 1 8 (Go.Value.nilFunc) := ⟨Try.t192, by kernel_rfl, rfl, rfl, rfl⟩
instance : Inf Try.prog 193 1 8 (Go.Value.nilFunc) := ⟨Try.t193, by kernel_rfl, rfl, rfl, rfl⟩
instance : Inf Try.prog 194 1 8 (Go.Value.nilFunc) := ⟨Try.t194, by kernel_rfl, rfl, rfl, rfl⟩
instance : Inf Try.prog 195 2 16 ((Go.Value.agg #[Go.Value.int Go.IntKind.i64 0, Go.Value.int Go.IntKind.u64 0])) := ⟨Try.t195, by kernel_rfl, rfl, rfl, rfl⟩
instance : Inf Try.prog 196 2 16 ((Go.Value.agg #[Go.Value.int Go.IntKind.i64 0, Go.Value.int Go.IntKind.u64 0])) := ⟨Try.t196, by kernel_rfl, rfl, rfl, rfl⟩
instance : Inf Try.prog 197 1 8 (Go.Value.nilFunc) := ⟨Try.t197, by kernel_rfl, rfl, rfl, rfl⟩
instance : Inf Try.prog 198 1 8 (Go.Value.nilFunc) := ⟨Try.t198, by kernel_rfl, rfl, rfl, rfl⟩
instance : Inf Try.prog 199 1 8 (Go.Value.nilFunc) := ⟨Try.t199, by kernel_rfl, rfl, rfl, rfl⟩
instance : Inf Try.prog 200 1 8 (Go.Value.nilFunc) := ⟨Try.t200, by kernel_rfl, rfl, rfl, rfl⟩
instance : Inf Try.prog 201 1 8 (Go.Value.nilFunc) := ⟨Try.t201, by kernel_rfl, rfl, rfl, rfl⟩
instance : Inf Try.prog 202 1 8 (Go.Value.nilFunc) := ⟨Try.t202, by kernel_rfl, rfl, rfl, rfl⟩
instance : Inf Try.prog 203 1 8 (Go.Value.nilFunc) := ⟨Try.t203, by kernel_rfl, rfl, rfl, rfl⟩
instance : Inf Try.prog 204 1 8 (Go.Value.nilFunc) := ⟨Try.t204, by kernel_rfl, rfl, rfl, rfl⟩
instance : Inf Try.prog 205 1 8 (Go.Value.nilFunc) := ⟨Try.t205, by kernel_rfl, rfl, rfl, rfl⟩
instance : Inf Try.prog 206 1 8 (Go.Value.nilFunc) := ⟨Try.t206, by kernel_rfl, rfl, rfl, rfl⟩
instance : Inf Try.prog 207 1 8 (Go.Value.nilFunc) := ⟨Try.t207, by kernel_rfl, rfl, rfl, rfl⟩
instance : Inf Try.prog 208 1 0 ((Go.Value.tuple #[Go.Value.int Go.IntKind.u64 0, Go.Value.int Go.IntKind.i64 0])) := ⟨Try.t208, by kernel_rfl, rfl, rfl, rfl⟩
instance : Inf Try.prog 209 1 8 (Go.Value.nilFunc) := ⟨Try.t209, by kernel_rfl, rfl, rfl, rfl⟩
instance : Inf Try.prog 210 1 8 ((Go.Value.pointer none)) := ⟨Try.t210, by kernel_rfl, rfl, rfl, rfl⟩
instance : Inf Try.prog 211 1 8 (Go.Value.nilFunc) := ⟨Try.t211, by kernel_rfl, rfl, rfl, rfl⟩
instance : Inf Try.prog 212 1 0 ((Go.Value.tuple #[Go.Value.slice none 0 0, Go.Value.bool false])) := ⟨Try.t212, by kernel_rfl, rfl, rfl, rfl⟩
instance : Inf Try.prog 213 1 8 (Go.Value.nilFunc) := ⟨Try.t213, by kernel_rfl, rfl, rfl, rfl⟩
instance : Inf Try.prog 214 1 8 (Go.Value.nilFunc) := ⟨Try.t214, by kernel_rfl, rfl, rfl, rfl⟩
instance : Inf Try.prog 215 1 8 (Go.Value.nilFunc) := ⟨Try.t215, by kernel_rfl, rfl, rfl, rfl⟩
instance : Inf Try.prog 216 1 0 ((Go.Value.tuple #[Go.Value.int Go.IntKind.u64 0, Go.Value.int Go.IntKind.u64 0])) := ⟨Try.t216, by kernel_rfl, rfl, rfl, rfl⟩
instance : Inf Try.prog 217 1 8 (Go.Value.nilFunc) := ⟨Try.t217, by kernel_rfl, rfl, rfl, rfl⟩
instance : Inf Try.prog 218 1 8 (Go.Value.nilFunc) := ⟨Try.t218, by kernel_rfl, rfl, rfl, rfl⟩
instance : Inf Try.prog 219 1 8 (Go.Value.nilFunc) := ⟨Try.t219, by kernel_rfl, rfl, rfl, rfl⟩
instance : Inf Try.prog 220 1 8 (Go.Value.nilFunc) := ⟨Try.t220, by kernel_rfl, rfl, rfl, rfl⟩
instance : Inf Try.prog 221 1 8 (Go.Value.nilFunc) := ⟨Try.t221, by kernel_rfl, rfl, rfl, rfl⟩
instance : Inf Try.prog 222 1 8 (Go.Value.nilFunc) := ⟨Try.t222, by kernel_rfl, rfl, rfl, rfl⟩
instance : Inf Try.prog 223 1 8 (Go.Value.nilFunc) := ⟨Try.t223, by kernel_rfl, rfl, rfl, rfl⟩
instance : Inf Try.prog 224 1 8 (Go.Value.nilFunc) := ⟨Try.t224, by kernel_rfl, rfl, rfl, rfl⟩
instance : Inf Try.prog 225 1 8 (Go.Value.nilFunc) := ⟨Try.t225, by kernel_rfl, rfl, rfl, rfl⟩
instance : Inf Try.prog 226 3 40 ((Go.Value.agg #[Go.Value.slice none 0 0, Go.Value.int Go.IntKind.i64 0, Go.Value.bool false])) := ⟨Try.t226, by kernel_rfl, rfl, rfl, rfl⟩
instance : Inf Try.prog 227 3 40 ((Go.Value.agg #[Go.Value.slice none 0 0, Go.Value.int Go.IntKind.i64 0, Go.Value.bool false])) := ⟨Try.t227, by kernel_rfl, rfl, rfl, rfl⟩
instance : Inf Try.prog 228 1 8 (Go.Value.nilFunc) := ⟨Try.t228, by kernel_rfl, rfl, rfl, rfl⟩
instance : Inf Try.prog 229 1 0 ((Go.Value.tuple #[Go.Value.int Go.IntKind.u32 0, Go.Value.bool false])) := ⟨Try.t229, by kernel_rfl, rfl, rfl, rfl⟩
instance : Inf Try.prog 230 1 8 (Go.Value.nilFunc) := ⟨Try.t230, by kernel_rfl, rfl, rfl, rfl⟩
instance : Inf Try.prog 231 1 8 (Go.Value.nilFunc) := ⟨Try.t231, by kernel_rfl, rfl, rfl, rfl⟩
instance : Inf Try.prog 232 1 8 (Go.Value.nilFunc) := ⟨Try.t232, by kernel_rfl, rfl, rfl, rfl⟩
instance : Inf Try.prog 233 1 16 (Go.Value.nilIface) := ⟨Try.t233, by kernel_rfl, rfl, rfl, rfl⟩
instance : Inf Try.prog 234 1 16 (Go.Value.nilIface) := ⟨Try.t234, by kernel_rfl, rfl, rfl, rfl⟩
instance : Inf Try.prog 235 1 8 (Go.Value.nilFunc) := ⟨Try.t235, by kernel_rfl, rfl, rfl, rfl⟩
instance : Inf Try.prog 243 1 8 (Go.Value.nilFunc) := ⟨Try.t243, by kernel_rfl, rfl, rfl, rfl⟩
instance : Inf Try.prog 244 1 8 ((Go.Value.pointer none)) := ⟨Try.t244, by kernel_rfl, rfl, rfl, rfl⟩
instance : Inf Try.prog 249 1 8 ((Go.Value.pointer none)) := ⟨Try.t249, by kernel_rfl, rfl, rfl, rfl⟩
instance : Und Try.prog 0 (Try.t0.desc) := ⟨Try.underlying0⟩
instance : Und Try.prog 1 (Try.t1.desc) := ⟨Try.underlying1⟩
instance : Und Try.prog 2 (Go.TypeDesc.int Go.IntKind.i64) := ⟨Try.underlying2⟩
instance : Und Try.prog 3 (Go.TypeDesc.int Go.IntKind.i64) := ⟨Try.underlying3⟩
instance : Und Try.prog 4 .bool := ⟨Try.underlying4⟩
instance : Und Try.prog 5 (Go.TypeDesc.int Go.IntKind.u8) := ⟨Try.underlying5⟩
instance : Und Try.prog 9 .string := ⟨Try.underlying9⟩
instance : Und Try.prog 12 (Go.TypeDesc.int Go.IntKind.u64) := ⟨Try.underlying12⟩
instance : Und Try.prog 13 (Try.t13.desc) := ⟨Try.underlying13⟩
instance : YesAgg (Try.t13.desc) := ⟨by kernel_rfl⟩
instance : Und Try.prog 20 (Try.t20.desc) := ⟨Try.underlying20⟩
instance : Und Try.prog 21 (Go.TypeDesc.int Go.IntKind.i32) := ⟨Try.underlying21⟩
instance : Und Try.prog 22 (Go.TypeDesc.slice 34) := ⟨Try.underlying22⟩
instance : Und Try.prog 23 (Go.TypeDesc.slice 39) := ⟨Try.underlying23⟩
instance : Und Try.prog 24 (Try.t24.desc) := ⟨Try.underlying24⟩
instance : Und Try.prog 25 (Try.t25.desc) := ⟨Try.underlying25⟩
instance : YesAgg (Try.t25.desc) := ⟨by kernel_rfl⟩
instance : Und Try.prog 26 (Try.t25.desc) := ⟨Try.underlying26⟩
instance : Und Try.prog 27 (Try.t27.desc) := ⟨Try.underlying27⟩
instance : YesAgg (Try.t27.desc) := ⟨by kernel_rfl⟩
instance : Und Try.prog 28 (Try.t27.desc) := ⟨Try.underlying28⟩
instance : Und Try.prog 29 (Try.t29.desc) := ⟨Try.underlying29⟩
instance : Und Try.prog 30 (Go.TypeDesc.int Go.IntKind.u16) := ⟨Try.underlying30⟩
instance : Und Try.prog 31 (Go.TypeDesc.pointer 132) := ⟨Try.underlying31⟩
instance : Und Try.prog 32 (Try.t32.desc) := ⟨Try.underlying32⟩
instance : Und Try.prog 33 (Try.t33.desc) := ⟨Try.underlying33⟩
instance : Und Try.prog 34 (Go.TypeDesc.int Go.IntKind.i16) := ⟨Try.underlying34⟩
instance : Und Try.prog 35 (Go.TypeDesc.int Go.IntKind.i64) := ⟨Try.underlying35⟩
instance : Und Try.prog 36 (Try.t36.desc) := ⟨Try.underlying36⟩
instance : Und Try.prog 37 (Try.t37.desc) := ⟨Try.underlying37⟩
instance : Und Try.prog 38 (Try.t38.desc) := ⟨Try.underlying38⟩
instance : YesAgg (Try.t38.desc) := ⟨by kernel_rfl⟩
instance : Und Try.prog 39 (Try.t38.desc) := ⟨Try.underlying39⟩
instance : Und Try.prog 40 (Try.t40.desc) := ⟨Try.underlying40⟩
instance : Und Try.prog 41 (Try.t41.desc) := ⟨Try.underlying41⟩
instance : Und Try.prog 42 (Go.TypeDesc.slice 3) := ⟨Try.underlying42⟩
instance : Und Try.prog 43 (Try.t43.desc) := ⟨Try.underlying43⟩
instance : YesAgg (Try.t43.desc) := ⟨by kernel_rfl⟩
instance : Und Try.prog 44 (Try.t43.desc) := ⟨Try.underlying44⟩
instance : Und Try.prog 45 (Try.t45.desc) := ⟨Try.underlying45⟩
instance : Und Try.prog 46 (Try.t46.desc) := ⟨Try.underlying46⟩
instance : Und Try.prog 47 (Try.t47.desc) := ⟨Try.underlying47⟩
instance : Und Try.prog 48 (Try.t48.desc) := ⟨Try.underlying48⟩
instance : Und Try.prog 49 (Try.t49.desc) := ⟨Try.underlying49⟩
instance : Und Try.prog 50 (Try.t50.desc) := ⟨Try.underlying50⟩
instance : Und Try.prog 51 (Try.t51.desc) := ⟨Try.underlying51⟩
instance : Und Try.prog 52 (Go.TypeDesc.slice 5) := ⟨Try.underlying52⟩
instance : Und Try.prog 53 (Try.t53.desc) := ⟨Try.underlying53⟩
instance : Und Try.prog 54 (Try.t54.desc) := ⟨Try.underlying54⟩
instance : Und Try.prog 55 (Try.t55.desc) := ⟨Try.underlying55⟩
instance : Und Try.prog 56 (Try.t56.desc) := ⟨Try.underlying56⟩
instance : Und Try.prog 57 (Try.t57.desc) := ⟨Try.underlying57⟩
instance : Und Try.prog 58 (Try.t58.desc) := ⟨Try.underlying58⟩
instance : Und Try.prog 59 (Try.t59.desc) := ⟨Try.underlying59⟩
instance : Und Try.prog 60 (Try.t60.desc) := ⟨Try.underlying60⟩
instance : YesAgg (Try.t60.desc) := ⟨by kernel_rfl⟩
instance : Und Try.prog 61 (Try.t60.desc) := ⟨Try.underlying61⟩
instance : Und Try.prog 62 (Go.TypeDesc.slice 75) := ⟨Try.underlying62⟩
instance : Und Try.prog 63 (Go.TypeDesc.pointer 156) := ⟨Try.underlying63⟩
instance : Und Try.prog 64 (Try.t64.desc) := ⟨Try.underlying64⟩
instance : Und Try.prog 65 (Try.t65.desc) := ⟨Try.underlying65⟩
instance : Und Try.prog 66 (Try.t66.desc) := ⟨Try.underlying66⟩
instance : Und Try.prog 67 (Go.TypeDesc.int Go.IntKind.u32) := ⟨Try.underlying67⟩
instance : Und Try.prog 68 (Try.t68.desc) := ⟨Try.underlying68⟩
instance : YesAgg (Try.t68.desc) := ⟨by kernel_rfl⟩
instance : Und Try.prog 69 (Try.t68.desc) := ⟨Try.underlying69⟩
instance : Und Try.prog 70 (Try.t70.desc) := ⟨Try.underlying70⟩
instance : Und Try.prog 71 (Go.TypeDesc.slice 83) := ⟨Try.underlying71⟩
instance : Und Try.prog 72 (Try.t72.desc) := ⟨Try.underlying72⟩
instance : Und Try.prog 73 (Try.t73.desc) := ⟨Try.underlying73⟩
instance : Und Try.prog 74 (Try.t74.desc) := ⟨Try.underlying74⟩
instance : YesAgg (Try.t74.desc) := ⟨by kernel_rfl⟩
instance : Und Try.prog 75 (Try.t74.desc) := ⟨Try.underlying75⟩
instance : Und Try.prog 76 (Try.t76.desc) := ⟨Try.underlying76⟩
instance : Und Try.prog 77 (Try.t77.desc) := ⟨Try.underlying77⟩
instance : Und Try.prog 78 (Try.t78.desc) := ⟨Try.underlying78⟩
instance : Und Try.prog 79 (Try.t79.desc) := ⟨Try.underlying79⟩
instance : Und Try.prog 80 (Try.t80.desc) := ⟨Try.underlying80⟩
instance : Und Try.prog 81 (Try.t81.desc) := ⟨Try.underlying81⟩
instance : Und Try.prog 82 (Try.t82.desc) := ⟨Try.underlying82⟩
instance : YesAgg (Try.t82.desc) := ⟨by kernel_rfl⟩
instance : Und Try.prog 83 (Try.t82.desc) := ⟨Try.underlying83⟩
instance : Und Try.prog 84 (Try.t84.desc) := ⟨Try.underlying84⟩
instance : Und Try.prog 85 (Try.t85.desc) := ⟨Try.underlying85⟩
instance : Und Try.prog 86 (Try.t86.desc) := ⟨Try.underlying86⟩
instance : Und Try.prog 87 (Try.t87.desc) := ⟨Try.underlying87⟩
instance : Und Try.prog 88 (Try.t88.desc) := ⟨Try.underlying88⟩
instance : Und Try.prog 89 (Try.t89.desc) := ⟨Try.underlying89⟩
instance : Und Try.prog 90 (Try.t90.desc) := ⟨Try.underlying90⟩
instance : Und Try.prog 91 (Go.TypeDesc.slice 61) := ⟨Try.underlying91⟩
instance : Und Try.prog 92 (Try.t92.desc) := ⟨Try.underlying92⟩
instance : Und Try.prog 93 (Try.t93.desc) := ⟨Try.underlying93⟩
instance : Und Try.prog 94 (Try.t94.desc) := ⟨Try.underlying94⟩
instance : Und Try.prog 95 (Try.t95.desc) := ⟨Try.underlying95⟩
instance : Und Try.prog 96 (Try.t96.desc) := ⟨Try.underlying96⟩
instance : Und Try.prog 97 (Try.t97.desc) := ⟨Try.underlying97⟩
instance : Und Try.prog 98 (Try.t98.desc) := ⟨Try.underlying98⟩
instance : Und Try.prog 99 (Try.t99.desc) := ⟨Try.underlying99⟩
instance : Und Try.prog 100 (Try.t100.desc) := ⟨Try.underlying100⟩
instance : Und Try.prog 101 (Try.t101.desc) := ⟨Try.underlying101⟩
instance : Und Try.prog 102 (Try.t102.desc) := ⟨Try.underlying102⟩
instance : Und Try.prog 103 (Try.t103.desc) := ⟨Try.underlying103⟩
instance : Und Try.prog 104 (Go.TypeDesc.int Go.IntKind.i8) := ⟨Try.underlying104⟩
instance : Und Try.prog 105 (Try.t105.desc) := ⟨Try.underlying105⟩
instance : Und Try.prog 106 (Try.t106.desc) := ⟨Try.underlying106⟩
instance : Und Try.prog 107 (Try.t107.desc) := ⟨Try.underlying107⟩
instance : Und Try.prog 108 (Try.t108.desc) := ⟨Try.underlying108⟩
instance : Und Try.prog 109 (Try.t109.desc) := ⟨Try.underlying109⟩
instance : Und Try.prog 110 (Try.t110.desc) := ⟨Try.underlying110⟩
instance : Und Try.prog 111 (Try.t111.desc) := ⟨Try.underlying111⟩
instance : Und Try.prog 112 (Try.t112.desc) := ⟨Try.underlying112⟩
instance : Und Try.prog 113 (Try.t113.desc) := ⟨Try.underlying113⟩
instance : Und Try.prog 114 (Try.t114.desc) := ⟨Try.underlying114⟩
instance : Und Try.prog 115 (Try.t115.desc) := ⟨Try.underlying115⟩
instance : YesAgg (Try.t115.desc) := ⟨by kernel_rfl⟩
instance : Und Try.prog 116 (Try.t115.desc) := ⟨Try.underlying116⟩
instance : Und Try.prog 117 (Go.TypeDesc.array 7 3) := ⟨Try.underlying117⟩
instance : Und Try.prog 118 (Try.t118.desc) := ⟨Try.underlying118⟩
instance : YesAgg (Try.t118.desc) := ⟨by kernel_rfl⟩
instance : Und Try.prog 119 (Try.t118.desc) := ⟨Try.underlying119⟩
instance : Und Try.prog 120 (Try.t120.desc) := ⟨Try.underlying120⟩
instance : Und Try.prog 121 (Try.t121.desc) := ⟨Try.underlying121⟩
instance : Und Try.prog 122 (Try.t122.desc) := ⟨Try.underlying122⟩
instance : Und Try.prog 123 (Try.t123.desc) := ⟨Try.underlying123⟩
instance : Und Try.prog 124 (Try.t124.desc) := ⟨Try.underlying124⟩
instance : Und Try.prog 125 (Try.t125.desc) := ⟨Try.underlying125⟩
instance : YesAgg (Try.t125.desc) := ⟨by kernel_rfl⟩
instance : Und Try.prog 126 (Try.t125.desc) := ⟨Try.underlying126⟩
instance : Und Try.prog 127 (Go.TypeDesc.array 256 34) := ⟨Try.underlying127⟩
instance : Und Try.prog 128 (Try.t128.desc) := ⟨Try.underlying128⟩
instance : YesAgg (Try.t128.desc) := ⟨by kernel_rfl⟩
instance : Und Try.prog 129 (Try.t128.desc) := ⟨Try.underlying129⟩
instance : Und Try.prog 130 (Go.TypeDesc.array 32 129) := ⟨Try.underlying130⟩
instance : Und Try.prog 131 (Try.t131.desc) := ⟨Try.underlying131⟩
instance : YesAgg (Try.t131.desc) := ⟨by kernel_rfl⟩
instance : Und Try.prog 132 (Try.t131.desc) := ⟨Try.underlying132⟩
instance : Und Try.prog 133 (Go.TypeDesc.pointer 129) := ⟨Try.underlying133⟩
instance : Und Try.prog 134 (Try.t134.desc) := ⟨Try.underlying134⟩
instance : Und Try.prog 135 (Try.t135.desc) := ⟨Try.underlying135⟩
instance : Und Try.prog 136 (Try.t136.desc) := ⟨Try.underlying136⟩
instance : Und Try.prog 137 (Try.t137.desc) := ⟨Try.underlying137⟩
instance : Und Try.prog 138 (Go.TypeDesc.slice 140) := ⟨Try.underlying138⟩
instance : Und Try.prog 139 (Try.t139.desc) := ⟨Try.underlying139⟩
instance : Und Try.prog 140 (Try.t38.desc) := ⟨Try.underlying140⟩
instance : Und Try.prog 141 (Try.t141.desc) := ⟨Try.underlying141⟩
instance : Und Try.prog 142 (Try.t142.desc) := ⟨Try.underlying142⟩
instance : Und Try.prog 143 (Try.t143.desc) := ⟨Try.underlying143⟩
instance : Und Try.prog 144 (Try.t144.desc) := ⟨Try.underlying144⟩
instance : Und Try.prog 145 (Try.t145.desc) := ⟨Try.underlying145⟩
instance : Und Try.prog 146 (Try.t146.desc) := ⟨Try.underlying146⟩
instance : Und Try.prog 147 (Go.TypeDesc.int Go.IntKind.u64) := ⟨Try.underlying147⟩
instance : Und Try.prog 148 (Try.t148.desc) := ⟨Try.underlying148⟩
instance : Und Try.prog 149 (Try.t149.desc) := ⟨Try.underlying149⟩
instance : Und Try.prog 150 (Try.t150.desc) := ⟨Try.underlying150⟩
instance : Und Try.prog 151 (Try.t151.desc) := ⟨Try.underlying151⟩
instance : Und Try.prog 152 (Try.t152.desc) := ⟨Try.underlying152⟩
instance : Und Try.prog 153 (Try.t153.desc) := ⟨Try.underlying153⟩
instance : Und Try.prog 154 (Go.TypeDesc.slice 159) := ⟨Try.underlying154⟩
instance : Und Try.prog 155 (Try.t155.desc) := ⟨Try.underlying155⟩
instance : YesAgg (Try.t155.desc) := ⟨by kernel_rfl⟩
instance : Und Try.prog 156 (Try.t155.desc) := ⟨Try.underlying156⟩
instance : Und Try.prog 157 (Try.t157.desc) := ⟨Try.underlying157⟩
instance : Und Try.prog 158 (Try.t158.desc) := ⟨Try.underlying158⟩
instance : YesAgg (Try.t158.desc) := ⟨by kernel_rfl⟩
instance : Und Try.prog 159 (Try.t158.desc) := ⟨Try.underlying159⟩
instance : Und Try.prog 160 (Try.t160.desc) := ⟨Try.underlying160⟩
instance : Und Try.prog 161 (Try.t161.desc) := ⟨Try.underlying161⟩
instance : Und Try.prog 162 (Try.t162.desc) := ⟨Try.underlying162⟩
instance : Und Try.prog 163 (Try.t163.desc) := ⟨Try.underlying163⟩
instance : Und Try.prog 164 (Go.TypeDesc.array 4 2) := ⟨Try.underlying164⟩
instance : Und Try.prog 165 (Try.t165.desc) := ⟨Try.underlying165⟩
instance : Und Try.prog 166 (Try.t166.desc) := ⟨Try.underlying166⟩
instance : Und Try.prog 167 (Try.t167.desc) := ⟨Try.underlying167⟩
instance : Und Try.prog 168 (Try.t168.desc) := ⟨Try.underlying168⟩
instance : Und Try.prog 169 (Try.t169.desc) := ⟨Try.underlying169⟩
instance : Und Try.prog 170 (Try.t170.desc) := ⟨Try.underlying170⟩
instance : Und Try.prog 171 (Try.t171.desc) := ⟨Try.underlying171⟩
instance : Und Try.prog 172 (Try.t172.desc) := ⟨Try.underlying172⟩
instance : Und Try.prog 173 (Try.t173.desc) := ⟨Try.underlying173⟩
instance : Und Try.prog 174 (Go.TypeDesc.slice 2) := ⟨Try.underlying174⟩
instance : Und Try.prog 175 (Try.t175.desc) := ⟨Try.underlying175⟩
instance : Und Try.prog 176 (Go.TypeDesc.pointer 119) := ⟨Try.underlying176⟩
instance : Und Try.prog 177 (Try.t177.desc) := ⟨Try.underlying177⟩
instance : Und Try.prog 178 (Try.t178.desc) := ⟨Try.underlying178⟩
instance : Und Try.prog 179 (Try.t179.desc) := ⟨Try.underlying179⟩
instance : Und Try.prog 180 (Try.t180.desc) := ⟨Try.underlying180⟩
instance : Und Try.prog 181 (Try.t181.desc) := ⟨Try.underlying181⟩
instance : YesAgg (Try.t181.desc) := ⟨by kernel_rfl⟩
instance : Und Try.prog 182 (Try.t181.desc) := ⟨Try.underlying182⟩
instance : Und Try.prog 183 (Go.TypeDesc.slice 21) := ⟨Try.underlying183⟩
instance : Und Try.prog 184 (Try.t184.desc) := ⟨Try.underlying184⟩
instance : Und Try.prog 185 (Try.t185.desc) := ⟨Try.underlying185⟩
instance : Und Try.prog 186 (Go.TypeDesc.pointer 182) := ⟨Try.underlying186⟩
instance : Und Try.prog 187 (Try.t187.desc) := ⟨Try.underlying187⟩
instance : Und Try.prog 188 (Try.t188.desc) := ⟨Try.underlying188⟩
instance : Und Try.prog 189 (Go.TypeDesc.int Go.IntKind.u64) := ⟨Try.underlying189⟩
instance : Und Try.prog 190 (Try.t190.desc) := ⟨Try.underlying190⟩
instance : Und Try.prog 191 (Try.t191.desc) := ⟨Try.underlying191⟩
instance : Und Try.prog 192 (Try.t192.desc) := ⟨Try.underlying192⟩
instance : Und Try.prog 193 (Try.t193.desc) := ⟨Try.underlying193⟩
instance : Und Try.prog 194 (Try.t194.desc) := ⟨Try.underlying194⟩
instance : Und Try.prog 195 (Try.t195.desc) := ⟨Try.underlying195⟩
instance : YesAgg (Try.t195.desc) := ⟨by kernel_rfl⟩
instance : Und Try.prog 196 (Try.t195.desc) := ⟨Try.underlying196⟩
instance : Und Try.prog 197 (Try.t197.desc) := ⟨Try.underlying197⟩
instance : Und Try.prog 198 (Try.t198.desc) := ⟨Try.underlying198⟩
instance : Und Try.prog 199 (Try.t199.desc) := ⟨Try.underlying199⟩
instance : Und Try.prog 200 (Try.t200.desc) := ⟨Try.underlying200⟩
instance : Und Try.prog 201 (Try.t201.desc) := ⟨Try.underlying201⟩
instance : Und Try.prog 202 (Try.t202.desc) := ⟨Try.underlying202⟩
instance : Und Try.prog 203 (Try.t203.desc) := ⟨Try.underlying203⟩
instance : Und Try.prog 204 (Try.t203.desc) := ⟨Try.underlying204⟩
instance : Und Try.prog 205 (Try.t205.desc) := ⟨Try.underlying205⟩
instance : Und Try.prog 206 (Try.t206.desc) := ⟨Try.underlying206⟩
instance : Und Try.prog 207 (Try.t207.desc) := ⟨Try.underlying207⟩
instance : Und Try.prog 208 (Try.t208.desc) := ⟨Try.underlying208⟩
instance : Und Try.prog 209 (Try.t209.desc) := ⟨Try.underlying209⟩
instance : Und Try.prog 210 (Go.TypeDesc.pointer 227) := ⟨Try.underlying210⟩
instance : Und Try.prog 211 (Try.t211.desc) := ⟨Try.underlying211⟩
instance : Und Try.prog 212 (Try.t212.desc) := ⟨Try.underlying212⟩
instance : Und Try.prog 213 (Try.t213.desc) := ⟨Try.underlying213⟩
instance : Und Try.prog 214 (Try.t214.desc) := ⟨Try.underlying214⟩
instance : Und Try.prog 215 (Try.t215.desc) := ⟨Try.underlying215⟩
instance : Und Try.prog 216 (Try.t216.desc) := ⟨Try.underlying216⟩
instance : Und Try.prog 217 (Try.t217.desc) := ⟨Try.underlying217⟩
instance : Und Try.prog 218 (Try.t218.desc) := ⟨Try.underlying218⟩
instance : Und Try.prog 219 (Try.t219.desc) := ⟨Try.underlying219⟩
instance : Und Try.prog 220 (Try.t220.desc) := ⟨Try.underlying220⟩
instance : Und Try.prog 221 (Try.t221.desc) := ⟨Try.underlying221⟩
instance : Und Try.prog 222 (Try.t222.desc) := ⟨Try.underlying222⟩
instance : Und Try.prog 223 (Try.t223.desc) := ⟨Try.underlying223⟩
instance : Und Try.prog 224 (Try.t224.desc) := ⟨Try.underlying224⟩
instance : Und Try.prog 225 (Try.t225.desc) := ⟨Try.underlying225⟩
instance : Und Try.prog 226 (Try.t226.desc) := ⟨Try.underlying226⟩
instance : YesAgg (Try.t226.desc) := ⟨by kernel_rfl⟩
instance : Und Try.prog 227 (Try.t226.desc) := ⟨Try.underlying227⟩
instance : Und Try.prog 228 (Try.t228.desc) := ⟨Try.underlying228⟩
instance : Und Try.prog 229 (Try.t229.desc) := ⟨Try.underlying229⟩
instance : Und Try.prog 230 (Try.t230.desc) := ⟨Try.underlying230⟩
instance : Und Try.prog 231 (Try.t231.desc) := ⟨Try.underlying231⟩
instance : Und Try.prog 232 (Try.t232.desc) := ⟨Try.underlying232⟩
instance : Und Try.prog 233 (Try.t233.desc) := ⟨Try.underlying233⟩
instance : Und Try.prog 234 (Try.t233.desc) := ⟨Try.underlying234⟩
instance : Und Try.prog 235 (Try.t235.desc) := ⟨Try.underlying235⟩
instance : Und Try.prog 243 (Try.t243.desc) := ⟨Try.underlying243⟩
instance : Und Try.prog 244 (Go.TypeDesc.pointer 5) := ⟨Try.underlying244⟩
instance : Und Try.prog 249 (Try.t249.desc) := ⟨Try.underlying249⟩
instance : Pl Try.prog 13 [(0, 1), (1, 1)] := ⟨_, Try.underlying13, fun w => by kernel_rfl⟩
instance : Ff Try.prog 13 0 0 9 := ⟨_, _, Try.underlying13, rfl, rfl, rfl⟩
instance : Fa Try.prog 13 0 0 := ⟨_, _, Try.t9, Try.underlying13, rfl, by kernel_rfl, by decide, rfl⟩
instance : Ff Try.prog 13 1 1 12 := ⟨_, _, Try.underlying13, rfl, rfl, rfl⟩
instance : Fa Try.prog 13 1 1 := ⟨_, _, Try.t12, Try.underlying13, rfl, by kernel_rfl, by decide, rfl⟩
instance : Pl Try.prog 25 [(0, 1), (1, 1), (2, 1)] := ⟨_, Try.underlying25, fun w => by kernel_rfl⟩
instance : Ff Try.prog 25 0 0 3 := ⟨_, _, Try.underlying25, rfl, rfl, rfl⟩
instance : Fa Try.prog 25 0 0 := ⟨_, _, Try.t3, Try.underlying25, rfl, by kernel_rfl, by decide, rfl⟩
instance : Ff Try.prog 25 1 1 3 := ⟨_, _, Try.underlying25, rfl, rfl, rfl⟩
instance : Fa Try.prog 25 1 1 := ⟨_, _, Try.t3, Try.underlying25, rfl, by kernel_rfl, by decide, rfl⟩
instance : Ff Try.prog 25 2 2 22 := ⟨_, _, Try.underlying25, rfl, rfl, rfl⟩
instance : Fa Try.prog 25 2 2 := ⟨_, _, Try.t22, Try.underlying25, rfl, by kernel_rfl, by decide, rfl⟩
instance : Pl Try.prog 26 [(0, 1), (1, 1), (2, 1)] := ⟨_, Try.underlying26, fun w => by kernel_rfl⟩
instance : Ff Try.prog 26 0 0 3 := ⟨_, _, Try.underlying26, rfl, rfl, rfl⟩
instance : Fa Try.prog 26 0 0 := ⟨_, _, Try.t3, Try.underlying26, rfl, by kernel_rfl, by decide, rfl⟩
instance : Ff Try.prog 26 1 1 3 := ⟨_, _, Try.underlying26, rfl, rfl, rfl⟩
instance : Fa Try.prog 26 1 1 := ⟨_, _, Try.t3, Try.underlying26, rfl, by kernel_rfl, by decide, rfl⟩
instance : Ff Try.prog 26 2 2 22 := ⟨_, _, Try.underlying26, rfl, rfl, rfl⟩
instance : Fa Try.prog 26 2 2 := ⟨_, _, Try.t22, Try.underlying26, rfl, by kernel_rfl, by decide, rfl⟩
instance : Pl Try.prog 27 [(0, 3), (3, 1), (4, 1), (5, 1)] := ⟨_, Try.underlying27, fun w => by kernel_rfl⟩
instance : Ff Try.prog 27 0 0 26 := ⟨_, _, Try.underlying27, rfl, rfl, rfl⟩
instance : Fa Try.prog 27 0 0 := ⟨_, _, Try.t26, Try.underlying27, rfl, by kernel_rfl, by decide, rfl⟩
instance : Ff Try.prog 27 1 3 3 := ⟨_, _, Try.underlying27, rfl, rfl, rfl⟩
instance : Fa Try.prog 27 1 3 := ⟨_, _, Try.t3, Try.underlying27, rfl, by kernel_rfl, by decide, rfl⟩
instance : Ff Try.prog 27 2 4 21 := ⟨_, _, Try.underlying27, rfl, rfl, rfl⟩
instance : Fa Try.prog 27 2 4 := ⟨_, _, Try.t21, Try.underlying27, rfl, by kernel_rfl, by decide, rfl⟩
instance : Ff Try.prog 27 3 5 21 := ⟨_, _, Try.underlying27, rfl, rfl, rfl⟩
instance : Fa Try.prog 27 3 5 := ⟨_, _, Try.t21, Try.underlying27, rfl, by kernel_rfl, by decide, rfl⟩
instance : Pl Try.prog 28 [(0, 3), (3, 1), (4, 1), (5, 1)] := ⟨_, Try.underlying28, fun w => by kernel_rfl⟩
instance : Ff Try.prog 28 0 0 26 := ⟨_, _, Try.underlying28, rfl, rfl, rfl⟩
instance : Fa Try.prog 28 0 0 := ⟨_, _, Try.t26, Try.underlying28, rfl, by kernel_rfl, by decide, rfl⟩
instance : Ff Try.prog 28 1 3 3 := ⟨_, _, Try.underlying28, rfl, rfl, rfl⟩
instance : Fa Try.prog 28 1 3 := ⟨_, _, Try.t3, Try.underlying28, rfl, by kernel_rfl, by decide, rfl⟩
instance : Ff Try.prog 28 2 4 21 := ⟨_, _, Try.underlying28, rfl, rfl, rfl⟩
instance : Fa Try.prog 28 2 4 := ⟨_, _, Try.t21, Try.underlying28, rfl, by kernel_rfl, by decide, rfl⟩
instance : Ff Try.prog 28 3 5 21 := ⟨_, _, Try.underlying28, rfl, rfl, rfl⟩
instance : Fa Try.prog 28 3 5 := ⟨_, _, Try.t21, Try.underlying28, rfl, by kernel_rfl, by decide, rfl⟩
instance : Pl Try.prog 38 [(0, 1), (1, 1)] := ⟨_, Try.underlying38, fun w => by kernel_rfl⟩
instance : Ff Try.prog 38 0 0 3 := ⟨_, _, Try.underlying38, rfl, rfl, rfl⟩
instance : Fa Try.prog 38 0 0 := ⟨_, _, Try.t3, Try.underlying38, rfl, by kernel_rfl, by decide, rfl⟩
instance : Ff Try.prog 38 1 1 3 := ⟨_, _, Try.underlying38, rfl, rfl, rfl⟩
instance : Fa Try.prog 38 1 1 := ⟨_, _, Try.t3, Try.underlying38, rfl, by kernel_rfl, by decide, rfl⟩
instance : Pl Try.prog 39 [(0, 1), (1, 1)] := ⟨_, Try.underlying39, fun w => by kernel_rfl⟩
instance : Ff Try.prog 39 0 0 3 := ⟨_, _, Try.underlying39, rfl, rfl, rfl⟩
instance : Fa Try.prog 39 0 0 := ⟨_, _, Try.t3, Try.underlying39, rfl, by kernel_rfl, by decide, rfl⟩
instance : Ff Try.prog 39 1 1 3 := ⟨_, _, Try.underlying39, rfl, rfl, rfl⟩
instance : Fa Try.prog 39 1 1 := ⟨_, _, Try.t3, Try.underlying39, rfl, by kernel_rfl, by decide, rfl⟩
instance : Pl Try.prog 43 [(0, 1), (1, 1), (2, 1), (3, 1)] := ⟨_, Try.underlying43, fun w => by kernel_rfl⟩
instance : Ff Try.prog 43 0 0 3 := ⟨_, _, Try.underlying43, rfl, rfl, rfl⟩
instance : Fa Try.prog 43 0 0 := ⟨_, _, Try.t3, Try.underlying43, rfl, by kernel_rfl, by decide, rfl⟩
instance : Ff Try.prog 43 1 1 42 := ⟨_, _, Try.underlying43, rfl, rfl, rfl⟩
instance : Fa Try.prog 43 1 1 := ⟨_, _, Try.t42, Try.underlying43, rfl, by kernel_rfl, by decide, rfl⟩
instance : Ff Try.prog 43 2 2 3 := ⟨_, _, Try.underlying43, rfl, rfl, rfl⟩
instance : Fa Try.prog 43 2 2 := ⟨_, _, Try.t3, Try.underlying43, rfl, by kernel_rfl, by decide, rfl⟩
instance : Ff Try.prog 43 3 3 3 := ⟨_, _, Try.underlying43, rfl, rfl, rfl⟩
instance : Fa Try.prog 43 3 3 := ⟨_, _, Try.t3, Try.underlying43, rfl, by kernel_rfl, by decide, rfl⟩
instance : Pl Try.prog 44 [(0, 1), (1, 1), (2, 1), (3, 1)] := ⟨_, Try.underlying44, fun w => by kernel_rfl⟩
instance : Ff Try.prog 44 0 0 3 := ⟨_, _, Try.underlying44, rfl, rfl, rfl⟩
instance : Fa Try.prog 44 0 0 := ⟨_, _, Try.t3, Try.underlying44, rfl, by kernel_rfl, by decide, rfl⟩
instance : Ff Try.prog 44 1 1 42 := ⟨_, _, Try.underlying44, rfl, rfl, rfl⟩
instance : Fa Try.prog 44 1 1 := ⟨_, _, Try.t42, Try.underlying44, rfl, by kernel_rfl, by decide, rfl⟩
instance : Ff Try.prog 44 2 2 3 := ⟨_, _, Try.underlying44, rfl, rfl, rfl⟩
instance : Fa Try.prog 44 2 2 := ⟨_, _, Try.t3, Try.underlying44, rfl, by kernel_rfl, by decide, rfl⟩
instance : Ff Try.prog 44 3 3 3 := ⟨_, _, Try.underlying44, rfl, rfl, rfl⟩
instance : Fa Try.prog 44 3 3 := ⟨_, _, Try.t3, Try.underlying44, rfl, by kernel_rfl, by decide, rfl⟩
instance : Pl Try.prog 60 [(0, 1), (1, 1)] := ⟨_, Try.underlying60, fun w => by kernel_rfl⟩
instance : Ff Try.prog 60 0 0 2 := ⟨_, _, Try.underlying60, rfl, rfl, rfl⟩
instance : Fa Try.prog 60 0 0 := ⟨_, _, Try.t2, Try.underlying60, rfl, by kernel_rfl, by decide, rfl⟩
instance : Ff Try.prog 60 1 1 2 := ⟨_, _, Try.underlying60, rfl, rfl, rfl⟩
instance : Fa Try.prog 60 1 1 := ⟨_, _, Try.t2, Try.underlying60, rfl, by kernel_rfl, by decide, rfl⟩
instance : Pl Try.prog 61 [(0, 1), (1, 1)] := ⟨_, Try.underlying61, fun w => by kernel_rfl⟩
instance : Ff Try.prog 61 0 0 2 := ⟨_, _, Try.underlying61, rfl, rfl, rfl⟩
instance : Fa Try.prog 61 0 0 := ⟨_, _, Try.t2, Try.underlying61, rfl, by kernel_rfl, by decide, rfl⟩
instance : Ff Try.prog 61 1 1 2 := ⟨_, _, Try.underlying61, rfl, rfl, rfl⟩
instance : Fa Try.prog 61 1 1 := ⟨_, _, Try.t2, Try.underlying61, rfl, by kernel_rfl, by decide, rfl⟩
instance : Pl Try.prog 68 [(0, 2), (2, 1), (3, 1), (4, 1), (5, 1)] := ⟨_, Try.underlying68, fun w => by kernel_rfl⟩
instance : Ff Try.prog 68 0 0 61 := ⟨_, _, Try.underlying68, rfl, rfl, rfl⟩
instance : Fa Try.prog 68 0 0 := ⟨_, _, Try.t61, Try.underlying68, rfl, by kernel_rfl, by decide, rfl⟩
instance : Ff Try.prog 68 1 2 2 := ⟨_, _, Try.underlying68, rfl, rfl, rfl⟩
instance : Fa Try.prog 68 1 2 := ⟨_, _, Try.t2, Try.underlying68, rfl, by kernel_rfl, by decide, rfl⟩
instance : Ff Try.prog 68 2 3 2 := ⟨_, _, Try.underlying68, rfl, rfl, rfl⟩
instance : Fa Try.prog 68 2 3 := ⟨_, _, Try.t2, Try.underlying68, rfl, by kernel_rfl, by decide, rfl⟩
instance : Ff Try.prog 68 3 4 67 := ⟨_, _, Try.underlying68, rfl, rfl, rfl⟩
instance : Fa Try.prog 68 3 4 := ⟨_, _, Try.t67, Try.underlying68, rfl, by kernel_rfl, by decide, rfl⟩
instance : Ff Try.prog 68 4 5 3 := ⟨_, _, Try.underlying68, rfl, rfl, rfl⟩
instance : Fa Try.prog 68 4 5 := ⟨_, _, Try.t3, Try.underlying68, rfl, by kernel_rfl, by decide, rfl⟩
instance : Pl Try.prog 69 [(0, 2), (2, 1), (3, 1), (4, 1), (5, 1)] := ⟨_, Try.underlying69, fun w => by kernel_rfl⟩
instance : Ff Try.prog 69 0 0 61 := ⟨_, _, Try.underlying69, rfl, rfl, rfl⟩
instance : Fa Try.prog 69 0 0 := ⟨_, _, Try.t61, Try.underlying69, rfl, by kernel_rfl, by decide, rfl⟩
instance : Ff Try.prog 69 1 2 2 := ⟨_, _, Try.underlying69, rfl, rfl, rfl⟩
instance : Fa Try.prog 69 1 2 := ⟨_, _, Try.t2, Try.underlying69, rfl, by kernel_rfl, by decide, rfl⟩
instance : Ff Try.prog 69 2 3 2 := ⟨_, _, Try.underlying69, rfl, rfl, rfl⟩
instance : Fa Try.prog 69 2 3 := ⟨_, _, Try.t2, Try.underlying69, rfl, by kernel_rfl, by decide, rfl⟩
instance : Ff Try.prog 69 3 4 67 := ⟨_, _, Try.underlying69, rfl, rfl, rfl⟩
instance : Fa Try.prog 69 3 4 := ⟨_, _, Try.t67, Try.underlying69, rfl, by kernel_rfl, by decide, rfl⟩
instance : Ff Try.prog 69 4 5 3 := ⟨_, _, Try.underlying69, rfl, rfl, rfl⟩
instance : Fa Try.prog 69 4 5 := ⟨_, _, Try.t3, Try.underlying69, rfl, by kernel_rfl, by decide, rfl⟩
instance : Pl Try.prog 74 [(0, 1), (1, 1), (2, 1), (3, 1)] := ⟨_, Try.underlying74, fun w => by kernel_rfl⟩
instance : Ff Try.prog 74 0 0 2 := ⟨_, _, Try.underlying74, rfl, rfl, rfl⟩
instance : Fa Try.prog 74 0 0 := ⟨_, _, Try.t2, Try.underlying74, rfl, by kernel_rfl, by decide, rfl⟩
instance : Ff Try.prog 74 1 1 2 := ⟨_, _, Try.underlying74, rfl, rfl, rfl⟩
instance : Fa Try.prog 74 1 1 := ⟨_, _, Try.t2, Try.underlying74, rfl, by kernel_rfl, by decide, rfl⟩
instance : Ff Try.prog 74 2 2 2 := ⟨_, _, Try.underlying74, rfl, rfl, rfl⟩
instance : Fa Try.prog 74 2 2 := ⟨_, _, Try.t2, Try.underlying74, rfl, by kernel_rfl, by decide, rfl⟩
instance : Ff Try.prog 74 3 3 67 := ⟨_, _, Try.underlying74, rfl, rfl, rfl⟩
instance : Fa Try.prog 74 3 3 := ⟨_, _, Try.t67, Try.underlying74, rfl, by kernel_rfl, by decide, rfl⟩
instance : Pl Try.prog 75 [(0, 1), (1, 1), (2, 1), (3, 1)] := ⟨_, Try.underlying75, fun w => by kernel_rfl⟩
instance : Ff Try.prog 75 0 0 2 := ⟨_, _, Try.underlying75, rfl, rfl, rfl⟩
instance : Fa Try.prog 75 0 0 := ⟨_, _, Try.t2, Try.underlying75, rfl, by kernel_rfl, by decide, rfl⟩
instance : Ff Try.prog 75 1 1 2 := ⟨_, _, Try.underlying75, rfl, rfl, rfl⟩
instance : Fa Try.prog 75 1 1 := ⟨_, _, Try.t2, Try.underlying75, rfl, by kernel_rfl, by decide, rfl⟩
instance : Ff Try.prog 75 2 2 2 := ⟨_, _, Try.underlying75, rfl, rfl, rfl⟩
instance : Fa Try.prog 75 2 2 := ⟨_, _, Try.t2, Try.underlying75, rfl, by kernel_rfl, by decide, rfl⟩
instance : Ff Try.prog 75 3 3 67 := ⟨_, _, Try.underlying75, rfl, rfl, rfl⟩
instance : Fa Try.prog 75 3 3 := ⟨_, _, Try.t67, Try.underlying75, rfl, by kernel_rfl, by decide, rfl⟩
instance : Pl Try.prog 82 [(0, 1), (1, 1), (2, 1), (3, 1), (4, 1), (5, 1)] := ⟨_, Try.underlying82, fun w => by kernel_rfl⟩
instance : Ff Try.prog 82 0 0 3 := ⟨_, _, Try.underlying82, rfl, rfl, rfl⟩
instance : Fa Try.prog 82 0 0 := ⟨_, _, Try.t3, Try.underlying82, rfl, by kernel_rfl, by decide, rfl⟩
instance : Ff Try.prog 82 1 1 30 := ⟨_, _, Try.underlying82, rfl, rfl, rfl⟩
instance : Fa Try.prog 82 1 1 := ⟨_, _, Try.t30, Try.underlying82, rfl, by kernel_rfl, by decide, rfl⟩
instance : Ff Try.prog 82 2 2 67 := ⟨_, _, Try.underlying82, rfl, rfl, rfl⟩
instance : Fa Try.prog 82 2 2 := ⟨_, _, Try.t67, Try.underlying82, rfl, by kernel_rfl, by decide, rfl⟩
instance : Ff Try.prog 82 3 3 21 := ⟨_, _, Try.underlying82, rfl, rfl, rfl⟩
instance : Fa Try.prog 82 3 3 := ⟨_, _, Try.t21, Try.underlying82, rfl, by kernel_rfl, by decide, rfl⟩
instance : Ff Try.prog 82 4 4 21 := ⟨_, _, Try.underlying82, rfl, rfl, rfl⟩
instance : Fa Try.prog 82 4 4 := ⟨_, _, Try.t21, Try.underlying82, rfl, by kernel_rfl, by decide, rfl⟩
instance : Ff Try.prog 82 5 5 21 := ⟨_, _, Try.underlying82, rfl, rfl, rfl⟩
instance : Fa Try.prog 82 5 5 := ⟨_, _, Try.t21, Try.underlying82, rfl, by kernel_rfl, by decide, rfl⟩
instance : Pl Try.prog 83 [(0, 1), (1, 1), (2, 1), (3, 1), (4, 1), (5, 1)] := ⟨_, Try.underlying83, fun w => by kernel_rfl⟩
instance : Ff Try.prog 83 0 0 3 := ⟨_, _, Try.underlying83, rfl, rfl, rfl⟩
instance : Fa Try.prog 83 0 0 := ⟨_, _, Try.t3, Try.underlying83, rfl, by kernel_rfl, by decide, rfl⟩
instance : Ff Try.prog 83 1 1 30 := ⟨_, _, Try.underlying83, rfl, rfl, rfl⟩
instance : Fa Try.prog 83 1 1 := ⟨_, _, Try.t30, Try.underlying83, rfl, by kernel_rfl, by decide, rfl⟩
instance : Ff Try.prog 83 2 2 67 := ⟨_, _, Try.underlying83, rfl, rfl, rfl⟩
instance : Fa Try.prog 83 2 2 := ⟨_, _, Try.t67, Try.underlying83, rfl, by kernel_rfl, by decide, rfl⟩
instance : Ff Try.prog 83 3 3 21 := ⟨_, _, Try.underlying83, rfl, rfl, rfl⟩
instance : Fa Try.prog 83 3 3 := ⟨_, _, Try.t21, Try.underlying83, rfl, by kernel_rfl, by decide, rfl⟩
instance : Ff Try.prog 83 4 4 21 := ⟨_, _, Try.underlying83, rfl, rfl, rfl⟩
instance : Fa Try.prog 83 4 4 := ⟨_, _, Try.t21, Try.underlying83, rfl, by kernel_rfl, by decide, rfl⟩
instance : Ff Try.prog 83 5 5 21 := ⟨_, _, Try.underlying83, rfl, rfl, rfl⟩
instance : Fa Try.prog 83 5 5 := ⟨_, _, Try.t21, Try.underlying83, rfl, by kernel_rfl, by decide, rfl⟩
instance : Pl Try.prog 115 [(0, 1), (1, 1), (2, 1), (3, 1)] := ⟨_, Try.underlying115, fun w => by kernel_rfl⟩
instance : Ff Try.prog 115 0 0 67 := ⟨_, _, Try.underlying115, rfl, rfl, rfl⟩
instance : Fa Try.prog 115 0 0 := ⟨_, _, Try.t67, Try.underlying115, rfl, by kernel_rfl, by decide, rfl⟩
instance : Ff Try.prog 115 1 1 2 := ⟨_, _, Try.underlying115, rfl, rfl, rfl⟩
instance : Fa Try.prog 115 1 1 := ⟨_, _, Try.t2, Try.underlying115, rfl, by kernel_rfl, by decide, rfl⟩
instance : Ff Try.prog 115 2 2 3 := ⟨_, _, Try.underlying115, rfl, rfl, rfl⟩
instance : Fa Try.prog 115 2 2 := ⟨_, _, Try.t3, Try.underlying115, rfl, by kernel_rfl, by decide, rfl⟩
instance : Ff Try.prog 115 3 3 2 := ⟨_, _, Try.underlying115, rfl, rfl, rfl⟩
instance : Fa Try.prog 115 3 3 := ⟨_, _, Try.t2, Try.underlying115, rfl, by kernel_rfl, by decide, rfl⟩
instance : Pl Try.prog 116 [(0, 1), (1, 1), (2, 1), (3, 1)] := ⟨_, Try.underlying116, fun w => by kernel_rfl⟩
instance : Ff Try.prog 116 0 0 67 := ⟨_, _, Try.underlying116, rfl, rfl, rfl⟩
instance : Fa Try.prog 116 0 0 := ⟨_, _, Try.t67, Try.underlying116, rfl, by kernel_rfl, by decide, rfl⟩
instance : Ff Try.prog 116 1 1 2 := ⟨_, _, Try.underlying116, rfl, rfl, rfl⟩
instance : Fa Try.prog 116 1 1 := ⟨_, _, Try.t2, Try.underlying116, rfl, by kernel_rfl, by decide, rfl⟩
instance : Ff Try.prog 116 2 2 3 := ⟨_, _, Try.underlying116, rfl, rfl, rfl⟩
instance : Fa Try.prog 116 2 2 := ⟨_, _, Try.t3, Try.underlying116, rfl, by kernel_rfl, by decide, rfl⟩
instance : Ff Try.prog 116 3 3 2 := ⟨_, _, Try.underlying116, rfl, rfl, rfl⟩
instance : Fa Try.prog 116 3 3 := ⟨_, _, Try.t2, Try.underlying116, rfl, by kernel_rfl, by decide, rfl⟩
instance : Pl Try.prog 118 [(0, 4), (4, 1), (5, 1), (6, 1), (7, 1), (8, 1), (9, 1), (10, 1), (11, 1), (12, 1), (13, 7)] := ⟨_, Try.underlying118, fun w => by kernel_rfl⟩
instance : Ff Try.prog 118 0 0 116 := ⟨_, _, Try.underlying118, rfl, rfl, rfl⟩
instance : Fa Try.prog 118 0 0 := ⟨_, _, Try.t116, Try.underlying118, rfl, by kernel_rfl, by decide, rfl⟩
instance : Ff Try.prog 118 1 4 4 := ⟨_, _, Try.underlying118, rfl, rfl, rfl⟩
instance : Fa Try.prog 118 1 4 := ⟨_, _, Try.t4, Try.underlying118, rfl, by kernel_rfl, by decide, rfl⟩
instance : Ff Try.prog 118 2 5 30 := ⟨_, _, Try.underlying118, rfl, rfl, rfl⟩
instance : Fa Try.prog 118 2 5 := ⟨_, _, Try.t30, Try.underlying118, rfl, by kernel_rfl, by decide, rfl⟩
instance : Ff Try.prog 118 3 6 67 := ⟨_, _, Try.underlying118, rfl, rfl, rfl⟩
instance : Fa Try.prog 118 3 6 := ⟨_, _, Try.t67, Try.underlying118, rfl, by kernel_rfl, by decide, rfl⟩
instance : Ff Try.prog 118 4 7 2 := ⟨_, _, Try.underlying118, rfl, rfl, rfl⟩
instance : Fa Try.prog 118 4 7 := ⟨_, _, Try.t2, Try.underlying118, rfl, by kernel_rfl, by decide, rfl⟩
instance : Ff Try.prog 118 5 8 67 := ⟨_, _, Try.underlying118, rfl, rfl, rfl⟩
instance : Fa Try.prog 118 5 8 := ⟨_, _, Try.t67, Try.underlying118, rfl, by kernel_rfl, by decide, rfl⟩
instance : Ff Try.prog 118 6 9 4 := ⟨_, _, Try.underlying118, rfl, rfl, rfl⟩
instance : Fa Try.prog 118 6 9 := ⟨_, _, Try.t4, Try.underlying118, rfl, by kernel_rfl, by decide, rfl⟩
instance : Ff Try.prog 118 7 10 2 := ⟨_, _, Try.underlying118, rfl, rfl, rfl⟩
instance : Fa Try.prog 118 7 10 := ⟨_, _, Try.t2, Try.underlying118, rfl, by kernel_rfl, by decide, rfl⟩
instance : Ff Try.prog 118 8 11 4 := ⟨_, _, Try.underlying118, rfl, rfl, rfl⟩
instance : Fa Try.prog 118 8 11 := ⟨_, _, Try.t4, Try.underlying118, rfl, by kernel_rfl, by decide, rfl⟩
instance : Ff Try.prog 118 9 12 3 := ⟨_, _, Try.underlying118, rfl, rfl, rfl⟩
instance : Fa Try.prog 118 9 12 := ⟨_, _, Try.t3, Try.underlying118, rfl, by kernel_rfl, by decide, rfl⟩
instance : Ff Try.prog 118 10 13 117 := ⟨_, _, Try.underlying118, rfl, rfl, rfl⟩
instance : Fa Try.prog 118 10 13 := ⟨_, _, Try.t117, Try.underlying118, rfl, by kernel_rfl, by decide, rfl⟩
instance : Pl Try.prog 119 [(0, 4), (4, 1), (5, 1), (6, 1), (7, 1), (8, 1), (9, 1), (10, 1), (11, 1), (12, 1), (13, 7)] := ⟨_, Try.underlying119, fun w => by kernel_rfl⟩
instance : Ff Try.prog 119 0 0 116 := ⟨_, _, Try.underlying119, rfl, rfl, rfl⟩
instance : Fa Try.prog 119 0 0 := ⟨_, _, Try.t116, Try.underlying119, rfl, by kernel_rfl, by decide, rfl⟩
instance : Ff Try.prog 119 1 4 4 := ⟨_, _, Try.underlying119, rfl, rfl, rfl⟩
instance : Fa Try.prog 119 1 4 := ⟨_, _, Try.t4, Try.underlying119, rfl, by kernel_rfl, by decide, rfl⟩
instance : Ff Try.prog 119 2 5 30 := ⟨_, _, Try.underlying119, rfl, rfl, rfl⟩
instance : Fa Try.prog 119 2 5 := ⟨_, _, Try.t30, Try.underlying119, rfl, by kernel_rfl, by decide, rfl⟩
instance : Ff Try.prog 119 3 6 67 := ⟨_, _, Try.underlying119, rfl, rfl, rfl⟩
instance : Fa Try.prog 119 3 6 := ⟨_, _, Try.t67, Try.underlying119, rfl, by kernel_rfl, by decide, rfl⟩
instance : Ff Try.prog 119 4 7 2 := ⟨_, _, Try.underlying119, rfl, rfl, rfl⟩
instance : Fa Try.prog 119 4 7 := ⟨_, _, Try.t2, Try.underlying119, rfl, by kernel_rfl, by decide, rfl⟩
instance : Ff Try.prog 119 5 8 67 := ⟨_, _, Try.underlying119, rfl, rfl, rfl⟩
instance : Fa Try.prog 119 5 8 := ⟨_, _, Try.t67, Try.underlying119, rfl, by kernel_rfl, by decide, rfl⟩
instance : Ff Try.prog 119 6 9 4 := ⟨_, _, Try.underlying119, rfl, rfl, rfl⟩
instance : Fa Try.prog 119 6 9 := ⟨_, _, Try.t4, Try.underlying119, rfl, by kernel_rfl, by decide, rfl⟩
instance : Ff Try.prog 119 7 10 2 := ⟨_, _, Try.underlying119, rfl, rfl, rfl⟩
instance : Fa Try.prog 119 7 10 := ⟨_, _, Try.t2, Try.underlying119, rfl, by kernel_rfl, by decide, rfl⟩
instance : Ff Try.prog 119 8 11 4 := ⟨_, _, Try.underlying119, rfl, rfl, rfl⟩
instance : Fa Try.prog 119 8 11 := ⟨_, _, Try.t4, Try.underlying119, rfl, by kernel_rfl, by decide, rfl⟩
instance : Ff Try.prog 119 9 12 3 := ⟨_, _, Try.underlying119, rfl, rfl, rfl⟩
instance : Fa Try.prog 119 9 12 := ⟨_, _, Try.t3, Try.underlying119, rfl, by kernel_rfl, by decide, rfl⟩
instance : Ff Try.prog 119 10 13 117 := ⟨_, _, Try.underlying119, rfl, rfl, rfl⟩
instance : Fa Try.prog 119 10 13 := ⟨_, _, Try.t117, Try.underlying119, rfl, by kernel_rfl, by decide, rfl⟩
instance : Pl Try.prog 125 [(0, 6), (6, 1), (7, 1)] := ⟨_, Try.underlying125, fun w => by kernel_rfl⟩
instance : Ff Try.prog 125 0 0 28 := ⟨_, _, Try.underlying125, rfl, rfl, rfl⟩
instance : Fa Try.prog 125 0 0 := ⟨_, _, Try.t28, Try.underlying125, rfl, by kernel_rfl, by decide, rfl⟩
instance : Ff Try.prog 125 1 6 42 := ⟨_, _, Try.underlying125, rfl, rfl, rfl⟩
instance : Fa Try.prog 125 1 6 := ⟨_, _, Try.t42, Try.underlying125, rfl, by kernel_rfl, by decide, rfl⟩
instance : Ff Try.prog 125 2 7 42 := ⟨_, _, Try.underlying125, rfl, rfl, rfl⟩
instance : Fa Try.prog 125 2 7 := ⟨_, _, Try.t42, Try.underlying125, rfl, by kernel_rfl, by decide, rfl⟩
instance : Pl Try.prog 126 [(0, 6), (6, 1), (7, 1)] := ⟨_, Try.underlying126, fun w => by kernel_rfl⟩
instance : Ff Try.prog 126 0 0 28 := ⟨_, _, Try.underlying126, rfl, rfl, rfl⟩
instance : Fa Try.prog 126 0 0 := ⟨_, _, Try.t28, Try.underlying126, rfl, by kernel_rfl, by decide, rfl⟩
instance : Ff Try.prog 126 1 6 42 := ⟨_, _, Try.underlying126, rfl, rfl, rfl⟩
instance : Fa Try.prog 126 1 6 := ⟨_, _, Try.t42, Try.underlying126, rfl, by kernel_rfl, by decide, rfl⟩
instance : Ff Try.prog 126 2 7 42 := ⟨_, _, Try.underlying126, rfl, rfl, rfl⟩
instance : Fa Try.prog 126 2 7 := ⟨_, _, Try.t42, Try.underlying126, rfl, by kernel_rfl, by decide, rfl⟩
instance : Pl Try.prog 128 [(0, 1), (1, 1), (2, 256), (258, 1)] := ⟨_, Try.underlying128, fun w => by kernel_rfl⟩
instance : Ff Try.prog 128 0 0 3 := ⟨_, _, Try.underlying128, rfl, rfl, rfl⟩
instance : Fa Try.prog 128 0 0 := ⟨_, _, Try.t3, Try.underlying128, rfl, by kernel_rfl, by decide, rfl⟩
instance : Ff Try.prog 128 1 1 3 := ⟨_, _, Try.underlying128, rfl, rfl, rfl⟩
instance : Fa Try.prog 128 1 1 := ⟨_, _, Try.t3, Try.underlying128, rfl, by kernel_rfl, by decide, rfl⟩
instance : Ff Try.prog 128 2 2 127 := ⟨_, _, Try.underlying128, rfl, rfl, rfl⟩
instance : Fa Try.prog 128 2 2 := ⟨_, _, Try.t127, Try.underlying128, rfl, by kernel_rfl, by decide, rfl⟩
instance : Ff Try.prog 128 3 258 3 := ⟨_, _, Try.underlying128, rfl, rfl, rfl⟩
instance : Fa Try.prog 128 3 258 := ⟨_, _, Try.t3, Try.underlying128, rfl, by kernel_rfl, by decide, rfl⟩
instance : Pl Try.prog 129 [(0, 1), (1, 1), (2, 256), (258, 1)] := ⟨_, Try.underlying129, fun w => by kernel_rfl⟩
instance : Ff Try.prog 129 0 0 3 := ⟨_, _, Try.underlying129, rfl, rfl, rfl⟩
instance : Fa Try.prog 129 0 0 := ⟨_, _, Try.t3, Try.underlying129, rfl, by kernel_rfl, by decide, rfl⟩
instance : Ff Try.prog 129 1 1 3 := ⟨_, _, Try.underlying129, rfl, rfl, rfl⟩
instance : Fa Try.prog 129 1 1 := ⟨_, _, Try.t3, Try.underlying129, rfl, by kernel_rfl, by decide, rfl⟩
instance : Ff Try.prog 129 2 2 127 := ⟨_, _, Try.underlying129, rfl, rfl, rfl⟩
instance : Fa Try.prog 129 2 2 := ⟨_, _, Try.t127, Try.underlying129, rfl, by kernel_rfl, by decide, rfl⟩
instance : Ff Try.prog 129 3 258 3 := ⟨_, _, Try.underlying129, rfl, rfl, rfl⟩
instance : Fa Try.prog 129 3 258 := ⟨_, _, Try.t3, Try.underlying129, rfl, by kernel_rfl, by decide, rfl⟩
instance : Pl Try.prog 131 [(0, 1), (1, 8), (9, 8288), (8297, 1), (8298, 1), (8299, 1), (8300, 1)] := ⟨_, Try.underlying131, fun w => by kernel_rfl⟩
instance : Ff Try.prog 131 0 0 52 := ⟨_, _, Try.underlying131, rfl, rfl, rfl⟩
instance : Fa Try.prog 131 0 0 := ⟨_, _, Try.t52, Try.underlying131, rfl, by kernel_rfl, by decide, rfl⟩
instance : Ff Try.prog 131 1 1 126 := ⟨_, _, Try.underlying131, rfl, rfl, rfl⟩
instance : Fa Try.prog 131 1 1 := ⟨_, _, Try.t126, Try.underlying131, rfl, by kernel_rfl, by decide, rfl⟩
instance : Ff Try.prog 131 2 9 130 := ⟨_, _, Try.underlying131, rfl, rfl, rfl⟩
instance : Fa Try.prog 131 2 9 := ⟨_, _, Try.t130, Try.underlying131, rfl, by kernel_rfl, by decide, rfl⟩
instance : Ff Try.prog 131 3 8297 3 := ⟨_, _, Try.underlying131, rfl, rfl, rfl⟩
instance : Fa Try.prog 131 3 8297 := ⟨_, _, Try.t3, Try.underlying131, rfl, by kernel_rfl, by decide, rfl⟩
instance : Ff Try.prog 131 4 8298 3 := ⟨_, _, Try.underlying131, rfl, rfl, rfl⟩
instance : Fa Try.prog 131 4 8298 := ⟨_, _, Try.t3, Try.underlying131, rfl, by kernel_rfl, by decide, rfl⟩
instance : Ff Try.prog 131 5 8299 3 := ⟨_, _, Try.underlying131, rfl, rfl, rfl⟩
instance : Fa Try.prog 131 5 8299 := ⟨_, _, Try.t3, Try.underlying131, rfl, by kernel_rfl, by decide, rfl⟩
instance : Ff Try.prog 131 6 8300 3 := ⟨_, _, Try.underlying131, rfl, rfl, rfl⟩
instance : Fa Try.prog 131 6 8300 := ⟨_, _, Try.t3, Try.underlying131, rfl, by kernel_rfl, by decide, rfl⟩
instance : Pl Try.prog 132 [(0, 1), (1, 8), (9, 8288), (8297, 1), (8298, 1), (8299, 1), (8300, 1)] := ⟨_, Try.underlying132, fun w => by kernel_rfl⟩
instance : Ff Try.prog 132 0 0 52 := ⟨_, _, Try.underlying132, rfl, rfl, rfl⟩
instance : Fa Try.prog 132 0 0 := ⟨_, _, Try.t52, Try.underlying132, rfl, by kernel_rfl, by decide, rfl⟩
instance : Ff Try.prog 132 1 1 126 := ⟨_, _, Try.underlying132, rfl, rfl, rfl⟩
instance : Fa Try.prog 132 1 1 := ⟨_, _, Try.t126, Try.underlying132, rfl, by kernel_rfl, by decide, rfl⟩
instance : Ff Try.prog 132 2 9 130 := ⟨_, _, Try.underlying132, rfl, rfl, rfl⟩
instance : Fa Try.prog 132 2 9 := ⟨_, _, Try.t130, Try.underlying132, rfl, by kernel_rfl, by decide, rfl⟩
instance : Ff Try.prog 132 3 8297 3 := ⟨_, _, Try.underlying132, rfl, rfl, rfl⟩
instance : Fa Try.prog 132 3 8297 := ⟨_, _, Try.t3, Try.underlying132, rfl, by kernel_rfl, by decide, rfl⟩
instance : Ff Try.prog 132 4 8298 3 := ⟨_, _, Try.underlying132, rfl, rfl, rfl⟩
instance : Fa Try.prog 132 4 8298 := ⟨_, _, Try.t3, Try.underlying132, rfl, by kernel_rfl, by decide, rfl⟩
instance : Ff Try.prog 132 5 8299 3 := ⟨_, _, Try.underlying132, rfl, rfl, rfl⟩
instance : Fa Try.prog 132 5 8299 := ⟨_, _, Try.t3, Try.underlying132, rfl, by kernel_rfl, by decide, rfl⟩
instance : Ff Try.prog 132 6 8300 3 := ⟨_, _, Try.underlying132, rfl, rfl, rfl⟩
instance : Fa Try.prog 132 6 8300 := ⟨_, _, Try.t3, Try.underlying132, rfl, by kernel_rfl, by decide, rfl⟩
instance : Pl Try.prog 140 [(0, 1), (1, 1)] := ⟨_, Try.underlying140, fun w => by kernel_rfl⟩
instance : Ff Try.prog 140 0 0 3 := ⟨_, _, Try.underlying140, rfl, rfl, rfl⟩
instance : Fa Try.prog 140 0 0 := ⟨_, _, Try.t3, Try.underlying140, rfl, by kernel_rfl, by decide, rfl⟩
instance : Ff Try.prog 140 1 1 3 := ⟨_, _, Try.underlying140, rfl, rfl, rfl⟩
instance : Fa Try.prog 140 1 1 := ⟨_, _, Try.t3, Try.underlying140, rfl, by kernel_rfl, by decide, rfl⟩
instance : Pl Try.prog 155 [(0, 1), (1, 2), (3, 1), (4, 1), (5, 1), (6, 1), (7, 1), (8, 1), (9, 1)] := ⟨_, Try.underlying155, fun w => by kernel_rfl⟩
instance : Ff Try.prog 155 0 0 31 := ⟨_, _, Try.underlying155, rfl, rfl, rfl⟩
instance : Fa Try.prog 155 0 0 := ⟨_, _, Try.t31, Try.underlying155, rfl, by kernel_rfl, by decide, rfl⟩
instance : Ff Try.prog 155 1 1 61 := ⟨_, _, Try.underlying155, rfl, rfl, rfl⟩
instance : Fa Try.prog 155 1 1 := ⟨_, _, Try.t61, Try.underlying155, rfl, by kernel_rfl, by decide, rfl⟩
instance : Ff Try.prog 155 2 3 2 := ⟨_, _, Try.underlying155, rfl, rfl, rfl⟩
instance : Fa Try.prog 155 2 3 := ⟨_, _, Try.t2, Try.underlying155, rfl, by kernel_rfl, by decide, rfl⟩
instance : Ff Try.prog 155 3 4 2 := ⟨_, _, Try.underlying155, rfl, rfl, rfl⟩
instance : Fa Try.prog 155 3 4 := ⟨_, _, Try.t2, Try.underlying155, rfl, by kernel_rfl, by decide, rfl⟩
instance : Ff Try.prog 155 4 5 2 := ⟨_, _, Try.underlying155, rfl, rfl, rfl⟩
instance : Fa Try.prog 155 4 5 := ⟨_, _, Try.t2, Try.underlying155, rfl, by kernel_rfl, by decide, rfl⟩
instance : Ff Try.prog 155 5 6 2 := ⟨_, _, Try.underlying155, rfl, rfl, rfl⟩
instance : Fa Try.prog 155 5 6 := ⟨_, _, Try.t2, Try.underlying155, rfl, by kernel_rfl, by decide, rfl⟩
instance : Ff Try.prog 155 6 7 67 := ⟨_, _, Try.underlying155, rfl, rfl, rfl⟩
instance : Fa Try.prog 155 6 7 := ⟨_, _, Try.t67, Try.underlying155, rfl, by kernel_rfl, by decide, rfl⟩
instance : Ff Try.prog 155 7 8 3 := ⟨_, _, Try.underlying155, rfl, rfl, rfl⟩
instance : Fa Try.prog 155 7 8 := ⟨_, _, Try.t3, Try.underlying155, rfl, by kernel_rfl, by decide, rfl⟩
instance : Ff Try.prog 155 8 9 154 := ⟨_, _, Try.underlying155, rfl, rfl, rfl⟩
instance : Fa Try.prog 155 8 9 := ⟨_, _, Try.t154, Try.underlying155, rfl, by kernel_rfl, by decide, rfl⟩
instance : Pl Try.prog 156 [(0, 1), (1, 2), (3, 1), (4, 1), (5, 1), (6, 1), (7, 1), (8, 1), (9, 1)] := ⟨_, Try.underlying156, fun w => by kernel_rfl⟩
instance : Ff Try.prog 156 0 0 31 := ⟨_, _, Try.underlying156, rfl, rfl, rfl⟩
instance : Fa Try.prog 156 0 0 := ⟨_, _, Try.t31, Try.underlying156, rfl, by kernel_rfl, by decide, rfl⟩
instance : Ff Try.prog 156 1 1 61 := ⟨_, _, Try.underlying156, rfl, rfl, rfl⟩
instance : Fa Try.prog 156 1 1 := ⟨_, _, Try.t61, Try.underlying156, rfl, by kernel_rfl, by decide, rfl⟩
instance : Ff Try.prog 156 2 3 2 := ⟨_, _, Try.underlying156, rfl, rfl, rfl⟩
instance : Fa Try.prog 156 2 3 := ⟨_, _, Try.t2, Try.underlying156, rfl, by kernel_rfl, by decide, rfl⟩
instance : Ff Try.prog 156 3 4 2 := ⟨_, _, Try.underlying156, rfl, rfl, rfl⟩
instance : Fa Try.prog 156 3 4 := ⟨_, _, Try.t2, Try.underlying156, rfl, by kernel_rfl, by decide, rfl⟩
instance : Ff Try.prog 156 4 5 2 := ⟨_, _, Try.underlying156, rfl, rfl, rfl⟩
instance : Fa Try.prog 156 4 5 := ⟨_, _, Try.t2, Try.underlying156, rfl, by kernel_rfl, by decide, rfl⟩
instance : Ff Try.prog 156 5 6 2 := ⟨_, _, Try.underlying156, rfl, rfl, rfl⟩
instance : Fa Try.prog 156 5 6 := ⟨_, _, Try.t2, Try.underlying156, rfl, by kernel_rfl, by decide, rfl⟩
instance : Ff Try.prog 156 6 7 67 := ⟨_, _, Try.underlying156, rfl, rfl, rfl⟩
instance : Fa Try.prog 156 6 7 := ⟨_, _, Try.t67, Try.underlying156, rfl, by kernel_rfl, by decide, rfl⟩
instance : Ff Try.prog 156 7 8 3 := ⟨_, _, Try.underlying156, rfl, rfl, rfl⟩
instance : Fa Try.prog 156 7 8 := ⟨_, _, Try.t3, Try.underlying156, rfl, by kernel_rfl, by decide, rfl⟩
instance : Ff Try.prog 156 8 9 154 := ⟨_, _, Try.underlying156, rfl, rfl, rfl⟩
instance : Fa Try.prog 156 8 9 := ⟨_, _, Try.t154, Try.underlying156, rfl, by kernel_rfl, by decide, rfl⟩
instance : Pl Try.prog 158 [(0, 1), (1, 1)] := ⟨_, Try.underlying158, fun w => by kernel_rfl⟩
instance : Ff Try.prog 158 0 0 3 := ⟨_, _, Try.underlying158, rfl, rfl, rfl⟩
instance : Fa Try.prog 158 0 0 := ⟨_, _, Try.t3, Try.underlying158, rfl, by kernel_rfl, by decide, rfl⟩
instance : Ff Try.prog 158 1 1 157 := ⟨_, _, Try.underlying158, rfl, rfl, rfl⟩
instance : Fa Try.prog 158 1 1 := ⟨_, _, Try.t157, Try.underlying158, rfl, by kernel_rfl, by decide, rfl⟩
instance : Pl Try.prog 159 [(0, 1), (1, 1)] := ⟨_, Try.underlying159, fun w => by kernel_rfl⟩
instance : Ff Try.prog 159 0 0 3 := ⟨_, _, Try.underlying159, rfl, rfl, rfl⟩
instance : Fa Try.prog 159 0 0 := ⟨_, _, Try.t3, Try.underlying159, rfl, by kernel_rfl, by decide, rfl⟩
instance : Ff Try.prog 159 1 1 157 := ⟨_, _, Try.underlying159, rfl, rfl, rfl⟩
instance : Fa Try.prog 159 1 1 := ⟨_, _, Try.t157, Try.underlying159, rfl, by kernel_rfl, by decide, rfl⟩
instance : Pl Try.prog 181 [(0, 1), (1, 1)] := ⟨_, Try.underlying181, fun w => by kernel_rfl⟩
instance : Ff Try.prog 181 0 0 52 := ⟨_, _, Try.underlying181, rfl, rfl, rfl⟩
instance : Fa Try.prog 181 0 0 := ⟨_, _, Try.t52, Try.underlying181, rfl, by kernel_rfl, by decide, rfl⟩
instance : Ff Try.prog 181 1 1 3 := ⟨_, _, Try.underlying181, rfl, rfl, rfl⟩
instance : Fa Try.prog 181 1 1 := ⟨_, _, Try.t3, Try.underlying181, rfl, by kernel_rfl, by decide, rfl⟩
instance : Pl Try.prog 182 [(0, 1), (1, 1)] := ⟨_, Try.underlying182, fun w => by kernel_rfl⟩
instance : Ff Try.prog 182 0 0 52 := ⟨_, _, Try.underlying182, rfl, rfl, rfl⟩
instance : Fa Try.prog 182 0 0 := ⟨_, _, Try.t52, Try.underlying182, rfl, by kernel_rfl, by decide, rfl⟩
instance : Ff Try.prog 182 1 1 3 := ⟨_, _, Try.underlying182, rfl, rfl, rfl⟩
instance : Fa Try.prog 182 1 1 := ⟨_, _, Try.t3, Try.underlying182, rfl, by kernel_rfl, by decide, rfl⟩
instance : Pl Try.prog 195 [(0, 1), (1, 1)] := ⟨_, Try.underlying195, fun w => by kernel_rfl⟩
instance : Ff Try.prog 195 0 0 2 := ⟨_, _, Try.underlying195, rfl, rfl, rfl⟩
instance : Fa Try.prog 195 0 0 := ⟨_, _, Try.t2, Try.underlying195, rfl, by kernel_rfl, by decide, rfl⟩
instance : Ff Try.prog 195 1 1 147 := ⟨_, _, Try.underlying195, rfl, rfl, rfl⟩
instance : Fa Try.prog 195 1 1 := ⟨_, _, Try.t147, Try.underlying195, rfl, by kernel_rfl, by decide, rfl⟩
instance : Pl Try.prog 196 [(0, 1), (1, 1)] := ⟨_, Try.underlying196, fun w => by kernel_rfl⟩
instance : Ff Try.prog 196 0 0 2 := ⟨_, _, Try.underlying196, rfl, rfl, rfl⟩
instance : Fa Try.prog 196 0 0 := ⟨_, _, Try.t2, Try.underlying196, rfl, by kernel_rfl, by decide, rfl⟩
instance : Ff Try.prog 196 1 1 147 := ⟨_, _, Try.underlying196, rfl, rfl, rfl⟩
instance : Fa Try.prog 196 1 1 := ⟨_, _, Try.t147, Try.underlying196, rfl, by kernel_rfl, by decide, rfl⟩
instance : Pl Try.prog 226 [(0, 1), (1, 1), (2, 1)] := ⟨_, Try.underlying226, fun w => by kernel_rfl⟩
instance : Ff Try.prog 226 0 0 52 := ⟨_, _, Try.underlying226, rfl, rfl, rfl⟩
instance : Fa Try.prog 226 0 0 := ⟨_, _, Try.t52, Try.underlying226, rfl, by kernel_rfl, by decide, rfl⟩
instance : Ff Try.prog 226 1 1 3 := ⟨_, _, Try.underlying226, rfl, rfl, rfl⟩
instance : Fa Try.prog 226 1 1 := ⟨_, _, Try.t3, Try.underlying226, rfl, by kernel_rfl, by decide, rfl⟩
instance : Ff Try.prog 226 2 2 4 := ⟨_, _, Try.underlying226, rfl, rfl, rfl⟩
instance : Fa Try.prog 226 2 2 := ⟨_, _, Try.t4, Try.underlying226, rfl, by kernel_rfl, by decide, rfl⟩
instance : Pl Try.prog 227 [(0, 1), (1, 1), (2, 1)] := ⟨_, Try.underlying227, fun w => by kernel_rfl⟩
instance : Ff Try.prog 227 0 0 52 := ⟨_, _, Try.underlying227, rfl, rfl, rfl⟩
instance : Fa Try.prog 227 0 0 := ⟨_, _, Try.t52, Try.underlying227, rfl, by kernel_rfl, by decide, rfl⟩
instance : Ff Try.prog 227 1 1 3 := ⟨_, _, Try.underlying227, rfl, rfl, rfl⟩
instance : Fa Try.prog 227 1 1 := ⟨_, _, Try.t3, Try.underlying227, rfl, by kernel_rfl, by decide, rfl⟩
instance : Ff Try.prog 227 2 2 4 := ⟨_, _, Try.underlying227, rfl, rfl, rfl⟩
instance : Fa Try.prog 227 2 2 := ⟨_, _, Try.t4, Try.underlying227, rfl, by kernel_rfl, by decide, rfl⟩
instance : Cl Try.prog 2 := ⟨Try.call2⟩
instance : Cl Try.prog 3 := ⟨Try.call3⟩
instance : Cl Try.prog 4 := ⟨Try.call4⟩
instance : Cl Try.prog 5 := ⟨Try.call5⟩
instance : Cl Try.prog 6 := ⟨Try.call6⟩
instance : Cl Try.prog 7 := ⟨Try.call7⟩
instance : Cl Try.prog 8 := ⟨Try.call8⟩
instance : Cl Try.prog 9 := ⟨Try.call9⟩
instance : Cl Try.prog 10 := ⟨Try.call10⟩
instance : Cl Try.prog 11 := ⟨Try.call11⟩
instance : Cl Try.prog 12 := ⟨Try.call12⟩
instance : Cl Try.prog 13 := ⟨Try.call13⟩
instance : Cl Try.prog 14 := ⟨Try.call14⟩
instance : Cl Try.prog 15 := ⟨Try.call15⟩
instance : Cl Try.prog 16 := ⟨Try.call16⟩
instance : Cl Try.prog 17 := ⟨Try.call17⟩
instance : Cl Try.prog 18 := ⟨Try.call18⟩
instance : Cl Try.prog 19 := ⟨Try.call19⟩
instance : Cl Try.prog 20 := ⟨Try.call20⟩
instance : Cl Try.prog 21 := ⟨Try.call21⟩
instance : Cl Try.prog 22 := ⟨Try.call22⟩
instance : Cl Try.prog 23 := ⟨Try.call23⟩
instance : Cl Try.prog 24 := ⟨Try.call24⟩
instance : Cl Try.prog 25 := ⟨Try.call25⟩
instance : Cl Try.prog 26 := ⟨Try.call26⟩
instance : Cl Try.prog 27 := ⟨Try.call27⟩
instance : Cl Try.prog 28 := ⟨Try.call28⟩
instance : Cl Try.prog 29 := ⟨Try.call29⟩
instance : Cl Try.prog 30 := ⟨Try.call30⟩
instance : Cl Try.prog 31 := ⟨Try.call31⟩
instance : Cl Try.prog 32 := ⟨Try.call32⟩
instance : Cl Try.prog 33 := ⟨Try.call33⟩
instance : Cl Try.prog 34 := ⟨Try.call34⟩
instance : Cl Try.prog 35 := ⟨Try.call35⟩
instance : Cl Try.prog 36 := ⟨Try.call36⟩
instance : Cl Try.prog 37 := ⟨Try.call37⟩
instance : Cl Try.prog 38 := ⟨Try.call38⟩
instance : Cl Try.prog 39 := ⟨Try.call39⟩
instance : Cl Try.prog 40 := ⟨Try.call40⟩
instance : Cl Try.prog 41 := ⟨Try.call41⟩
instance : Cl Try.prog 42 := ⟨Try.call42⟩
instance : Cl Try.prog 43 := ⟨Try.call43⟩
instance : Cl Try.prog 44 := ⟨Try.call44⟩
instance : Cl Try.prog 45 := ⟨Try.call45⟩
instance : Cl Try.prog 46 := ⟨Try.call46⟩
instance : Cl Try.prog 47 := ⟨Try.call47⟩
instance : Cl Try.prog 48 := ⟨Try.call48⟩
instance : Cl Try.prog 49 := ⟨Try.call49⟩
instance : Cl Try.prog 50 := ⟨Try.call50⟩
instance : Cl Try.prog 51 := ⟨Try.call51⟩
instance : Cl Try.prog 52 := ⟨Try.call52⟩
instance : Cl Try.prog 53 := ⟨Try.call53⟩
instance : Cl Try.prog 54 := ⟨Try.call54⟩
instance : Cl Try.prog 55 := ⟨Try.call55⟩
instance : Cl Try.prog 56 := ⟨Try.call56⟩
instance : Cl Try.prog 57 := ⟨Try.call57⟩
instance : Cl Try.prog 58 := ⟨Try.call58⟩
instance : Cl Try.prog 59 := ⟨Try.call59⟩
instance : Cl Try.prog 60 := ⟨Try.call60⟩
instance : Cl Try.prog 61 := ⟨Try.call61⟩
instance : Cl Try.prog 62 := ⟨Try.call62⟩
instance : Cl Try.prog 63 := ⟨Try.call63⟩
instance : Cl Try.prog 64 := ⟨Try.call64⟩
instance : Cl Try.prog 65 := ⟨Try.call65⟩
instance : Cl Try.prog 66 := ⟨Try.call66⟩
instance : Cl Try.prog 67 := ⟨Try.call67⟩
instance : Cl Try.prog 68 := ⟨Try.call68⟩
instance : Cl Try.prog 69 := ⟨Try.call69⟩
instance : Cl Try.prog 70 := ⟨Try.call70⟩
instance : Cl Try.prog 71 := ⟨Try.call71⟩
instance : Cl Try.prog 72 := ⟨Try.call72⟩
instance : Cl Try.prog 73 := ⟨Try.call73⟩
instance : Cl Try.prog 74 := ⟨Try.call74⟩
instance : Cl Try.prog 75 := ⟨Try.call75⟩
instance : Cl Try.prog 76 := ⟨Try.call76⟩
instance : Cl Try.prog 77 := ⟨Try.call77⟩
instance : Cl Try.prog 78 := ⟨Try.call78⟩
instance : Cl Try.prog 79 := ⟨Try.call79⟩
instance : Cl Try.prog 80 := ⟨Try.call80⟩
instance : Cl Try.prog 81 := ⟨Try.call81⟩
instance : Cl Try.prog 82 := ⟨Try.call82⟩
instance : Cl Try.prog 83 := ⟨Try.call83⟩
instance : Cl Try.prog 84 := ⟨Try.call84⟩
instance : Cl Try.prog 85 := ⟨Try.call85⟩
instance : Cl Try.prog 86 := ⟨Try.call86⟩
instance : Cl Try.prog 87 := ⟨Try.call87⟩
instance : Cl Try.prog 88 := ⟨Try.call88⟩
instance : Cl Try.prog 89 := ⟨Try.call89⟩
instance : Cl Try.prog 90 := ⟨Try.call90⟩
instance : Cl Try.prog 91 := ⟨Try.call91⟩
instance : Cl Try.prog 92 := ⟨Try.call92⟩
instance : Cl Try.prog 93 := ⟨Try.call93⟩
instance : Cl Try.prog 94 := ⟨Try.call94⟩
instance : Cl Try.prog 95 := ⟨Try.call95⟩
instance : Cl Try.prog 96 := ⟨Try.call96⟩
instance : Cl Try.prog 97 := ⟨Try.call97⟩
instance : Cl Try.prog 98 := ⟨Try.call98⟩
instance : Cl Try.prog 99 := ⟨Try.call99⟩
instance : Cl Try.prog 100 := ⟨Try.call100⟩
instance : Cl Try.prog 101 := ⟨Try.call101⟩
instance : Cl Try.prog 102 := ⟨Try.call102⟩
instance : Cl Try.prog 103 := ⟨Try.call103⟩
instance : Cl Try.prog 104 := ⟨Try.call104⟩
instance : Cl Try.prog 105 := ⟨Try.call105⟩
instance : Cl Try.prog 106 := ⟨Try.call106⟩
instance : Cl Try.prog 107 := ⟨Try.call107⟩
instance : Cl Try.prog 108 := ⟨Try.call108⟩
instance : Cl Try.prog 109 := ⟨Try.call109⟩
instance : Cl Try.prog 110 := ⟨Try.call110⟩
instance : Cl Try.prog 111 := ⟨Try.call111⟩
instance : Cl Try.prog 112 := ⟨Try.call112⟩
instance : Cl Try.prog 113 := ⟨Try.call113⟩
instance : Cl Try.prog 114 := ⟨Try.call114⟩
instance : Cl Try.prog 115 := ⟨Try.call115⟩
instance : Cl Try.prog 116 := ⟨Try.call116⟩
instance : Cl Try.prog 117 := ⟨Try.call117⟩
instance : Cl Try.prog 118 := ⟨Try.call118⟩
instance : Cl Try.prog 119 := ⟨Try.call119⟩
instance : Cl Try.prog 120 := ⟨Try.call120⟩
instance : Cl Try.prog 121 := ⟨Try.call121⟩
instance : Cl Try.prog 122 := ⟨Try.call122⟩
instance : Cl Try.prog 123 := ⟨Try.call123⟩
instance : Cl Try.prog 124 := ⟨Try.call124⟩
instance : Cl Try.prog 125 := ⟨Try.call125⟩
instance : Cl Try.prog 126 := ⟨Try.call126⟩
instance : Cl Try.prog 127 := ⟨Try.call127⟩
instance : Cl Try.prog 128 := ⟨Try.call128⟩
instance : Cl Try.prog 129 := ⟨Try.call129⟩
instance : Cl Try.prog 130 := ⟨Try.call130⟩
instance : Cl Try.prog 131 := ⟨Try.call131⟩
instance : Cl Try.prog 132 := ⟨Try.call132⟩
instance : Cl Try.prog 133 := ⟨Try.call133⟩
instance : Cl Try.prog 134 := ⟨Try.call134⟩
instance : Cl Try.prog 135 := ⟨Try.call135⟩
instance : Cl Try.prog 136 := ⟨Try.call136⟩
instance : Cl Try.prog 138 := ⟨Try.call138⟩
instance : Cl Try.prog 139 := ⟨Try.call139⟩
instance : FRes Try.f2 [] := ⟨rfl⟩
instance : FRes Try.f3 [Go.ResultVar.tmp 10] := ⟨rfl⟩
instance : FRes Try.f4 [Go.ResultVar.tmp 8] := ⟨rfl⟩
instance : FRes Try.f5 [Go.ResultVar.tmp 14] := ⟨rfl⟩
instance : FRes Try.f6 [Go.ResultVar.tmp 14] := ⟨rfl⟩
instance : FRes Try.f7 [Go.ResultVar.tmp 10] := ⟨rfl⟩
instance : FRes Try.f8 [Go.ResultVar.tmp 10] := ⟨rfl⟩
instance : FRes Try.f9 [Go.ResultVar.tmp 8] := ⟨rfl⟩
instance : FRes Try.f10 [Go.ResultVar.tmp 8] := ⟨rfl⟩
instance : FRes Try.f11 [Go.ResultVar.tmp 14] := ⟨rfl⟩
instance : FRes Try.f12 [Go.ResultVar.tmp 12] := ⟨rfl⟩
instance : FRes Try.f13 [Go.ResultVar.tmp 14] := ⟨rfl⟩
instance : FRes Try.f14 [Go.ResultVar.tmp 0] := ⟨rfl⟩
instance : FRes Try.f15 [Go.ResultVar.cell 12 28] := ⟨rfl⟩
instance : FRes Try.f16 [Go.ResultVar.tmp 4] := ⟨rfl⟩
instance : FRes Try.f17 [Go.ResultVar.tmp 2] := ⟨rfl⟩
instance : FRes Try.f18 [Go.ResultVar.tmp 6, Go.ResultVar.tmp 7] := ⟨rfl⟩
instance : FRes Try.f19 [Go.ResultVar.tmp 6, Go.ResultVar.tmp 7] := ⟨rfl⟩
instance : FRes Try.f20 [Go.ResultVar.cell 4 44] := ⟨rfl⟩
instance : FRes Try.f21 [Go.ResultVar.tmp 6] := ⟨rfl⟩
instance : FRes Try.f22 [Go.ResultVar.tmp 2, Go.ResultVar.tmp 3] := ⟨rfl⟩
instance : FRes Try.f23 [Go.ResultVar.tmp 2] := ⟨rfl⟩
instance : FRes Try.f24 [Go.ResultVar.cell 6 26] := ⟨rfl⟩
instance : FRes Try.f25 [Go.ResultVar.tmp 2, Go.ResultVar.tmp 3] := ⟨rfl⟩
instance : FRes Try.f26 [Go.ResultVar.tmp 4, Go.ResultVar.tmp 5] := ⟨rfl⟩
instance : FRes Try.f27 [Go.ResultVar.cell 2 28, Go.ResultVar.tmp 3] := ⟨rfl⟩
instance : FRes Try.f28 [Go.ResultVar.tmp 0] := ⟨rfl⟩
instance : FRes Try.f29 [Go.ResultVar.tmp 8, Go.ResultVar.tmp 9] := ⟨rfl⟩
instance : FRes Try.f30 [Go.ResultVar.tmp 2] := ⟨rfl⟩
instance : FRes Try.f31 [Go.ResultVar.tmp 2] := ⟨rfl⟩
instance : FRes Try.f32 [Go.ResultVar.tmp 10, Go.ResultVar.tmp 11] := ⟨rfl⟩
instance : FRes Try.f33 [Go.ResultVar.cell 12 69, Go.ResultVar.tmp 13, Go.ResultVar.tmp 14] := ⟨rfl⟩
instance : FRes Try.f34 [Go.ResultVar.tmp 2, Go.ResultVar.tmp 3] := ⟨rfl⟩
instance : FRes Try.f35 [Go.ResultVar.cell 2 61] := ⟨rfl⟩
instance : FRes Try.f36 [Go.ResultVar.tmp 2] := ⟨rfl⟩
instance : FRes Try.f37 [Go.ResultVar.tmp 2, Go.ResultVar.tmp 3] := ⟨rfl⟩
instance : FRes Try.f38 [Go.ResultVar.tmp 6, Go.ResultVar.tmp 7] := ⟨rfl⟩
instance : FRes Try.f39 [Go.ResultVar.cell 4 83] := ⟨rfl⟩
instance : FRes Try.f40 [Go.ResultVar.tmp 0] := ⟨rfl⟩
instance : FRes Try.f41 [Go.ResultVar.tmp 4, Go.ResultVar.tmp 5] := ⟨rfl⟩
instance : FRes Try.f42 [Go.ResultVar.tmp 4] := ⟨rfl⟩
instance : FRes Try.f43 [Go.ResultVar.tmp 6] := ⟨rfl⟩
instance : FRes Try.f44 [Go.ResultVar.tmp 6] := ⟨rfl⟩
instance : FRes Try.f45 [Go.ResultVar.tmp 6] := ⟨rfl⟩
instance : FRes Try.f46 [Go.ResultVar.tmp 10, Go.ResultVar.tmp 11] := ⟨rfl⟩
instance : FRes Try.f47 [Go.ResultVar.tmp 4, Go.ResultVar.tmp 5, Go.ResultVar.tmp 6] := ⟨rfl⟩
instance : FRes Try.f48 [Go.ResultVar.tmp 6, Go.ResultVar.tmp 7, Go.ResultVar.tmp 8] := ⟨rfl⟩
instance : FRes Try.f49 [Go.ResultVar.tmp 8, Go.ResultVar.tmp 9] := ⟨rfl⟩
instance : FRes Try.f50 [Go.ResultVar.tmp 8, Go.ResultVar.tmp 9] := ⟨rfl⟩
instance : FRes Try.f51 [Go.ResultVar.cell 6 61, Go.ResultVar.tmp 7] := ⟨rfl⟩
instance : FRes Try.f52 [Go.ResultVar.tmp 6] := ⟨rfl⟩
instance : FRes Try.f53 [Go.ResultVar.tmp 4, Go.ResultVar.tmp 5, Go.ResultVar.tmp 6] := ⟨rfl⟩
instance : FRes Try.f54 [Go.ResultVar.tmp 6] := ⟨rfl⟩
instance : FRes Try.f55 [Go.ResultVar.cell 2 119, Go.ResultVar.tmp 3] := ⟨rfl⟩
instance : FRes Try.f56 [Go.ResultVar.tmp 4, Go.ResultVar.tmp 5, Go.ResultVar.tmp 6] := ⟨rfl⟩
instance : FRes Try.f57 [Go.ResultVar.cell 2 28] := ⟨rfl⟩
instance : FRes Try.f58 [Go.ResultVar.tmp 4] := ⟨rfl⟩
instance : FRes Try.f59 [Go.ResultVar.tmp 2] := ⟨rfl⟩
instance : FRes Try.f60 [Go.ResultVar.tmp 2] := ⟨rfl⟩
instance : FRes Try.f61 [Go.ResultVar.tmp 2] := ⟨rfl⟩
instance : FRes Try.f62 [Go.ResultVar.tmp 2] := ⟨rfl⟩
instance : FRes Try.f63 [Go.ResultVar.tmp 4] := ⟨rfl⟩
instance : FRes Try.f64 [Go.ResultVar.tmp 4] := ⟨rfl⟩
instance : FRes Try.f65 [Go.ResultVar.tmp 6, Go.ResultVar.tmp 7, Go.ResultVar.tmp 8, Go.ResultVar.tmp 9] := ⟨rfl⟩
instance : FRes Try.f66 [Go.ResultVar.tmp 6, Go.ResultVar.tmp 7] := ⟨rfl⟩
instance : FRes Try.f67 [Go.ResultVar.tmp 4] := ⟨rfl⟩
instance : FRes Try.f68 [Go.ResultVar.tmp 2] := ⟨rfl⟩
instance : FRes Try.f69 [Go.ResultVar.tmp 6] := ⟨rfl⟩
instance : FRes Try.f70 [Go.ResultVar.cell 2 126, Go.ResultVar.tmp 3] := ⟨rfl⟩
instance : FRes Try.f71 [Go.ResultVar.tmp 6, Go.ResultVar.tmp 7] := ⟨rfl⟩
instance : FRes Try.f72 [Go.ResultVar.tmp 6] := ⟨rfl⟩
instance : FRes Try.f73 [Go.ResultVar.tmp 4] := ⟨rfl⟩
instance : FRes Try.f74 [Go.ResultVar.tmp 2, Go.ResultVar.tmp 3, Go.ResultVar.tmp 4] := ⟨rfl⟩
instance : FRes Try.f75 [Go.ResultVar.tmp 2, Go.ResultVar.tmp 3, Go.ResultVar.tmp 4] := ⟨rfl⟩
instance : FRes Try.f76 [Go.ResultVar.tmp 2, Go.ResultVar.tmp 3, Go.ResultVar.tmp 4] := ⟨rfl⟩
instance : FRes Try.f77 [Go.ResultVar.tmp 4] := ⟨rfl⟩
instance : FRes Try.f78 [Go.ResultVar.cell 8 83] := ⟨rfl⟩
instance : FRes Try.f79 [Go.ResultVar.cell 8 69, Go.ResultVar.cell 9 83] := ⟨rfl⟩
instance : FRes Try.f80 [Go.ResultVar.tmp 4] := ⟨rfl⟩
instance : FRes Try.f81 [Go.ResultVar.cell 4 164, Go.ResultVar.tmp 5] := ⟨rfl⟩
instance : FRes Try.f82 [Go.ResultVar.tmp 2, Go.ResultVar.tmp 3, Go.ResultVar.tmp 4, Go.ResultVar.tmp 5] := ⟨rfl⟩
instance : FRes Try.f83 [Go.ResultVar.tmp 8, Go.ResultVar.tmp 9] := ⟨rfl⟩
instance : FRes Try.f84 [Go.ResultVar.tmp 6] := ⟨rfl⟩
instance : FRes Try.f85 [] := ⟨rfl⟩
instance : FRes Try.f86 [Go.ResultVar.tmp 4] := ⟨rfl⟩
instance : FRes Try.f87 [] := ⟨rfl⟩
instance : FRes Try.f88 [Go.ResultVar.tmp 2] := ⟨rfl⟩
instance : FRes Try.f89 [Go.ResultVar.tmp 2] := ⟨rfl⟩
instance : FRes Try.f90 [Go.ResultVar.tmp 4] := ⟨rfl⟩
instance : FRes Try.f91 [Go.ResultVar.tmp 2] := ⟨rfl⟩
instance : FRes Try.f92 [Go.ResultVar.tmp 4] := ⟨rfl⟩
instance : FRes Try.f93 [Go.ResultVar.tmp 4] := ⟨rfl⟩
instance : FRes Try.f94 [Go.ResultVar.tmp 4, Go.ResultVar.tmp 5, Go.ResultVar.tmp 6] := ⟨rfl⟩
instance : FRes Try.f95 [Go.ResultVar.tmp 2] := ⟨rfl⟩
instance : FRes Try.f96 [Go.ResultVar.tmp 2] := ⟨rfl⟩
instance : FRes Try.f97 [Go.ResultVar.tmp 4] := ⟨rfl⟩
instance : FRes Try.f98 [Go.ResultVar.tmp 6] := ⟨rfl⟩
instance : FRes Try.f99 [] := ⟨rfl⟩
instance : FRes Try.f100 [Go.ResultVar.tmp 2] := ⟨rfl⟩
instance : FRes Try.f101 [Go.ResultVar.tmp 2] := ⟨rfl⟩
instance : FRes Try.f102 [Go.ResultVar.tmp 6] := ⟨rfl⟩
instance : FRes Try.f103 [Go.ResultVar.tmp 2, Go.ResultVar.tmp 3] := ⟨rfl⟩
instance : FRes Try.f104 [Go.ResultVar.tmp 6, Go.ResultVar.tmp 7] := ⟨rfl⟩
instance : FRes Try.f105 [Go.ResultVar.tmp 6, Go.ResultVar.tmp 7] := ⟨rfl⟩
instance : FRes Try.f106 [Go.ResultVar.cell 4 196] := ⟨rfl⟩
instance : FRes Try.f107 [Go.ResultVar.tmp 2] := ⟨rfl⟩
instance : FRes Try.f108 [Go.ResultVar.tmp 4] := ⟨rfl⟩
instance : FRes Try.f109 [Go.ResultVar.tmp 4] := ⟨rfl⟩
instance : FRes Try.f110 [Go.ResultVar.tmp 2, Go.ResultVar.tmp 3] := ⟨rfl⟩
instance : FRes Try.f111 [] := ⟨rfl⟩
instance : FRes Try.f112 [Go.ResultVar.tmp 2] := ⟨rfl⟩
instance : FRes Try.f113 [] := ⟨rfl⟩
instance : FRes Try.f114 [Go.ResultVar.tmp 2] := ⟨rfl⟩
instance : FRes Try.f115 [Go.ResultVar.tmp 6, Go.ResultVar.tmp 7] := ⟨rfl⟩
instance : FRes Try.f116 [Go.ResultVar.tmp 2] := ⟨rfl⟩
instance : FRes Try.f117 [Go.ResultVar.tmp 4, Go.ResultVar.tmp 5] := ⟨rfl⟩
instance : FRes Try.f118 [Go.ResultVar.tmp 2] := ⟨rfl⟩
instance : FRes Try.f119 [Go.ResultVar.cell 2 196] := ⟨rfl⟩
instance : FRes Try.f120 [Go.ResultVar.tmp 2] := ⟨rfl⟩
instance : FRes Try.f121 [Go.ResultVar.tmp 6, Go.ResultVar.tmp 7] := ⟨rfl⟩
instance : FRes Try.f122 [Go.ResultVar.tmp 8] := ⟨rfl⟩
instance : FRes Try.f123 [Go.ResultVar.tmp 4, Go.ResultVar.tmp 5] := ⟨rfl⟩
instance : FRes Try.f124 [Go.ResultVar.tmp 4, Go.ResultVar.tmp 5] := ⟨rfl⟩
instance : FRes Try.f125 [Go.ResultVar.tmp 2] := ⟨rfl⟩
instance : FRes Try.f126 [Go.ResultVar.tmp 4] := ⟨rfl⟩
instance : FRes Try.f127 [] := ⟨rfl⟩
instance : FRes Try.f128 [] := ⟨rfl⟩
instance : FRes Try.f129 [Go.ResultVar.tmp 2] := ⟨rfl⟩
instance : FRes Try.f130 [] := ⟨rfl⟩
instance : FRes Try.f131 [Go.ResultVar.tmp 4] := ⟨rfl⟩
instance : FRes Try.f132 [Go.ResultVar.tmp 2] := ⟨rfl⟩
instance : FRes Try.f133 [Go.ResultVar.tmp 4, Go.ResultVar.tmp 5] := ⟨rfl⟩
instance : FRes Try.f134 [Go.ResultVar.tmp 2] := ⟨rfl⟩
instance : FRes Try.f135 [Go.ResultVar.tmp 2] := ⟨rfl⟩
instance : FRes Try.f136 [Go.ResultVar.tmp 2] := ⟨rfl⟩
instance : FRes Try.f138 [Go.ResultVar.tmp 2] := ⟨rfl⟩
instance : FRes Try.f139 [Go.ResultVar.tmp 4] := ⟨rfl⟩
end Go.Proofs.Ytpmomimaihjmjaa
/- Package bits: the writer and the reader. -/
namespace Go.Proofs.Ytpmomimaihjmjaa
open Go.RowKit

/-- Bits as bytes, the highest of each byte first. -/
def bitN (bs : List Bool) (i : Nat) : Nat := if bs.getD i false then 1 else 0
def packAt (bs : List Bool) (k : Nat) : Nat := 128 * bitN bs (8 * k) + 64 * bitN bs (8 * k + 1) + 32 * bitN bs (8 * k + 2) + 16 * bitN bs (8 * k + 3) + 8 * bitN bs (8 * k + 4) + 4 * bitN bs (8 * k + 5) + 2 * bitN bs (8 * k + 6) + bitN bs (8 * k + 7)
def pack (bs : List Bool) : List Int := (List.range ((bs.length + 7) / 8)).map fun k => (packAt bs k : Int)

/-- A writer at block g. -/
abbrev Wr (g : Nat) (A : Option Addr) (c : Nat) (bs : List Bool) : List HE :=
  [.blk g 182 [.slice A (pack bs).length c, .int .i64 bs.length], .row (.slice A (pack bs).length c) 5 1 (pack bs).length (ints .u8 (pack bs))]

theorem pack_len (bs : List Bool) : (pack bs).length = (bs.length + 7) / 8 := by simp [pack]
def grow (bs : List Bool) : List Int := if bs.length % 8 = 0 then pack bs ++ [0] else pack bs
theorem grow_len (bs : List Bool) : (grow bs).length = bs.length / 8 + 1 := by
  unfold grow; split <;> simp [pack_len] <;> omega
theorem bitN_snoc (bs : List Bool) (b : Bool) (i : Nat) : bitN (bs ++ [b]) i = bitN bs i + if i = bs.length ∧ b = true then 1 else 0 := by
  unfold bitN
  rcases Nat.lt_trichotomy i bs.length with h | h | h
  · rw [if_neg (fun e : i = bs.length ∧ b = true => by omega)]
    simp [List.getD_eq_getElem?_getD, List.getElem?_append_left h]
  · subst h
    cases b <;> simp [List.getD_eq_getElem?_getD]
  · rw [if_neg (fun e : i = bs.length ∧ b = true => by omega)]
    have h1 : (bs ++ [b])[i]? = none := List.getElem?_eq_none (by simp; omega)
    have h2 : bs[i]? = none := List.getElem?_eq_none (by omega)
    simp [List.getD_eq_getElem?_getD, h1, h2]
theorem bitN_le (bs : List Bool) (i : Nat) : bitN bs i ≤ 1 := by unfold bitN; split <;> omega
theorem bitN_out (bs : List Bool) (i : Nat) (h : bs.length ≤ i) : bitN bs i = 0 := by
  unfold bitN
  have h2 : bs[i]? = none := List.getElem?_eq_none h
  simp [List.getD_eq_getElem?_getD, h2]
theorem packAt_lt (bs : List Bool) (k : Nat) : packAt bs k < 256 := by
  unfold packAt
  have := bitN_le bs
  have h0 := this (8 * k); have h1 := this (8 * k + 1); have h2 := this (8 * k + 2); have h3 := this (8 * k + 3); have h4 := this (8 * k + 4); have h5 := this (8 * k + 5); have h6 := this (8 * k + 6); have h7 := this (8 * k + 7)
  omega
theorem packAt_snoc (bs : List Bool) (b : Bool) (k : Nat) : packAt (bs ++ [b]) k = packAt bs k + if bs.length / 8 = k ∧ b = true then 2 ^ (7 - bs.length % 8) else 0 := by
  unfold packAt
  simp only [bitN_snoc]
  cases b with
  | false => simp
  | true =>
    simp only [and_true]
    by_cases hk : bs.length / 8 = k
    · rw [if_pos hk]
      obtain h | h | h | h | h | h | h | h : bs.length % 8 = 0 ∨ bs.length % 8 = 1 ∨ bs.length % 8 = 2 ∨ bs.length % 8 = 3 ∨ bs.length % 8 = 4 ∨ bs.length % 8 = 5 ∨ bs.length % 8 = 6 ∨ bs.length % 8 = 7 := by omega
      all_goals
        rw [h]
        have e : bs.length = 8 * k + bs.length % 8 := by omega
        rw [h] at e
        rw [e]
        simp
        try omega
    · rw [if_neg hk]
      have : ∀ r, r < 8 → ¬ (8 * k + r = bs.length) := fun r hr e => hk (by omega)
      have h0 := this 0 (by omega); have h1 := this 1 (by omega); have h2 := this 2 (by omega); have h3 := this 3 (by omega); have h4 := this 4 (by omega); have h5 := this 5 (by omega); have h6 := this 6 (by omega); have h7 := this 7 (by omega)
      rw [Nat.add_zero] at h0
      simp [h0, h1, h2, h3, h4, h5, h6, h7]
theorem packAt_low (bs : List Bool) : packAt bs (bs.length / 8) % 2 ^ (7 - bs.length % 8 + 1) = 0 := by
  unfold packAt
  have o := bitN_out bs
  obtain h | h | h | h | h | h | h | h : bs.length % 8 = 0 ∨ bs.length % 8 = 1 ∨ bs.length % 8 = 2 ∨ bs.length % 8 = 3 ∨ bs.length % 8 = 4 ∨ bs.length % 8 = 5 ∨ bs.length % 8 = 6 ∨ bs.length % 8 = 7 := by omega
  all_goals
    rw [h]
    simp only [Nat.reduceSub, Nat.reduceAdd, Nat.reducePow]
    try rw [o (8 * (bs.length / 8)) (by omega)]
    try rw [o (8 * (bs.length / 8) + 1) (by omega)]
    try rw [o (8 * (bs.length / 8) + 2) (by omega)]
    try rw [o (8 * (bs.length / 8) + 3) (by omega)]
    try rw [o (8 * (bs.length / 8) + 4) (by omega)]
    try rw [o (8 * (bs.length / 8) + 5) (by omega)]
    try rw [o (8 * (bs.length / 8) + 6) (by omega)]
    try rw [o (8 * (bs.length / 8) + 7) (by omega)]
    try omega
theorem getElem?_pack (bs : List Bool) (k : Nat) : (pack bs)[k]? = if k < (bs.length + 7) / 8 then some (packAt bs k : Int) else none := by
  unfold pack
  rw [List.getElem?_map]
  by_cases h : k < (bs.length + 7) / 8
  · simp [h]
  · simp [h]
theorem grow_at (bs : List Bool) : (grow bs)[bs.length / 8]? = some (packAt bs (bs.length / 8) : Int) := by
  unfold grow
  split
  · rename_i h
    have hz : packAt bs (bs.length / 8) = 0 := by
      have h1 := packAt_low bs
      have h2 := packAt_lt bs (bs.length / 8)
      rw [h] at h1
      simp at h1
      omega
    rw [hz, List.getElem?_append_right (by rw [pack_len]; omega), show bs.length / 8 - (pack bs).length = 0 from by rw [pack_len]; omega]
    rfl
  · rw [getElem?_pack, if_pos (by omega)]
theorem pack_snoc (bs : List Bool) (b : Bool) : pack (bs ++ [b]) = (grow bs).set (bs.length / 8) ((packAt bs (bs.length / 8) + if b = true then 2 ^ (7 - bs.length % 8) else 0 : Nat) : Int) := by
  apply List.ext_getElem?
  intro k
  rw [getElem?_pack, packAt_snoc, List.length_append, List.length_singleton]
  by_cases hk : bs.length / 8 = k
  · subst hk
    rw [List.getElem?_set_self (by rw [grow_len]; omega), if_pos (by omega)]
    simp
  · rw [List.getElem?_set_ne hk, if_neg (fun e : bs.length / 8 = k ∧ b = true => hk e.1)]
    by_cases h8 : bs.length % 8 = 0
    · rw [grow, if_pos h8]
      rcases Nat.lt_or_ge k (pack bs).length with h | h
      · rw [List.getElem?_append_left h, getElem?_pack]
        rw [pack_len] at h
        rw [if_pos (by omega), if_pos h]; simp
      · rw [List.getElem?_append_right h]
        rw [pack_len] at h ⊢
        rw [if_neg (by omega), List.getElem?_eq_none (by simp; omega)]
    · rw [grow, if_neg h8, getElem?_pack]
      by_cases h : k < (bs.length + 7) / 8
      · rw [if_pos h, if_pos (by omega)]; simp
      · rw [if_neg h, if_neg (by omega)]
theorem or_byte : ∀ (x : Fin 256) (r : Fin 8), (x : Nat) % 2 ^ (7 - (r : Nat) + 1) = 0 → bits .or .u8 ((x : Nat) : Int) (128 / 2 ^ (r : Nat)) = ((x + 2 ^ (7 - (r : Nat)) : Nat) : Int) := by decide +kernel

attribute [local irreducible] OJ J HdJ Code.wpIn wpListIn Oper.wpIn bodyPost CallsIn Does
set_option maxRecDepth 4000
set_option maxHeartbeats 1000000 in
theorem bit_any (g c : Nat) (A : Option Addr) (bs : List Bool) (b : Bool) (w : World) (hown : Own (Wr g A c bs) w) (hm : bs.length < 1000000000) :
    Does Try.prog 127 [.pointer (some ⟨g, 0, none⟩), .bool b] (Wr g A c bs) w (fun v S' => v = .tuple #[] ∧ ∃ A' c', S' = Wr g A' c' (bs ++ [b])) := by
  have hpl := pack_len bs
  refine does_of Try.func127 rfl Try.ntmps127 rfl hown (fun n => ?_)
  simp only [slots]
  refine z_go2
  refine c_seam (X := Option Addr × Nat) (fun _ => True) (fun _ => [(0, .pointer (some ⟨g, 0, none⟩)), (1, .bool b)])
    (fun x => [.blk g 182 [.slice x.1 (grow bs).length x.2, .int .i64 bs.length], .row (.slice x.1 (grow bs).length x.2) 5 1 (grow bs).length (ints .u8 (grow bs))]) ?_ ?_
  · refine c_cond rfl (fun h => ?_) (fun h => ?_)
    · have hg : grow bs = pack bs ++ [0] := if_pos (by have := beq_iff_eq.1 h; omega)
      refine z_go2
      rw [hg]
      exact c_at_seam (_, _) trivial ⟨rfl, rfl, trivial⟩ (.cons (Has.there _ (Has.here _ _)) (.cons (Has.there _ (Has.here _ _)) (.nil _)))
    · have hg : grow bs = pack bs := if_neg (by have := beq_eq_false_iff_ne.1 h; omega)
      refine z_go2
      rw [hg]
      exact c_at_seam (A, c) trivial ⟨rfl, rfl, trivial⟩ (Sub.refl _)
  · rintro ⟨A1, c1⟩ -
    have hgl := grow_len bs
    have hga := grow_at bs
    have hps := pack_snoc bs b
    simp only
    refine z_go2
    refine c_cond rfl (fun h => ?_) (fun h => ?_)
    · subst h
      refine j_opn (A := A1) (m := (grow bs).length) (cc := c1) (by omega) ?_
      rintro g1 rfl
      refine z_go2
      have hr := or_byte ⟨packAt bs (bs.length / 8), packAt_lt _ _⟩ ⟨bs.length % 8, by omega⟩ (packAt_low bs)
      have e0 : ((bs.length : Int) / 8).toNat = bs.length / 8 := by omega
      have e3 : ((bs.length : Int) % 8).toNat = bs.length % 8 := by omega
      have e1 : (pack (bs ++ [true])).length = (grow bs).length := by rw [hps, List.length_set]
      have e2 : pack (bs ++ [true]) = (grow bs).set (bs.length / 8) (bits .or .u8 ((grow bs).getD (bs.length / 8) 0) (128 / 2 ^ (bs.length % 8))) := by
        rw [List.getD_eq_getElem?_getD, hga, Option.getD_some, hr, hps]; simp
      refine j_outN (S' := Wr g (some ⟨g1, 0, none⟩) c1 (bs ++ [true])) rfl ?_ ⟨rfl, _, _, rfl⟩
      simp only [Wr, e0, e3, e1, List.length_append]
      rw [e2]
      exact Sub.refl _
    · subst h
      refine z_go2
      have e1 : pack (bs ++ [false]) = grow bs := by
        rw [hps]
        apply List.ext_getElem?
        intro k
        by_cases hk : bs.length / 8 = k
        · subst hk; rw [List.getElem?_set_self (by omega), hga]; simp
        · rw [List.getElem?_set_ne hk]
      refine j_outN (S' := Wr g A1 c1 (bs ++ [false])) rfl ?_ ⟨rfl, _, _, rfl⟩
      simp only [Wr, e1, List.length_append]
      exact Sub.refl _

set_option maxHeartbeats 1000000 in
theorem bytes_any (g c : Nat) (A : Option Addr) (bs : List Bool) (w : World) (hown : Own (Wr g A c bs) w) (hm : bs.length < 1000000000) :
    Does Try.prog 100 [.pointer (some ⟨g, 0, none⟩)] (Wr g A c bs) w
      (fun v S' => ∃ A' c', v = .slice A' (pack bs).length c' ∧ S' = .row (.slice A' (pack bs).length c') 5 1 (pack bs).length (ints .u8 (pack bs)) :: Wr g A c bs) := by
  have hpl := pack_len bs
  refine does_of Try.func100 rfl Try.ntmps100 rfl hown (fun n => ?_)
  simp only [slots]
  refine z_go2
  exact j_out1 rfl rfl (Sub.refl _) ⟨_, _, rfl, rfl⟩

set_option maxHeartbeats 1000000 in
theorem ones_any (g c : Nat) (A : Option Addr) (bs : List Bool) (m : Nat) (w : World) (hown : Own (Wr g A c bs) w) (hm : bs.length + m < 900000000) :
    Does Try.prog 130 [.pointer (some ⟨g, 0, none⟩), .int .i64 m] (Wr g A c bs) w (fun v S' => v = .tuple #[] ∧ ∃ A' c', S' = Wr g A' c' (bs ++ List.replicate m true ++ [false])) := by
  refine does_of Try.func130 rfl Try.ntmps130 rfl hown (fun n => ?_)
  simp only [slots]
  refine z_go2
  refine c_loop (X := Nat × Option Addr × Nat) (fun x => x.1 ≤ m) (fun x => [(0, .pointer (some ⟨g, 0, none⟩)), (4, .int .i64 m), (5, .int .i64 x.1)]) (fun x => Wr g x.2.1 x.2.2 (bs ++ List.replicate x.1 true)) (fun x => m - x.1) (0, A, c) (by simp) ⟨rfl, rfl, rfl, trivial⟩ ?_ ?_
  · simp only [List.replicate_zero, List.append_nil]; exact Sub.refl _
  rintro ⟨i, A1, c1⟩ hi
  simp only at hi ⊢
  refine z_go2
  refine c_cond rfl (fun h => ?_) (fun h => ?_)
  · have hlt : i < m := by simpa using h
    refine z_go2
    refine lfn rfl rfl (Split.cons (Has.here _ _) (Split.cons (Has.here _ _) (Split.nil _))) rfl (fun w hw ho => bit_any g c1 A1 _ true w ho (by simp; omega)) ?_
    rintro v S' ⟨rfl, A2, c2, rfl⟩
    refine z_go2
    refine c_round (i + 1, A2, c2) (by show i + 1 ≤ m; omega) (by show m - (i + 1) < m - i; omega) (by exact ⟨rfl, rfl, by simp [look], trivial⟩) ?_
    rw [List.append_assoc, show List.replicate i true ++ [true] = List.replicate (i + 1) true from by rw [List.replicate_succ']]
    exact Sub.refl _
  · have hge : i = m := by simp at h; omega
    subst hge
    refine z_go2
    refine lfn rfl rfl (Split.cons (Has.here _ _) (Split.cons (Has.here _ _) (Split.nil _))) rfl (fun w hw ho => bit_any g c1 A1 _ false w ho (by simp; omega)) ?_
    rintro v S' ⟨rfl, A2, c2, rfl⟩
    refine z_go2
    exact j_outN rfl (Sub.refl _) ⟨rfl, A2, c2, rfl⟩
end Go.Proofs.Ytpmomimaihjmjaa
