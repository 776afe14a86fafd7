
import Derived.Test.YtemmnpgebpffbaaMD03
set_option linter.unusedVariables false
set_option linter.unusedSimpArgs false
/- The facts on types and functions of this translation, as instances. Printed by a program of mine. -/
namespace Go.Proofs.Ytemmnpgebpffbaa
open Go
instance : Inf Try.prog 0 1 0 ((Go.Value.tuple #[])) := ⟨Try.t0, by kernel_rfl, rfl, rfl, rfl⟩
instance : Inf Try.prog 1 1 8 (Go.Value.nilFunc) := ⟨Try.t1, by kernel_rfl, rfl, rfl, rfl⟩
instance : Inf Try.prog 2 1 8 ((Go.Value.int Go.IntKind.i64 0)) := ⟨Try.t2, by kernel_rfl, rfl, rfl, rfl⟩
instance : Inf Try.prog 3 1 8 ((Go.Value.int Go.IntKind.i64 0)) := ⟨Try.t3, by kernel_rfl, rfl, rfl, rfl⟩
instance : Inf Try.prog 4 1 1 ((Go.Value.bool false)) := ⟨Try.t4, by kernel_rfl, rfl, rfl, rfl⟩
instance : Inf Try.prog 5 1 1 ((Go.Value.int Go.IntKind.u8 0)) := ⟨Try.t5, by kernel_rfl, rfl, rfl, rfl⟩
instance : Inf Try.prog 9 1 16 ((Go.Value.string { data := #[] })) := ⟨Try.t9, by kernel_rfl, rfl, rfl, rfl⟩
instance : Inf Try.prog 12 1 8 ((Go.Value.int Go.IntKind.u64 0)) := ⟨Try.t12, by kernel_rfl, rfl, rfl, rfl⟩
instance : Inf Try.prog 13 2 24 ((Go.Value.agg #[Go.Value.string { data := #[] }, Go.Value.int Go.IntKind.u64 0])) := ⟨Try.t13, by kernel_rfl, rfl, rfl, rfl⟩
instance : Inf Try.prog 20 1 16 (Go.Value.nilIface) := ⟨Try.t20, by kernel_rfl, rfl, rfl, rfl⟩
instance : Inf Try.prog 21 1 4 ((Go.Value.int Go.IntKind.i32 0)) := ⟨Try.t21, by kernel_rfl, rfl, rfl, rfl⟩
instance : Inf Try.prog 22 1 24 ((Go.Value.slice none 0 0)) := ⟨Try.t22, by kernel_rfl, rfl, rfl, rfl⟩
instance : Inf Try.prog 23 1 8 (Go.Value.nilFunc) := ⟨Try.t23, by kernel_rfl, rfl, rfl, rfl⟩
instance : Inf Try.prog 24 1 8 ((Go.Value.int Go.IntKind.i64 0)) := ⟨Try.t24, by kernel_rfl, rfl, rfl, rfl⟩
instance : Inf Try.prog 25 1 0 ((Go.Value.tuple #[Go.Value.int Go.IntKind.i64 0, Go.Value.int Go.IntKind.i64 0])) := ⟨Try.t25, by kernel_rfl, rfl, rfl, rfl⟩
instance : Inf Try.prog 26 1 8 (Go.Value.nilFunc) := ⟨Try.t26, by kernel_rfl, rfl, rfl, rfl⟩
instance : Inf Try.prog 27 1 8 (Go.Value.nilFunc) := ⟨Try.t27, by kernel_rfl, rfl, rfl, rfl⟩
instance : Inf Try.prog 28 1 24 ((Go.Value.slice none 0 0)) := ⟨Try.t28, by kernel_rfl, rfl, rfl, rfl⟩
instance : Inf Try.prog 29 2 16 ((Go.Value.agg #[Go.Value.int Go.IntKind.i64 0, Go.Value.int Go.IntKind.i64 0])) := ⟨Try.t29, by kernel_rfl, rfl, rfl, rfl⟩
instance : Inf Try.prog 30 2 16 ((Go.Value.agg #[Go.Value.int Go.IntKind.i64 0, Go.Value.int Go.IntKind.i64 0])) := ⟨Try.t30, by kernel_rfl, rfl, rfl, rfl⟩
instance : Inf Try.prog 31 1 24 ((Go.Value.slice none 0 0)) := ⟨Try.t31, by kernel_rfl, rfl, rfl, rfl⟩
instance : Inf Try.prog 32 4 32 ((Go.Value.agg #[Go.Value.int Go.IntKind.i64 0, Go.Value.int Go.IntKind.i64 0, Go.Value.int Go.IntKind.i64 0, Go.Value.int Go.IntKind.i64 0])) := ⟨Try.t32, by kernel_rfl, rfl, rfl, rfl⟩
instance : Inf Try.prog 33 4 32 ((Go.Value.agg #[Go.Value.int Go.IntKind.i64 0, Go.Value.int Go.IntKind.i64 0, Go.Value.int Go.IntKind.i64 0, Go.Value.int Go.IntKind.i64 0])) := ⟨Try.t33, by kernel_rfl, rfl, rfl, rfl⟩
instance : Inf Try.prog 34 3 40 ((Go.Value.agg #[Go.Value.int Go.IntKind.i64 0, Go.Value.int Go.IntKind.i64 0, Go.Value.slice none 0 0])) := ⟨Try.t34, by kernel_rfl, rfl, rfl, rfl⟩
instance : Inf Try.prog 35 3 40 ((Go.Value.agg #[Go.Value.int Go.IntKind.i64 0, Go.Value.int Go.IntKind.i64 0, Go.Value.slice none 0 0])) := ⟨Try.t35, by kernel_rfl, rfl, rfl, rfl⟩
instance : Inf Try.prog 36 6 56 ((Go.Value.agg #[Go.Value.int Go.IntKind.i64 0, Go.Value.int Go.IntKind.i64 0, Go.Value.slice none 0 0, Go.Value.int Go.IntKind.i64 0, Go.Value.int Go.IntKind.i32 0, Go.Value.int Go.IntKind.i32 0])) := ⟨Try.t36, by kernel_rfl, rfl, rfl, rfl⟩
instance : Inf Try.prog 37 6 56 ((Go.Value.agg #[Go.Value.int Go.IntKind.i64 0, Go.Value.int Go.IntKind.i64 0, Go.Value.slice none 0 0, Go.Value.int Go.IntKind.i64 0, Go.Value.int Go.IntKind.i32 0, Go.Value.int Go.IntKind.i32 0])) := ⟨Try.t37, by kernel_rfl, rfl, rfl, rfl⟩
instance : Inf Try.prog 38 1 8 (Go.Value.nilFunc) := ⟨Try.t38, by kernel_rfl, rfl, rfl, rfl⟩
instance : Inf Try.prog 39 1 2 ((Go.Value.int Go.IntKind.u16 0)) := ⟨Try.t39, by kernel_rfl, rfl, rfl, rfl⟩
instance : Inf Try.prog 40 1 8 ((Go.Value.pointer none)) := ⟨Try.t40, by kernel_rfl, rfl, rfl, rfl⟩
instance : Inf Try.prog 41 1 8 (Go.Value.nilFunc) := ⟨Try.t41, by kernel_rfl, rfl, rfl, rfl⟩
instance : Inf Try.prog 42 1 8 (Go.Value.nilFunc) := ⟨Try.t42, by kernel_rfl, rfl, rfl, rfl⟩
instance : Inf Try.prog 43 1 0 ((Go.Value.tuple #[Go.Value.slice none 0 0, Go.Value.bool false])) := ⟨Try.t43, by kernel_rfl, rfl, rfl, rfl⟩
instance : Inf Try.prog 44 1 8 (Go.Value.nilFunc) := ⟨Try.t44, by kernel_rfl, rfl, rfl, rfl⟩
instance : Inf Try.prog 45 1 8 (Go.Value.nilFunc) := ⟨Try.t45, by kernel_rfl, rfl, rfl, rfl⟩
instance : Inf Try.prog 46 1 8 (Go.Value.nilFunc) := ⟨Try.t46, by kernel_rfl, rfl, rfl, rfl⟩
instance : Inf Try.prog 47 1 8 (Go.Value.nilFunc) := ⟨Try.t47, by kernel_rfl, rfl, rfl, rfl⟩
instance : Inf Try.prog 51 1 8 (Go.Value.nilFunc) := ⟨Try.t51, by kernel_rfl, rfl, rfl, rfl⟩
instance : Inf Try.prog 52 1 8 (Go.Value.nilFunc) := ⟨Try.t52, by kernel_rfl, rfl, rfl, rfl⟩
instance : Inf Try.prog 53 1 2 ((Go.Value.int Go.IntKind.i16 0)) := ⟨Try.t53, by kernel_rfl, rfl, rfl, rfl⟩
instance : Inf Try.prog 54 1 8 (Go.Value.nilFunc) := ⟨Try.t54, by kernel_rfl, rfl, rfl, rfl⟩
instance : Inf Try.prog 55 3 24 ((Go.Value.agg #[Go.Value.int Go.IntKind.i64 0, Go.Value.int Go.IntKind.i64 0, Go.Value.int Go.IntKind.i64 0])) := ⟨Try.t55, by kernel_rfl, rfl, rfl, rfl⟩
instance : Inf Try.prog 56 3 24 ((Go.Value.agg #[Go.Value.int Go.IntKind.i64 0, Go.Value.int Go.IntKind.i64 0, Go.Value.int Go.IntKind.i64 0])) := ⟨Try.t56, by kernel_rfl, rfl, rfl, rfl⟩
instance : Inf Try.prog 57 3 24 ((Go.Value.agg #[Go.Value.int Go.IntKind.i64 0, Go.Value.int Go.IntKind.i64 0, Go.Value.int Go.IntKind.i64 0])) := ⟨Try.t57, by kernel_rfl, rfl, rfl, rfl⟩
instance : Inf Try.prog 58 3 24 ((Go.Value.agg #[Go.Value.int Go.IntKind.i64 0, Go.Value.int Go.IntKind.i64 0, Go.Value.int Go.IntKind.i64 0])) := ⟨Try.t58, by kernel_rfl, rfl, rfl, rfl⟩
instance : Inf Try.prog 59 1 0 ((Go.Value.tuple #[Go.Value.agg #[Go.Value.int Go.IntKind.i64 0, Go.Value.int Go.IntKind.i64 0, Go.Value.int Go.IntKind.i64 0], Go.Value.int Go.IntKind.i64 0, Go.Value.int Go.IntKind.i64 0])) := ⟨Try.t59, by kernel_rfl, rfl, rfl, rfl⟩
instance : Inf Try.prog 60 1 8 (Go.Value.nilFunc) := ⟨Try.t60, by kernel_rfl, rfl, rfl, rfl⟩
instance : Inf Try.prog 61 1 8 (Go.Value.nilFunc) := ⟨Try.t61, by kernel_rfl, rfl, rfl, rfl⟩
instance : Inf Try.prog 62 1 8 (Go.Value.nilFunc) := ⟨Try.t62, by kernel_rfl, rfl, rfl, rfl⟩
instance : Inf Try.prog 63 1 8 (Go.Value.nilFunc) := ⟨Try.t63, by kernel_rfl, rfl, rfl, rfl⟩
instance : Inf Try.prog 64 1 8 (Go.Value.nilFunc) := ⟨Try.t64, by kernel_rfl, rfl, rfl, rfl⟩
instance : Inf Try.prog 65 1 8 (Go.Value.nilFunc) := ⟨Try.t65, by kernel_rfl, rfl, rfl, rfl⟩
instance : Inf Try.prog 66 1 24 ((Go.Value.slice none 0 0)) := ⟨Try.t66, by kernel_rfl, rfl, rfl, rfl⟩
instance : Inf Try.prog 67 1 0 ((Go.Value.tuple #[Go.Value.slice none 0 0, Go.Value.int Go.IntKind.i64 0, Go.Value.int Go.IntKind.i64 0])) := ⟨Try.t67, by kernel_rfl, rfl, rfl, rfl⟩
instance : Inf Try.prog 68 1 8 (Go.Value.nilFunc) := ⟨Try.t68, by kernel_rfl, rfl, rfl, rfl⟩
instance : Inf Try.prog 69 2 16 ((Go.Value.agg #[Go.Value.int Go.IntKind.i64 0, Go.Value.int Go.IntKind.i64 0])) := ⟨Try.t69, by kernel_rfl, rfl, rfl, rfl⟩
instance : Inf Try.prog 70 1 8 (Go.Value.nilFunc) := ⟨Try.t70, by kernel_rfl, rfl, rfl, rfl⟩
instance : Inf Try.prog 71 1 8 (Go.Value.nilFunc) := ⟨Try.t71, by kernel_rfl, rfl, rfl, rfl⟩
instance : Inf Try.prog 72 1 8 (Go.Value.nilFunc) := ⟨Try.t72, by kernel_rfl, rfl, rfl, rfl⟩
instance : Inf Try.prog 73 1 8 (Go.Value.nilFunc) := ⟨Try.t73, by kernel_rfl, rfl, rfl, rfl⟩
instance : Inf Try.prog 74 1 8 (Go.Value.nilFunc) := ⟨Try.t74, by kernel_rfl, rfl, rfl, rfl⟩
instance : Inf Try.prog 75 1 8 (Go.Value.nilFunc) := ⟨Try.t75, by kernel_rfl, rfl, rfl, rfl⟩
instance : Inf Try.prog 76 1 8 (Go.Value.nilFunc) := ⟨Try.t76, by kernel_rfl, rfl, rfl, rfl⟩
instance : Inf Try.prog 77 1 8 (Go.Value.nilFunc) := ⟨Try.t77, by kernel_rfl, rfl, rfl, rfl⟩
instance : Inf Try.prog 78 1 8 ((Go.Value.int Go.IntKind.u64 0)) := ⟨Try.t78, by kernel_rfl, rfl, rfl, rfl⟩
instance : Inf Try.prog 79 2 16 ((Go.Value.agg #[Go.Value.int Go.IntKind.i64 0, Go.Value.int Go.IntKind.u64 0])) := ⟨Try.t79, by kernel_rfl, rfl, rfl, rfl⟩
instance : Inf Try.prog 80 2 16 ((Go.Value.agg #[Go.Value.int Go.IntKind.i64 0, Go.Value.int Go.IntKind.u64 0])) := ⟨Try.t80, by kernel_rfl, rfl, rfl, rfl⟩
instance : Inf Try.prog 81 1 8 (Go.Value.nilFunc) := ⟨Try.t81, by kernel_rfl, rfl, rfl, rfl⟩
instance : Inf Try.prog 82 1 8 (Go.Value.nilFunc) := ⟨Try.t82, by kernel_rfl, rfl, rfl, rfl⟩
instance : Inf Try.prog 83 1 8 (Go.Value.nilFunc) := ⟨Try.t83, by kernel_rfl, rfl, rfl, rfl⟩
instance : Inf Try.prog 84 1 0 ((Go.Value.tuple #[Go.Value.agg (([Go.Value.bool false, Go.Value.int Go.IntKind.i64 0, Go.Value.int Go.IntKind.i64 0, Go.Value.int Go.IntKind.i64 0, Go.Value.int Go.IntKind.i64 0, Go.Value.int Go.IntKind.i64 0, Go.Value.int Go.IntKind.i64 0, Go.Value.int Go.IntKind.i64 0, Go.Value.int Go.IntKind.i64 0, Go.Value.int Go.IntKind.i64 0, Go.Value.int Go.IntKind.i64 0, Go.Value.int Go.IntKind.i64 0, Go.Value.int Go.IntKind.i64 0, Go.Value.int Go.IntKind.i64 0, Go.Value.int Go.IntKind.i64 0, Go.Value.int Go.IntKind.i64 0, Go.Value.int Go.IntKind.i64 0, Go.Value.int Go.IntKind.i64 0, Go.Value.int Go.IntKind.i64 0, Go.Value.int Go.IntKind.i64 0, Go.Value.int Go.IntKind.i64 0, Go.Value.int Go.IntKind.i64 0, Go.Value.int Go.IntKind.i64 0, Go.Value.int Go.IntKind.i64 0, Go.Value.int Go.IntKind.i64 0, Go.Value.int Go.IntKind.i64 0, Go.Value.int Go.IntKind.i64 0, Go.Value.int Go.IntKind.i64 0, Go.Value.int Go.IntKind.i64 0, Go.Value.int Go.IntKind.i64 0, Go.Value.int Go.IntKind.i64 0, Go.Value.int Go.IntKind.i64 0].append [Go.Value.int Go.IntKind.i64 0, Go.Value.int Go.IntKind.i64 0, Go.Value.int Go.IntKind.i64 0, Go.Value.int Go.IntKind.i64 0, Go.Value.int Go.IntKind.i64 0, Go.Value.int Go.IntKind.i64 0, Go.Value.int Go.IntKind.i64 0, Go.Value.int Go.IntKind.i64 0, Go.Value.int Go.IntKind.i64 0, Go.Value.int Go.IntKind.i64 0, Go.Value.int Go.IntKind.i64 0, Go.Value.int Go.IntKind.i64 0, Go.Value.int Go.IntKind.i64 0, Go.Value.int Go.IntKind.i64 0, Go.Value.int Go.IntKind.i64 0, Go.Value.int Go.IntKind.i64 0, Go.Value.int Go.IntKind.i64 0, Go.Value.int Go.IntKind.i64 0, Go.Value.int Go.IntKind.i64 0, Go.Value.int Go.IntKind.i64 0, Go.Value.int Go.IntKind.i64 0, Go.Value.int Go.IntKind.i64 0, Go.Value.int Go.IntKind.i64 0, Go.Value.int Go.IntKind.i64 0, Go.Value.int Go.IntKind.i64 0, Go.Value.int Go.IntKind.i64 0, Go.Value.int Go.IntKind.i64 0, Go.Value.int Go.IntKind.i64 0, Go.Value.int Go.IntKind.i64 0, Go.Value.int Go.IntKind.i64 0, Go.Value.int Go.IntKind.i64 0, Go.Value.int Go.IntKind.i64 0, Go.Value.int Go.IntKind.i64 0]).append ([Go.Value.int Go.IntKind.i64 0, Go.Value.int Go.IntKind.i64 0, Go.Value.int Go.IntKind.i64 0, Go.Value.int Go.IntKind.i64 0, Go.Value.int Go.IntKind.i64 0, Go.Value.int Go.IntKind.i64 0, Go.Value.int Go.IntKind.i64 0, Go.Value.int Go.IntKind.i64 0, Go.Value.int Go.IntKind.i64 0, Go.Value.int Go.IntKind.i64 0, Go.Value.int Go.IntKind.i64 0, Go.Value.int Go.IntKind.i64 0, Go.Value.int Go.IntKind.i64 0, Go.Value.int Go.IntKind.i64 0, Go.Value.int Go.IntKind.i64 0, Go.Value.int Go.IntKind.i64 0, Go.Value.int Go.IntKind.i64 0, Go.Value.int Go.IntKind.i64 0, Go.Value.int Go.IntKind.i64 0, Go.Value.int Go.IntKind.i64 0, Go.Value.int Go.IntKind.i64 0, Go.Value.int Go.IntKind.i64 0, Go.Value.int Go.IntKind.i64 0, Go.Value.int Go.IntKind.i64 0, Go.Value.int Go.IntKind.i64 0, Go.Value.int Go.IntKind.i64 0, Go.Value.int Go.IntKind.i64 0, Go.Value.int Go.IntKind.i64 0, Go.Value.int Go.IntKind.i64 0, Go.Value.int Go.IntKind.i64 0, Go.Value.int Go.IntKind.i64 0, Go.Value.int Go.IntKind.i64 0].append [Go.Value.int Go.IntKind.i64 0, Go.Value.int Go.IntKind.i64 0, Go.Value.int Go.IntKind.i64 0, Go.Value.int Go.IntKind.i64 0, Go.Value.int Go.IntKind.i64 0, Go.Value.int Go.IntKind.i64 0, Go.Value.int Go.IntKind.i64 0, Go.Value.int Go.IntKind.i64 0, Go.Value.int Go.IntKind.i64 0, Go.Value.int Go.IntKind.i64 0, Go.Value.int Go.IntKind.i64 0, Go.Value.int Go.IntKind.i64 0, Go.Value.int Go.IntKind.i64 0, Go.Value.int Go.IntKind.i64 0, Go.Value.int Go.IntKind.i64 0, Go.Value.int Go.IntKind.i64 0, Go.Value.int Go.IntKind.i64 0, Go.Value.int Go.IntKind.i64 0, Go.Value.int Go.IntKind.i64 0, Go.Value.int Go.IntKind.i64 0, Go.Value.int Go.IntKind.i64 0, Go.Value.int Go.IntKind.i64 0, Go.Value.int Go.IntKind.i64 0, Go.Value.int Go.IntKind.i64 0, Go.Value.int Go.IntKind.i64 0, Go.Value.int Go.IntKind.i64 0, Go.Value.int Go.IntKind.i64 0, Go.Value.int Go.IntKind.i64 0, Go.Value.int Go.IntKind.i64 0, Go.Value.int Go.IntKind.i64 0, Go.Value.int Go.IntKind.i64 0, Go.Value.int Go.IntKind.i64 0, Go.Value.int Go.IntKind.i64 0])).toArray, Go.Value.bool false])) := ⟨Try.t84, by kernel_rfl, rfl, rfl, rfl⟩
instance : Inf Try.prog 85 1 8 (Go.Value.nilFunc) := ⟨Try.t85, by kernel_rfl, rfl, rfl, rfl⟩
instance : Inf Try.prog 86 1 0 ((Go.Value.tuple #[Go.Value.int Go.IntKind.i64 0, Go.Value.int Go.IntKind.u64 0])) := ⟨Try.t86, by kernel_rfl, rfl, rfl, rfl⟩
instance : Inf Try.prog 87 1 8 (Go.Value.nilFunc) := ⟨Try.t87, by kernel_rfl, rfl, rfl, rfl⟩
instance : Inf Try.prog 88 1 8 (Go.Value.nilFunc) := ⟨Try.t88, by kernel_rfl, rfl, rfl, rfl⟩
instance : Inf Try.prog 89 1 24 ((Go.Value.slice none 0 0)) := ⟨Try.t89, by kernel_rfl, rfl, rfl, rfl⟩
instance : Inf Try.prog 90 1 0 ((Go.Value.tuple #[Go.Value.slice none 0 0, Go.Value.int Go.IntKind.i64 0])) := ⟨Try.t90, by kernel_rfl, rfl, rfl, rfl⟩
instance : Inf Try.prog 91 1 8 (Go.Value.nilFunc) := ⟨Try.t91, by kernel_rfl, rfl, rfl, rfl⟩
instance : Inf Try.prog 92 1 0 ((Go.Value.tuple #[Go.Value.pointer none, Go.Value.int Go.IntKind.i64 0])) := ⟨Try.t92, by kernel_rfl, rfl, rfl, rfl⟩
instance : Inf Try.prog 93 1 8 (Go.Value.nilFunc) := ⟨Try.t93, by kernel_rfl, rfl, rfl, rfl⟩
instance : Inf Try.prog 94 1 8 (Go.Value.nilFunc) := ⟨Try.t94, by kernel_rfl, rfl, rfl, rfl⟩
instance : Inf Try.prog 95 1 8 (Go.Value.nilFunc) := ⟨Try.t95, by kernel_rfl, rfl, rfl, rfl⟩
instance : Inf Try.prog 96 1 8 (Go.Value.nilFunc) := ⟨Try.t96, by kernel_rfl, rfl, rfl, rfl⟩
instance : Inf Try.prog 97 1 8 (Go.Value.nilFunc) := ⟨Try.t97, by kernel_rfl, rfl, rfl, rfl⟩
instance : Inf Try.prog 98 1 8 (Go.Value.nilFunc) := ⟨Try.t98, by kernel_rfl, rfl, rfl, rfl⟩
instance : Inf Try.prog 99 1 8 (Go.Value.nilFunc) := ⟨Try.t99, by kernel_rfl, rfl, rfl, rfl⟩
instance : Inf Try.prog 100 1 8 (Go.Value.nilFunc) := ⟨Try.t100, by kernel_rfl, rfl, rfl, rfl⟩
instance : Inf Try.prog 101 1 8 (Go.Value.nilFunc) := ⟨Try.t101, by kernel_rfl, rfl, rfl, rfl⟩
instance : Inf Try.prog 102 1 8 (Go.Value.nilFunc) := ⟨Try.t102, by kernel_rfl, rfl, rfl, rfl⟩
instance : Inf Try.prog 103 1 8 (Go.Value.nilFunc) := ⟨Try.t103, by kernel_rfl, rfl, rfl, rfl⟩
instance : Inf Try.prog 104 1 8 ((Go.Value.pointer none)) := ⟨Try.t104, by kernel_rfl, rfl, rfl, rfl⟩
instance : Inf Try.prog 105 1 24 ((Go.Value.slice none 0 0)) := ⟨Try.t105, by kernel_rfl, rfl, rfl, rfl⟩
instance : Inf Try.prog 106 1 24 ((Go.Value.slice none 0 0)) := ⟨Try.t106, by kernel_rfl, rfl, rfl, rfl⟩
instance : Inf Try.prog 107 7 88 ((Go.Value.agg #[Go.Value.int Go.IntKind.i64 0, Go.Value.int Go.IntKind.i64 0, Go.Value.int Go.IntKind.i64 0, Go.Value.int Go.IntKind.i64 0, Go.Value.int Go.IntKind.i64 0, Go.Value.slice none 0 0, Go.Value.slice none 0 0])) := ⟨Try.t107, by kernel_rfl, rfl, rfl, rfl⟩
instance : Inf Try.prog 108 7 88 ((Go.Value.agg #[Go.Value.int Go.IntKind.i64 0, Go.Value.int Go.IntKind.i64 0, Go.Value.int Go.IntKind.i64 0, Go.Value.int Go.IntKind.i64 0, Go.Value.int Go.IntKind.i64 0, Go.Value.slice none 0 0, Go.Value.slice none 0 0])) := ⟨Try.t108, by kernel_rfl, rfl, rfl, rfl⟩
instance : Inf Try.prog 109 1 8 (Go.Value.nilFunc) := ⟨Try.t109, by kernel_rfl, rfl, rfl, rfl⟩
instance : Inf Try.prog 110 1 8 (Go.Value.nilFunc) := ⟨Try.t110, by kernel_rfl, rfl, rfl, rfl⟩
instance : Inf Try.prog 111 1 24 ((Go.Value.slice none 0 0)) := ⟨Try.t111, by kernel_rfl, rfl, rfl, rfl⟩
instance : Inf Try.prog 112 4 32 ((Go.Value.agg #[Go.Value.int Go.IntKind.i64 0, Go.Value.int Go.IntKind.i64 0, Go.Value.int Go.IntKind.i64 0, Go.Value.int Go.IntKind.i64 0])) := ⟨Try.t112, by kernel_rfl, rfl, rfl, rfl⟩
instance : Inf Try.prog 113 1 0 ((Go.Value.tuple #[Go.Value.agg #[Go.Value.int Go.IntKind.i64 0, Go.Value.int Go.IntKind.i64 0, Go.Value.int Go.IntKind.i64 0, Go.Value.int Go.IntKind.i64 0], Go.Value.int Go.IntKind.i64 0])) := ⟨Try.t113, by kernel_rfl, rfl, rfl, rfl⟩
instance : Inf Try.prog 114 1 8 (Go.Value.nilFunc) := ⟨Try.t114, by kernel_rfl, rfl, rfl, rfl⟩
instance : Inf Try.prog 115 1 0 ((Go.Value.tuple #[Go.Value.int Go.IntKind.i64 0, Go.Value.int Go.IntKind.i64 0, Go.Value.int Go.IntKind.i64 0, Go.Value.int Go.IntKind.i64 0])) := ⟨Try.t115, by kernel_rfl, rfl, rfl, rfl⟩
instance : Inf Try.prog 116 1 8 (Go.Value.nilFunc) := ⟨Try.t116, by kernel_rfl, rfl, rfl, rfl⟩
instance : Inf Try.prog 117 1 8 (Go.Value.nilFunc) := ⟨Try.t117, by kernel_rfl, rfl, rfl, rfl⟩
instance : Inf Try.prog 118 1 8 (Go.Value.nilFunc) := ⟨Try.t118, by kernel_rfl, rfl, rfl, rfl⟩
instance : Inf Try.prog 119 1 8 (Go.Value.nilFunc) := ⟨Try.t119, by kernel_rfl, rfl, rfl, rfl⟩
instance : Inf Try.prog 120 1 0 ((Go.Value.tuple #[Go.Value.int Go.IntKind.u64 0, Go.Value.int Go.IntKind.u64 0])) := ⟨Try.t120, by kernel_rfl, rfl, rfl, rfl⟩
instance : Inf Try.prog 121 1 8 (Go.Value.nilFunc) := ⟨Try.t121, by kernel_rfl, rfl, rfl, rfl⟩
instance : Inf Try.prog 122 1 8 (Go.Value.nilFunc) := ⟨Try.t122, by kernel_rfl, rfl, rfl, rfl⟩
instance : Inf Try.prog 123 1 8 (Go.Value.nilFunc) := ⟨Try.t123, by kernel_rfl, rfl, rfl, rfl⟩
instance : Inf Try.prog 124 1 8 (Go.Value.nilFunc) := ⟨Try.t124, by kernel_rfl, rfl, rfl, rfl⟩
instance : Inf Try.prog 125 1 8 (Go.Value.nilFunc) := ⟨Try.t125, by kernel_rfl, rfl, rfl, rfl⟩
instance : Inf Try.prog 126 1 8 (Go.Value.nilFunc) := ⟨Try.t126, by kernel_rfl, rfl, rfl, rfl⟩
instance : Inf Try.prog 127 1 8 (Go.Value.nilFunc) := ⟨Try.t127, by kernel_rfl, rfl, rfl, rfl⟩
instance : Inf Try.prog 128 1 8 (Go.Value.nilFunc) := ⟨Try.t128, by kernel_rfl, rfl, rfl, rfl⟩
instance : Inf Try.prog 129 1 24 ((Go.Value.slice none 0 0)) := ⟨Try.t129, by kernel_rfl, rfl, rfl, rfl⟩
instance : Inf Try.prog 130 1 8 (Go.Value.nilFunc) := ⟨Try.t130, by kernel_rfl, rfl, rfl, rfl⟩
instance : Inf Try.prog 131 2 16 ((Go.Value.agg #[Go.Value.int Go.IntKind.i64 0, Go.Value.int Go.IntKind.i64 0])) := ⟨Try.t131, by kernel_rfl, rfl, rfl, rfl⟩
instance : Inf Try.prog 132 2 16 ((Go.Value.agg #[Go.Value.int Go.IntKind.i64 0, Go.Value.int Go.IntKind.i64 0])) := ⟨Try.t132, by kernel_rfl, rfl, rfl, rfl⟩
instance : Inf Try.prog 133 1 0 ((Go.Value.tuple #[Go.Value.int Go.IntKind.i64 0, Go.Value.int Go.IntKind.i64 0, Go.Value.int Go.IntKind.i64 0, Go.Value.int Go.IntKind.i64 0])) := ⟨Try.t133, by kernel_rfl, rfl, rfl, rfl⟩
instance : Inf Try.prog 134 1 8 (Go.Value.nilFunc) := ⟨Try.t134, by kernel_rfl, rfl, rfl, rfl⟩
instance : Inf Try.prog 135 1 8 (Go.Value.nilFunc) := ⟨Try.t135, by kernel_rfl, rfl, rfl, rfl⟩
instance : Inf Try.prog 136 1 8 (Go.Value.nilFunc) := ⟨Try.t136, by kernel_rfl, rfl, rfl, rfl⟩
instance : Inf Try.prog 137 1 8 (Go.Value.nilFunc) := ⟨Try.t137, by kernel_rfl, rfl, rfl, rfl⟩
instance : Inf Try.prog 138 1 8 (Go.Value.nilFunc) := ⟨Try.t138, by kernel_rfl, rfl, rfl, rfl⟩
instance : Inf Try.prog 139 1 0 ((Go.Value.tuple #[Go.Value.agg #[Go.Value.int Go.IntKind.i64 0, Go.Value.int Go.IntKind.i64 0, Go.Value.slice none 0 0, Go.Value.int Go.IntKind.i64 0, Go.Value.int Go.IntKind.i32 0, Go.Value.int Go.IntKind.i32 0], Go.Value.int Go.IntKind.i64 0])) := ⟨Try.t139, by kernel_rfl, rfl, rfl, rfl⟩
instance : Inf Try.prog 140 1 8 (Go.Value.nilFunc) := ⟨Try.t140, by kernel_rfl, rfl, rfl, rfl⟩
instance : Inf Try.prog 141 8 104 ((Go.Value.agg #[Go.Value.int Go.IntKind.i64 0, Go.Value.int Go.IntKind.i64 0, Go.Value.slice none 0 0, Go.Value.int Go.IntKind.i64 0, Go.Value.int Go.IntKind.i32 0, Go.Value.int Go.IntKind.i32 0, Go.Value.slice none 0 0, Go.Value.slice none 0 0])) := ⟨Try.t141, by kernel_rfl, rfl, rfl, rfl⟩
instance : Inf Try.prog 142 8 104 ((Go.Value.agg #[Go.Value.int Go.IntKind.i64 0, Go.Value.int Go.IntKind.i64 0, Go.Value.slice none 0 0, Go.Value.int Go.IntKind.i64 0, Go.Value.int Go.IntKind.i32 0, Go.Value.int Go.IntKind.i32 0, Go.Value.slice none 0 0, Go.Value.slice none 0 0])) := ⟨Try.t142, by kernel_rfl, rfl, rfl, rfl⟩
instance : Inf Try.prog 149 1 0 ((Go.Value.tuple #[Go.Value.agg #[Go.Value.int Go.IntKind.i64 0, Go.Value.int Go.IntKind.i64 0, Go.Value.slice none 0 0, Go.Value.int Go.IntKind.i64 0, Go.Value.int Go.IntKind.i32 0, Go.Value.int Go.IntKind.i32 0, Go.Value.slice none 0 0, Go.Value.slice none 0 0], Go.Value.int Go.IntKind.i64 0])) := ⟨Try.t149, by kernel_rfl, rfl, rfl, rfl⟩
instance : Inf Try.prog 150 1 8 (Go.Value.nilFunc) := ⟨Try.t150, by kernel_rfl, rfl, rfl, rfl⟩
instance : Inf Try.prog 151 1 8 (Go.Value.nilFunc) := ⟨Try.t151, by kernel_rfl, rfl, rfl, rfl⟩
instance : Inf Try.prog 152 1 8 (Go.Value.nilFunc) := ⟨Try.t152, by kernel_rfl, rfl, rfl, rfl⟩
instance : Inf Try.prog 153 1 8 (Go.Value.nilFunc) := ⟨Try.t153, by kernel_rfl, rfl, rfl, rfl⟩
instance : Inf Try.prog 154 1 8 (Go.Value.nilFunc) := ⟨Try.t154, by kernel_rfl, rfl, rfl, rfl⟩
instance : Inf Try.prog 155 1 0 ((Go.Value.tuple #[Go.Value.int Go.IntKind.i64 0, Go.Value.bool false])) := ⟨Try.t155, by kernel_rfl, rfl, rfl, rfl⟩
instance : Inf Try.prog 156 1 8 (Go.Value.nilFunc) := ⟨Try.t156, by kernel_rfl, rfl, rfl, rfl⟩
instance : Inf Try.prog 157 1 8 (Go.Value.nilFunc) := ⟨Try.t157, by kernel_rfl, rfl, rfl, rfl⟩
instance : Inf Try.prog 158 1 8 (Go.Value.nilFunc) := ⟨Try.t158, by kernel_rfl, rfl, rfl, rfl⟩
instance : Inf Try.prog 159 1 8 ((Go.Value.int Go.IntKind.u64 0)) := ⟨Try.t159, by kernel_rfl, rfl, rfl, rfl⟩
instance : Inf Try.prog 160 1 0 ((Go.Value.tuple #[Go.Value.int Go.IntKind.i16 0, Go.Value.int Go.IntKind.i64 0])) := ⟨Try.t160, by kernel_rfl, rfl, rfl, rfl⟩
instance : Inf Try.prog 161 1 8 (Go.Value.nilFunc) := ⟨Try.t161, by kernel_rfl, rfl, rfl, rfl⟩
instance : Inf Try.prog 162 1 8 (Go.Value.nilFunc) := ⟨Try.t162, by kernel_rfl, rfl, rfl, rfl⟩
instance : Inf Try.prog 163 1 8 (Go.Value.nilFunc) := ⟨Try.t163, by kernel_rfl, rfl, rfl, rfl⟩
instance : Inf Try.prog 164 1 8 (Go.Value.nilFunc) := ⟨Try.t164, by kernel_rfl, rfl, rfl, rfl⟩
instance : Inf Try.prog 165 1 4 ((Go.Value.int Go.IntKind.u32 0)) := ⟨Try.t165, by kernel_rfl, rfl, rfl, rfl⟩
instance : Inf Try.prog 166 1 8 (Go.Value.nilFunc) := ⟨Try.t166, by kernel_rfl, rfl, rfl, rfl⟩
instance : Inf Try.prog 167 1 8 (Go.Value.nilFunc) := ⟨Try.t167, by kernel_rfl, rfl, rfl, rfl⟩
instance : Inf Try.prog 168 2 32 ((Go.Value.agg #[Go.Value.slice none 0 0, Go.Value.int Go.IntKind.i64 0])) := ⟨Try.t168, by kernel_rfl, rfl, rfl, rfl⟩
instance : Inf Try.prog 169 2 32 ((Go.Value.agg #[Go.Value.slice none 0 0, Go.Value.int Go.IntKind.i64 0])) := ⟨Try.t169, by kernel_rfl, rfl, rfl, rfl⟩
instance : Inf Try.prog 170 1 24 ((Go.Value.slice none 0 0)) := ⟨Try.t170, by kernel_rfl, rfl, rfl, rfl⟩
instance : Inf Try.prog 171 1 8 (Go.Value.nilFunc) := ⟨Try.t171, by kernel_rfl, rfl, rfl, rfl⟩
instance : Inf Try.prog 172 1 8 (Go.Value.nilFunc) := ⟨Try.t172, by kernel_rfl, rfl, rfl, rfl⟩
instance : Inf Try.prog 173 1 8 ((Go.Value.pointer none)) := ⟨Try.t173, by kernel_rfl, rfl, rfl, rfl⟩
instance : Inf Try.prog 174 1 8 (Go.Value.nilFunc) := ⟨Try.t174, by kernel_rfl, rfl, rfl, rfl⟩
instance : Inf Try.prog 175 1 8 (Go.Value.nilFunc) := ⟨Try.t175, by kernel_rfl, rfl, rfl, rfl⟩
instance : Inf Try.prog 176 1 0 ((Go.Value.tuple #[Go.Value.slice none 0 0, Go.Value.int Go.IntKind.i64 0])) := ⟨Try.t176, by kernel_rfl, rfl, rfl, rfl⟩
instance : Inf Try.prog 177 1 8 (Go.Value.nilFunc) := ⟨Try.t177, by kernel_rfl, rfl, rfl, rfl⟩
instance : Inf Try.prog 178 1 8 (Go.Value.nilFunc) := ⟨Try.t178, by kernel_rfl, rfl, rfl, rfl⟩
instance : Inf Try.prog 179 1 8 (Go.Value.nilFunc) := ⟨Try.t179, by kernel_rfl, rfl, rfl, rfl⟩
instance : Inf Try.prog 180 1 0 ((Go.Value.tuple #[Go.Value.slice none 0 0, Go.Value.bool false])) := ⟨Try.t180, by kernel_rfl, rfl, rfl, rfl⟩
instance : Inf Try.prog 181 1 8 (Go.Value.nilFunc) := ⟨Try.t181, by kernel_rfl, rfl, rfl, rfl⟩
instance : Inf Try.prog 182 1 8 (Go.Value.nilFunc) := ⟨Try.t182, by kernel_rfl, rfl, rfl, rfl⟩
instance : Inf Try.prog 183 1 8 ((Go.Value.pointer none)) := ⟨Try.t183, by kernel_rfl, rfl, rfl, rfl⟩
instance : Inf Try.prog 184 1 8 (Go.Value.nilFunc) := ⟨Try.t184, by kernel_rfl, rfl, rfl, rfl⟩
instance : Inf Try.prog 185 1 8 (Go.Value.nilFunc) := ⟨Try.t185, by kernel_rfl, rfl, rfl, rfl⟩
instance : Inf Try.prog 186 1 8 (Go.Value.nilFunc) := ⟨Try.t186, by kernel_rfl, rfl, rfl, rfl⟩
instance : Inf Try.prog 187 1 0 ((Go.Value.tuple #[Go.Value.int Go.IntKind.i64 0, Go.Value.int Go.IntKind.i64 0])) := ⟨Try.t187, by kernel_rfl, rfl, rfl, rfl⟩
instance : Inf Try.prog 188 1 8 (Go.Value.nilFunc) := ⟨Try.t188, by kernel_rfl, rfl, rfl, rfl⟩
instance : Inf Try.prog 189 1 8 (Go.Value.nilFunc) := ⟨Try.t189, by kernel_rfl, rfl, rfl, rfl⟩
instance : Inf Try.prog 190 1 8 (Go.Value.nilFunc) := ⟨Try.t190, by kernel_rfl, rfl, rfl, rfl⟩
instance : Inf Try.prog 191 1 8 (Go.Value.nilFunc) := ⟨Try.t191, by kernel_rfl, rfl, rfl, rfl⟩
instance : Inf Try.prog 192 1 8 (Go.Value.nilFunc) := ⟨Try.t192, by kernel_rfl, rfl, rfl, rfl⟩
instance : Inf Try.prog 193 1 8 (Go.Value.nilFunc) := ⟨Try.t193, by kernel_rfl, rfl, rfl, rfl⟩
instance : Inf Try.prog 194 1 8 (Go.Value.nilFunc) := ⟨Try.t194, by kernel_rfl, rfl, rfl, rfl⟩
instance : Inf Try.prog 195 1 8 (Go.Value.nilFunc) := ⟨Try.t195, by kernel_rfl, rfl, rfl, rfl⟩
instance : Inf Try.prog 196 1 0 ((Go.Value.tuple #[Go.Value.int Go.IntKind.u64 0, Go.Value.int Go.IntKind.i64 0])) := ⟨Try.t196, by kernel_rfl, rfl, rfl, rfl⟩
instance : Inf Try.prog 197 1 8 (Go.Value.nilFunc) := ⟨Try.t197, by kernel_rfl, rfl, rfl, rfl⟩
instance : Inf Try.prog 198 1 8 (Go.Value.nilFunc) := ⟨Try.t198, by kernel_rfl, rfl, rfl, rfl⟩
instance : Inf Try.prog 199 1 8 (Go.Value.nilFunc) := ⟨Try.t199, by kernel_rfl, rfl, rfl, rfl⟩
instance : Inf Try.prog 200 1 8 (Go.Value.nilFunc) := ⟨Try.t200, by kernel_rfl, rfl, rfl, rfl⟩
instance : Inf Try.prog 201 1 16 (Go.Value.nilIface) := ⟨Try.t201, by kernel_rfl, rfl, rfl, rfl⟩
instance : Inf Try.prog 202 1 16 (Go.Value.nilIface) := ⟨Try.t202, by kernel_rfl, rfl, rfl, rfl⟩
instance : Inf Try.prog 203 1 8 (Go.Value.nilFunc) := ⟨Try.t203, by kernel_rfl, rfl, rfl, rfl⟩
instance : Inf Try.prog 204 1 8 (Go.Value.nilFunc) := ⟨Try.t204, by kernel_rfl, rfl, rfl, rfl⟩
instance : Inf Try.prog 205 1 8 (Go.Value.nilFunc) := ⟨Try.t205, by kernel_rfl, rfl, rfl, rfl⟩
instance : Inf Try.prog 206 1 8 (Go.Value.nilFunc) := ⟨Try.t206, by kernel_rfl, rfl, rfl, rfl⟩
instance : Inf Try.prog 207 1 8 (Go.Value.nilFunc) := ⟨Try.t207, by kernel_rfl, rfl, rfl, rfl⟩
instance : Inf Try.prog 208 1 8 (Go.Value.nilFunc) := ⟨Try.t208, by kernel_rfl, rfl, rfl, rfl⟩
instance : Inf Try.prog 209 1 8 ((Go.Value.pointer none)) := ⟨Try.t209, by kernel_rfl, rfl, rfl, rfl⟩
instance : Inf Try.prog 210 1 8 (Go.Value.nilFunc) := ⟨Try.t210, by kernel_rfl, rfl, rfl, rfl⟩
instance : Inf Try.prog 211 1 0 ((Go.Value.tuple #[Go.Value.slice none 0 0, Go.Value.bool false])) := ⟨Try.t211, by kernel_rfl, rfl, rfl, rfl⟩
instance : Inf Try.prog 212 1 8 (Go.Value.nilFunc) := ⟨Try.t212, by kernel_rfl, rfl, rfl, rfl⟩
instance : Inf Try.prog 213 3 40 ((Go.Value.agg #[Go.Value.slice none 0 0, Go.Value.int Go.IntKind.i64 0, Go.Value.bool false])) := ⟨Try.t213, by kernel_rfl, rfl, rfl, rfl⟩
instance : Inf Try.prog 214 3 40 ((Go.Value.agg #[Go.Value.slice none 0 0, Go.Value.int Go.IntKind.i64 0, Go.Value.bool false])) := ⟨Try.t214, by kernel_rfl, rfl, rfl, rfl⟩
instance : Inf Try.prog 215 1 8 (Go.Value.nilFunc) := ⟨Try.t215, by kernel_rfl, rfl, rfl, rfl⟩
instance : Inf Try.prog 216 1 0 ((Go.Value.tuple #[Go.Value.int Go.IntKind.u32 0, Go.Value.bool false])) := ⟨Try.t216, by kernel_rfl, rfl, rfl, rfl⟩
instance : Inf Try.prog 217 1 8 (Go.Value.nilFunc) := ⟨Try.t217, by kernel_rfl, rfl, rfl, rfl⟩
instance : Inf Try.prog 218 1 8 (Go.Value.nilFunc) := ⟨Try.t218, by kernel_rfl, rfl, rfl, rfl⟩
instance : Inf Try.prog 219 1 8 (Go.Value.nilFunc) := ⟨Try.t219, by kernel_rfl, rfl, rfl, rfl⟩
instance : Inf Try.prog 227 1 8 (Go.Value.nilFunc) := ⟨Try.t227, by kernel_rfl, rfl, rfl, rfl⟩
instance : Inf Try.prog 228 1 8 ((Go.Value.pointer none)) := ⟨Try.t228, by kernel_rfl, rfl, rfl, rfl⟩
instance : Inf Try.prog 233 1 8 (Go.Value.nilFunc) := ⟨Try.t233, by kernel_rfl, rfl, rfl, rfl⟩
instance : Inf Try.prog 234 1 8 ((Go.Value.pointer none)) := ⟨Try.t234, by kernel_rfl, rfl, rfl, rfl⟩
instance : Und Try.prog 0 (Try.t0.desc) := ⟨Try.underlying0⟩
instance : Und Try.prog 1 (Try.t1.desc) := ⟨Try.underlying1⟩
instance : Und Try.prog 2 (Go.TypeDesc.int Go.IntKind.i64) := ⟨Try.underlying2⟩
instance : Und Try.prog 3 (Go.TypeDesc.int Go.IntKind.i64) := ⟨Try.underlying3⟩
instance : Und Try.prog 4 .bool := ⟨Try.underlying4⟩
instance : Und Try.prog 5 (Go.TypeDesc.int Go.IntKind.u8) := ⟨Try.underlying5⟩
instance : Und Try.prog 9 .string := ⟨Try.underlying9⟩
instance : Und Try.prog 12 (Go.TypeDesc.int Go.IntKind.u64) := ⟨Try.underlying12⟩
instance : Und Try.prog 13 (Try.t13.desc) := ⟨Try.underlying13⟩
instance : YesAgg (Try.t13.desc) := ⟨by kernel_rfl⟩
instance : Und Try.prog 20 (Try.t20.desc) := ⟨Try.underlying20⟩
instance : Und Try.prog 21 (Go.TypeDesc.int Go.IntKind.i32) := ⟨Try.underlying21⟩
instance : Und Try.prog 22 (Go.TypeDesc.slice 2) := ⟨Try.underlying22⟩
instance : Und Try.prog 23 (Try.t23.desc) := ⟨Try.underlying23⟩
instance : Und Try.prog 24 (Go.TypeDesc.int Go.IntKind.i64) := ⟨Try.underlying24⟩
instance : Und Try.prog 25 (Try.t25.desc) := ⟨Try.underlying25⟩
instance : Und Try.prog 26 (Try.t26.desc) := ⟨Try.underlying26⟩
instance : Und Try.prog 27 (Try.t27.desc) := ⟨Try.underlying27⟩
instance : Und Try.prog 28 (Go.TypeDesc.slice 53) := ⟨Try.underlying28⟩
instance : Und Try.prog 29 (Try.t29.desc) := ⟨Try.underlying29⟩
instance : YesAgg (Try.t29.desc) := ⟨by kernel_rfl⟩
instance : Und Try.prog 30 (Try.t29.desc) := ⟨Try.underlying30⟩
instance : Und Try.prog 31 (Go.TypeDesc.slice 56) := ⟨Try.underlying31⟩
instance : Und Try.prog 32 (Try.t32.desc) := ⟨Try.underlying32⟩
instance : YesAgg (Try.t32.desc) := ⟨by kernel_rfl⟩
instance : Und Try.prog 33 (Try.t32.desc) := ⟨Try.underlying33⟩
instance : Und Try.prog 34 (Try.t34.desc) := ⟨Try.underlying34⟩
instance : YesAgg (Try.t34.desc) := ⟨by kernel_rfl⟩
instance : Und Try.prog 35 (Try.t34.desc) := ⟨Try.underlying35⟩
instance : Und Try.prog 36 (Try.t36.desc) := ⟨Try.underlying36⟩
instance : YesAgg (Try.t36.desc) := ⟨by kernel_rfl⟩
instance : Und Try.prog 37 (Try.t36.desc) := ⟨Try.underlying37⟩
instance : Und Try.prog 38 (Try.t38.desc) := ⟨Try.underlying38⟩
instance : Und Try.prog 39 (Go.TypeDesc.int Go.IntKind.u16) := ⟨Try.underlying39⟩
instance : Und Try.prog 40 (Go.TypeDesc.pointer 148) := ⟨Try.underlying40⟩
instance : Und Try.prog 41 (Try.t41.desc) := ⟨Try.underlying41⟩
instance : Und Try.prog 42 (Try.t42.desc) := ⟨Try.underlying42⟩
instance : Und Try.prog 43 (Try.t43.desc) := ⟨Try.underlying43⟩
instance : Und Try.prog 44 (Try.t44.desc) := ⟨Try.underlying44⟩
instance : Und Try.prog 45 (Try.t45.desc) := ⟨Try.underlying45⟩
instance : Und Try.prog 46 (Try.t46.desc) := ⟨Try.underlying46⟩
instance : Und Try.prog 47 (Try.t47.desc) := ⟨Try.underlying47⟩
instance : Und Try.prog 48 (Go.TypeDesc.array 129 3) := ⟨Try.underlying48⟩
instance : Und Try.prog 49 (Try.t49.desc) := ⟨Try.underlying49⟩
instance : YesAgg (Try.t49.desc) := ⟨by kernel_rfl⟩
instance : Und Try.prog 50 (Try.t49.desc) := ⟨Try.underlying50⟩
instance : Und Try.prog 51 (Try.t51.desc) := ⟨Try.underlying51⟩
instance : Und Try.prog 52 (Try.t52.desc) := ⟨Try.underlying52⟩
instance : Und Try.prog 53 (Go.TypeDesc.int Go.IntKind.i16) := ⟨Try.underlying53⟩
instance : Und Try.prog 54 (Try.t54.desc) := ⟨Try.underlying54⟩
instance : Und Try.prog 55 (Try.t55.desc) := ⟨Try.underlying55⟩
instance : YesAgg (Try.t55.desc) := ⟨by kernel_rfl⟩
instance : Und Try.prog 56 (Try.t55.desc) := ⟨Try.underlying56⟩
instance : Und Try.prog 57 (Try.t57.desc) := ⟨Try.underlying57⟩
instance : YesAgg (Try.t57.desc) := ⟨by kernel_rfl⟩
instance : Und Try.prog 58 (Try.t57.desc) := ⟨Try.underlying58⟩
instance : Und Try.prog 59 (Try.t59.desc) := ⟨Try.underlying59⟩
instance : Und Try.prog 60 (Try.t60.desc) := ⟨Try.underlying60⟩
instance : Und Try.prog 61 (Try.t61.desc) := ⟨Try.underlying61⟩
instance : Und Try.prog 62 (Try.t62.desc) := ⟨Try.underlying62⟩
instance : Und Try.prog 63 (Try.t63.desc) := ⟨Try.underlying63⟩
instance : Und Try.prog 64 (Try.t64.desc) := ⟨Try.underlying64⟩
instance : Und Try.prog 65 (Try.t65.desc) := ⟨Try.underlying65⟩
instance : Und Try.prog 66 (Go.TypeDesc.slice 69) := ⟨Try.underlying66⟩
instance : Und Try.prog 67 (Try.t67.desc) := ⟨Try.underlying67⟩
instance : Und Try.prog 68 (Try.t68.desc) := ⟨Try.underlying68⟩
instance : Und Try.prog 69 (Go.TypeDesc.array 2 3) := ⟨Try.underlying69⟩
instance : Und Try.prog 70 (Try.t70.desc) := ⟨Try.underlying70⟩
instance : Und Try.prog 71 (Try.t71.desc) := ⟨Try.underlying71⟩
instance : Und Try.prog 72 (Try.t72.desc) := ⟨Try.underlying72⟩
instance : Und Try.prog 73 (Try.t73.desc) := ⟨Try.underlying73⟩
instance : Und Try.prog 74 (Try.t74.desc) := ⟨Try.underlying74⟩
instance : Und Try.prog 75 (Try.t75.desc) := ⟨Try.underlying75⟩
instance : Und Try.prog 76 (Try.t75.desc) := ⟨Try.underlying76⟩
instance : Und Try.prog 77 (Try.t77.desc) := ⟨Try.underlying77⟩
instance : Und Try.prog 78 (Go.TypeDesc.int Go.IntKind.u64) := ⟨Try.underlying78⟩
instance : Und Try.prog 79 (Try.t79.desc) := ⟨Try.underlying79⟩
instance : YesAgg (Try.t79.desc) := ⟨by kernel_rfl⟩
instance : Und Try.prog 80 (Try.t79.desc) := ⟨Try.underlying80⟩
instance : Und Try.prog 81 (Try.t81.desc) := ⟨Try.underlying81⟩
instance : Und Try.prog 82 (Try.t82.desc) := ⟨Try.underlying82⟩
instance : Und Try.prog 83 (Try.t83.desc) := ⟨Try.underlying83⟩
instance : Und Try.prog 84 (Try.t84.desc) := ⟨Try.underlying84⟩
instance : Und Try.prog 85 (Try.t85.desc) := ⟨Try.underlying85⟩
instance : Und Try.prog 86 (Try.t86.desc) := ⟨Try.underlying86⟩
instance : Und Try.prog 87 (Try.t87.desc) := ⟨Try.underlying87⟩
instance : Und Try.prog 88 (Try.t88.desc) := ⟨Try.underlying88⟩
instance : Und Try.prog 89 (Go.TypeDesc.slice 5) := ⟨Try.underlying89⟩
instance : Und Try.prog 90 (Try.t90.desc) := ⟨Try.underlying90⟩
instance : Und Try.prog 91 (Try.t91.desc) := ⟨Try.underlying91⟩
instance : Und Try.prog 92 (Try.t92.desc) := ⟨Try.underlying92⟩
instance : Und Try.prog 93 (Try.t93.desc) := ⟨Try.underlying93⟩
instance : Und Try.prog 94 (Try.t94.desc) := ⟨Try.underlying94⟩
instance : Und Try.prog 95 (Try.t95.desc) := ⟨Try.underlying95⟩
instance : Und Try.prog 96 (Try.t96.desc) := ⟨Try.underlying96⟩
instance : Und Try.prog 97 (Try.t97.desc) := ⟨Try.underlying97⟩
instance : Und Try.prog 98 (Try.t98.desc) := ⟨Try.underlying98⟩
instance : Und Try.prog 99 (Try.t99.desc) := ⟨Try.underlying99⟩
instance : Und Try.prog 100 (Try.t100.desc) := ⟨Try.underlying100⟩
instance : Und Try.prog 101 (Try.t101.desc) := ⟨Try.underlying101⟩
instance : Und Try.prog 102 (Try.t101.desc) := ⟨Try.underlying102⟩
instance : Und Try.prog 103 (Try.t103.desc) := ⟨Try.underlying103⟩
instance : Und Try.prog 104 (Go.TypeDesc.pointer 108) := ⟨Try.underlying104⟩
instance : Und Try.prog 105 (Go.TypeDesc.slice 22) := ⟨Try.underlying105⟩
instance : Und Try.prog 106 (Go.TypeDesc.slice 111) := ⟨Try.underlying106⟩
instance : Und Try.prog 107 (Try.t107.desc) := ⟨Try.underlying107⟩
instance : YesAgg (Try.t107.desc) := ⟨by kernel_rfl⟩
instance : Und Try.prog 108 (Try.t107.desc) := ⟨Try.underlying108⟩
instance : Und Try.prog 109 (Try.t109.desc) := ⟨Try.underlying109⟩
instance : Und Try.prog 110 (Try.t110.desc) := ⟨Try.underlying110⟩
instance : Und Try.prog 111 (Go.TypeDesc.slice 3) := ⟨Try.underlying111⟩
instance : Und Try.prog 112 (Go.TypeDesc.array 4 2) := ⟨Try.underlying112⟩
instance : Und Try.prog 113 (Try.t113.desc) := ⟨Try.underlying113⟩
instance : Und Try.prog 114 (Try.t114.desc) := ⟨Try.underlying114⟩
instance : Und Try.prog 115 (Try.t115.desc) := ⟨Try.underlying115⟩
instance : Und Try.prog 116 (Try.t116.desc) := ⟨Try.underlying116⟩
instance : Und Try.prog 117 (Try.t117.desc) := ⟨Try.underlying117⟩
instance : Und Try.prog 118 (Try.t118.desc) := ⟨Try.underlying118⟩
instance : Und Try.prog 119 (Try.t119.desc) := ⟨Try.underlying119⟩
instance : Und Try.prog 120 (Try.t120.desc) := ⟨Try.underlying120⟩
instance : Und Try.prog 121 (Try.t121.desc) := ⟨Try.underlying121⟩
instance : Und Try.prog 122 (Try.t122.desc) := ⟨Try.underlying122⟩
instance : Und Try.prog 123 (Try.t123.desc) := ⟨Try.underlying123⟩
instance : Und Try.prog 124 (Try.t124.desc) := ⟨Try.underlying124⟩
instance : Und Try.prog 125 (Try.t125.desc) := ⟨Try.underlying125⟩
instance : Und Try.prog 126 (Try.t126.desc) := ⟨Try.underlying126⟩
instance : Und Try.prog 127 (Try.t127.desc) := ⟨Try.underlying127⟩
instance : Und Try.prog 128 (Try.t128.desc) := ⟨Try.underlying128⟩
instance : Und Try.prog 129 (Go.TypeDesc.slice 132) := ⟨Try.underlying129⟩
instance : Und Try.prog 130 (Try.t130.desc) := ⟨Try.underlying130⟩
instance : Und Try.prog 131 (Try.t131.desc) := ⟨Try.underlying131⟩
instance : YesAgg (Try.t131.desc) := ⟨by kernel_rfl⟩
instance : Und Try.prog 132 (Try.t131.desc) := ⟨Try.underlying132⟩
instance : Und Try.prog 133 (Try.t133.desc) := ⟨Try.underlying133⟩
instance : Und Try.prog 134 (Try.t134.desc) := ⟨Try.underlying134⟩
instance : Und Try.prog 135 (Try.t135.desc) := ⟨Try.underlying135⟩
instance : Und Try.prog 136 (Try.t136.desc) := ⟨Try.underlying136⟩
instance : Und Try.prog 137 (Try.t137.desc) := ⟨Try.underlying137⟩
instance : Und Try.prog 138 (Try.t138.desc) := ⟨Try.underlying138⟩
instance : Und Try.prog 139 (Try.t139.desc) := ⟨Try.underlying139⟩
instance : Und Try.prog 140 (Try.t140.desc) := ⟨Try.underlying140⟩
instance : Und Try.prog 141 (Try.t141.desc) := ⟨Try.underlying141⟩
instance : YesAgg (Try.t141.desc) := ⟨by kernel_rfl⟩
instance : Und Try.prog 142 (Try.t141.desc) := ⟨Try.underlying142⟩
instance : Und Try.prog 143 (Go.TypeDesc.array 256 53) := ⟨Try.underlying143⟩
instance : Und Try.prog 144 (Try.t144.desc) := ⟨Try.underlying144⟩
instance : YesAgg (Try.t144.desc) := ⟨by kernel_rfl⟩
instance : Und Try.prog 145 (Try.t144.desc) := ⟨Try.underlying145⟩
instance : Und Try.prog 146 (Go.TypeDesc.array 32 145) := ⟨Try.underlying146⟩
instance : Und Try.prog 147 (Try.t147.desc) := ⟨Try.underlying147⟩
instance : YesAgg (Try.t147.desc) := ⟨by kernel_rfl⟩
instance : Und Try.prog 148 (Try.t147.desc) := ⟨Try.underlying148⟩
instance : Und Try.prog 149 (Try.t149.desc) := ⟨Try.underlying149⟩
instance : Und Try.prog 150 (Try.t150.desc) := ⟨Try.underlying150⟩
instance : Und Try.prog 151 (Try.t151.desc) := ⟨Try.underlying151⟩
instance : Und Try.prog 152 (Try.t152.desc) := ⟨Try.underlying152⟩
instance : Und Try.prog 153 (Try.t153.desc) := ⟨Try.underlying153⟩
instance : Und Try.prog 154 (Try.t154.desc) := ⟨Try.underlying154⟩
instance : Und Try.prog 155 (Try.t155.desc) := ⟨Try.underlying155⟩
instance : Und Try.prog 156 (Try.t156.desc) := ⟨Try.underlying156⟩
instance : Und Try.prog 157 (Try.t157.desc) := ⟨Try.underlying157⟩
instance : Und Try.prog 158 (Try.t158.desc) := ⟨Try.underlying158⟩
instance : Und Try.prog 159 (Go.TypeDesc.int Go.IntKind.u64) := ⟨Try.underlying159⟩
instance : Und Try.prog 160 (Try.t160.desc) := ⟨Try.underlying160⟩
instance : Und Try.prog 161 (Try.t161.desc) := ⟨Try.underlying161⟩
instance : Und Try.prog 162 (Try.t162.desc) := ⟨Try.underlying162⟩
instance : Und Try.prog 163 (Try.t163.desc) := ⟨Try.underlying163⟩
instance : Und Try.prog 164 (Try.t164.desc) := ⟨Try.underlying164⟩
instance : Und Try.prog 165 (Go.TypeDesc.int Go.IntKind.u32) := ⟨Try.underlying165⟩
instance : Und Try.prog 166 (Try.t166.desc) := ⟨Try.underlying166⟩
instance : Und Try.prog 167 (Try.t167.desc) := ⟨Try.underlying167⟩
instance : Und Try.prog 168 (Try.t168.desc) := ⟨Try.underlying168⟩
instance : YesAgg (Try.t168.desc) := ⟨by kernel_rfl⟩
instance : Und Try.prog 169 (Try.t168.desc) := ⟨Try.underlying169⟩
instance : Und Try.prog 170 (Go.TypeDesc.slice 21) := ⟨Try.underlying170⟩
instance : Und Try.prog 171 (Try.t171.desc) := ⟨Try.underlying171⟩
instance : Und Try.prog 172 (Try.t172.desc) := ⟨Try.underlying172⟩
instance : Und Try.prog 173 (Go.TypeDesc.pointer 169) := ⟨Try.underlying173⟩
instance : Und Try.prog 174 (Try.t174.desc) := ⟨Try.underlying174⟩
instance : Und Try.prog 175 (Try.t175.desc) := ⟨Try.underlying175⟩
instance : Und Try.prog 176 (Try.t176.desc) := ⟨Try.underlying176⟩
instance : Und Try.prog 177 (Try.t177.desc) := ⟨Try.underlying177⟩
instance : Und Try.prog 178 (Try.t178.desc) := ⟨Try.underlying178⟩
instance : Und Try.prog 179 (Try.t179.desc) := ⟨Try.underlying179⟩
instance : Und Try.prog 180 (Try.t180.desc) := ⟨Try.underlying180⟩
instance : Und Try.prog 181 (Try.t181.desc) := ⟨Try.underlying181⟩
instance : Und Try.prog 182 (Try.t182.desc) := ⟨Try.underlying182⟩
instance : Und Try.prog 183 (Go.TypeDesc.pointer 145) := ⟨Try.underlying183⟩
instance : Und Try.prog 184 (Try.t184.desc) := ⟨Try.underlying184⟩
instance : Und Try.prog 185 (Try.t185.desc) := ⟨Try.underlying185⟩
instance : Und Try.prog 186 (Try.t186.desc) := ⟨Try.underlying186⟩
instance : Und Try.prog 187 (Try.t187.desc) := ⟨Try.underlying187⟩
instance : Und Try.prog 188 (Try.t188.desc) := ⟨Try.underlying188⟩
instance : Und Try.prog 189 (Try.t189.desc) := ⟨Try.underlying189⟩
instance : Und Try.prog 190 (Try.t190.desc) := ⟨Try.underlying190⟩
instance : Und Try.prog 191 (Try.t190.desc) := ⟨Try.underlying191⟩
instance : Und Try.prog 192 (Try.t192.desc) := ⟨Try.underlying192⟩
instance : Und Try.prog 193 (Try.t193.desc) := ⟨Try.underlying193⟩
instance : Und Try.prog 194 (Try.t194.desc) := ⟨Try.underlying194⟩
instance : Und Try.prog 195 (Try.t195.desc) := ⟨Try.underlying195⟩
instance : Und Try.prog 196 (Try.t196.desc) := ⟨Try.underlying196⟩
instance : Und Try.prog 197 (Try.t197.desc) := ⟨Try.underlying197⟩
instance : Und Try.prog 198 (Try.t198.desc) := ⟨Try.underlying198⟩
instance : Und Try.prog 199 (Try.t199.desc) := ⟨Try.underlying199⟩
instance : Und Try.prog 200 (Try.t200.desc) := ⟨Try.underlying200⟩
instance : Und Try.prog 201 (Try.t201.desc) := ⟨Try.underlying201⟩
instance : Und Try.prog 202 (Try.t201.desc) := ⟨Try.underlying202⟩
instance : Und Try.prog 203 (Try.t203.desc) := ⟨Try.underlying203⟩
instance : Und Try.prog 204 (Try.t204.desc) := ⟨Try.underlying204⟩
instance : Und Try.prog 205 (Try.t205.desc) := ⟨Try.underlying205⟩
instance : Und Try.prog 206 (Try.t206.desc) := ⟨Try.underlying206⟩
instance : Und Try.prog 207 (Try.t207.desc) := ⟨Try.underlying207⟩
instance : Und Try.prog 208 (Try.t208.desc) := ⟨Try.underlying208⟩
instance : Und Try.prog 209 (Go.TypeDesc.pointer 214) := ⟨Try.underlying209⟩
instance : Und Try.prog 210 (Try.t210.desc) := ⟨Try.underlying210⟩
instance : Und Try.prog 211 (Try.t211.desc) := ⟨Try.underlying211⟩
instance : Und Try.prog 212 (Try.t212.desc) := ⟨Try.underlying212⟩
instance : Und Try.prog 213 (Try.t213.desc) := ⟨Try.underlying213⟩
instance : YesAgg (Try.t213.desc) := ⟨by kernel_rfl⟩
instance : Und Try.prog 214 (Try.t213.desc) := ⟨Try.underlying214⟩
instance : Und Try.prog 215 (Try.t215.desc) := ⟨Try.underlying215⟩
instance : Und Try.prog 216 (Try.t216.desc) := ⟨Try.underlying216⟩
instance : Und Try.prog 217 (Try.t217.desc) := ⟨Try.underlying217⟩
instance : Und Try.prog 218 (Try.t218.desc) := ⟨Try.underlying218⟩
instance : Und Try.prog 219 (Try.t219.desc) := ⟨Try.underlying219⟩
instance : Und Try.prog 227 (Try.t227.desc) := ⟨Try.underlying227⟩
instance : Und Try.prog 228 (Go.TypeDesc.pointer 5) := ⟨Try.underlying228⟩
instance : Und Try.prog 233 (Try.t233.desc) := ⟨Try.underlying233⟩
instance : Und Try.prog 234 (Try.t234.desc) := ⟨Try.underlying234⟩
instance : Pl Try.prog 13 [(0, 1), (1, 1)] := ⟨_, Try.underlying13, fun w => by kernel_rfl⟩
instance : Ff Try.prog 13 0 0 9 := ⟨_, _, Try.underlying13, rfl, rfl, rfl⟩
instance : Fa Try.prog 13 0 0 := ⟨_, _, Try.t9, Try.underlying13, rfl, by kernel_rfl, by decide, rfl⟩
instance : Ff Try.prog 13 1 1 12 := ⟨_, _, Try.underlying13, rfl, rfl, rfl⟩
instance : Fa Try.prog 13 1 1 := ⟨_, _, Try.t12, Try.underlying13, rfl, by kernel_rfl, by decide, rfl⟩
instance : Pl Try.prog 29 [(0, 1), (1, 1)] := ⟨_, Try.underlying29, fun w => by kernel_rfl⟩
instance : Ff Try.prog 29 0 0 2 := ⟨_, _, Try.underlying29, rfl, rfl, rfl⟩
instance : Fa Try.prog 29 0 0 := ⟨_, _, Try.t2, Try.underlying29, rfl, by kernel_rfl, by decide, rfl⟩
instance : Ff Try.prog 29 1 1 2 := ⟨_, _, Try.underlying29, rfl, rfl, rfl⟩
instance : Fa Try.prog 29 1 1 := ⟨_, _, Try.t2, Try.underlying29, rfl, by kernel_rfl, by decide, rfl⟩
instance : Pl Try.prog 30 [(0, 1), (1, 1)] := ⟨_, Try.underlying30, fun w => by kernel_rfl⟩
instance : Ff Try.prog 30 0 0 2 := ⟨_, _, Try.underlying30, rfl, rfl, rfl⟩
instance : Fa Try.prog 30 0 0 := ⟨_, _, Try.t2, Try.underlying30, rfl, by kernel_rfl, by decide, rfl⟩
instance : Ff Try.prog 30 1 1 2 := ⟨_, _, Try.underlying30, rfl, rfl, rfl⟩
instance : Fa Try.prog 30 1 1 := ⟨_, _, Try.t2, Try.underlying30, rfl, by kernel_rfl, by decide, rfl⟩
instance : Pl Try.prog 32 [(0, 2), (2, 1), (3, 1)] := ⟨_, Try.underlying32, fun w => by kernel_rfl⟩
instance : Ff Try.prog 32 0 0 30 := ⟨_, _, Try.underlying32, rfl, rfl, rfl⟩
instance : Fa Try.prog 32 0 0 := ⟨_, _, Try.t30, Try.underlying32, rfl, by kernel_rfl, by decide, rfl⟩
instance : Ff Try.prog 32 1 2 3 := ⟨_, _, Try.underlying32, rfl, rfl, rfl⟩
instance : Fa Try.prog 32 1 2 := ⟨_, _, Try.t3, Try.underlying32, rfl, by kernel_rfl, by decide, rfl⟩
instance : Ff Try.prog 32 2 3 2 := ⟨_, _, Try.underlying32, rfl, rfl, rfl⟩
instance : Fa Try.prog 32 2 3 := ⟨_, _, Try.t2, Try.underlying32, rfl, by kernel_rfl, by decide, rfl⟩
instance : Pl Try.prog 33 [(0, 2), (2, 1), (3, 1)] := ⟨_, Try.underlying33, fun w => by kernel_rfl⟩
instance : Ff Try.prog 33 0 0 30 := ⟨_, _, Try.underlying33, rfl, rfl, rfl⟩
instance : Fa Try.prog 33 0 0 := ⟨_, _, Try.t30, Try.underlying33, rfl, by kernel_rfl, by decide, rfl⟩
instance : Ff Try.prog 33 1 2 3 := ⟨_, _, Try.underlying33, rfl, rfl, rfl⟩
instance : Fa Try.prog 33 1 2 := ⟨_, _, Try.t3, Try.underlying33, rfl, by kernel_rfl, by decide, rfl⟩
instance : Ff Try.prog 33 2 3 2 := ⟨_, _, Try.underlying33, rfl, rfl, rfl⟩
instance : Fa Try.prog 33 2 3 := ⟨_, _, Try.t2, Try.underlying33, rfl, by kernel_rfl, by decide, rfl⟩
instance : Pl Try.prog 34 [(0, 1), (1, 1), (2, 1)] := ⟨_, Try.underlying34, fun w => by kernel_rfl⟩
instance : Ff Try.prog 34 0 0 3 := ⟨_, _, Try.underlying34, rfl, rfl, rfl⟩
instance : Fa Try.prog 34 0 0 := ⟨_, _, Try.t3, Try.underlying34, rfl, by kernel_rfl, by decide, rfl⟩
instance : Ff Try.prog 34 1 1 3 := ⟨_, _, Try.underlying34, rfl, rfl, rfl⟩
instance : Fa Try.prog 34 1 1 := ⟨_, _, Try.t3, Try.underlying34, rfl, by kernel_rfl, by decide, rfl⟩
instance : Ff Try.prog 34 2 2 28 := ⟨_, _, Try.underlying34, rfl, rfl, rfl⟩
instance : Fa Try.prog 34 2 2 := ⟨_, _, Try.t28, Try.underlying34, rfl, by kernel_rfl, by decide, rfl⟩
instance : Pl Try.prog 35 [(0, 1), (1, 1), (2, 1)] := ⟨_, Try.underlying35, fun w => by kernel_rfl⟩
instance : Ff Try.prog 35 0 0 3 := ⟨_, _, Try.underlying35, rfl, rfl, rfl⟩
instance : Fa Try.prog 35 0 0 := ⟨_, _, Try.t3, Try.underlying35, rfl, by kernel_rfl, by decide, rfl⟩
instance : Ff Try.prog 35 1 1 3 := ⟨_, _, Try.underlying35, rfl, rfl, rfl⟩
instance : Fa Try.prog 35 1 1 := ⟨_, _, Try.t3, Try.underlying35, rfl, by kernel_rfl, by decide, rfl⟩
instance : Ff Try.prog 35 2 2 28 := ⟨_, _, Try.underlying35, rfl, rfl, rfl⟩
instance : Fa Try.prog 35 2 2 := ⟨_, _, Try.t28, Try.underlying35, rfl, by kernel_rfl, by decide, rfl⟩
instance : Pl Try.prog 36 [(0, 3), (3, 1), (4, 1), (5, 1)] := ⟨_, Try.underlying36, fun w => by kernel_rfl⟩
instance : Ff Try.prog 36 0 0 35 := ⟨_, _, Try.underlying36, rfl, rfl, rfl⟩
instance : Fa Try.prog 36 0 0 := ⟨_, _, Try.t35, Try.underlying36, rfl, by kernel_rfl, by decide, rfl⟩
instance : Ff Try.prog 36 1 3 3 := ⟨_, _, Try.underlying36, rfl, rfl, rfl⟩
instance : Fa Try.prog 36 1 3 := ⟨_, _, Try.t3, Try.underlying36, rfl, by kernel_rfl, by decide, rfl⟩
instance : Ff Try.prog 36 2 4 21 := ⟨_, _, Try.underlying36, rfl, rfl, rfl⟩
instance : Fa Try.prog 36 2 4 := ⟨_, _, Try.t21, Try.underlying36, rfl, by kernel_rfl, by decide, rfl⟩
instance : Ff Try.prog 36 3 5 21 := ⟨_, _, Try.underlying36, rfl, rfl, rfl⟩
instance : Fa Try.prog 36 3 5 := ⟨_, _, Try.t21, Try.underlying36, rfl, by kernel_rfl, by decide, rfl⟩
instance : Pl Try.prog 37 [(0, 3), (3, 1), (4, 1), (5, 1)] := ⟨_, Try.underlying37, fun w => by kernel_rfl⟩
instance : Ff Try.prog 37 0 0 35 := ⟨_, _, Try.underlying37, rfl, rfl, rfl⟩
instance : Fa Try.prog 37 0 0 := ⟨_, _, Try.t35, Try.underlying37, rfl, by kernel_rfl, by decide, rfl⟩
instance : Ff Try.prog 37 1 3 3 := ⟨_, _, Try.underlying37, rfl, rfl, rfl⟩
instance : Fa Try.prog 37 1 3 := ⟨_, _, Try.t3, Try.underlying37, rfl, by kernel_rfl, by decide, rfl⟩
instance : Ff Try.prog 37 2 4 21 := ⟨_, _, Try.underlying37, rfl, rfl, rfl⟩
instance : Fa Try.prog 37 2 4 := ⟨_, _, Try.t21, Try.underlying37, rfl, by kernel_rfl, by decide, rfl⟩
instance : Ff Try.prog 37 3 5 21 := ⟨_, _, Try.underlying37, rfl, rfl, rfl⟩
instance : Fa Try.prog 37 3 5 := ⟨_, _, Try.t21, Try.underlying37, rfl, by kernel_rfl, by decide, rfl⟩
instance : Pl Try.prog 49 [(0, 1), (1, 129)] := ⟨_, Try.underlying49, fun w => by kernel_rfl⟩
instance : Ff Try.prog 49 0 0 4 := ⟨_, _, Try.underlying49, rfl, rfl, rfl⟩
instance : Fa Try.prog 49 0 0 := ⟨_, _, Try.t4, Try.underlying49, rfl, by kernel_rfl, by decide, rfl⟩
instance : Ff Try.prog 49 1 1 48 := ⟨_, _, Try.underlying49, rfl, rfl, rfl⟩
instance : Fa Try.prog 49 1 1 := ⟨_, _, Try.t48, Try.underlying49, rfl, by kernel_rfl, by decide, rfl⟩
instance : Pl Try.prog 50 [(0, 1), (1, 129)] := ⟨_, Try.underlying50, fun w => by kernel_rfl⟩
instance : Ff Try.prog 50 0 0 4 := ⟨_, _, Try.underlying50, rfl, rfl, rfl⟩
instance : Fa Try.prog 50 0 0 := ⟨_, _, Try.t4, Try.underlying50, rfl, by kernel_rfl, by decide, rfl⟩
instance : Ff Try.prog 50 1 1 48 := ⟨_, _, Try.underlying50, rfl, rfl, rfl⟩
instance : Fa Try.prog 50 1 1 := ⟨_, _, Try.t48, Try.underlying50, rfl, by kernel_rfl, by decide, rfl⟩
instance : Pl Try.prog 55 [(0, 1), (1, 1), (2, 1)] := ⟨_, Try.underlying55, fun w => by kernel_rfl⟩
instance : Ff Try.prog 55 0 0 2 := ⟨_, _, Try.underlying55, rfl, rfl, rfl⟩
instance : Fa Try.prog 55 0 0 := ⟨_, _, Try.t2, Try.underlying55, rfl, by kernel_rfl, by decide, rfl⟩
instance : Ff Try.prog 55 1 1 2 := ⟨_, _, Try.underlying55, rfl, rfl, rfl⟩
instance : Fa Try.prog 55 1 1 := ⟨_, _, Try.t2, Try.underlying55, rfl, by kernel_rfl, by decide, rfl⟩
instance : Ff Try.prog 55 2 2 2 := ⟨_, _, Try.underlying55, rfl, rfl, rfl⟩
instance : Fa Try.prog 55 2 2 := ⟨_, _, Try.t2, Try.underlying55, rfl, by kernel_rfl, by decide, rfl⟩
instance : Pl Try.prog 56 [(0, 1), (1, 1), (2, 1)] := ⟨_, Try.underlying56, fun w => by kernel_rfl⟩
instance : Ff Try.prog 56 0 0 2 := ⟨_, _, Try.underlying56, rfl, rfl, rfl⟩
instance : Fa Try.prog 56 0 0 := ⟨_, _, Try.t2, Try.underlying56, rfl, by kernel_rfl, by decide, rfl⟩
instance : Ff Try.prog 56 1 1 2 := ⟨_, _, Try.underlying56, rfl, rfl, rfl⟩
instance : Fa Try.prog 56 1 1 := ⟨_, _, Try.t2, Try.underlying56, rfl, by kernel_rfl, by decide, rfl⟩
instance : Ff Try.prog 56 2 2 2 := ⟨_, _, Try.underlying56, rfl, rfl, rfl⟩
instance : Fa Try.prog 56 2 2 := ⟨_, _, Try.t2, Try.underlying56, rfl, by kernel_rfl, by decide, rfl⟩
instance : Pl Try.prog 57 [(0, 1), (1, 1), (2, 1)] := ⟨_, Try.underlying57, fun w => by kernel_rfl⟩
instance : Ff Try.prog 57 0 0 3 := ⟨_, _, Try.underlying57, rfl, rfl, rfl⟩
instance : Fa Try.prog 57 0 0 := ⟨_, _, Try.t3, Try.underlying57, rfl, by kernel_rfl, by decide, rfl⟩
instance : Ff Try.prog 57 1 1 3 := ⟨_, _, Try.underlying57, rfl, rfl, rfl⟩
instance : Fa Try.prog 57 1 1 := ⟨_, _, Try.t3, Try.underlying57, rfl, by kernel_rfl, by decide, rfl⟩
instance : Ff Try.prog 57 2 2 2 := ⟨_, _, Try.underlying57, rfl, rfl, rfl⟩
instance : Fa Try.prog 57 2 2 := ⟨_, _, Try.t2, Try.underlying57, rfl, by kernel_rfl, by decide, rfl⟩
instance : Pl Try.prog 58 [(0, 1), (1, 1), (2, 1)] := ⟨_, Try.underlying58, fun w => by kernel_rfl⟩
instance : Ff Try.prog 58 0 0 3 := ⟨_, _, Try.underlying58, rfl, rfl, rfl⟩
instance : Fa Try.prog 58 0 0 := ⟨_, _, Try.t3, Try.underlying58, rfl, by kernel_rfl, by decide, rfl⟩
instance : Ff Try.prog 58 1 1 3 := ⟨_, _, Try.underlying58, rfl, rfl, rfl⟩
instance : Fa Try.prog 58 1 1 := ⟨_, _, Try.t3, Try.underlying58, rfl, by kernel_rfl, by decide, rfl⟩
instance : Ff Try.prog 58 2 2 2 := ⟨_, _, Try.underlying58, rfl, rfl, rfl⟩
instance : Fa Try.prog 58 2 2 := ⟨_, _, Try.t2, Try.underlying58, rfl, by kernel_rfl, by decide, rfl⟩
instance : Pl Try.prog 79 [(0, 1), (1, 1)] := ⟨_, Try.underlying79, fun w => by kernel_rfl⟩
instance : Ff Try.prog 79 0 0 2 := ⟨_, _, Try.underlying79, rfl, rfl, rfl⟩
instance : Fa Try.prog 79 0 0 := ⟨_, _, Try.t2, Try.underlying79, rfl, by kernel_rfl, by decide, rfl⟩
instance : Ff Try.prog 79 1 1 78 := ⟨_, _, Try.underlying79, rfl, rfl, rfl⟩
instance : Fa Try.prog 79 1 1 := ⟨_, _, Try.t78, Try.underlying79, rfl, by kernel_rfl, by decide, rfl⟩
instance : Pl Try.prog 80 [(0, 1), (1, 1)] := ⟨_, Try.underlying80, fun w => by kernel_rfl⟩
instance : Ff Try.prog 80 0 0 2 := ⟨_, _, Try.underlying80, rfl, rfl, rfl⟩
instance : Fa Try.prog 80 0 0 := ⟨_, _, Try.t2, Try.underlying80, rfl, by kernel_rfl, by decide, rfl⟩
instance : Ff Try.prog 80 1 1 78 := ⟨_, _, Try.underlying80, rfl, rfl, rfl⟩
instance : Fa Try.prog 80 1 1 := ⟨_, _, Try.t78, Try.underlying80, rfl, by kernel_rfl, by decide, rfl⟩
instance : Pl Try.prog 107 [(0, 4), (4, 1), (5, 1), (6, 1)] := ⟨_, Try.underlying107, fun w => by kernel_rfl⟩
instance : Ff Try.prog 107 0 0 33 := ⟨_, _, Try.underlying107, rfl, rfl, rfl⟩
instance : Fa Try.prog 107 0 0 := ⟨_, _, Try.t33, Try.underlying107, rfl, by kernel_rfl, by decide, rfl⟩
instance : Ff Try.prog 107 1 4 2 := ⟨_, _, Try.underlying107, rfl, rfl, rfl⟩
instance : Fa Try.prog 107 1 4 := ⟨_, _, Try.t2, Try.underlying107, rfl, by kernel_rfl, by decide, rfl⟩
instance : Ff Try.prog 107 2 5 105 := ⟨_, _, Try.underlying107, rfl, rfl, rfl⟩
instance : Fa Try.prog 107 2 5 := ⟨_, _, Try.t105, Try.underlying107, rfl, by kernel_rfl, by decide, rfl⟩
instance : Ff Try.prog 107 3 6 106 := ⟨_, _, Try.underlying107, rfl, rfl, rfl⟩
instance : Fa Try.prog 107 3 6 := ⟨_, _, Try.t106, Try.underlying107, rfl, by kernel_rfl, by decide, rfl⟩
instance : Pl Try.prog 108 [(0, 4), (4, 1), (5, 1), (6, 1)] := ⟨_, Try.underlying108, fun w => by kernel_rfl⟩
instance : Ff Try.prog 108 0 0 33 := ⟨_, _, Try.underlying108, rfl, rfl, rfl⟩
instance : Fa Try.prog 108 0 0 := ⟨_, _, Try.t33, Try.underlying108, rfl, by kernel_rfl, by decide, rfl⟩
instance : Ff Try.prog 108 1 4 2 := ⟨_, _, Try.underlying108, rfl, rfl, rfl⟩
instance : Fa Try.prog 108 1 4 := ⟨_, _, Try.t2, Try.underlying108, rfl, by kernel_rfl, by decide, rfl⟩
instance : Ff Try.prog 108 2 5 105 := ⟨_, _, Try.underlying108, rfl, rfl, rfl⟩
instance : Fa Try.prog 108 2 5 := ⟨_, _, Try.t105, Try.underlying108, rfl, by kernel_rfl, by decide, rfl⟩
instance : Ff Try.prog 108 3 6 106 := ⟨_, _, Try.underlying108, rfl, rfl, rfl⟩
instance : Fa Try.prog 108 3 6 := ⟨_, _, Try.t106, Try.underlying108, rfl, by kernel_rfl, by decide, rfl⟩
instance : Pl Try.prog 131 [(0, 1), (1, 1)] := ⟨_, Try.underlying131, fun w => by kernel_rfl⟩
instance : Ff Try.prog 131 0 0 3 := ⟨_, _, Try.underlying131, rfl, rfl, rfl⟩
instance : Fa Try.prog 131 0 0 := ⟨_, _, Try.t3, Try.underlying131, rfl, by kernel_rfl, by decide, rfl⟩
instance : Ff Try.prog 131 1 1 3 := ⟨_, _, Try.underlying131, rfl, rfl, rfl⟩
instance : Fa Try.prog 131 1 1 := ⟨_, _, Try.t3, Try.underlying131, rfl, by kernel_rfl, by decide, rfl⟩
instance : Pl Try.prog 132 [(0, 1), (1, 1)] := ⟨_, Try.underlying132, fun w => by kernel_rfl⟩
instance : Ff Try.prog 132 0 0 3 := ⟨_, _, Try.underlying132, rfl, rfl, rfl⟩
instance : Fa Try.prog 132 0 0 := ⟨_, _, Try.t3, Try.underlying132, rfl, by kernel_rfl, by decide, rfl⟩
instance : Ff Try.prog 132 1 1 3 := ⟨_, _, Try.underlying132, rfl, rfl, rfl⟩
instance : Fa Try.prog 132 1 1 := ⟨_, _, Try.t3, Try.underlying132, rfl, by kernel_rfl, by decide, rfl⟩
instance : Pl Try.prog 141 [(0, 6), (6, 1), (7, 1)] := ⟨_, Try.underlying141, fun w => by kernel_rfl⟩
instance : Ff Try.prog 141 0 0 37 := ⟨_, _, Try.underlying141, rfl, rfl, rfl⟩
instance : Fa Try.prog 141 0 0 := ⟨_, _, Try.t37, Try.underlying141, rfl, by kernel_rfl, by decide, rfl⟩
instance : Ff Try.prog 141 1 6 111 := ⟨_, _, Try.underlying141, rfl, rfl, rfl⟩
instance : Fa Try.prog 141 1 6 := ⟨_, _, Try.t111, Try.underlying141, rfl, by kernel_rfl, by decide, rfl⟩
instance : Ff Try.prog 141 2 7 111 := ⟨_, _, Try.underlying141, rfl, rfl, rfl⟩
instance : Fa Try.prog 141 2 7 := ⟨_, _, Try.t111, Try.underlying141, rfl, by kernel_rfl, by decide, rfl⟩
instance : Pl Try.prog 142 [(0, 6), (6, 1), (7, 1)] := ⟨_, Try.underlying142, fun w => by kernel_rfl⟩
instance : Ff Try.prog 142 0 0 37 := ⟨_, _, Try.underlying142, rfl, rfl, rfl⟩
instance : Fa Try.prog 142 0 0 := ⟨_, _, Try.t37, Try.underlying142, rfl, by kernel_rfl, by decide, rfl⟩
instance : Ff Try.prog 142 1 6 111 := ⟨_, _, Try.underlying142, rfl, rfl, rfl⟩
instance : Fa Try.prog 142 1 6 := ⟨_, _, Try.t111, Try.underlying142, rfl, by kernel_rfl, by decide, rfl⟩
instance : Ff Try.prog 142 2 7 111 := ⟨_, _, Try.underlying142, rfl, rfl, rfl⟩
instance : Fa Try.prog 142 2 7 := ⟨_, _, Try.t111, Try.underlying142, rfl, by kernel_rfl, by decide, rfl⟩
instance : Pl Try.prog 144 [(0, 1), (1, 1), (2, 256), (258, 1)] := ⟨_, Try.underlying144, fun w => by kernel_rfl⟩
instance : Ff Try.prog 144 0 0 3 := ⟨_, _, Try.underlying144, rfl, rfl, rfl⟩
instance : Fa Try.prog 144 0 0 := ⟨_, _, Try.t3, Try.underlying144, rfl, by kernel_rfl, by decide, rfl⟩
instance : Ff Try.prog 144 1 1 3 := ⟨_, _, Try.underlying144, rfl, rfl, rfl⟩
instance : Fa Try.prog 144 1 1 := ⟨_, _, Try.t3, Try.underlying144, rfl, by kernel_rfl, by decide, rfl⟩
instance : Ff Try.prog 144 2 2 143 := ⟨_, _, Try.underlying144, rfl, rfl, rfl⟩
instance : Fa Try.prog 144 2 2 := ⟨_, _, Try.t143, Try.underlying144, rfl, by kernel_rfl, by decide, rfl⟩
instance : Ff Try.prog 144 3 258 3 := ⟨_, _, Try.underlying144, rfl, rfl, rfl⟩
instance : Fa Try.prog 144 3 258 := ⟨_, _, Try.t3, Try.underlying144, rfl, by kernel_rfl, by decide, rfl⟩
instance : Pl Try.prog 145 [(0, 1), (1, 1), (2, 256), (258, 1)] := ⟨_, Try.underlying145, fun w => by kernel_rfl⟩
instance : Ff Try.prog 145 0 0 3 := ⟨_, _, Try.underlying145, rfl, rfl, rfl⟩
instance : Fa Try.prog 145 0 0 := ⟨_, _, Try.t3, Try.underlying145, rfl, by kernel_rfl, by decide, rfl⟩
instance : Ff Try.prog 145 1 1 3 := ⟨_, _, Try.underlying145, rfl, rfl, rfl⟩
instance : Fa Try.prog 145 1 1 := ⟨_, _, Try.t3, Try.underlying145, rfl, by kernel_rfl, by decide, rfl⟩
instance : Ff Try.prog 145 2 2 143 := ⟨_, _, Try.underlying145, rfl, rfl, rfl⟩
instance : Fa Try.prog 145 2 2 := ⟨_, _, Try.t143, Try.underlying145, rfl, by kernel_rfl, by decide, rfl⟩
instance : Ff Try.prog 145 3 258 3 := ⟨_, _, Try.underlying145, rfl, rfl, rfl⟩
instance : Fa Try.prog 145 3 258 := ⟨_, _, Try.t3, Try.underlying145, rfl, by kernel_rfl, by decide, rfl⟩
instance : Pl Try.prog 147 [(0, 1), (1, 8), (9, 8288), (8297, 1), (8298, 1), (8299, 1), (8300, 1)] := ⟨_, Try.underlying147, fun w => by kernel_rfl⟩
instance : Ff Try.prog 147 0 0 89 := ⟨_, _, Try.underlying147, rfl, rfl, rfl⟩
instance : Fa Try.prog 147 0 0 := ⟨_, _, Try.t89, Try.underlying147, rfl, by kernel_rfl, by decide, rfl⟩
instance : Ff Try.prog 147 1 1 142 := ⟨_, _, Try.underlying147, rfl, rfl, rfl⟩
instance : Fa Try.prog 147 1 1 := ⟨_, _, Try.t142, Try.underlying147, rfl, by kernel_rfl, by decide, rfl⟩
instance : Ff Try.prog 147 2 9 146 := ⟨_, _, Try.underlying147, rfl, rfl, rfl⟩
instance : Fa Try.prog 147 2 9 := ⟨_, _, Try.t146, Try.underlying147, rfl, by kernel_rfl, by decide, rfl⟩
instance : Ff Try.prog 147 3 8297 3 := ⟨_, _, Try.underlying147, rfl, rfl, rfl⟩
instance : Fa Try.prog 147 3 8297 := ⟨_, _, Try.t3, Try.underlying147, rfl, by kernel_rfl, by decide, rfl⟩
instance : Ff Try.prog 147 4 8298 3 := ⟨_, _, Try.underlying147, rfl, rfl, rfl⟩
instance : Fa Try.prog 147 4 8298 := ⟨_, _, Try.t3, Try.underlying147, rfl, by kernel_rfl, by decide, rfl⟩
instance : Ff Try.prog 147 5 8299 3 := ⟨_, _, Try.underlying147, rfl, rfl, rfl⟩
instance : Fa Try.prog 147 5 8299 := ⟨_, _, Try.t3, Try.underlying147, rfl, by kernel_rfl, by decide, rfl⟩
instance : Ff Try.prog 147 6 8300 3 := ⟨_, _, Try.underlying147, rfl, rfl, rfl⟩
instance : Fa Try.prog 147 6 8300 := ⟨_, _, Try.t3, Try.underlying147, rfl, by kernel_rfl, by decide, rfl⟩
instance : Pl Try.prog 148 [(0, 1), (1, 8), (9, 8288), (8297, 1), (8298, 1), (8299, 1), (8300, 1)] := ⟨_, Try.underlying148, fun w => by kernel_rfl⟩
instance : Ff Try.prog 148 0 0 89 := ⟨_, _, Try.underlying148, rfl, rfl, rfl⟩
instance : Fa Try.prog 148 0 0 := ⟨_, _, Try.t89, Try.underlying148, rfl, by kernel_rfl, by decide, rfl⟩
instance : Ff Try.prog 148 1 1 142 := ⟨_, _, Try.underlying148, rfl, rfl, rfl⟩
instance : Fa Try.prog 148 1 1 := ⟨_, _, Try.t142, Try.underlying148, rfl, by kernel_rfl, by decide, rfl⟩
instance : Ff Try.prog 148 2 9 146 := ⟨_, _, Try.underlying148, rfl, rfl, rfl⟩
instance : Fa Try.prog 148 2 9 := ⟨_, _, Try.t146, Try.underlying148, rfl, by kernel_rfl, by decide, rfl⟩
instance : Ff Try.prog 148 3 8297 3 := ⟨_, _, Try.underlying148, rfl, rfl, rfl⟩
instance : Fa Try.prog 148 3 8297 := ⟨_, _, Try.t3, Try.underlying148, rfl, by kernel_rfl, by decide, rfl⟩
instance : Ff Try.prog 148 4 8298 3 := ⟨_, _, Try.underlying148, rfl, rfl, rfl⟩
instance : Fa Try.prog 148 4 8298 := ⟨_, _, Try.t3, Try.underlying148, rfl, by kernel_rfl, by decide, rfl⟩
instance : Ff Try.prog 148 5 8299 3 := ⟨_, _, Try.underlying148, rfl, rfl, rfl⟩
instance : Fa Try.prog 148 5 8299 := ⟨_, _, Try.t3, Try.underlying148, rfl, by kernel_rfl, by decide, rfl⟩
instance : Ff Try.prog 148 6 8300 3 := ⟨_, _, Try.underlying148, rfl, rfl, rfl⟩
instance : Fa Try.prog 148 6 8300 := ⟨_, _, Try.t3, Try.underlying148, rfl, by kernel_rfl, by decide, rfl⟩
instance : Pl Try.prog 168 [(0, 1), (1, 1)] := ⟨_, Try.underlying168, fun w => by kernel_rfl⟩
instance : Ff Try.prog 168 0 0 89 := ⟨_, _, Try.underlying168, rfl, rfl, rfl⟩
instance : Fa Try.prog 168 0 0 := ⟨_, _, Try.t89, Try.underlying168, rfl, by kernel_rfl, by decide, rfl⟩
instance : Ff Try.prog 168 1 1 3 := ⟨_, _, Try.underlying168, rfl, rfl, rfl⟩
instance : Fa Try.prog 168 1 1 := ⟨_, _, Try.t3, Try.underlying168, rfl, by kernel_rfl, by decide, rfl⟩
instance : Pl Try.prog 169 [(0, 1), (1, 1)] := ⟨_, Try.underlying169, fun w => by kernel_rfl⟩
instance : Ff Try.prog 169 0 0 89 := ⟨_, _, Try.underlying169, rfl, rfl, rfl⟩
instance : Fa Try.prog 169 0 0 := ⟨_, _, Try.t89, Try.underlying169, rfl, by kernel_rfl, by decide, rfl⟩
instance : Ff Try.prog 169 1 1 3 := ⟨_, _, Try.underlying169, rfl, rfl, rfl⟩
instance : Fa Try.prog 169 1 1 := ⟨_, _, Try.t3, Try.underlying169, rfl, by kernel_rfl, by decide, rfl⟩
instance : Pl Try.prog 213 [(0, 1), (1, 1), (2, 1)] := ⟨_, Try.underlying213, fun w => by kernel_rfl⟩
instance : Ff Try.prog 213 0 0 89 := ⟨_, _, Try.underlying213, rfl, rfl, rfl⟩
instance : Fa Try.prog 213 0 0 := ⟨_, _, Try.t89, Try.underlying213, rfl, by kernel_rfl, by decide, rfl⟩
instance : Ff Try.prog 213 1 1 3 := ⟨_, _, Try.underlying213, rfl, rfl, rfl⟩
instance : Fa Try.prog 213 1 1 := ⟨_, _, Try.t3, Try.underlying213, rfl, by kernel_rfl, by decide, rfl⟩
instance : Ff Try.prog 213 2 2 4 := ⟨_, _, Try.underlying213, rfl, rfl, rfl⟩
instance : Fa Try.prog 213 2 2 := ⟨_, _, Try.t4, Try.underlying213, rfl, by kernel_rfl, by decide, rfl⟩
instance : Pl Try.prog 214 [(0, 1), (1, 1), (2, 1)] := ⟨_, Try.underlying214, fun w => by kernel_rfl⟩
instance : Ff Try.prog 214 0 0 89 := ⟨_, _, Try.underlying214, rfl, rfl, rfl⟩
instance : Fa Try.prog 214 0 0 := ⟨_, _, Try.t89, Try.underlying214, rfl, by kernel_rfl, by decide, rfl⟩
instance : Ff Try.prog 214 1 1 3 := ⟨_, _, Try.underlying214, rfl, rfl, rfl⟩
instance : Fa Try.prog 214 1 1 := ⟨_, _, Try.t3, Try.underlying214, rfl, by kernel_rfl, by decide, rfl⟩
instance : Ff Try.prog 214 2 2 4 := ⟨_, _, Try.underlying214, rfl, rfl, rfl⟩
instance : Fa Try.prog 214 2 2 := ⟨_, _, Try.t4, Try.underlying214, rfl, by kernel_rfl, by decide, rfl⟩
instance : Cl Try.prog 2 := ⟨Try.call2⟩
instance : Cl Try.prog 3 := ⟨Try.call3⟩
instance : Cl Try.prog 4 := ⟨Try.call4⟩
instance : Cl Try.prog 5 := ⟨Try.call5⟩
instance : Cl Try.prog 6 := ⟨Try.call6⟩
instance : Cl Try.prog 7 := ⟨Try.call7⟩
instance : Cl Try.prog 8 := ⟨Try.call8⟩
instance : Cl Try.prog 9 := ⟨Try.call9⟩
instance : Cl Try.prog 10 := ⟨Try.call10⟩
instance : Cl Try.prog 11 := ⟨Try.call11⟩
instance : Cl Try.prog 12 := ⟨Try.call12⟩
instance : Cl Try.prog 13 := ⟨Try.call13⟩
instance : Cl Try.prog 14 := ⟨Try.call14⟩
instance : Cl Try.prog 15 := ⟨Try.call15⟩
instance : Cl Try.prog 16 := ⟨Try.call16⟩
instance : Cl Try.prog 17 := ⟨Try.call17⟩
instance : Cl Try.prog 18 := ⟨Try.call18⟩
instance : Cl Try.prog 19 := ⟨Try.call19⟩
instance : Cl Try.prog 20 := ⟨Try.call20⟩
instance : Cl Try.prog 21 := ⟨Try.call21⟩
instance : Cl Try.prog 22 := ⟨Try.call22⟩
instance : Cl Try.prog 23 := ⟨Try.call23⟩
instance : Cl Try.prog 24 := ⟨Try.call24⟩
instance : Cl Try.prog 25 := ⟨Try.call25⟩
instance : Cl Try.prog 26 := ⟨Try.call26⟩
instance : Cl Try.prog 27 := ⟨Try.call27⟩
instance : Cl Try.prog 28 := ⟨Try.call28⟩
instance : Cl Try.prog 29 := ⟨Try.call29⟩
instance : Cl Try.prog 30 := ⟨Try.call30⟩
instance : Cl Try.prog 31 := ⟨Try.call31⟩
instance : Cl Try.prog 32 := ⟨Try.call32⟩
instance : Cl Try.prog 33 := ⟨Try.call33⟩
instance : Cl Try.prog 34 := ⟨Try.call34⟩
instance : Cl Try.prog 35 := ⟨Try.call35⟩
instance : Cl Try.prog 36 := ⟨Try.call36⟩
instance : Cl Try.prog 37 := ⟨Try.call37⟩
instance : Cl Try.prog 38 := ⟨Try.call38⟩
instance : Cl Try.prog 39 := ⟨Try.call39⟩
instance : Cl Try.prog 40 := ⟨Try.call40⟩
instance : Cl Try.prog 41 := ⟨Try.call41⟩
instance : Cl Try.prog 42 := ⟨Try.call42⟩
instance : Cl Try.prog 43 := ⟨Try.call43⟩
instance : Cl Try.prog 44 := ⟨Try.call44⟩
instance : Cl Try.prog 45 := ⟨Try.call45⟩
instance : Cl Try.prog 46 := ⟨Try.call46⟩
instance : Cl Try.prog 47 := ⟨Try.call47⟩
instance : Cl Try.prog 48 := ⟨Try.call48⟩
instance : Cl Try.prog 49 := ⟨Try.call49⟩
instance : Cl Try.prog 50 := ⟨Try.call50⟩
instance : Cl Try.prog 51 := ⟨Try.call51⟩
instance : Cl Try.prog 52 := ⟨Try.call52⟩
instance : Cl Try.prog 53 := ⟨Try.call53⟩
instance : Cl Try.prog 54 := ⟨Try.call54⟩
instance : Cl Try.prog 55 := ⟨Try.call55⟩
instance : Cl Try.prog 56 := ⟨Try.call56⟩
instance : Cl Try.prog 57 := ⟨Try.call57⟩
instance : Cl Try.prog 58 := ⟨Try.call58⟩
instance : Cl Try.prog 59 := ⟨Try.call59⟩
instance : Cl Try.prog 60 := ⟨Try.call60⟩
instance : Cl Try.prog 61 := ⟨Try.call61⟩
instance : Cl Try.prog 62 := ⟨Try.call62⟩
instance : Cl Try.prog 63 := ⟨Try.call63⟩
instance : Cl Try.prog 64 := ⟨Try.call64⟩
instance : Cl Try.prog 65 := ⟨Try.call65⟩
instance : Cl Try.prog 66 := ⟨Try.call66⟩
instance : Cl Try.prog 67 := ⟨Try.call67⟩
instance : Cl Try.prog 68 := ⟨Try.call68⟩
instance : Cl Try.prog 69 := ⟨Try.call69⟩
instance : Cl Try.prog 70 := ⟨Try.call70⟩
instance : Cl Try.prog 71 := ⟨Try.call71⟩
instance : Cl Try.prog 72 := ⟨Try.call72⟩
instance : Cl Try.prog 73 := ⟨Try.call73⟩
instance : Cl Try.prog 74 := ⟨Try.call74⟩
instance : Cl Try.prog 75 := ⟨Try.call75⟩
instance : Cl Try.prog 76 := ⟨Try.call76⟩
instance : Cl Try.prog 77 := ⟨Try.call77⟩
instance : Cl Try.prog 78 := ⟨Try.call78⟩
instance : Cl Try.prog 79 := ⟨Try.call79⟩
instance : Cl Try.prog 80 := ⟨Try.call80⟩
instance : Cl Try.prog 81 := ⟨Try.call81⟩
instance : Cl Try.prog 82 := ⟨Try.call82⟩
instance : Cl Try.prog 83 := ⟨Try.call83⟩
instance : Cl Try.prog 85 := ⟨Try.call85⟩
instance : Cl Try.prog 86 := ⟨Try.call86⟩
instance : Cl Try.prog 87 := ⟨Try.call87⟩
instance : Cl Try.prog 88 := ⟨Try.call88⟩
instance : Cl Try.prog 89 := ⟨Try.call89⟩
instance : Cl Try.prog 90 := ⟨Try.call90⟩
instance : Cl Try.prog 91 := ⟨Try.call91⟩
instance : Cl Try.prog 92 := ⟨Try.call92⟩
instance : Cl Try.prog 93 := ⟨Try.call93⟩
instance : Cl Try.prog 94 := ⟨Try.call94⟩
instance : Cl Try.prog 95 := ⟨Try.call95⟩
instance : Cl Try.prog 96 := ⟨Try.call96⟩
instance : Cl Try.prog 97 := ⟨Try.call97⟩
instance : Cl Try.prog 98 := ⟨Try.call98⟩
instance : Cl Try.prog 99 := ⟨Try.call99⟩
instance : Cl Try.prog 100 := ⟨Try.call100⟩
instance : Cl Try.prog 101 := ⟨Try.call101⟩
instance : Cl Try.prog 102 := ⟨Try.call102⟩
instance : Cl Try.prog 103 := ⟨Try.call103⟩
instance : Cl Try.prog 104 := ⟨Try.call104⟩
instance : Cl Try.prog 105 := ⟨Try.call105⟩
instance : Cl Try.prog 106 := ⟨Try.call106⟩
instance : Cl Try.prog 107 := ⟨Try.call107⟩
instance : Cl Try.prog 108 := ⟨Try.call108⟩
instance : Cl Try.prog 109 := ⟨Try.call109⟩
instance : Cl Try.prog 110 := ⟨Try.call110⟩
instance : Cl Try.prog 111 := ⟨Try.call111⟩
instance : Cl Try.prog 112 := ⟨Try.call112⟩
instance : Cl Try.prog 113 := ⟨Try.call113⟩
instance : Cl Try.prog 114 := ⟨Try.call114⟩
instance : Cl Try.prog 115 := ⟨Try.call115⟩
instance : Cl Try.prog 116 := ⟨Try.call116⟩
instance : Cl Try.prog 117 := ⟨Try.call117⟩
instance : Cl Try.prog 118 := ⟨Try.call118⟩
instance : Cl Try.prog 119 := ⟨Try.call119⟩
instance : Cl Try.prog 120 := ⟨Try.call120⟩
instance : Cl Try.prog 121 := ⟨Try.call121⟩
instance : Cl Try.prog 122 := ⟨Try.call122⟩
instance : Cl Try.prog 123 := ⟨Try.call123⟩
instance : Cl Try.prog 124 := ⟨Try.call124⟩
instance : Cl Try.prog 125 := ⟨Try.call125⟩
instance : Cl Try.prog 126 := ⟨Try.call126⟩
instance : Cl Try.prog 127 := ⟨Try.call127⟩
instance : Cl Try.prog 128 := ⟨Try.call128⟩
instance : FRes Try.f2 [] := ⟨rfl⟩
instance : FRes Try.f3 [Go.ResultVar.tmp 4] := ⟨rfl⟩
instance : FRes Try.f4 [Go.ResultVar.tmp 12] := ⟨rfl⟩
instance : FRes Try.f5 [Go.ResultVar.tmp 8] := ⟨rfl⟩
instance : FRes Try.f6 [Go.ResultVar.tmp 14] := ⟨rfl⟩
instance : FRes Try.f7 [Go.ResultVar.tmp 14] := ⟨rfl⟩
instance : FRes Try.f8 [Go.ResultVar.tmp 14] := ⟨rfl⟩
instance : FRes Try.f9 [Go.ResultVar.tmp 12] := ⟨rfl⟩
instance : FRes Try.f10 [Go.ResultVar.tmp 0] := ⟨rfl⟩
instance : FRes Try.f11 [Go.ResultVar.tmp 4, Go.ResultVar.tmp 5] := ⟨rfl⟩
instance : FRes Try.f12 [Go.ResultVar.tmp 4, Go.ResultVar.tmp 5] := ⟨rfl⟩
instance : FRes Try.f13 [Go.ResultVar.cell 12 37] := ⟨rfl⟩
instance : FRes Try.f14 [Go.ResultVar.tmp 4] := ⟨rfl⟩
instance : FRes Try.f15 [Go.ResultVar.tmp 4] := ⟨rfl⟩
instance : FRes Try.f16 [Go.ResultVar.tmp 4] := ⟨rfl⟩
instance : FRes Try.f17 [Go.ResultVar.tmp 6, Go.ResultVar.tmp 7] := ⟨rfl⟩
instance : FRes Try.f18 [Go.ResultVar.tmp 8, Go.ResultVar.tmp 9] := ⟨rfl⟩
instance : FRes Try.f19 [Go.ResultVar.tmp 4] := ⟨rfl⟩
instance : FRes Try.f20 [Go.ResultVar.cell 4 50] := ⟨rfl⟩
instance : FRes Try.f21 [Go.ResultVar.tmp 8] := ⟨rfl⟩
instance : FRes Try.f22 [Go.ResultVar.cell 2 33] := ⟨rfl⟩
instance : FRes Try.f23 [Go.ResultVar.cell 10 58, Go.ResultVar.tmp 11, Go.ResultVar.tmp 12] := ⟨rfl⟩
instance : FRes Try.f24 [Go.ResultVar.tmp 0] := ⟨rfl⟩
instance : FRes Try.f25 [Go.ResultVar.tmp 6] := ⟨rfl⟩
instance : FRes Try.f26 [Go.ResultVar.tmp 6] := ⟨rfl⟩
instance : FRes Try.f27 [Go.ResultVar.tmp 8] := ⟨rfl⟩
instance : FRes Try.f28 [Go.ResultVar.tmp 10] := ⟨rfl⟩
instance : FRes Try.f29 [Go.ResultVar.cell 2 33] := ⟨rfl⟩
instance : FRes Try.f30 [Go.ResultVar.tmp 8, Go.ResultVar.tmp 9, Go.ResultVar.tmp 10] := ⟨rfl⟩
instance : FRes Try.f31 [Go.ResultVar.tmp 2] := ⟨rfl⟩
instance : FRes Try.f32 [Go.ResultVar.cell 0 35] := ⟨rfl⟩
instance : FRes Try.f33 [Go.ResultVar.tmp 4, Go.ResultVar.tmp 5] := ⟨rfl⟩
instance : FRes Try.f34 [Go.ResultVar.tmp 8] := ⟨rfl⟩
instance : FRes Try.f35 [Go.ResultVar.cell 4 80] := ⟨rfl⟩
instance : FRes Try.f36 [Go.ResultVar.tmp 4] := ⟨rfl⟩
instance : FRes Try.f37 [Go.ResultVar.cell 2 50] := ⟨rfl⟩
instance : FRes Try.f38 [Go.ResultVar.cell 4 50, Go.ResultVar.tmp 5] := ⟨rfl⟩
instance : FRes Try.f39 [Go.ResultVar.tmp 2, Go.ResultVar.tmp 3] := ⟨rfl⟩
instance : FRes Try.f40 [Go.ResultVar.cell 6 35] := ⟨rfl⟩
instance : FRes Try.f41 [Go.ResultVar.tmp 2, Go.ResultVar.tmp 3] := ⟨rfl⟩
instance : FRes Try.f42 [Go.ResultVar.tmp 4, Go.ResultVar.tmp 5] := ⟨rfl⟩
instance : FRes Try.f43 [Go.ResultVar.tmp 6, Go.ResultVar.tmp 7] := ⟨rfl⟩
instance : FRes Try.f44 [Go.ResultVar.tmp 2] := ⟨rfl⟩
instance : FRes Try.f45 [Go.ResultVar.tmp 4] := ⟨rfl⟩
instance : FRes Try.f46 [Go.ResultVar.cell 4 48] := ⟨rfl⟩
instance : FRes Try.f47 [Go.ResultVar.cell 2 48] := ⟨rfl⟩
instance : FRes Try.f48 [Go.ResultVar.tmp 4] := ⟨rfl⟩
instance : FRes Try.f49 [Go.ResultVar.tmp 6] := ⟨rfl⟩
instance : FRes Try.f50 [Go.ResultVar.tmp 2] := ⟨rfl⟩
instance : FRes Try.f51 [] := ⟨rfl⟩
instance : FRes Try.f52 [Go.ResultVar.tmp 2] := ⟨rfl⟩
instance : FRes Try.f53 [Go.ResultVar.cell 4 112, Go.ResultVar.tmp 5] := ⟨rfl⟩
instance : FRes Try.f54 [Go.ResultVar.tmp 2, Go.ResultVar.tmp 3, Go.ResultVar.tmp 4, Go.ResultVar.tmp 5] := ⟨rfl⟩
instance : FRes Try.f55 [Go.ResultVar.tmp 8, Go.ResultVar.tmp 9] := ⟨rfl⟩
instance : FRes Try.f56 [Go.ResultVar.tmp 6] := ⟨rfl⟩
instance : FRes Try.f57 [] := ⟨rfl⟩
instance : FRes Try.f58 [Go.ResultVar.tmp 4, Go.ResultVar.tmp 5] := ⟨rfl⟩
instance : FRes Try.f59 [Go.ResultVar.tmp 2] := ⟨rfl⟩
instance : FRes Try.f60 [Go.ResultVar.cell 2 80] := ⟨rfl⟩
instance : FRes Try.f61 [Go.ResultVar.cell 4 48] := ⟨rfl⟩
instance : FRes Try.f62 [Go.ResultVar.tmp 4] := ⟨rfl⟩
instance : FRes Try.f63 [Go.ResultVar.tmp 4] := ⟨rfl⟩
instance : FRes Try.f64 [Go.ResultVar.tmp 2] := ⟨rfl⟩
instance : FRes Try.f65 [Go.ResultVar.tmp 2] := ⟨rfl⟩
instance : FRes Try.f66 [Go.ResultVar.tmp 4] := ⟨rfl⟩
instance : FRes Try.f67 [Go.ResultVar.tmp 4] := ⟨rfl⟩
instance : FRes Try.f68 [Go.ResultVar.tmp 6, Go.ResultVar.tmp 7, Go.ResultVar.tmp 8, Go.ResultVar.tmp 9] := ⟨rfl⟩
instance : FRes Try.f69 [Go.ResultVar.tmp 6, Go.ResultVar.tmp 7] := ⟨rfl⟩
instance : FRes Try.f70 [Go.ResultVar.tmp 4] := ⟨rfl⟩
instance : FRes Try.f71 [Go.ResultVar.tmp 2] := ⟨rfl⟩
instance : FRes Try.f72 [Go.ResultVar.tmp 6] := ⟨rfl⟩
instance : FRes Try.f73 [Go.ResultVar.cell 2 37, Go.ResultVar.tmp 3] := ⟨rfl⟩
instance : FRes Try.f74 [Go.ResultVar.cell 2 142, Go.ResultVar.tmp 3] := ⟨rfl⟩
instance : FRes Try.f75 [Go.ResultVar.tmp 6] := ⟨rfl⟩
instance : FRes Try.f76 [Go.ResultVar.tmp 4] := ⟨rfl⟩
instance : FRes Try.f77 [Go.ResultVar.tmp 6] := ⟨rfl⟩
instance : FRes Try.f78 [] := ⟨rfl⟩
instance : FRes Try.f79 [Go.ResultVar.tmp 6, Go.ResultVar.tmp 7] := ⟨rfl⟩
instance : FRes Try.f80 [Go.ResultVar.tmp 4] := ⟨rfl⟩
instance : FRes Try.f81 [Go.ResultVar.cell 2 37] := ⟨rfl⟩
instance : FRes Try.f82 [Go.ResultVar.tmp 6, Go.ResultVar.tmp 7] := ⟨rfl⟩
instance : FRes Try.f83 [Go.ResultVar.tmp 6, Go.ResultVar.tmp 7] := ⟨rfl⟩
instance : FRes Try.f85 [Go.ResultVar.tmp 2] := ⟨rfl⟩
instance : FRes Try.f86 [Go.ResultVar.tmp 2] := ⟨rfl⟩
instance : FRes Try.f87 [Go.ResultVar.tmp 4] := ⟨rfl⟩
instance : FRes Try.f88 [Go.ResultVar.tmp 6] := ⟨rfl⟩
instance : FRes Try.f89 [] := ⟨rfl⟩
instance : FRes Try.f90 [Go.ResultVar.tmp 2] := ⟨rfl⟩
instance : FRes Try.f91 [Go.ResultVar.tmp 2] := ⟨rfl⟩
instance : FRes Try.f92 [Go.ResultVar.tmp 6, Go.ResultVar.tmp 7] := ⟨rfl⟩
instance : FRes Try.f93 [Go.ResultVar.tmp 6] := ⟨rfl⟩
instance : FRes Try.f94 [Go.ResultVar.tmp 6] := ⟨rfl⟩
instance : FRes Try.f95 [Go.ResultVar.tmp 2, Go.ResultVar.tmp 3] := ⟨rfl⟩
instance : FRes Try.f96 [Go.ResultVar.tmp 10, Go.ResultVar.tmp 11] := ⟨rfl⟩
instance : FRes Try.f97 [Go.ResultVar.tmp 4] := ⟨rfl⟩
instance : FRes Try.f98 [Go.ResultVar.tmp 4] := ⟨rfl⟩
instance : FRes Try.f99 [Go.ResultVar.tmp 6, Go.ResultVar.tmp 7] := ⟨rfl⟩
instance : FRes Try.f100 [Go.ResultVar.tmp 8] := ⟨rfl⟩
instance : FRes Try.f101 [Go.ResultVar.tmp 4, Go.ResultVar.tmp 5] := ⟨rfl⟩
instance : FRes Try.f102 [Go.ResultVar.tmp 2, Go.ResultVar.tmp 3] := ⟨rfl⟩
instance : FRes Try.f103 [] := ⟨rfl⟩
instance : FRes Try.f104 [Go.ResultVar.tmp 2] := ⟨rfl⟩
instance : FRes Try.f105 [] := ⟨rfl⟩
instance : FRes Try.f106 [Go.ResultVar.tmp 2] := ⟨rfl⟩
instance : FRes Try.f107 [Go.ResultVar.tmp 6, Go.ResultVar.tmp 7] := ⟨rfl⟩
instance : FRes Try.f108 [Go.ResultVar.tmp 6, Go.ResultVar.tmp 7] := ⟨rfl⟩
instance : FRes Try.f109 [Go.ResultVar.tmp 6] := ⟨rfl⟩
instance : FRes Try.f110 [Go.ResultVar.tmp 6, Go.ResultVar.tmp 7] := ⟨rfl⟩
instance : FRes Try.f111 [Go.ResultVar.tmp 2] := ⟨rfl⟩
instance : FRes Try.f112 [Go.ResultVar.tmp 2] := ⟨rfl⟩
instance : FRes Try.f113 [Go.ResultVar.tmp 4] := ⟨rfl⟩
instance : FRes Try.f114 [] := ⟨rfl⟩
instance : FRes Try.f115 [] := ⟨rfl⟩
instance : FRes Try.f116 [Go.ResultVar.tmp 2] := ⟨rfl⟩
instance : FRes Try.f117 [] := ⟨rfl⟩
instance : FRes Try.f118 [Go.ResultVar.tmp 2] := ⟨rfl⟩
instance : FRes Try.f119 [Go.ResultVar.tmp 4, Go.ResultVar.tmp 5] := ⟨rfl⟩
instance : FRes Try.f120 [Go.ResultVar.tmp 2] := ⟨rfl⟩
instance : FRes Try.f121 [Go.ResultVar.tmp 2] := ⟨rfl⟩
instance : FRes Try.f122 [Go.ResultVar.tmp 4] := ⟨rfl⟩
instance : FRes Try.f123 [Go.ResultVar.tmp 2] := ⟨rfl⟩
instance : FRes Try.f124 [Go.ResultVar.tmp 4, Go.ResultVar.tmp 5] := ⟨rfl⟩
instance : FRes Try.f125 [Go.ResultVar.tmp 2] := ⟨rfl⟩
instance : FRes Try.f126 [Go.ResultVar.tmp 2] := ⟨rfl⟩
instance : FRes Try.f127 [Go.ResultVar.tmp 2] := ⟨rfl⟩
instance : FRes Try.f128 [Go.ResultVar.tmp 4] := ⟨rfl⟩
end Go.Proofs.Ytemmnpgebpffbaa
/- Package bits: the writer and the reader. -/
namespace Go.Proofs.Ytemmnpgebpffbaa
open Go.RowKit

/-- Bits as bytes, the highest of each byte first. -/
def bitN (bs : List Bool) (i : Nat) : Nat := if bs.getD i false then 1 else 0
def packAt (bs : List Bool) (k : Nat) : Nat := 128 * bitN bs (8 * k) + 64 * bitN bs (8 * k + 1) + 32 * bitN bs (8 * k + 2) + 16 * bitN bs (8 * k + 3) + 8 * bitN bs (8 * k + 4) + 4 * bitN bs (8 * k + 5) + 2 * bitN bs (8 * k + 6) + bitN bs (8 * k + 7)
def pack (bs : List Bool) : List Int := (List.range ((bs.length + 7) / 8)).map fun k => (packAt bs k : Int)

/-- A writer at block g. -/
abbrev Wr (g : Nat) (A : Option Addr) (c : Nat) (bs : List Bool) : List HE :=
  [.blk g 169 [.slice A (pack bs).length c, .int .i64 bs.length], .row (.slice A (pack bs).length c) 5 1 (pack bs).length (ints .u8 (pack bs))]

theorem pack_len (bs : List Bool) : (pack bs).length = (bs.length + 7) / 8 := by simp [pack]
def grow (bs : List Bool) : List Int := if bs.length % 8 = 0 then pack bs ++ [0] else pack bs
theorem grow_len (bs : List Bool) : (grow bs).length = bs.length / 8 + 1 := by
  unfold grow; split <;> simp [pack_len] <;> omega
theorem bitN_snoc (bs : List Bool) (b : Bool) (i : Nat) : bitN (bs ++ [b]) i = bitN bs i + if i = bs.length ∧ b = true then 1 else 0 := by
  unfold bitN
  rcases Nat.lt_trichotomy i bs.length with h | h | h
  · rw [if_neg (fun e : i = bs.length ∧ b = true => by omega)]
    simp [List.getD_eq_getElem?_getD, List.getElem?_append_left h]
  · subst h
    cases b <;> simp [List.getD_eq_getElem?_getD]
  · rw [if_neg (fun e : i = bs.length ∧ b = true => by omega)]
    have h1 : (bs ++ [b])[i]? = none := List.getElem?_eq_none (by simp; omega)
    have h2 : bs[i]? = none := List.getElem?_eq_none (by omega)
    simp [List.getD_eq_getElem?_getD, h1, h2]
theorem bitN_le (bs : List Bool) (i : Nat) : bitN bs i ≤ 1 := by unfold bitN; split <;> omega
theorem bitN_out (bs : List Bool) (i : Nat) (h : bs.length ≤ i) : bitN bs i = 0 := by
  unfold bitN
  have h2 : bs[i]? = none := List.getElem?_eq_none h
  simp [List.getD_eq_getElem?_getD, h2]
theorem packAt_lt (bs : List Bool) (k : Nat) : packAt bs k < 256 := by
  unfold packAt
  have := bitN_le bs
  have h0 := this (8 * k); have h1 := this (8 * k + 1); have h2 := this (8 * k + 2); have h3 := this (8 * k + 3); have h4 := this (8 * k + 4); have h5 := this (8 * k + 5); have h6 := this (8 * k + 6); have h7 := this (8 * k + 7)
  omega
theorem packAt_snoc (bs : List Bool) (b : Bool) (k : Nat) : packAt (bs ++ [b]) k = packAt bs k + if bs.length / 8 = k ∧ b = true then 2 ^ (7 - bs.length % 8) else 0 := by
  unfold packAt
  simp only [bitN_snoc]
  cases b with
  | false => simp
  | true =>
    simp only [and_true]
    by_cases hk : bs.length / 8 = k
    · rw [if_pos hk]
      obtain h | h | h | h | h | h | h | h : bs.length % 8 = 0 ∨ bs.length % 8 = 1 ∨ bs.length % 8 = 2 ∨ bs.length % 8 = 3 ∨ bs.length % 8 = 4 ∨ bs.length % 8 = 5 ∨ bs.length % 8 = 6 ∨ bs.length % 8 = 7 := by omega
      all_goals
        rw [h]
        have e : bs.length = 8 * k + bs.length % 8 := by omega
        rw [h] at e
        rw [e]
        simp
        try omega
    · rw [if_neg hk]
      have : ∀ r, r < 8 → ¬ (8 * k + r = bs.length) := fun r hr e => hk (by omega)
      have h0 := this 0 (by omega); have h1 := this 1 (by omega); have h2 := this 2 (by omega); have h3 := this 3 (by omega); have h4 := this 4 (by omega); have h5 := this 5 (by omega); have h6 := this 6 (by omega); have h7 := this 7 (by omega)
      rw [Nat.add_zero] at h0
      simp [h0, h1, h2, h3, h4, h5, h6, h7]
theorem packAt_low (bs : List Bool) : packAt bs (bs.length / 8) % 2 ^ (7 - bs.length % 8 + 1) = 0 := by
  unfold packAt
  have o := bitN_out bs
  obtain h | h | h | h | h | h | h | h : bs.length % 8 = 0 ∨ bs.length % 8 = 1 ∨ bs.length % 8 = 2 ∨ bs.length % 8 = 3 ∨ bs.length % 8 = 4 ∨ bs.length % 8 = 5 ∨ bs.length % 8 = 6 ∨ bs.length % 8 = 7 := by omega
  all_goals
    rw [h]
    simp only [Nat.reduceSub, Nat.reduceAdd, Nat.reducePow]
    try rw [o (8 * (bs.length / 8)) (by omega)]
    try rw [o (8 * (bs.length / 8) + 1) (by omega)]
    try rw [o (8 * (bs.length / 8) + 2) (by omega)]
    try rw [o (8 * (bs.length / 8) + 3) (by omega)]
    try rw [o (8 * (bs.length / 8) + 4) (by omega)]
    try rw [o (8 * (bs.length / 8) + 5) (by omega)]
    try rw [o (8 * (bs.length / 8) + 6) (by omega)]
    try rw [o (8 * (bs.length / 8) + 7) (by omega)]
    try omega
theorem getElem?_pack (bs : List Bool) (k : Nat) : (pack bs)[k]? = if k < (bs.length + 7) / 8 then some (packAt bs k : Int) else none := by
  unfold pack
  rw [List.getElem?_map]
  by_cases h : k < (bs.length + 7) / 8
  · simp [h]
  · simp [h]
theorem grow_at (bs : List Bool) : (grow bs)[bs.length / 8]? = some (packAt bs (bs.length / 8) : Int) := by
  unfold grow
  split
  · rename_i h
    have hz : packAt bs (bs.length / 8) = 0 := by
      have h1 := packAt_low bs
      have h2 := packAt_lt bs (bs.length / 8)
      rw [h] at h1
      simp at h1
      omega
    rw [hz, List.getElem?_append_right (by rw [pack_len]; omega), show bs.length / 8 - (pack bs).length = 0 from by rw [pack_len]; omega]
    rfl
  · rw [getElem?_pack, if_pos (by omega)]
theorem pack_snoc (bs : List Bool) (b : Bool) : pack (bs ++ [b]) = (grow bs).set (bs.length / 8) ((packAt bs (bs.length / 8) + if b = true then 2 ^ (7 - bs.length % 8) else 0 : Nat) : Int) := by
  apply List.ext_getElem?
  intro k
  rw [getElem?_pack, packAt_snoc, List.length_append, List.length_singleton]
  by_cases hk : bs.length / 8 = k
  · subst hk
    rw [List.getElem?_set_self (by rw [grow_len]; omega), if_pos (by omega)]
    simp
  · rw [List.getElem?_set_ne hk, if_neg (fun e : bs.length / 8 = k ∧ b = true => hk e.1)]
    by_cases h8 : bs.length % 8 = 0
    · rw [grow, if_pos h8]
      rcases Nat.lt_or_ge k (pack bs).length with h | h
      · rw [List.getElem?_append_left h, getElem?_pack]
        rw [pack_len] at h
        rw [if_pos (by omega), if_pos h]; simp
      · rw [List.getElem?_append_right h]
        rw [pack_len] at h ⊢
        rw [if_neg (by omega), List.getElem?_eq_none (by simp; omega)]
    · rw [grow, if_neg h8, getElem?_pack]
      by_cases h : k < (bs.length + 7) / 8
      · rw [if_pos h, if_pos (by omega)]; simp
      · rw [if_neg h, if_neg (by omega)]
theorem or_byte : ∀ (x : Fin 256) (r : Fin 8), (x : Nat) % 2 ^ (7 - (r : Nat) + 1) = 0 → bits .or .u8 ((x : Nat) : Int) (128 / 2 ^ (r : Nat)) = ((x + 2 ^ (7 - (r : Nat)) : Nat) : Int) := by decide +kernel

attribute [local irreducible] OJ J HdJ Code.wpIn wpListIn Oper.wpIn bodyPost CallsIn Does
set_option maxRecDepth 4000
set_option maxHeartbeats 1000000 in
theorem bit_any (g c : Nat) (A : Option Addr) (bs : List Bool) (b : Bool) (w : World) (hown : Own (Wr g A c bs) w) (hm : bs.length < 1000000000) :
    Does Try.prog 114 [.pointer (some ⟨g, 0, none⟩), .bool b] (Wr g A c bs) w (fun v S' => v = .tuple #[] ∧ ∃ A' c', S' = Wr g A' c' (bs ++ [b])) := by
  have hpl := pack_len bs
  refine does_of Try.func114 rfl Try.ntmps114 rfl hown (fun n => ?_)
  simp only [slots]
  refine z_go2
  refine c_seam (X := Option Addr × Nat) (fun _ => True) (fun _ => [(0, .pointer (some ⟨g, 0, none⟩)), (1, .bool b)])
    (fun x => [.blk g 169 [.slice x.1 (grow bs).length x.2, .int .i64 bs.length], .row (.slice x.1 (grow bs).length x.2) 5 1 (grow bs).length (ints .u8 (grow bs))]) ?_ ?_
  · refine c_cond rfl (fun h => ?_) (fun h => ?_)
    · have hg : grow bs = pack bs ++ [0] := if_pos (by have := beq_iff_eq.1 h; omega)
      refine z_go2
      rw [hg]
      exact c_at_seam (_, _) trivial ⟨rfl, rfl, trivial⟩ (.cons (Has.there _ (Has.here _ _)) (.cons (Has.there _ (Has.here _ _)) (.nil _)))
    · have hg : grow bs = pack bs := if_neg (by have := beq_eq_false_iff_ne.1 h; omega)
      refine z_go2
      rw [hg]
      exact c_at_seam (A, c) trivial ⟨rfl, rfl, trivial⟩ (Sub.refl _)
  · rintro ⟨A1, c1⟩ -
    have hgl := grow_len bs
    have hga := grow_at bs
    have hps := pack_snoc bs b
    simp only
    refine z_go2
    refine c_cond rfl (fun h => ?_) (fun h => ?_)
    · subst h
      refine j_opn (A := A1) (m := (grow bs).length) (cc := c1) (by omega) ?_
      rintro g1 rfl
      refine z_go2
      have hr := or_byte ⟨packAt bs (bs.length / 8), packAt_lt _ _⟩ ⟨bs.length % 8, by omega⟩ (packAt_low bs)
      have e0 : ((bs.length : Int) / 8).toNat = bs.length / 8 := by omega
      have e3 : ((bs.length : Int) % 8).toNat = bs.length % 8 := by omega
      have e1 : (pack (bs ++ [true])).length = (grow bs).length := by rw [hps, List.length_set]
      have e2 : pack (bs ++ [true]) = (grow bs).set (bs.length / 8) (bits .or .u8 ((grow bs).getD (bs.length / 8) 0) (128 / 2 ^ (bs.length % 8))) := by
        rw [List.getD_eq_getElem?_getD, hga, Option.getD_some, hr, hps]; simp
      refine j_outN (S' := Wr g (some ⟨g1, 0, none⟩) c1 (bs ++ [true])) rfl ?_ ⟨rfl, _, _, rfl⟩
      simp only [Wr, e0, e3, e1, List.length_append]
      rw [e2]
      exact Sub.refl _
    · subst h
      refine z_go2
      have e1 : pack (bs ++ [false]) = grow bs := by
        rw [hps]
        apply List.ext_getElem?
        intro k
        by_cases hk : bs.length / 8 = k
        · subst hk; rw [List.getElem?_set_self (by omega), hga]; simp
        · rw [List.getElem?_set_ne hk]
      refine j_outN (S' := Wr g A1 c1 (bs ++ [false])) rfl ?_ ⟨rfl, _, _, rfl⟩
      simp only [Wr, e1, List.length_append]
      exact Sub.refl _

set_option maxHeartbeats 1000000 in
theorem bytes_any (g c : Nat) (A : Option Addr) (bs : List Bool) (w : World) (hown : Own (Wr g A c bs) w) (hm : bs.length < 1000000000) :
    Does Try.prog 90 [.pointer (some ⟨g, 0, none⟩)] (Wr g A c bs) w
      (fun v S' => ∃ A' c', v = .slice A' (pack bs).length c' ∧ S' = .row (.slice A' (pack bs).length c') 5 1 (pack bs).length (ints .u8 (pack bs)) :: Wr g A c bs) := by
  have hpl := pack_len bs
  refine does_of Try.func90 rfl Try.ntmps90 rfl hown (fun n => ?_)
  simp only [slots]
  refine z_go2
  exact j_out1 rfl rfl (Sub.refl _) ⟨_, _, rfl, rfl⟩

set_option maxHeartbeats 1000000 in
theorem ones_any (g c : Nat) (A : Option Addr) (bs : List Bool) (m : Nat) (w : World) (hown : Own (Wr g A c bs) w) (hm : bs.length + m < 900000000) :
    Does Try.prog 117 [.pointer (some ⟨g, 0, none⟩), .int .i64 m] (Wr g A c bs) w (fun v S' => v = .tuple #[] ∧ ∃ A' c', S' = Wr g A' c' (bs ++ List.replicate m true ++ [false])) := by
  refine does_of Try.func117 rfl Try.ntmps117 rfl hown (fun n => ?_)
  simp only [slots]
  refine z_go2
  refine c_loop (X := Nat × Option Addr × Nat) (fun x => x.1 ≤ m) (fun x => [(0, .pointer (some ⟨g, 0, none⟩)), (4, .int .i64 m), (5, .int .i64 x.1)]) (fun x => Wr g x.2.1 x.2.2 (bs ++ List.replicate x.1 true)) (fun x => m - x.1) (0, A, c) (by simp) ⟨rfl, rfl, rfl, trivial⟩ ?_ ?_
  · simp only [List.replicate_zero, List.append_nil]; exact Sub.refl _
  rintro ⟨i, A1, c1⟩ hi
  simp only at hi ⊢
  refine z_go2
  refine c_cond rfl (fun h => ?_) (fun h => ?_)
  · have hlt : i < m := by simpa using h
    refine z_go2
    refine lfn rfl rfl (Split.cons (Has.here _ _) (Split.cons (Has.here _ _) (Split.nil _))) rfl (fun w hw ho => bit_any g c1 A1 _ true w ho (by simp; omega)) ?_
    rintro v S' ⟨rfl, A2, c2, rfl⟩
    refine z_go2
    refine c_round (i + 1, A2, c2) (by show i + 1 ≤ m; omega) (by show m - (i + 1) < m - i; omega) (by exact ⟨rfl, rfl, by simp [look], trivial⟩) ?_
    rw [List.append_assoc, show List.replicate i true ++ [true] = List.replicate (i + 1) true from by rw [List.replicate_succ']]
    exact Sub.refl _
  · have hge : i = m := by simp at h; omega
    subst hge
    refine z_go2
    refine lfn rfl rfl (Split.cons (Has.here _ _) (Split.cons (Has.here _ _) (Split.nil _))) rfl (fun w hw ho => bit_any g c1 A1 _ false w ho (by simp; omega)) ?_
    rintro v S' ⟨rfl, A2, c2, rfl⟩
    refine z_go2
    exact j_outN rfl (Sub.refl _) ⟨rfl, A2, c2, rfl⟩
end Go.Proofs.Ytemmnpgebpffbaa
/- Package bits: the writer's Num; the reader. -/
namespace Go.Proofs.Ytemmnpgebpffbaa
open Go.RowKit
attribute [local irreducible] OJ J HdJ Code.wpIn wpListIn Oper.wpIn bodyPost CallsIn Does
set_option maxRecDepth 4000

theorem and_oneN (n : Nat) (h : n < 18446744073709551616) : bits .and .u64 (n : Int) 1 = ((n % 2 : Nat) : Int) := by
  show IntKind.u64.wrap ((BitVec.ofInt 64 (n : Int) &&& BitVec.ofInt 64 1).toNat : Int) = _
  have e : (BitVec.ofInt 64 (n : Int) &&& BitVec.ofInt 64 1).toNat = n % 2 := by
    rw [BitVec.toNat_and, BitVec.ofInt_natCast, BitVec.toNat_ofNat, Nat.mod_eq_of_lt (by omega)]
    exact Nat.and_one_is_mod n
  rw [e, wrap_in (k := .u64) (c := ((n % 2 : Nat) : Int)) ⟨by omega, by omega⟩]
/-- The lowest bits of a number, the highest first. -/
def numBits (x m : Nat) : List Bool := (List.range m).map fun i => x.testBit (m - 1 - i)
theorem numBits_len (x m : Nat) : (numBits x m).length = m := by simp [numBits]
theorem numBits_take (x m i : Nat) (h : i < m) : (numBits x m).take (i + 1) = (numBits x m).take i ++ [x.testBit (m - 1 - i)] := by
  rw [List.take_succ_eq_append_getElem (by rw [numBits_len]; exact h)]
  simp [numBits]

set_option maxHeartbeats 1000000 in
theorem num_any (g c : Nat) (A : Option Addr) (bs : List Bool) (x m : Nat) (w : World) (hown : Own (Wr g A c bs) w) (hm : bs.length < 800000000) (hx : x < 18446744073709551616) (h64 : m ≤ 64) :
    Does Try.prog 103 [.pointer (some ⟨g, 0, none⟩), .int .u64 x, .int .i64 m] (Wr g A c bs) w (fun v S' => v = .tuple #[] ∧ ∃ A' c', S' = Wr g A' c' (bs ++ numBits x m)) := by
  have hnl := numBits_len x m
  refine does_of Try.func103 rfl Try.ntmps103 rfl hown (fun n => ?_)
  simp only [slots]
  refine z_go2
  refine c_loop (X := Nat × Option Addr × Nat) (fun x => x.1 ≤ m) (fun y => [(0, .pointer (some ⟨g, 0, none⟩)), (1, .int .u64 x), (2, .int .i64 m), (8, .int .i64 m), (9, .int .i64 y.1)]) (fun y => Wr g y.2.1 y.2.2 (bs ++ (numBits x m).take y.1)) (fun y => m - y.1) (0, A, c) (by simp) ⟨rfl, rfl, rfl, rfl, rfl, trivial⟩ ?_ ?_
  · simp only [List.take_zero, List.append_nil]; exact Sub.refl _
  rintro ⟨i, A1, c1⟩ hi
  simp only at hi ⊢
  refine z_go2
  refine c_cond rfl (fun h => ?_) (fun h => ?_)
  · have hlt : i < m := by simpa using h
    refine z_go2
    refine j_case 19 rfl (fun h2 => ?_) (fun h2 => by exfalso; simp at h2; omega)
    refine z_go2
    have hx2 : x / 2 ^ (m - 1 - i) < 18446744073709551616 := Nat.lt_of_le_of_lt (Nat.div_le_self _ _) hx
    have hb : (bits .and .u64 ((x : Int) / 2 ^ ((m : Int) - 1 - i).toNat) 1 == 1) = x.testBit (m - 1 - i) := by
      have e : (x : Int) / 2 ^ ((m : Int) - 1 - i).toNat = ((x / 2 ^ (m - 1 - i) : Nat) : Int) := by
        rw [show ((m : Int) - 1 - i).toNat = m - 1 - i from by omega]; push_cast; rfl
      rw [e, and_oneN _ hx2]
      rw [Nat.testBit_eq_decide_div_mod_eq, Bool.eq_iff_iff]; simp only [beq_iff_eq, decide_eq_true_eq]; omega
    rw [hb]
    refine lfn rfl rfl (Split.cons (Has.here _ _) (Split.cons (Has.here _ _) (Split.nil _))) rfl (fun w hw ho => bit_any g c1 A1 _ _ w ho (by simp; omega)) ?_
    rintro v S' ⟨rfl, A2, c2, rfl⟩
    refine z_go2
    refine c_round (i + 1, A2, c2) (by show i + 1 ≤ m; omega) (by show m - (i + 1) < m - i; omega) (by exact ⟨rfl, rfl, rfl, rfl, by simp [look], trivial⟩) ?_
    rw [numBits_take x m i hlt, ← List.append_assoc]
    exact Sub.refl _
  · have hge : i = m := by simp at h; omega
    subst hge
    refine z_go2
    rw [List.take_of_length_le (by omega)]
    exact j_outN rfl (Sub.refl _) ⟨rfl, A1, c1, rfl⟩

/-- A reader at block g, of the bytes ys, at bit p. -/
abbrev Rd (g : Nat) (A : Option Addr) (c : Nat) (ys : List Int) (p : Nat) (wr : Bool) : List HE :=
  [.blk g 214 [.slice A ys.length c, .int .i64 p, .bool wr], .row (.slice A ys.length c) 5 1 ys.length (ints .u8 ys)]

set_option maxHeartbeats 1000000 in
theorem read_any (u : Value) (ys : List Int) (w : World) (hr : Ro w (blocks []) 1 u ys.length (ints .u8 ys)) (hm : ys.length < 100000000) :
    Does Try.prog 118 [u] [] w (fun v S' => ∃ g A' c', v = .pointer (some ⟨g, 0, none⟩) ∧ S' = Rd g A' c' ys 0 false) := by
  refine does_of Try.func118 rfl Try.ntmps118 rfl ⟨by simp, .nil⟩ (fun n => ?_)
  simp only [slots]
  have := RoC.mk hr
  refine z_go2
  exact j_out1 rfl rfl (Sub.refl _) ⟨_, _, _, rfl, rfl⟩

set_option maxHeartbeats 1000000 in
theorem right_any (g c : Nat) (A : Option Addr) (ys : List Int) (p : Nat) (wr : Bool) (w : World) (hown : Own (Rd g A c ys p wr) w) :
    Does Try.prog 123 [.pointer (some ⟨g, 0, none⟩)] (Rd g A c ys p wr) w (fun v S' => v = .bool (!wr) ∧ S' = Rd g A c ys p wr) := by
  refine does_of Try.func123 rfl Try.ntmps123 rfl hown (fun n => ?_)
  simp only [slots]
  refine z_go2
  exact j_out1 rfl rfl (Sub.refl _) ⟨rfl, rfl⟩
set_option maxHeartbeats 1000000 in
theorem left_any (g c : Nat) (A : Option Addr) (ys : List Int) (p : Nat) (wr : Bool) (w : World) (hown : Own (Rd g A c ys p wr) w) (hm : ys.length < 100000000) (hp : p ≤ 8 * ys.length) :
    Does Try.prog 126 [.pointer (some ⟨g, 0, none⟩)] (Rd g A c ys p wr) w (fun v S' => v = .int .i64 (8 * ys.length - p) ∧ S' = Rd g A c ys p wr) := by
  refine does_of Try.func126 rfl Try.ntmps126 rfl hown (fun n => ?_)
  simp only [slots]
  refine z_go2
  exact j_out1 rfl rfl (Sub.refl _) ⟨rfl, rfl⟩

/-- Bit number i of bytes, as the program reckons it. -/
def bitY (ys : List Int) (i : Nat) : Bool := bits .and .u8 (ys.getD (i / 8) 0) (128 / 2 ^ (i % 8)) != 0

set_option maxHeartbeats 2000000 in
theorem rbit_yes (g c : Nat) (A : Option Addr) (ys : List Int) (p : Nat) (w : World) (hown : Own (Rd g A c ys p false) w) (hm : ys.length < 100000000) (hp : p < 8 * ys.length) :
    Does Try.prog 127 [.pointer (some ⟨g, 0, none⟩)] (Rd g A c ys p false) w (fun v S' => v = .bool (bitY ys p) ∧ S' = Rd g A c ys (p + 1) false) := by
  refine does_of Try.func127 rfl Try.ntmps127 rfl hown (fun n => ?_)
  simp only [slots]
  refine z_go2
  refine lfk (v := .int .i64 (8 * ys.length - p)) rfl rfl (Split.cons (Has.here _ _) (Split.cons (Has.here _ _) (Split.nil _))) (Sub.refl _) rfl (fun w hw ho => left_any g c A ys p false w ho hm (by omega)) ?_
  refine z_go2
  refine c_cond rfl (fun h => by exfalso; simp at h; omega) (fun h => ?_)
  refine z_go2
  refine j_opn (A := A) (m := ys.length) (cc := c) (by omega) ?_
  rintro g1 rfl
  refine z_go2
  have e0 : ((p : Int) / 8).toNat = p / 8 := by omega
  have e3 : ((p : Int) % 8).toNat = p % 8 := by omega
  rw [e0, e3]
  exact j_out1 rfl rfl (Sub.refl _) ⟨rfl, rfl⟩

set_option maxHeartbeats 2000000 in
theorem rbit_no (g c : Nat) (A : Option Addr) (ys : List Int) (p : Nat) (wr : Bool) (w : World) (hown : Own (Rd g A c ys p wr) w) (hm : ys.length < 100000000) (hp : wr = true ∧ p ≤ 8 * ys.length ∨ p = 8 * ys.length) :
    Does Try.prog 127 [.pointer (some ⟨g, 0, none⟩)] (Rd g A c ys p wr) w (fun v S' => v = .bool false ∧ S' = Rd g A c ys p true) := by
  refine does_of Try.func127 rfl Try.ntmps127 rfl hown (fun n => ?_)
  simp only [slots]
  cases wr with
  | true =>
    refine z_go2
    exact j_out1 rfl rfl (Sub.refl _) ⟨rfl, rfl⟩
  | false =>
    refine z_go2
    refine lfk (v := .int .i64 (8 * ys.length - p)) rfl rfl (Split.cons (Has.here _ _) (Split.cons (Has.here _ _) (Split.nil _))) (Sub.refl _) rfl (fun w hw ho => left_any g c A ys p false w ho hm (by omega)) ?_
    refine z_go2
    have hp' : p = 8 * ys.length := by rcases hp with ⟨h, -⟩ | h; cases h; exact h
    refine c_cond rfl (fun h => ?_) (fun h => by exfalso; simp at h; omega)
    refine z_go2
    exact j_out1 rfl rfl (Sub.refl _) ⟨rfl, rfl⟩

/-- The number of some bits. -/
def numV (ys : List Int) (p : Nat) : Nat → Nat
  | 0 => 0
  | k + 1 => 2 * numV ys p k + if bitY ys (p + k) then 1 else 0
theorem numV_lt (ys : List Int) (p k : Nat) : numV ys p k < 2 ^ k := by
  induction k with
  | zero => simp [numV]
  | succ k ih => simp only [numV, Nat.pow_succ]; split <;> omega
theorem or_one (v : Nat) (h : 2 * v + 1 < 18446744073709551616) : bits .or .u64 ((2 * v : Nat) : Int) 1 = ((2 * v + 1 : Nat) : Int) := by
  have e : (2 * v) ||| 1 = 2 * v + 1 := by
    have := Nat.two_pow_add_eq_or_of_lt (i := 1) (b := 1) (by omega) v
    simpa using this.symm
  have h1 : (BitVec.ofInt 64 ((2 * v : Nat) : Int) ||| BitVec.ofInt 64 1).toNat = 2 * v + 1 := by
    rw [BitVec.toNat_or, BitVec.ofInt_natCast, BitVec.toNat_ofNat, Nat.mod_eq_of_lt (by omega)]
    exact e
  show IntKind.u64.wrap ((BitVec.ofInt 64 ((2 * v : Nat) : Int) ||| BitVec.ofInt 64 1).toNat : Int) = _
  rw [h1, wrap_in]
  exact ⟨by omega, by omega⟩

set_option maxHeartbeats 2000000 in
theorem rnum_yes (g c : Nat) (A : Option Addr) (ys : List Int) (p m : Nat) (w : World) (hown : Own (Rd g A c ys p false) w) (hm : ys.length < 100000000) (hp : p + m ≤ 8 * ys.length) (h64 : m ≤ 63) :
    Does Try.prog 122 [.pointer (some ⟨g, 0, none⟩), .int .i64 m] (Rd g A c ys p false) w (fun v S' => v = .int .u64 (numV ys p m) ∧ S' = Rd g A c ys (p + m) false) := by
  refine does_of Try.func122 rfl Try.ntmps122 rfl hown (fun n => ?_)
  simp only [slots]
  refine z_go2
  refine j_case 8 rfl (fun h => by exfalso; simp at h; omega) (fun h => ?_)
  refine z_go2
  refine lfk (v := .int .i64 (8 * ys.length - p)) rfl rfl (Split.cons (Has.here _ _) (Split.cons (Has.here _ _) (Split.nil _))) (Sub.refl _) rfl (fun w hw ho => left_any g c A ys p false w ho hm (by omega)) ?_
  refine z_go2
  refine j_case 14 rfl (fun h => by exfalso; simp at h; omega) (fun h => ?_)
  refine z_go2
  refine c_loop (X := Nat) (fun i => i ≤ m) (fun i => [(0, .pointer (some ⟨g, 0, none⟩)), (1, .int .i64 m), (5, .int .u64 (numV ys p i)), (23, .int .i64 m), (24, .int .i64 i)]) (fun i => Rd g A c ys (p + i) false) (fun i => m - i) 0 (by simp) ⟨rfl, rfl, rfl, rfl, rfl, trivial⟩ (Sub.refl _) ?_
  intro i hi
  refine z_go2
  refine c_cond rfl (fun h => ?_) (fun h => ?_)
  · have hlt : i < m := by simpa using h
    have hv := numV_lt ys p i
    have h2 : 2 ^ i * 4 ≤ 2 ^ 64 := by rw [show (4 : Nat) = 2 ^ 2 from rfl, ← Nat.pow_add]; exact Nat.pow_le_pow_right (by omega) (by omega)
    rw [show (2 : Nat) ^ 64 = 18446744073709551616 from by decide] at h2
    refine z_go2
    rw [show (numV ys p i : Int) * 2 ^ 1 = ((2 * numV ys p i : Nat) : Int) from by omega]
    refine lfn rfl rfl (Split.cons (Has.here _ _) (Split.cons (Has.here _ _) (Split.nil _))) rfl (fun w hw ho => rbit_yes g c A ys (p + i) w ho hm (by omega)) ?_
    rintro v S' ⟨rfl, rfl⟩
    refine z_go2
    have hor := or_one (numV ys p i) (by omega)
    refine c_cond rfl (fun hb => ?_) (fun hb => ?_)
    · have e1 : numV ys p (i + 1) = 2 * numV ys p i + 1 := by simp [numV, hb]
      refine z_go2
      refine c_round (i + 1) (by show i + 1 ≤ m; omega) (by show m - (i + 1) < m - i; omega) (by refine ⟨rfl, rfl, ?_, rfl, by simp [look], trivial⟩; rw [e1, ← hor]; rfl) ?_
      exact (Sub.refl _)
    · have e1 : numV ys p (i + 1) = 2 * numV ys p i := by simp [numV, hb]
      refine z_go2
      refine c_round (i + 1) (by show i + 1 ≤ m; omega) (by show m - (i + 1) < m - i; omega) (by refine ⟨rfl, rfl, ?_, rfl, by simp [look], trivial⟩; rw [e1]; rfl) ?_
      exact (Sub.refl _)
  · have hge : i = m := by simp at h; omega
    subst hge
    refine z_go2
    exact j_out1 rfl rfl (Sub.refl _) ⟨rfl, rfl⟩

set_option maxHeartbeats 2000000 in
theorem rnum_no (g c : Nat) (A : Option Addr) (ys : List Int) (p m : Nat) (wr : Bool) (w : World) (hown : Own (Rd g A c ys p wr) w) (hm : ys.length < 100000000) (hp : p ≤ 8 * ys.length) (h64 : m ≤ 63) (hno : wr = true ∨ 8 * ys.length < p + m) :
    Does Try.prog 122 [.pointer (some ⟨g, 0, none⟩), .int .i64 m] (Rd g A c ys p wr) w (fun v S' => v = .int .u64 0 ∧ S' = Rd g A c ys p true) := by
  refine does_of Try.func122 rfl Try.ntmps122 rfl hown (fun n => ?_)
  simp only [slots]
  refine z_go2
  refine j_case 8 rfl (fun h => by exfalso; simp at h; omega) (fun h => ?_)
  refine z_go2
  refine lfk (v := .int .i64 (8 * ys.length - p)) rfl rfl (Split.cons (Has.here _ _) (Split.cons (Has.here _ _) (Split.nil _))) (Sub.refl _) rfl (fun w hw ho => left_any g c A ys p wr w ho hm (by omega)) ?_
  refine z_go2
  refine j_case 14 rfl (fun h => ?_) (fun h => ?_)
  · refine z_go2
    exact j_out1 rfl rfl (Sub.refl _) ⟨rfl, rfl⟩
  · obtain rfl : wr = true := by rcases hno with e | e; exact e; exfalso; simp at h; omega
    refine z_go2
    exact j_out1 rfl rfl (Sub.refl _) ⟨rfl, rfl⟩

set_option maxHeartbeats 2000000 in
theorem rones_yes (g c : Nat) (A : Option Addr) (ys : List Int) (p m j : Nat) (w : World) (hown : Own (Rd g A c ys p false) w) (hm : ys.length < 100000000) (hj : j ≤ m) (hp : p + j < 8 * ys.length) (hm2 : m < 1000000)
    (h1 : ∀ i, i < j → bitY ys (p + i) = true) (h0 : bitY ys (p + j) = false) :
    Does Try.prog 128 [.pointer (some ⟨g, 0, none⟩), .int .i64 m] (Rd g A c ys p false) w (fun v S' => v = .int .i64 j ∧ S' = Rd g A c ys (p + j + 1) false) := by
  refine does_of Try.func128 rfl Try.ntmps128 rfl hown (fun n => ?_)
  simp only [slots]
  refine z_go2
  refine c_loop (X := Nat) (fun i => i ≤ j) (fun i => [(0, .pointer (some ⟨g, 0, none⟩)), (1, .int .i64 m), (5, .int .i64 i)]) (fun i => Rd g A c ys (p + i) false) (fun i => j - i) 0 (by simp) ⟨rfl, rfl, rfl, trivial⟩ (Sub.refl _) ?_
  intro i hi
  refine z_go2
  refine lfn rfl rfl (Split.cons (Has.here _ _) (Split.cons (Has.here _ _) (Split.nil _))) rfl (fun w hw ho => rbit_yes g c A ys (p + i) w ho hm (by omega)) ?_
  rintro v S' ⟨rfl, rfl⟩
  by_cases hlt : i < j
  · rw [h1 i hlt]
    refine z_go2
    refine c_cond rfl (fun h => by exfalso; simp at h; omega) (fun h => ?_)
    refine z_go2
    exact c_round (i + 1) (by show i + 1 ≤ j; omega) (by show j - (i + 1) < j - i; omega) (by exact ⟨rfl, rfl, by simp [look], trivial⟩) (Sub.refl _)
  · obtain rfl : i = j := by omega
    rw [h0]
    refine z_go2
    exact j_out1 rfl rfl (Sub.refl _) ⟨rfl, rfl⟩

set_option maxHeartbeats 2000000 in
theorem rones_no (g c : Nat) (A : Option Addr) (ys : List Int) (p m : Nat) (w : World) (hown : Own (Rd g A c ys p false) w) (hm : ys.length < 100000000) (hp : p ≤ 8 * ys.length) (hm2 : m < 1000000)
    (hno : ∀ j, j ≤ m → p + j < 8 * ys.length → (∀ i, i < j → bitY ys (p + i) = true) → bitY ys (p + j) = true) :
    Does Try.prog 128 [.pointer (some ⟨g, 0, none⟩), .int .i64 m] (Rd g A c ys p false) w (fun v S' => v = .int .i64 0 ∧ ∃ p', p' ≤ 8 * ys.length ∧ S' = Rd g A c ys p' true) := by
  refine does_of Try.func128 rfl Try.ntmps128 rfl hown (fun n => ?_)
  simp only [slots]
  refine z_go2
  refine c_loop (X := Nat) (fun i => i ≤ m ∧ p + i ≤ 8 * ys.length ∧ ∀ k, k < i → bitY ys (p + k) = true) (fun i => [(0, .pointer (some ⟨g, 0, none⟩)), (1, .int .i64 m), (5, .int .i64 i)]) (fun i => Rd g A c ys (p + i) false) (fun i => m - i) 0 (by simp; omega) ⟨rfl, rfl, rfl, trivial⟩ (Sub.refl _) ?_
  rintro i ⟨hi1, hi2, hi3⟩
  refine z_go2
  by_cases hlt : p + i < 8 * ys.length
  · have hb := hno i hi1 hlt hi3
    refine lfn rfl rfl (Split.cons (Has.here _ _) (Split.cons (Has.here _ _) (Split.nil _))) rfl (fun w hw ho => rbit_yes g c A ys (p + i) w ho hm (by omega)) ?_
    rintro v S' ⟨rfl, rfl⟩
    rw [hb]
    refine z_go2
    refine c_cond rfl (fun h => ?_) (fun h => ?_)
    · refine z_go2
      exact j_out1 rfl rfl (Sub.refl _) ⟨rfl, p + i + 1, by omega, rfl⟩
    · have hlm : i < m := by simp at h; omega
      refine z_go2
      refine c_round (i + 1) ⟨by omega, by omega, fun k hk => ?_⟩ (by show m - (i + 1) < m - i; omega) (by exact ⟨rfl, rfl, by simp [look], trivial⟩) (Sub.refl _)
      by_cases e : k = i
      · subst e; exact hb
      · exact hi3 k (by omega)
  · refine lfn rfl rfl (Split.cons (Has.here _ _) (Split.cons (Has.here _ _) (Split.nil _))) rfl (fun w hw ho => rbit_no g c A ys (p + i) false w ho hm (.inr (by omega))) ?_
    rintro v S' ⟨rfl, rfl⟩
    refine z_go2
    exact j_out1 rfl rfl (Sub.refl _) ⟨rfl, p + i, by omega, rfl⟩
end Go.Proofs.Ytemmnpgebpffbaa
/- Package rice, and the reference's layer 7: the functions that only reckon; the numbers behind them. -/
namespace Go.Proofs.Ytemmnpgebpffbaa
open Go.RowKit

theorem xor_zero (a : Int) : bits .xor .i32 a 0 = IntKind.i32.wrap a := by
  show IntKind.i32.wrap ((BitVec.ofInt 32 a ^^^ BitVec.ofInt 32 0).toNat : Int) = _
  rw [show BitVec.ofInt 32 0 = 0#32 from rfl, BitVec.xor_zero, BitVec.toNat_ofInt]
  simp [IntKind.wrap, IntKind.bits, IntKind.signed]
  omega
theorem xor_ones (a : Int) : bits .xor .i32 a (-1) = IntKind.i32.wrap (-a - 1) := by
  show IntKind.i32.wrap ((BitVec.ofInt 32 a ^^^ BitVec.ofInt 32 (-1)).toNat : Int) = _
  rw [show BitVec.ofInt 32 (-1) = BitVec.allOnes 32 from by decide, BitVec.xor_allOnes, BitVec.toNat_not, BitVec.toNat_ofInt]
  simp [IntKind.wrap, IntKind.bits, IntKind.signed]
  omega

/-- A number folded, and what was folded. -/
def foldI (x : Int) : Int := if x < 0 then -2 * x - 1 else 2 * x
def unfoldI (n : Int) : Int := if n % 2 = 0 then n / 2 else -(n / 2) - 1
theorem foldI_range (x : Int) (h0 : -2147483648 ≤ x) (h1 : x ≤ 2147483647) : 0 ≤ foldI x ∧ foldI x ≤ 4294967295 := by unfold foldI; split <;> omega
theorem fold_eq (x : Int) (h0 : -2147483648 ≤ x) (h1 : x ≤ 2147483647) :
    IntKind.u32.wrap (bits .xor .i32 (IntKind.i32.wrap (x * 2 ^ 1)) (x / 2 ^ 31)) = foldI x := by
  unfold foldI
  by_cases hx : x < 0
  · rw [if_pos hx, show x / 2 ^ 31 = -1 from by omega, xor_ones]
    simp [IntKind.wrap, IntKind.bits, IntKind.signed]
    omega
  · rw [if_neg hx, show x / 2 ^ 31 = 0 from by omega, xor_zero]
    simp [IntKind.wrap, IntKind.bits, IntKind.signed]
    omega
theorem and_one_u32 (n : Int) (h0 : 0 ≤ n) (h1 : n ≤ 4294967295) : bits .and .u32 n 1 = n % 2 := by
  obtain ⟨m, rfl⟩ := Int.eq_ofNat_of_zero_le h0
  show IntKind.u32.wrap ((BitVec.ofInt 32 (m : Int) &&& BitVec.ofInt 32 1).toNat : Int) = _
  have e : (BitVec.ofInt 32 (m : Int) &&& BitVec.ofInt 32 1).toNat = m % 2 := by
    rw [BitVec.toNat_and, BitVec.ofInt_natCast, BitVec.toNat_ofNat, Nat.mod_eq_of_lt (by omega)]
    exact Nat.and_one_is_mod m
  rw [e, wrap_in (k := .u32) (c := ((m % 2 : Nat) : Int)) ⟨by omega, by omega⟩]
  omega
theorem unfold_eq (n : Int) (h0 : 0 ≤ n) (h1 : n ≤ 4294967295) :
    bits .xor .i32 (n / 2 ^ 1) (IntKind.i32.wrap (0 - IntKind.i32.wrap (bits .and .u32 n 1))) = unfoldI n := by
  rw [and_one_u32 n h0 h1]
  unfold unfoldI
  by_cases hx : n % 2 = 0
  · rw [if_pos hx, hx, show IntKind.i32.wrap (0 - IntKind.i32.wrap 0) = 0 from by decide, xor_zero]
    simp [IntKind.wrap, IntKind.bits, IntKind.signed]
    omega
  · rw [if_neg hx, show n % 2 = 1 from by omega, show IntKind.i32.wrap (0 - IntKind.i32.wrap 1) = -1 from by decide, xor_ones]
    simp [IntKind.wrap, IntKind.bits, IntKind.signed]
    omega
theorem unfold_fold (x : Int) : unfoldI (foldI x) = x := by unfold unfoldI foldI; split <;> split <;> omega
theorem fold_unfold (n : Int) (h : 0 ≤ n) : foldI (unfoldI n) = n := by unfold unfoldI foldI; split <;> split <;> omega
theorem unfoldI_range (n : Int) (h0 : 0 ≤ n) (h1 : n ≤ 4294967295) : -2147483648 ≤ unfoldI n ∧ unfoldI n ≤ 2147483647 := by unfold unfoldI; split <;> omega
theorem foldI_inj (x y : Int) : foldI x = foldI y ↔ x = y := ⟨fun h => by rw [← unfold_fold x, h, unfold_fold], fun h => by rw [h]⟩

def foldN (x : Int) : Nat := (foldI x).toNat
theorem foldN_cast (x : Int) : (foldN x : Int) = foldI x := by unfold foldN foldI; split <;> omega
theorem foldN_le (x : Int) (h0 : -2147483648 ≤ x) (h1 : x ≤ 2147483647) : foldN x ≤ 4294967295 := by have := foldI_range x h0 h1; have := foldN_cast x; omega
attribute [local irreducible] OJ J HdJ Code.wpIn wpListIn Oper.wpIn bodyPost CallsIn Does
set_option maxRecDepth 4000

set_option maxHeartbeats 1000000 in
theorem fold_any (x : Int) (w : World) (h0 : -2147483648 ≤ x) (h1 : x ≤ 2147483647) : Does Try.prog 116 [.int .i32 x] [] w (fun v S' => v = .int .u32 (foldN x : Nat) ∧ S' = []) := by
  have he := fold_eq x h0 h1
  refine does_of Try.func116 rfl Try.ntmps116 rfl ⟨by simp, .nil⟩ (fun n => ?_)
  simp only [slots]
  refine z_go2
  exact j_out1 rfl rfl (.nil _) ⟨congrArg (Value.int .u32) (he.trans (foldN_cast x).symm), rfl⟩
set_option maxHeartbeats 1000000 in
theorem unfold_any (x : Int) (w : World) (h0 : 0 ≤ x) (h1 : x ≤ 4294967295) : Does Try.prog 125 [.int .u32 x] [] w (fun v S' => v = .int .i32 (unfoldI x) ∧ S' = []) := by
  have he := unfold_eq x h0 h1
  refine does_of Try.func125 rfl Try.ntmps125 rfl ⟨by simp, .nil⟩ (fun n => ?_)
  simp only [slots]
  refine z_go2
  exact j_out1 rfl rfl (.nil _) ⟨congrArg (Value.int .i32) he, rfl⟩
/-- How many bits a code has. -/
def sizeN (n k : Nat) : Nat := if shN n k < 20 then shN n k + 1 + k else 38
set_option maxHeartbeats 1000000 in
theorem size_any (x k : Nat) (w : World) (hx : x ≤ 4294967295) (hk : k ≤ 16) : Does Try.prog 113 [.int .u32 x, .int .i64 k] [] w (fun v S' => v = .int .i64 (sizeN x k) ∧ S' = []) := by
  have hd : shN x k ≤ x := shN_le _ _
  refine does_of Try.func113 rfl Try.ntmps113 rfl ⟨by simp, .nil⟩ (fun n => ?_)
  simp only [slots]
  refine z_go2
  refine c_cond rfl (fun h => ?_) (fun h => ?_)
  · have hx : shN x k < 20 := by have := of_decide_eq_true h; omega
    have he : sizeN x k = shN x k + 1 + k := if_pos hx
    refine z_go2
    exact j_out1 rfl rfl (.nil _) ⟨by rw [he]; simp, rfl⟩
  · have hx : ¬ shN x k < 20 := by have := of_decide_eq_false h; omega
    have he : sizeN x k = 38 := if_neg hx
    refine z_go2
    exact j_out1 rfl rfl (.nil _) ⟨by rw [he]; rfl, rfl⟩

/-- A number's code. -/
def codeB (n k : Nat) : List Bool := if shN n k < 20 then List.replicate (shN n k) true ++ [false] ++ numBits n k else List.replicate 20 true ++ [false] ++ numBits n 17
theorem codeB_len (n k : Nat) : (codeB n k).length = sizeN n k := by
  unfold codeB sizeN; split <;> simp [numBits_len]; omega
set_option maxHeartbeats 1000000 in
theorem put_any (g c : Nat) (A : Option Addr) (bs : List Bool) (x k : Nat) (w : World) (hown : Own (Wr g A c bs) w) (hm : bs.length < 700000000) (hx : x ≤ 4294967295) (hk : k ≤ 16) :
    Does Try.prog 105 [.pointer (some ⟨g, 0, none⟩), .int .u32 x, .int .i64 k] (Wr g A c bs) w (fun v S' => v = .tuple #[] ∧ ∃ A' c', S' = Wr g A' c' (bs ++ codeB x k)) := by
  have hd : shN x k ≤ x := shN_le _ _
  refine does_of Try.func105 rfl Try.ntmps105 rfl hown (fun n => ?_)
  simp only [slots]
  refine z_go2
  refine c_cond rfl (fun h => ?_) (fun h => ?_)
  · have hx : shN x k < 20 := by have := of_decide_eq_true h; omega
    have he : codeB x k = List.replicate (shN x k) true ++ [false] ++ numBits x k := if_pos hx
    refine z_go2
    refine lfn rfl rfl (Split.cons (Has.here _ _) (Split.cons (Has.here _ _) (Split.nil _))) rfl (fun w hw ho => ones_any g c A bs _ w ho (by omega)) ?_
    rintro v S' ⟨rfl, A1, c1, rfl⟩
    refine z_go2
    refine lfn rfl rfl (Split.cons (Has.here _ _) (Split.cons (Has.here _ _) (Split.nil _))) rfl (fun w hw ho => num_any g c1 A1 _ x k w ho (by simp; omega) (by omega) (by omega)) ?_
    rintro v S' ⟨rfl, A2, c2, rfl⟩
    refine z_go2
    rw [List.append_assoc, List.append_assoc, ← List.append_assoc _ [false], ← he]
    exact j_out0 rfl (Sub.refl _) ⟨rfl, A2, c2, rfl⟩
  · have hx : ¬ shN x k < 20 := by have := of_decide_eq_false h; omega
    have he : codeB x k = List.replicate 20 true ++ [false] ++ numBits x 17 := if_neg hx
    refine z_go2
    refine lfn rfl rfl (Split.cons (Has.here _ _) (Split.cons (Has.here _ _) (Split.nil _))) rfl (fun w hw ho => ones_any g c A bs 20 w ho (by omega)) ?_
    rintro v S' ⟨rfl, A1, c1, rfl⟩
    refine z_go2
    refine lfn rfl rfl (Split.cons (Has.here _ _) (Split.cons (Has.here _ _) (Split.nil _))) rfl (fun w hw ho => num_any g c1 A1 _ x 17 w ho (by simp; omega) (by omega) (by omega)) ?_
    rintro v S' ⟨rfl, A2, c2, rfl⟩
    refine z_go2
    rw [List.append_assoc, List.append_assoc, ← List.append_assoc _ [false], ← he]
    exact j_outN rfl (Sub.refl _) ⟨rfl, A2, c2, rfl⟩
end Go.Proofs.Ytemmnpgebpffbaa
