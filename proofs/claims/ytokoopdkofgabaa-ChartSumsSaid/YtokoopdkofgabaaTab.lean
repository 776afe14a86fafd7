/- The facts on types and functions of this translation, as instances. Printed by a program of mine. -/
import Derived.Test.YtokoopdkofgabaaEngP
import Derived.Test.YtokoopdkofgabaaEng8
namespace Go.Proofs.Ytokoopdkofgabaa
open Go
instance : Inf Try.prog 3 1 8 ((Go.Value.int Go.IntKind.i64 0)) := ⟨Try.t3, by kernel_rfl, rfl, rfl, rfl⟩
instance : Inf Try.prog 4 1 1 ((Go.Value.bool false)) := ⟨Try.t4, by kernel_rfl, rfl, rfl, rfl⟩
instance : Inf Try.prog 5 1 1 ((Go.Value.int Go.IntKind.u8 0)) := ⟨Try.t5, by kernel_rfl, rfl, rfl, rfl⟩
instance : Inf Try.prog 21 1 4 ((Go.Value.int Go.IntKind.i32 0)) := ⟨Try.t21, by kernel_rfl, rfl, rfl, rfl⟩
instance : Inf Try.prog 36 1 24 ((Go.Value.slice none 0 0)) := ⟨Try.t36, by kernel_rfl, rfl, rfl, rfl⟩
instance : Inf Try.prog 48 1 24 ((Go.Value.slice none 0 0)) := ⟨Try.t48, by kernel_rfl, rfl, rfl, rfl⟩
instance : Inf Try.prog 50 3 40 ((Go.Value.agg #[Go.Value.int Go.IntKind.i64 0, Go.Value.int Go.IntKind.i64 0, Go.Value.slice none 0 0])) := ⟨Try.t50, by kernel_rfl, rfl, rfl, rfl⟩
instance : Inf Try.prog 57 2 16 ((Go.Value.agg #[Go.Value.int Go.IntKind.i64 0, Go.Value.int Go.IntKind.i64 0])) := ⟨Try.t57, by kernel_rfl, rfl, rfl, rfl⟩
instance : Inf Try.prog 79 1 2 ((Go.Value.int Go.IntKind.i16 0)) := ⟨Try.t79, by kernel_rfl, rfl, rfl, rfl⟩
instance : Inf Try.prog 92 6 56 ((Go.Value.agg #[Go.Value.int Go.IntKind.i64 0, Go.Value.int Go.IntKind.i64 0, Go.Value.slice none 0 0, Go.Value.int Go.IntKind.i64 0, Go.Value.int Go.IntKind.i32 0, Go.Value.int Go.IntKind.i32 0])) := ⟨Try.t92, by kernel_rfl, rfl, rfl, rfl⟩
instance : Inf Try.prog 93 1 24 ((Go.Value.slice none 0 0)) := ⟨Try.t93, by kernel_rfl, rfl, rfl, rfl⟩
instance : Inf Try.prog 99 8 104 ((Go.Value.agg #[Go.Value.int Go.IntKind.i64 0, Go.Value.int Go.IntKind.i64 0, Go.Value.slice none 0 0, Go.Value.int Go.IntKind.i64 0, Go.Value.int Go.IntKind.i32 0, Go.Value.int Go.IntKind.i32 0, Go.Value.slice none 0 0, Go.Value.slice none 0 0])) := ⟨Try.t99, by kernel_rfl, rfl, rfl, rfl⟩
instance : Inf Try.prog 187 2 32 ((Go.Value.agg #[Go.Value.slice none 0 0, Go.Value.int Go.IntKind.i64 0])) := ⟨Try.t187, by kernel_rfl, rfl, rfl, rfl⟩
instance : Inf Try.prog 226 3 40 ((Go.Value.agg #[Go.Value.slice none 0 0, Go.Value.int Go.IntKind.i64 0, Go.Value.bool false])) := ⟨Try.t226, by kernel_rfl, rfl, rfl, rfl⟩
instance : Und Try.prog 3 (Go.TypeDesc.int Go.IntKind.i64) := ⟨Try.underlying3⟩
instance : Und Try.prog 4 .bool := ⟨Try.underlying4⟩
instance : Und Try.prog 5 (Go.TypeDesc.int Go.IntKind.u8) := ⟨Try.underlying5⟩
instance : Und Try.prog 21 (Go.TypeDesc.int Go.IntKind.i32) := ⟨Try.underlying21⟩
instance : Und Try.prog 22 (Go.TypeDesc.int Go.IntKind.u32) := ⟨Try.underlying22⟩
instance : Und Try.prog 27 (Go.TypeDesc.int Go.IntKind.u16) := ⟨Try.underlying27⟩
instance : Und Try.prog 36 (Go.TypeDesc.slice 3) := ⟨Try.underlying36⟩
instance : Und Try.prog 48 (Go.TypeDesc.slice 79) := ⟨Try.underlying48⟩
instance : Und Try.prog 50 (Try.t49.desc) := ⟨Try.underlying50⟩
instance : Und Try.prog 57 (Try.t56.desc) := ⟨Try.underlying57⟩
instance : Und Try.prog 73 (Go.TypeDesc.int Go.IntKind.u64) := ⟨Try.underlying73⟩
instance : Und Try.prog 79 (Go.TypeDesc.int Go.IntKind.i16) := ⟨Try.underlying79⟩
instance : YesAgg (Try.t91.desc) := ⟨by kernel_rfl⟩
instance : Und Try.prog 92 (Try.t91.desc) := ⟨Try.underlying92⟩
instance : Und Try.prog 93 (Go.TypeDesc.slice 5) := ⟨Try.underlying93⟩
instance : YesAgg (Try.t98.desc) := ⟨by kernel_rfl⟩
instance : Und Try.prog 99 (Try.t98.desc) := ⟨Try.underlying99⟩
instance : Und Try.prog 110 (Go.TypeDesc.int Go.IntKind.u64) := ⟨Try.underlying110⟩
instance : Und Try.prog 163 (Go.TypeDesc.slice 57) := ⟨Try.underlying163⟩
instance : Und Try.prog 188 (Go.TypeDesc.slice 21) := ⟨Try.underlying188⟩
instance : Und Try.prog 191 (Go.TypeDesc.pointer 187) := ⟨Try.underlying191⟩
instance : Pl Try.prog 50 [(0, 1), (1, 1), (2, 1)] := ⟨_, Try.underlying50, fun w => by kernel_rfl⟩
instance : Fa Try.prog 50 0 0 := ⟨_, _, Try.t3, Try.underlying50, rfl, by kernel_rfl, by decide, rfl⟩
instance : Fa Try.prog 50 1 1 := ⟨_, _, Try.t3, Try.underlying50, rfl, by kernel_rfl, by decide, rfl⟩
instance : Fa Try.prog 50 2 2 := ⟨_, _, Try.t48, Try.underlying50, rfl, by kernel_rfl, by decide, rfl⟩
instance : Pl Try.prog 57 [(0, 1), (1, 1)] := ⟨_, Try.underlying57, fun w => by kernel_rfl⟩
instance : Fa Try.prog 57 0 0 := ⟨_, _, Try.t3, Try.underlying57, rfl, by kernel_rfl, by decide, rfl⟩
instance : Fa Try.prog 57 1 1 := ⟨_, _, Try.t3, Try.underlying57, rfl, by kernel_rfl, by decide, rfl⟩
instance : Pl Try.prog 92 [(0, 3), (3, 1), (4, 1), (5, 1)] := ⟨_, Try.underlying92, fun w => by kernel_rfl⟩
instance : Fa Try.prog 92 0 0 := ⟨_, _, Try.t50, Try.underlying92, rfl, by kernel_rfl, by decide, rfl⟩
instance : Fa Try.prog 92 1 3 := ⟨_, _, Try.t3, Try.underlying92, rfl, by kernel_rfl, by decide, rfl⟩
instance : Fa Try.prog 92 2 4 := ⟨_, _, Try.t21, Try.underlying92, rfl, by kernel_rfl, by decide, rfl⟩
instance : Fa Try.prog 92 3 5 := ⟨_, _, Try.t21, Try.underlying92, rfl, by kernel_rfl, by decide, rfl⟩
instance : Pl Try.prog 99 [(0, 6), (6, 1), (7, 1)] := ⟨_, Try.underlying99, fun w => by kernel_rfl⟩
instance : Fa Try.prog 99 0 0 := ⟨_, _, Try.t92, Try.underlying99, rfl, by kernel_rfl, by decide, rfl⟩
instance : Fa Try.prog 99 1 6 := ⟨_, _, Try.t36, Try.underlying99, rfl, by kernel_rfl, by decide, rfl⟩
instance : Fa Try.prog 99 2 7 := ⟨_, _, Try.t36, Try.underlying99, rfl, by kernel_rfl, by decide, rfl⟩
instance : Fa Try.prog 187 0 0 := ⟨_, _, Try.t93, Try.underlying187, rfl, by kernel_rfl, by decide, rfl⟩
instance : Fa Try.prog 187 1 1 := ⟨_, _, Try.t3, Try.underlying187, rfl, by kernel_rfl, by decide, rfl⟩
instance : Pl Try.prog 226 [(0, 1), (1, 1), (2, 1)] := ⟨_, Try.underlying226, fun w => by kernel_rfl⟩
instance : Fa Try.prog 226 0 0 := ⟨_, _, Try.t93, Try.underlying226, rfl, by kernel_rfl, by decide, rfl⟩
instance : Fa Try.prog 226 1 1 := ⟨_, _, Try.t3, Try.underlying226, rfl, by kernel_rfl, by decide, rfl⟩
instance : Fa Try.prog 226 2 2 := ⟨_, _, Try.t4, Try.underlying226, rfl, by kernel_rfl, by decide, rfl⟩
instance : Cl Try.prog 24 := ⟨Try.call24⟩
instance : Cl Try.prog 26 := ⟨Try.call26⟩
instance : Cl Try.prog 27 := ⟨Try.call27⟩
instance : Cl Try.prog 28 := ⟨Try.call28⟩
instance : Cl Try.prog 30 := ⟨Try.call30⟩
instance : Cl Try.prog 31 := ⟨Try.call31⟩
instance : Cl Try.prog 46 := ⟨Try.call46⟩
instance : Cl Try.prog 47 := ⟨Try.call47⟩
instance : Cl Try.prog 50 := ⟨Try.call50⟩
instance : Cl Try.prog 51 := ⟨Try.call51⟩
instance : Cl Try.prog 52 := ⟨Try.call52⟩
instance : Cl Try.prog 53 := ⟨Try.call53⟩
instance : Cl Try.prog 54 := ⟨Try.call54⟩
instance : Cl Try.prog 55 := ⟨Try.call55⟩
instance : Cl Try.prog 70 := ⟨Try.call70⟩
instance : Cl Try.prog 71 := ⟨Try.call71⟩
instance : Cl Try.prog 72 := ⟨Try.call72⟩
instance : Cl Try.prog 87 := ⟨Try.call87⟩
instance : Cl Try.prog 88 := ⟨Try.call88⟩
instance : Cl Try.prog 89 := ⟨Try.call89⟩
instance : Cl Try.prog 90 := ⟨Try.call90⟩
instance : Cl Try.prog 91 := ⟨Try.call91⟩
instance : Cl Try.prog 96 := ⟨Try.call96⟩
instance : Cl Try.prog 97 := ⟨Try.call97⟩
instance : Cl Try.prog 106 := ⟨Try.call106⟩
instance : Cl Try.prog 107 := ⟨Try.call107⟩
instance : Cl Try.prog 108 := ⟨Try.call108⟩
instance : Cl Try.prog 109 := ⟨Try.call109⟩
instance : Cl Try.prog 110 := ⟨Try.call110⟩
instance : Cl Try.prog 111 := ⟨Try.call111⟩
instance : Cl Try.prog 112 := ⟨Try.call112⟩
instance : Cl Try.prog 122 := ⟨Try.call122⟩
instance : Cl Try.prog 129 := ⟨Try.call129⟩
instance : Cl Try.prog 131 := ⟨Try.call131⟩
instance : Cl Try.prog 132 := ⟨Try.call132⟩
instance : Cl Try.prog 133 := ⟨Try.call133⟩
instance : Cl Try.prog 134 := ⟨Try.call134⟩
instance : Cl Try.prog 135 := ⟨Try.call135⟩
instance : Cl Try.prog 136 := ⟨Try.call136⟩
instance : Cl Try.prog 137 := ⟨Try.call137⟩
instance : Cl Try.prog 138 := ⟨Try.call138⟩
instance : Cl Try.prog 139 := ⟨Try.call139⟩
instance : Cl Try.prog 140 := ⟨Try.call140⟩
instance : Cl Try.prog 145 := ⟨Try.call145⟩
instance : Cl Try.prog 150 := ⟨Try.call150⟩
instance : Cl Try.prog 151 := ⟨Try.call151⟩
instance : Cl Try.prog 152 := ⟨Try.call152⟩
instance : Cl Try.prog 153 := ⟨Try.call153⟩
instance : Cl Try.prog 154 := ⟨Try.call154⟩
instance : Cl Try.prog 155 := ⟨Try.call155⟩
instance : FRes Try.f51 [Go.ResultVar.cell 2 99, Go.ResultVar.tmp 3] := ⟨rfl⟩
instance : FRes Try.f53 [Go.ResultVar.cell 12 92] := ⟨rfl⟩
instance : FRes Try.f54 [Go.ResultVar.cell 2 92, Go.ResultVar.tmp 3] := ⟨rfl⟩
end Go.Proofs.Ytokoopdkofgabaa
