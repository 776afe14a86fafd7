/- The facts on types and functions of this translation, as instances. Printed by a program of mine. -/
import Derived.Test.YtokoopdkofgabaaEngP
import Derived.Test.YtokoopdkofgabaaEng8
namespace Go.Proofs.Ytokoopdkofgabaa
open Go
instance : Inf Try.prog 2 1 8 ((Go.Value.int Go.IntKind.i64 0)) := ⟨Try.t2, by kernel_rfl, rfl, rfl, rfl⟩
instance : Inf Try.prog 3 1 8 ((Go.Value.int Go.IntKind.i64 0)) := ⟨Try.t3, by kernel_rfl, rfl, rfl, rfl⟩
instance : Inf Try.prog 4 1 1 ((Go.Value.bool false)) := ⟨Try.t4, by kernel_rfl, rfl, rfl, rfl⟩
instance : Inf Try.prog 31 1 8 ((Go.Value.int Go.IntKind.i64 0)) := ⟨Try.t31, by kernel_rfl, rfl, rfl, rfl⟩
instance : Inf Try.prog 50 3 40 ((Go.Value.agg #[Go.Value.int Go.IntKind.i64 0, Go.Value.int Go.IntKind.i64 0, Go.Value.slice none 0 0])) := ⟨Try.t50, by kernel_rfl, rfl, rfl, rfl⟩
instance : Inf Try.prog 63 2 16 ((Go.Value.agg #[Go.Value.int Go.IntKind.i64 0, Go.Value.int Go.IntKind.i64 0])) := ⟨Try.t63, by kernel_rfl, rfl, rfl, rfl⟩
instance : Inf Try.prog 69 3 24 ((Go.Value.agg #[Go.Value.int Go.IntKind.i64 0, Go.Value.int Go.IntKind.i64 0, Go.Value.int Go.IntKind.i64 0])) := ⟨Try.t69, by kernel_rfl, rfl, rfl, rfl⟩
instance : Inf Try.prog 79 1 2 ((Go.Value.int Go.IntKind.i16 0)) := ⟨Try.t79, by kernel_rfl, rfl, rfl, rfl⟩
instance : Inf Try.prog 138 4 32 ((Go.Value.agg #[Go.Value.int Go.IntKind.i64 0, Go.Value.int Go.IntKind.i64 0, Go.Value.int Go.IntKind.i64 0, Go.Value.int Go.IntKind.i64 0])) := ⟨Try.t138, by kernel_rfl, rfl, rfl, rfl⟩
instance : Inf Try.prog 146 1 24 ((Go.Value.slice none 0 0)) := ⟨Try.t146, by kernel_rfl, rfl, rfl, rfl⟩
instance : Inf Try.prog 148 3 40 ((Go.Value.agg #[Go.Value.int Go.IntKind.i64 0, Go.Value.int Go.IntKind.i64 0, Go.Value.slice none 0 0])) := ⟨Try.t148, by kernel_rfl, rfl, rfl, rfl⟩
instance : Inf Try.prog 150 3 16 ((Go.Value.agg #[Go.Value.int Go.IntKind.i16 0, Go.Value.int Go.IntKind.i16 0, Go.Value.int Go.IntKind.i64 0])) := ⟨Try.t150, by kernel_rfl, rfl, rfl, rfl⟩
instance : Inf Try.prog 151 1 24 ((Go.Value.slice none 0 0)) := ⟨Try.t151, by kernel_rfl, rfl, rfl, rfl⟩
instance : Inf Try.prog 153 2 32 ((Go.Value.agg #[Go.Value.slice none 0 0, Go.Value.int Go.IntKind.i64 0])) := ⟨Try.t153, by kernel_rfl, rfl, rfl, rfl⟩
instance : Inf Try.prog 158 4 32 ((Go.Value.agg #[Go.Value.int Go.IntKind.i64 0, Go.Value.int Go.IntKind.i64 0, Go.Value.int Go.IntKind.i64 0, Go.Value.int Go.IntKind.i64 0])) := ⟨Try.t158, by kernel_rfl, rfl, rfl, rfl⟩
instance : Inf Try.prog 199 2 16 ((Go.Value.agg #[Go.Value.int Go.IntKind.i64 0, Go.Value.int Go.IntKind.u64 0])) := ⟨Try.t199, by kernel_rfl, rfl, rfl, rfl⟩
instance : Inf Try.prog 206 3 24 ((Go.Value.agg #[Go.Value.int Go.IntKind.i64 0, Go.Value.int Go.IntKind.i64 0, Go.Value.int Go.IntKind.i64 0])) := ⟨Try.t206, by kernel_rfl, rfl, rfl, rfl⟩
instance : Und Try.prog 2 (Go.TypeDesc.int Go.IntKind.i64) := ⟨Try.underlying2⟩
instance : Und Try.prog 3 (Go.TypeDesc.int Go.IntKind.i64) := ⟨Try.underlying3⟩
instance : Und Try.prog 4 .bool := ⟨Try.underlying4⟩
instance : Und Try.prog 31 (Go.TypeDesc.int Go.IntKind.i64) := ⟨Try.underlying31⟩
instance : Und Try.prog 48 (Go.TypeDesc.slice 79) := ⟨Try.underlying48⟩
instance : YesAgg (Try.t49.desc) := ⟨by kernel_rfl⟩
instance : Und Try.prog 50 (Try.t49.desc) := ⟨Try.underlying50⟩
instance : YesAgg (Try.t62.desc) := ⟨by kernel_rfl⟩
instance : Und Try.prog 63 (Try.t62.desc) := ⟨Try.underlying63⟩
instance : Und Try.prog 66 (Try.t65.desc) := ⟨Try.underlying66⟩
instance : YesAgg (Try.t68.desc) := ⟨by kernel_rfl⟩
instance : Und Try.prog 69 (Try.t68.desc) := ⟨Try.underlying69⟩
instance : Und Try.prog 73 (Go.TypeDesc.int Go.IntKind.u64) := ⟨Try.underlying73⟩
instance : Und Try.prog 76 (Go.TypeDesc.pointer 153) := ⟨Try.underlying76⟩
instance : Und Try.prog 79 (Go.TypeDesc.int Go.IntKind.i16) := ⟨Try.underlying79⟩
instance : Und Try.prog 87 (Go.TypeDesc.slice 63) := ⟨Try.underlying87⟩
instance : Und Try.prog 138 (Go.TypeDesc.array 4 2) := ⟨Try.underlying138⟩
instance : Und Try.prog 146 (Go.TypeDesc.slice 150) := ⟨Try.underlying146⟩
instance : YesAgg (Try.t147.desc) := ⟨by kernel_rfl⟩
instance : Und Try.prog 148 (Try.t147.desc) := ⟨Try.underlying148⟩
instance : YesAgg (Try.t149.desc) := ⟨by kernel_rfl⟩
instance : Und Try.prog 150 (Try.t149.desc) := ⟨Try.underlying150⟩
instance : Und Try.prog 151 (Go.TypeDesc.slice 148) := ⟨Try.underlying151⟩
instance : YesAgg (Try.t157.desc) := ⟨by kernel_rfl⟩
instance : Und Try.prog 158 (Try.t157.desc) := ⟨Try.underlying158⟩
instance : YesAgg (Try.t198.desc) := ⟨by kernel_rfl⟩
instance : Und Try.prog 199 (Try.t198.desc) := ⟨Try.underlying199⟩
instance : YesAgg (Try.t205.desc) := ⟨by kernel_rfl⟩
instance : Und Try.prog 206 (Try.t205.desc) := ⟨Try.underlying206⟩
instance : Und Try.prog 207 (Go.TypeDesc.slice 206) := ⟨Try.underlying207⟩
instance : Pl Try.prog 50 [(0, 1), (1, 1), (2, 1)] := ⟨_, Try.underlying50, fun w => by kernel_rfl⟩
instance : Fa Try.prog 50 0 0 := ⟨_, _, Try.t3, Try.underlying50, rfl, by kernel_rfl, by decide, rfl⟩
instance : Fa Try.prog 50 1 1 := ⟨_, _, Try.t3, Try.underlying50, rfl, by kernel_rfl, by decide, rfl⟩
instance : Fa Try.prog 50 2 2 := ⟨_, _, Try.t48, Try.underlying50, rfl, by kernel_rfl, by decide, rfl⟩
instance : Pl Try.prog 63 [(0, 1), (1, 1)] := ⟨_, Try.underlying63, fun w => by kernel_rfl⟩
instance : Fa Try.prog 63 0 0 := ⟨_, _, Try.t2, Try.underlying63, rfl, by kernel_rfl, by decide, rfl⟩
instance : Fa Try.prog 63 1 1 := ⟨_, _, Try.t2, Try.underlying63, rfl, by kernel_rfl, by decide, rfl⟩
instance : Pl Try.prog 69 [(0, 1), (1, 1), (2, 1)] := ⟨_, Try.underlying69, fun w => by kernel_rfl⟩
instance : Fa Try.prog 69 0 0 := ⟨_, _, Try.t3, Try.underlying69, rfl, by kernel_rfl, by decide, rfl⟩
instance : Fa Try.prog 69 1 1 := ⟨_, _, Try.t3, Try.underlying69, rfl, by kernel_rfl, by decide, rfl⟩
instance : Fa Try.prog 69 2 2 := ⟨_, _, Try.t3, Try.underlying69, rfl, by kernel_rfl, by decide, rfl⟩
instance : Pl Try.prog 148 [(0, 1), (1, 1), (2, 1)] := ⟨_, Try.underlying148, fun w => by kernel_rfl⟩
instance : Fa Try.prog 148 0 0 := ⟨_, _, Try.t3, Try.underlying148, rfl, by kernel_rfl, by decide, rfl⟩
instance : Fa Try.prog 148 1 1 := ⟨_, _, Try.t3, Try.underlying148, rfl, by kernel_rfl, by decide, rfl⟩
instance : Fa Try.prog 148 2 2 := ⟨_, _, Try.t146, Try.underlying148, rfl, by kernel_rfl, by decide, rfl⟩
instance : Pl Try.prog 150 [(0, 1), (1, 1), (2, 1)] := ⟨_, Try.underlying150, fun w => by kernel_rfl⟩
instance : Fa Try.prog 150 0 0 := ⟨_, _, Try.t79, Try.underlying150, rfl, by kernel_rfl, by decide, rfl⟩
instance : Fa Try.prog 150 1 1 := ⟨_, _, Try.t79, Try.underlying150, rfl, by kernel_rfl, by decide, rfl⟩
instance : Fa Try.prog 150 2 2 := ⟨_, _, Try.t3, Try.underlying150, rfl, by kernel_rfl, by decide, rfl⟩
instance : Pl Try.prog 153 [(0, 1), (1, 1)] := ⟨_, Try.underlying153, fun w => by kernel_rfl⟩
instance : Fa Try.prog 153 0 0 := ⟨_, _, Try.t151, Try.underlying153, rfl, by kernel_rfl, by decide, rfl⟩
instance : Fa Try.prog 153 1 1 := ⟨_, _, Try.t3, Try.underlying153, rfl, by kernel_rfl, by decide, rfl⟩
instance : Pl Try.prog 158 [(0, 1), (1, 1), (2, 1), (3, 1)] := ⟨_, Try.underlying158, fun w => by kernel_rfl⟩
instance : Fa Try.prog 158 0 0 := ⟨_, _, Try.t3, Try.underlying158, rfl, by kernel_rfl, by decide, rfl⟩
instance : Fa Try.prog 158 1 1 := ⟨_, _, Try.t3, Try.underlying158, rfl, by kernel_rfl, by decide, rfl⟩
instance : Fa Try.prog 158 2 2 := ⟨_, _, Try.t3, Try.underlying158, rfl, by kernel_rfl, by decide, rfl⟩
instance : Fa Try.prog 158 3 3 := ⟨_, _, Try.t3, Try.underlying158, rfl, by kernel_rfl, by decide, rfl⟩
instance : Pl Try.prog 199 [(0, 1), (1, 1)] := ⟨_, Try.underlying199, fun w => by kernel_rfl⟩
instance : Fa Try.prog 199 0 0 := ⟨_, _, Try.t2, Try.underlying199, rfl, by kernel_rfl, by decide, rfl⟩
instance : Fa Try.prog 199 1 1 := ⟨_, _, Try.t73, Try.underlying199, rfl, by kernel_rfl, by decide, rfl⟩
instance : Pl Try.prog 206 [(0, 1), (1, 1), (2, 1)] := ⟨_, Try.underlying206, fun w => by kernel_rfl⟩
instance : Fa Try.prog 206 0 0 := ⟨_, _, Try.t3, Try.underlying206, rfl, by kernel_rfl, by decide, rfl⟩
instance : Fa Try.prog 206 1 1 := ⟨_, _, Try.t3, Try.underlying206, rfl, by kernel_rfl, by decide, rfl⟩
instance : Fa Try.prog 206 2 2 := ⟨_, _, Try.t3, Try.underlying206, rfl, by kernel_rfl, by decide, rfl⟩
instance : Cl Try.prog 32 := ⟨Try.call32⟩
instance : Cl Try.prog 33 := ⟨Try.call33⟩
instance : Cl Try.prog 34 := ⟨Try.call34⟩
instance : Cl Try.prog 35 := ⟨Try.call35⟩
instance : Cl Try.prog 36 := ⟨Try.call36⟩
instance : Cl Try.prog 37 := ⟨Try.call37⟩
instance : Cl Try.prog 38 := ⟨Try.call38⟩
instance : Cl Try.prog 39 := ⟨Try.call39⟩
instance : Cl Try.prog 40 := ⟨Try.call40⟩
instance : Cl Try.prog 41 := ⟨Try.call41⟩
instance : Cl Try.prog 43 := ⟨Try.call43⟩
instance : Cl Try.prog 45 := ⟨Try.call45⟩
instance : Cl Try.prog 72 := ⟨Try.call72⟩
instance : Cl Try.prog 74 := ⟨Try.call74⟩
instance : Cl Try.prog 75 := ⟨Try.call75⟩
instance : Cl Try.prog 76 := ⟨Try.call76⟩
instance : Cl Try.prog 77 := ⟨Try.call77⟩
instance : Cl Try.prog 78 := ⟨Try.call78⟩
instance : Cl Try.prog 79 := ⟨Try.call79⟩
instance : Cl Try.prog 80 := ⟨Try.call80⟩
instance : Cl Try.prog 81 := ⟨Try.call81⟩
instance : Cl Try.prog 82 := ⟨Try.call82⟩
instance : Cl Try.prog 83 := ⟨Try.call83⟩
instance : Cl Try.prog 84 := ⟨Try.call84⟩
instance : Cl Try.prog 85 := ⟨Try.call85⟩
instance : Cl Try.prog 113 := ⟨Try.call113⟩
instance : Cl Try.prog 114 := ⟨Try.call114⟩
instance : Cl Try.prog 115 := ⟨Try.call115⟩
instance : Cl Try.prog 116 := ⟨Try.call116⟩
instance : Cl Try.prog 117 := ⟨Try.call117⟩
instance : Cl Try.prog 118 := ⟨Try.call118⟩
instance : Cl Try.prog 119 := ⟨Try.call119⟩
instance : Cl Try.prog 120 := ⟨Try.call120⟩
instance : Cl Try.prog 121 := ⟨Try.call121⟩
instance : Cl Try.prog 142 := ⟨Try.call142⟩
instance : Cl Try.prog 143 := ⟨Try.call143⟩
instance : FRes Try.f6 [Go.ResultVar.cell 4 4] := ⟨rfl⟩
instance : FRes Try.f36 [Go.ResultVar.tmp 4] := ⟨rfl⟩
instance : FRes Try.f37 [Go.ResultVar.tmp 0] := ⟨rfl⟩
instance : FRes Try.f39 [Go.ResultVar.cell 8 4] := ⟨rfl⟩
instance : FRes Try.f40 [Go.ResultVar.tmp 2, Go.ResultVar.tmp 3] := ⟨rfl⟩
instance : FRes Try.f41 [Go.ResultVar.cell 6 79, Go.ResultVar.cell 7 79, Go.ResultVar.cell 8 31] := ⟨rfl⟩
instance : FRes Try.f76 [Go.ResultVar.tmp 4] := ⟨rfl⟩
instance : FRes Try.f78 [Go.ResultVar.cell 6 69] := ⟨rfl⟩
instance : FRes Try.f80 [Go.ResultVar.tmp 4, Go.ResultVar.tmp 5] := ⟨rfl⟩
instance : FRes Try.f81 [Go.ResultVar.cell 2 148] := ⟨rfl⟩
instance : FRes Try.f82 [Go.ResultVar.tmp 4] := ⟨rfl⟩
instance : FRes Try.f83 [Go.ResultVar.tmp 4, Go.ResultVar.tmp 5] := ⟨rfl⟩
instance : FRes Try.f84 [Go.ResultVar.cell 4 150] := ⟨rfl⟩
instance : FRes Try.f85 [Go.ResultVar.cell 2 150] := ⟨rfl⟩
instance : FRes Try.f114 [Go.ResultVar.cell 4 199, Go.ResultVar.tmp 5] := ⟨rfl⟩
instance : FRes Try.f115 [Go.ResultVar.cell 4 199] := ⟨rfl⟩
instance : FRes Try.f116 [Go.ResultVar.tmp 2] := ⟨rfl⟩
instance : FRes Try.f117 [Go.ResultVar.cell 6 150] := ⟨rfl⟩
instance : FRes Try.f118 [Go.ResultVar.cell 4 158] := ⟨rfl⟩
instance : FRes Try.f119 [Go.ResultVar.tmp 4] := ⟨rfl⟩
instance : FRes Try.f120 [Go.ResultVar.tmp 4] := ⟨rfl⟩
instance : FRes Try.f121 [Go.ResultVar.tmp 4] := ⟨rfl⟩
end Go.Proofs.Ytokoopdkofgabaa
