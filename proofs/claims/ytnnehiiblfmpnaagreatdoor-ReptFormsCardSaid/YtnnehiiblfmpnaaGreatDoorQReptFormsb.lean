/- What the proof of ReptForms needs, part 2: plain lemmas, and what each function does. -/
import Derived.Test.YtnnehiiblfmpnaaGreatDoorQReptFormsa
import Derived.Test.YtnnehiiblfmpnaaGreatDoorProg
import Derived.KernelRfl
import Derived.Laws.StructEq
import Derived.Deep.Slices
import Derived.Laws.Strings
set_option linter.unusedVariables false
set_option linter.unusedSimpArgs false
set_option linter.unnecessarySimpa false
set_option maxRecDepth 100000
namespace Go.Proofs.YtnnehiiblfmpnaaGreatDoor
open Go.Hw
instance {P : Program} {kt : TypeId} {ik : IntKind} [h : Und P kt (.int ik)] : MK P kt Int (Value.int ik) := MK.int h.h
instance : Und Tryz.prog 2 (.int .i64) := ⟨Tryz.underlying2⟩
instance inf2 : Inf Tryz.prog 2 [Value.int .i64 0] false 8 := ⟨by kernel_rfl, (fun _ => rfl), ⟨_, Tryz.underlying2, rfl⟩, by simp [Value.oneCell']⟩
instance : Und Tryz.prog 3 (.int .i64) := ⟨Tryz.underlying3⟩
instance inf3 : Inf Tryz.prog 3 [Value.int .i64 0] false 8 := ⟨by kernel_rfl, (fun _ => rfl), ⟨_, Tryz.underlying3, rfl⟩, by simp [Value.oneCell']⟩
instance : Und Tryz.prog 4 (.bool) := ⟨Tryz.underlying4⟩
instance inf4 : Inf Tryz.prog 4 [Value.bool false] false 1 := ⟨by kernel_rfl, (fun _ => rfl), ⟨_, Tryz.underlying4, rfl⟩, by simp [Value.oneCell']⟩
instance : Und Tryz.prog 5 (.int .u8) := ⟨Tryz.underlying5⟩
instance inf5 : Inf Tryz.prog 5 [Value.int .u8 0] false 1 := ⟨by kernel_rfl, (fun _ => rfl), ⟨_, Tryz.underlying5, rfl⟩, by simp [Value.oneCell']⟩
instance : Und Tryz.prog 9 (.string) := ⟨Tryz.underlying9⟩
instance inf9 : Inf Tryz.prog 9 [Value.string ByteArray.empty] false 16 := ⟨by kernel_rfl, (fun _ => rfl), ⟨_, Tryz.underlying9, rfl⟩, by simp [Value.oneCell']⟩
instance : Und Tryz.prog 12 (.int .u64) := ⟨Tryz.underlying12⟩
instance inf12 : Inf Tryz.prog 12 [Value.int .u64 0] false 8 := ⟨by kernel_rfl, (fun _ => rfl), ⟨_, Tryz.underlying12, rfl⟩, by simp [Value.oneCell']⟩
instance inf13 : Inf Tryz.prog 13 [Value.string ByteArray.empty, Value.int .u64 0] true 24 := ⟨by kernel_rfl, (fun h => by cases h), ⟨_, Tryz.underlying13, rfl⟩, by simp [Value.oneCell']⟩
instance inf19 : Inf Tryz.prog 19 [Value.pointer none] true 8 := ⟨by kernel_rfl, (fun h => by cases h), ⟨_, Tryz.underlying19, rfl⟩, by simp [Value.oneCell']⟩
instance : Und Tryz.prog 21 (.int .i32) := ⟨Tryz.underlying21⟩
instance inf21 : Inf Tryz.prog 21 [Value.int .i32 0] false 4 := ⟨by kernel_rfl, (fun _ => rfl), ⟨_, Tryz.underlying21, rfl⟩, by simp [Value.oneCell']⟩
instance : Und Tryz.prog 22 (.int .i64) := ⟨Tryz.underlying22⟩
instance inf22 : Inf Tryz.prog 22 [Value.int .i64 0] false 8 := ⟨by kernel_rfl, (fun _ => rfl), ⟨_, Tryz.underlying22, rfl⟩, by simp [Value.oneCell']⟩
instance : Und Tryz.prog 23 (.slice 58) := ⟨Tryz.underlying23⟩
instance inf23 : Inf Tryz.prog 23 [Value.slice none 0 0] false 24 := ⟨by kernel_rfl, (fun _ => rfl), ⟨_, Tryz.underlying23, rfl⟩, by simp [Value.oneCell']⟩
instance inf24 : Inf Tryz.prog 24 [Value.int .i64 0, Value.int .i64 0, Value.slice none 0 0] true 40 := ⟨by kernel_rfl, (fun h => by cases h), ⟨_, Tryz.underlying24, rfl⟩, by simp [Value.oneCell']⟩
instance inf25 : Inf Tryz.prog 25 [Value.int .i64 0, Value.int .i64 0, Value.slice none 0 0] true 40 := ⟨by kernel_rfl, (fun h => by cases h), ⟨_, Tryz.underlying25, rfl⟩, by simp [Value.oneCell']⟩
instance : Und Tryz.prog 30 (.int .u64) := ⟨Tryz.underlying30⟩
instance inf30 : Inf Tryz.prog 30 [Value.int .u64 0] false 8 := ⟨by kernel_rfl, (fun _ => rfl), ⟨_, Tryz.underlying30, rfl⟩, by simp [Value.oneCell']⟩
instance inf31 : Inf Tryz.prog 31 [Value.int .i64 0, Value.int .i64 0, Value.int .i64 0, Value.int .i64 0, Value.int .u64 0, Value.int .i64 0, Value.int .i64 0, Value.int .i64 0] true 64 := ⟨by kernel_rfl, (fun h => by cases h), ⟨_, Tryz.underlying31, rfl⟩, by simp [Value.oneCell']⟩
instance inf32 : Inf Tryz.prog 32 [Value.int .i64 0, Value.int .i64 0, Value.int .i64 0, Value.int .i64 0, Value.int .u64 0, Value.int .i64 0, Value.int .i64 0, Value.int .i64 0] true 64 := ⟨by kernel_rfl, (fun h => by cases h), ⟨_, Tryz.underlying32, rfl⟩, by simp [Value.oneCell']⟩
instance : Und Tryz.prog 38 (.slice 5) := ⟨Tryz.underlying38⟩
instance inf38 : Inf Tryz.prog 38 [Value.slice none 0 0] false 24 := ⟨by kernel_rfl, (fun _ => rfl), ⟨_, Tryz.underlying38, rfl⟩, by simp [Value.oneCell']⟩
instance : Und Tryz.prog 40 (.slice 32) := ⟨Tryz.underlying40⟩
instance inf40 : Inf Tryz.prog 40 [Value.slice none 0 0] false 24 := ⟨by kernel_rfl, (fun _ => rfl), ⟨_, Tryz.underlying40, rfl⟩, by simp [Value.oneCell']⟩
instance : Und Tryz.prog 41 (.slice 38) := ⟨Tryz.underlying41⟩
instance inf41 : Inf Tryz.prog 41 [Value.slice none 0 0] false 24 := ⟨by kernel_rfl, (fun _ => rfl), ⟨_, Tryz.underlying41, rfl⟩, by simp [Value.oneCell']⟩
instance inf43 : Inf Tryz.prog 43 [Value.string ByteArray.empty, Value.bool false] true 24 := ⟨by kernel_rfl, (fun h => by cases h), ⟨_, Tryz.underlying43, rfl⟩, by simp [Value.oneCell']⟩
instance : Und Tryz.prog 44 (.slice 43) := ⟨Tryz.underlying44⟩
instance inf44 : Inf Tryz.prog 44 [Value.slice none 0 0] false 24 := ⟨by kernel_rfl, (fun _ => rfl), ⟨_, Tryz.underlying44, rfl⟩, by simp [Value.oneCell']⟩
instance : Und Tryz.prog 46 (.slice 3) := ⟨Tryz.underlying46⟩
instance inf46 : Inf Tryz.prog 46 [Value.slice none 0 0] false 24 := ⟨by kernel_rfl, (fun _ => rfl), ⟨_, Tryz.underlying46, rfl⟩, by simp [Value.oneCell']⟩
instance : Und Tryz.prog 47 (.slice 30) := ⟨Tryz.underlying47⟩
instance inf47 : Inf Tryz.prog 47 [Value.slice none 0 0] false 24 := ⟨by kernel_rfl, (fun _ => rfl), ⟨_, Tryz.underlying47, rfl⟩, by simp [Value.oneCell']⟩
instance : Und Tryz.prog 51 (.pointer 115) := ⟨Tryz.underlying51⟩
instance inf51 : Inf Tryz.prog 51 [Value.pointer none] false 8 := ⟨by kernel_rfl, (fun _ => rfl), ⟨_, Tryz.underlying51, rfl⟩, by simp [Value.oneCell']⟩
instance : Und Tryz.prog 53 (.pointer 122) := ⟨Tryz.underlying53⟩
instance inf53 : Inf Tryz.prog 53 [Value.pointer none] false 8 := ⟨by kernel_rfl, (fun _ => rfl), ⟨_, Tryz.underlying53, rfl⟩, by simp [Value.oneCell']⟩
instance inf57 : Inf Tryz.prog 57 [Value.int .i64 0, Value.int .u64 0] true 16 := ⟨by kernel_rfl, (fun h => by cases h), ⟨_, Tryz.underlying57, rfl⟩, by simp [Value.oneCell']⟩
instance inf58 : Inf Tryz.prog 58 [Value.int .i64 0, Value.int .u64 0] true 16 := ⟨by kernel_rfl, (fun h => by cases h), ⟨_, Tryz.underlying58, rfl⟩, by simp [Value.oneCell']⟩
instance inf59 : Inf Tryz.prog 59 [Value.int .i64 0, Value.int .i64 0, Value.int .i64 0, Value.int .i64 0, Value.int .i64 0] true 40 := ⟨by kernel_rfl, (fun h => by cases h), ⟨_, Tryz.underlying59, rfl⟩, by simp [Value.oneCell']⟩
instance inf60 : Inf Tryz.prog 60 [Value.int .i64 0, Value.int .i64 0, Value.int .i64 0, Value.int .i64 0, Value.int .i64 0] true 40 := ⟨by kernel_rfl, (fun h => by cases h), ⟨_, Tryz.underlying60, rfl⟩, by simp [Value.oneCell']⟩
instance inf61 : Inf Tryz.prog 61 [Value.int .i64 0, Value.int .i64 0] true 16 := ⟨by kernel_rfl, (fun h => by cases h), ⟨_, Tryz.underlying61, rfl⟩, by simp [Value.oneCell']⟩
instance : Und Tryz.prog 62 (.slice 61) := ⟨Tryz.underlying62⟩
instance inf62 : Inf Tryz.prog 62 [Value.slice none 0 0] false 24 := ⟨by kernel_rfl, (fun _ => rfl), ⟨_, Tryz.underlying62, rfl⟩, by simp [Value.oneCell']⟩
instance : Und Tryz.prog 63 (.pointer 129) := ⟨Tryz.underlying63⟩
instance inf63 : Inf Tryz.prog 63 [Value.pointer none] false 8 := ⟨by kernel_rfl, (fun _ => rfl), ⟨_, Tryz.underlying63, rfl⟩, by simp [Value.oneCell']⟩
instance : Und Tryz.prog 70 (.int .u64) := ⟨Tryz.underlying70⟩
instance inf70 : Inf Tryz.prog 70 [Value.int .u64 0] false 8 := ⟨by kernel_rfl, (fun _ => rfl), ⟨_, Tryz.underlying70, rfl⟩, by simp [Value.oneCell']⟩
instance inf71 : Inf Tryz.prog 71 [Value.int .i64 0, Value.int .i64 0, Value.int .i64 0] true 24 := ⟨by kernel_rfl, (fun h => by cases h), ⟨_, Tryz.underlying71, rfl⟩, by simp [Value.oneCell']⟩
instance inf72 : Inf Tryz.prog 72 [Value.int .i64 0, Value.int .i64 0, Value.int .i64 0] true 24 := ⟨by kernel_rfl, (fun h => by cases h), ⟨_, Tryz.underlying72, rfl⟩, by simp [Value.oneCell']⟩
instance : Und Tryz.prog 84 (.pointer 158) := ⟨Tryz.underlying84⟩
instance inf84 : Inf Tryz.prog 84 [Value.pointer none] false 8 := ⟨by kernel_rfl, (fun _ => rfl), ⟨_, Tryz.underlying84, rfl⟩, by simp [Value.oneCell']⟩
instance : Und Tryz.prog 89 (.pointer 91) := ⟨Tryz.underlying89⟩
instance inf89 : Inf Tryz.prog 89 [Value.pointer none] false 8 := ⟨by kernel_rfl, (fun _ => rfl), ⟨_, Tryz.underlying89, rfl⟩, by simp [Value.oneCell']⟩
instance inf90 : Inf Tryz.prog 90 [Value.pointer none, Value.slice none 0 0] true 32 := ⟨by kernel_rfl, (fun h => by cases h), ⟨_, Tryz.underlying90, rfl⟩, by simp [Value.oneCell']⟩
instance inf91 : Inf Tryz.prog 91 [Value.pointer none, Value.slice none 0 0] true 32 := ⟨by kernel_rfl, (fun h => by cases h), ⟨_, Tryz.underlying91, rfl⟩, by simp [Value.oneCell']⟩
instance inf93 : Inf Tryz.prog 93 [Value.nilIface] false 16 := ⟨by kernel_rfl, (fun _ => rfl), ⟨_, Tryz.underlying93, rfl⟩, by simp [Value.oneCell']⟩
instance : Und Tryz.prog 99 (.pointer 103) := ⟨Tryz.underlying99⟩
instance inf99 : Inf Tryz.prog 99 [Value.pointer none] false 8 := ⟨by kernel_rfl, (fun _ => rfl), ⟨_, Tryz.underlying99, rfl⟩, by simp [Value.oneCell']⟩
instance : Und Tryz.prog 100 (.slice 9) := ⟨Tryz.underlying100⟩
instance inf100 : Inf Tryz.prog 100 [Value.slice none 0 0] false 24 := ⟨by kernel_rfl, (fun _ => rfl), ⟨_, Tryz.underlying100, rfl⟩, by simp [Value.oneCell']⟩
instance inf102 : Inf Tryz.prog 102 [Value.slice none 0 0] true 24 := ⟨by kernel_rfl, (fun h => by cases h), ⟨_, Tryz.underlying102, rfl⟩, by simp [Value.oneCell']⟩
instance inf103 : Inf Tryz.prog 103 [Value.slice none 0 0] true 24 := ⟨by kernel_rfl, (fun h => by cases h), ⟨_, Tryz.underlying103, rfl⟩, by simp [Value.oneCell']⟩
instance : Und Tryz.prog 106 (.slice 2) := ⟨Tryz.underlying106⟩
instance inf106 : Inf Tryz.prog 106 [Value.slice none 0 0] false 24 := ⟨by kernel_rfl, (fun _ => rfl), ⟨_, Tryz.underlying106, rfl⟩, by simp [Value.oneCell']⟩
instance : Und Tryz.prog 111 (.int .u32) := ⟨Tryz.underlying111⟩
instance inf111 : Inf Tryz.prog 111 [Value.int .u32 0] false 4 := ⟨by kernel_rfl, (fun _ => rfl), ⟨_, Tryz.underlying111, rfl⟩, by simp [Value.oneCell']⟩
instance : Und Tryz.prog 113 (.map 3 123) := ⟨Tryz.underlying113⟩
instance inf113 : Inf Tryz.prog 113 [Value.map none] false 8 := ⟨by kernel_rfl, (fun _ => rfl), ⟨_, Tryz.underlying113, rfl⟩, by simp [Value.oneCell']⟩
instance inf114 : Inf Tryz.prog 114 [Value.int .i64 0, Value.int .i64 0, Value.int .i64 0, Value.int .i64 0, Value.map none] true 40 := ⟨by kernel_rfl, (fun h => by cases h), ⟨_, Tryz.underlying114, rfl⟩, by simp [Value.oneCell']⟩
instance inf115 : Inf Tryz.prog 115 [Value.int .i64 0, Value.int .i64 0, Value.int .i64 0, Value.int .i64 0, Value.map none] true 40 := ⟨by kernel_rfl, (fun h => by cases h), ⟨_, Tryz.underlying115, rfl⟩, by simp [Value.oneCell']⟩
instance : Und Tryz.prog 116 (.slice 137) := ⟨Tryz.underlying116⟩
instance inf116 : Inf Tryz.prog 116 [Value.slice none 0 0] false 24 := ⟨by kernel_rfl, (fun _ => rfl), ⟨_, Tryz.underlying116, rfl⟩, by simp [Value.oneCell']⟩
instance inf117 : Inf Tryz.prog 117 [Value.int .i64 0, Value.int .i64 0, Value.slice none 0 0, Value.int .i64 0, Value.int .i64 0, Value.int .i64 0] true 64 := ⟨by kernel_rfl, (fun h => by cases h), ⟨_, Tryz.underlying117, rfl⟩, by simp [Value.oneCell']⟩
instance inf118 : Inf Tryz.prog 118 [Value.int .i64 0, Value.int .i64 0, Value.slice none 0 0, Value.int .i64 0, Value.int .i64 0, Value.int .i64 0] true 64 := ⟨by kernel_rfl, (fun h => by cases h), ⟨_, Tryz.underlying118, rfl⟩, by simp [Value.oneCell']⟩
instance : Und Tryz.prog 120 (.map 72 23) := ⟨Tryz.underlying120⟩
instance inf120 : Inf Tryz.prog 120 [Value.map none] false 8 := ⟨by kernel_rfl, (fun _ => rfl), ⟨_, Tryz.underlying120, rfl⟩, by simp [Value.oneCell']⟩
instance inf121 : Inf Tryz.prog 121 [Value.int .i64 0, Value.int .i64 0, Value.slice none 0 0, Value.int .i64 0, Value.int .i64 0, Value.int .i64 0, Value.map none] true 72 := ⟨by kernel_rfl, (fun h => by cases h), ⟨_, Tryz.underlying121, rfl⟩, by simp [Value.oneCell']⟩
instance inf122 : Inf Tryz.prog 122 [Value.int .i64 0, Value.int .i64 0, Value.slice none 0 0, Value.int .i64 0, Value.int .i64 0, Value.int .i64 0, Value.map none] true 72 := ⟨by kernel_rfl, (fun h => by cases h), ⟨_, Tryz.underlying122, rfl⟩, by simp [Value.oneCell']⟩
instance : Und Tryz.prog 123 (.pointer 126) := ⟨Tryz.underlying123⟩
instance inf123 : Inf Tryz.prog 123 [Value.pointer none] false 8 := ⟨by kernel_rfl, (fun _ => rfl), ⟨_, Tryz.underlying123, rfl⟩, by simp [Value.oneCell']⟩
instance inf125 : Inf Tryz.prog 125 [Value.slice none 0 0, Value.int .i64 0] true 32 := ⟨by kernel_rfl, (fun h => by cases h), ⟨_, Tryz.underlying125, rfl⟩, by simp [Value.oneCell']⟩
instance inf126 : Inf Tryz.prog 126 [Value.slice none 0 0, Value.int .i64 0] true 32 := ⟨by kernel_rfl, (fun h => by cases h), ⟨_, Tryz.underlying126, rfl⟩, by simp [Value.oneCell']⟩
instance : Und Tryz.prog 127 (.pointer 201) := ⟨Tryz.underlying127⟩
instance inf127 : Inf Tryz.prog 127 [Value.pointer none] false 8 := ⟨by kernel_rfl, (fun _ => rfl), ⟨_, Tryz.underlying127, rfl⟩, by simp [Value.oneCell']⟩
instance inf128 : Inf Tryz.prog 128 [Value.int .i64 0, Value.int .i64 0, Value.int .i64 0, Value.int .i64 0, Value.int .i64 0, Value.pointer none, Value.bool false, Value.bool false, Value.bool false, Value.slice none 0 0, Value.slice none 0 0] true 104 := ⟨by kernel_rfl, (fun h => by cases h), ⟨_, Tryz.underlying128, rfl⟩, by simp [Value.oneCell']⟩
instance inf129 : Inf Tryz.prog 129 [Value.int .i64 0, Value.int .i64 0, Value.int .i64 0, Value.int .i64 0, Value.int .i64 0, Value.pointer none, Value.bool false, Value.bool false, Value.bool false, Value.slice none 0 0, Value.slice none 0 0] true 104 := ⟨by kernel_rfl, (fun h => by cases h), ⟨_, Tryz.underlying129, rfl⟩, by simp [Value.oneCell']⟩
instance : Und Tryz.prog 132 (.slice 72) := ⟨Tryz.underlying132⟩
instance inf132 : Inf Tryz.prog 132 [Value.slice none 0 0] false 24 := ⟨by kernel_rfl, (fun _ => rfl), ⟨_, Tryz.underlying132, rfl⟩, by simp [Value.oneCell']⟩
instance inf136 : Inf Tryz.prog 136 [Value.int .i64 0, Value.int .i64 0, Value.int .i64 0, Value.int .i64 0, Value.bool false, Value.bool false, Value.int .i64 0] true 48 := ⟨by kernel_rfl, (fun h => by cases h), ⟨_, Tryz.underlying136, rfl⟩, by simp [Value.oneCell']⟩
instance inf137 : Inf Tryz.prog 137 [Value.int .i64 0, Value.int .i64 0, Value.int .i64 0, Value.int .i64 0, Value.bool false, Value.bool false, Value.int .i64 0] true 48 := ⟨by kernel_rfl, (fun h => by cases h), ⟨_, Tryz.underlying137, rfl⟩, by simp [Value.oneCell']⟩
instance inf140 : Inf Tryz.prog 140 [Value.int .i64 0, Value.int .i64 0, Value.int .i64 0, Value.int .i64 0] true 32 := ⟨by kernel_rfl, (fun h => by cases h), ⟨_, Tryz.underlying140, rfl⟩, by simp [Value.oneCell']⟩
instance inf141 : Inf Tryz.prog 141 [Value.int .i64 0, Value.int .i64 0, Value.int .i64 0, Value.int .i64 0] true 32 := ⟨by kernel_rfl, (fun h => by cases h), ⟨_, Tryz.underlying141, rfl⟩, by simp [Value.oneCell']⟩
instance : Und Tryz.prog 147 (.pointer 223) := ⟨Tryz.underlying147⟩
instance inf147 : Inf Tryz.prog 147 [Value.pointer none] false 8 := ⟨by kernel_rfl, (fun _ => rfl), ⟨_, Tryz.underlying147, rfl⟩, by simp [Value.oneCell']⟩
instance : Und Tryz.prog 149 (.pointer 228) := ⟨Tryz.underlying149⟩
instance inf149 : Inf Tryz.prog 149 [Value.pointer none] false 8 := ⟨by kernel_rfl, (fun _ => rfl), ⟨_, Tryz.underlying149, rfl⟩, by simp [Value.oneCell']⟩
instance : Und Tryz.prog 151 (.pointer 381) := ⟨Tryz.underlying151⟩
instance inf151 : Inf Tryz.prog 151 [Value.pointer none] false 8 := ⟨by kernel_rfl, (fun _ => rfl), ⟨_, Tryz.underlying151, rfl⟩, by simp [Value.oneCell']⟩
instance inf152 : Inf Tryz.prog 152 [Value.pointer none, Value.int .i64 0] true 16 := ⟨by kernel_rfl, (fun h => by cases h), ⟨_, Tryz.underlying152, rfl⟩, by simp [Value.oneCell']⟩
instance inf153 : Inf Tryz.prog 153 [Value.pointer none, Value.int .i64 0] true 16 := ⟨by kernel_rfl, (fun h => by cases h), ⟨_, Tryz.underlying153, rfl⟩, by simp [Value.oneCell']⟩
instance inf154 : Inf Tryz.prog 154 [Value.pointer none, Value.int .i64 0, Value.pointer none, Value.int .i64 0, Value.pointer none, Value.int .i64 0, Value.pointer none, Value.int .i64 0, Value.pointer none, Value.int .i64 0, Value.pointer none, Value.int .i64 0, Value.pointer none, Value.int .i64 0, Value.pointer none, Value.int .i64 0] true 128 := ⟨by kernel_rfl, (fun h => by cases h), ⟨_, Tryz.underlying154, rfl⟩, by simp [Value.oneCell']⟩
instance : Und Tryz.prog 155 (.slice 383) := ⟨Tryz.underlying155⟩
instance inf155 : Inf Tryz.prog 155 [Value.slice none 0 0] false 24 := ⟨by kernel_rfl, (fun _ => rfl), ⟨_, Tryz.underlying155, rfl⟩, by simp [Value.oneCell']⟩
instance : Und Tryz.prog 156 (.slice 385) := ⟨Tryz.underlying156⟩
instance inf156 : Inf Tryz.prog 156 [Value.slice none 0 0] false 24 := ⟨by kernel_rfl, (fun _ => rfl), ⟨_, Tryz.underlying156, rfl⟩, by simp [Value.oneCell']⟩
instance inf157 : Inf Tryz.prog 157 [Value.pointer none, Value.pointer none, Value.pointer none, Value.int .i64 0, Value.pointer none, Value.int .i64 0, Value.pointer none, Value.int .i64 0, Value.pointer none, Value.int .i64 0, Value.pointer none, Value.int .i64 0, Value.pointer none, Value.int .i64 0, Value.pointer none, Value.int .i64 0, Value.pointer none, Value.int .i64 0, Value.slice none 0 0, Value.slice none 0 0] true 192 := ⟨by kernel_rfl, (fun h => by cases h), ⟨_, Tryz.underlying157, rfl⟩, by simp [Value.oneCell']⟩
instance inf158 : Inf Tryz.prog 158 [Value.pointer none, Value.pointer none, Value.pointer none, Value.int .i64 0, Value.pointer none, Value.int .i64 0, Value.pointer none, Value.int .i64 0, Value.pointer none, Value.int .i64 0, Value.pointer none, Value.int .i64 0, Value.pointer none, Value.int .i64 0, Value.pointer none, Value.int .i64 0, Value.pointer none, Value.int .i64 0, Value.slice none 0 0, Value.slice none 0 0] true 192 := ⟨by kernel_rfl, (fun h => by cases h), ⟨_, Tryz.underlying158, rfl⟩, by simp [Value.oneCell']⟩
instance : Und Tryz.prog 160 (.pointer 274) := ⟨Tryz.underlying160⟩
instance inf160 : Inf Tryz.prog 160 [Value.pointer none] false 8 := ⟨by kernel_rfl, (fun _ => rfl), ⟨_, Tryz.underlying160, rfl⟩, by simp [Value.oneCell']⟩
instance : Und Tryz.prog 164 (.pointer 231) := ⟨Tryz.underlying164⟩
instance inf164 : Inf Tryz.prog 164 [Value.pointer none] false 8 := ⟨by kernel_rfl, (fun _ => rfl), ⟨_, Tryz.underlying164, rfl⟩, by simp [Value.oneCell']⟩
instance inf168 : Inf Tryz.prog 168 [Value.bool false, Value.int .i64 0, Value.slice none 0 0] true 40 := ⟨by kernel_rfl, (fun h => by cases h), ⟨_, Tryz.underlying168, rfl⟩, by simp [Value.oneCell']⟩
instance inf169 : Inf Tryz.prog 169 [Value.bool false, Value.int .i64 0, Value.slice none 0 0] true 40 := ⟨by kernel_rfl, (fun h => by cases h), ⟨_, Tryz.underlying169, rfl⟩, by simp [Value.oneCell']⟩
instance : Und Tryz.prog 170 (.slice 60) := ⟨Tryz.underlying170⟩
instance inf170 : Inf Tryz.prog 170 [Value.slice none 0 0] false 24 := ⟨by kernel_rfl, (fun _ => rfl), ⟨_, Tryz.underlying170, rfl⟩, by simp [Value.oneCell']⟩
instance inf171 : Inf Tryz.prog 171 [Value.bool false, Value.bool false, Value.int .i64 0, Value.int .i64 0, Value.bool false, Value.int .i64 0, Value.slice none 0 0, Value.slice none 0 0] true 88 := ⟨by kernel_rfl, (fun h => by cases h), ⟨_, Tryz.underlying171, rfl⟩, by simp [Value.oneCell']⟩
instance inf172 : Inf Tryz.prog 172 [Value.bool false, Value.bool false, Value.int .i64 0, Value.int .i64 0, Value.bool false, Value.int .i64 0, Value.slice none 0 0, Value.slice none 0 0] true 88 := ⟨by kernel_rfl, (fun h => by cases h), ⟨_, Tryz.underlying172, rfl⟩, by simp [Value.oneCell']⟩
instance : Und Tryz.prog 178 (.pointer 5) := ⟨Tryz.underlying178⟩
instance inf178 : Inf Tryz.prog 178 [Value.pointer none] false 8 := ⟨by kernel_rfl, (fun _ => rfl), ⟨_, Tryz.underlying178, rfl⟩, by simp [Value.oneCell']⟩
instance : Und Tryz.prog 188 (.pointer 190) := ⟨Tryz.underlying188⟩
instance inf188 : Inf Tryz.prog 188 [Value.pointer none] false 8 := ⟨by kernel_rfl, (fun _ => rfl), ⟨_, Tryz.underlying188, rfl⟩, by simp [Value.oneCell']⟩
instance inf189 : Inf Tryz.prog 189 [Value.slice none 0 0] true 24 := ⟨by kernel_rfl, (fun h => by cases h), ⟨_, Tryz.underlying189, rfl⟩, by simp [Value.oneCell']⟩
instance inf190 : Inf Tryz.prog 190 [Value.slice none 0 0] true 24 := ⟨by kernel_rfl, (fun h => by cases h), ⟨_, Tryz.underlying190, rfl⟩, by simp [Value.oneCell']⟩
instance inf198 : Inf Tryz.prog 198 [Value.bool false, Value.bool false, Value.int .i64 0] true 16 := ⟨by kernel_rfl, (fun h => by cases h), ⟨_, Tryz.underlying198, rfl⟩, by simp [Value.oneCell']⟩
instance inf199 : Inf Tryz.prog 199 [Value.bool false, Value.bool false, Value.int .i64 0] true 16 := ⟨by kernel_rfl, (fun h => by cases h), ⟨_, Tryz.underlying199, rfl⟩, by simp [Value.oneCell']⟩
instance inf200 : Inf Tryz.prog 200 [Value.bool false, Value.bool false, Value.int .i64 0, Value.slice none 0 0, Value.slice none 0 0, Value.bool false] true 72 := ⟨by kernel_rfl, (fun h => by cases h), ⟨_, Tryz.underlying200, rfl⟩, by simp [Value.oneCell']⟩
instance inf201 : Inf Tryz.prog 201 [Value.bool false, Value.bool false, Value.int .i64 0, Value.slice none 0 0, Value.slice none 0 0, Value.bool false] true 72 := ⟨by kernel_rfl, (fun h => by cases h), ⟨_, Tryz.underlying201, rfl⟩, by simp [Value.oneCell']⟩
instance : Und Tryz.prog 207 (.pointer 118) := ⟨Tryz.underlying207⟩
instance inf207 : Inf Tryz.prog 207 [Value.pointer none] false 8 := ⟨by kernel_rfl, (fun _ => rfl), ⟨_, Tryz.underlying207, rfl⟩, by simp [Value.oneCell']⟩
instance : Und Tryz.prog 217 (.pointer 219) := ⟨Tryz.underlying217⟩
instance inf217 : Inf Tryz.prog 217 [Value.pointer none] false 8 := ⟨by kernel_rfl, (fun _ => rfl), ⟨_, Tryz.underlying217, rfl⟩, by simp [Value.oneCell']⟩
instance inf218 : Inf Tryz.prog 218 [Value.slice none 0 0, Value.int .i64 0, Value.bool false] true 40 := ⟨by kernel_rfl, (fun h => by cases h), ⟨_, Tryz.underlying218, rfl⟩, by simp [Value.oneCell']⟩
instance inf219 : Inf Tryz.prog 219 [Value.slice none 0 0, Value.int .i64 0, Value.bool false] true 40 := ⟨by kernel_rfl, (fun h => by cases h), ⟨_, Tryz.underlying219, rfl⟩, by simp [Value.oneCell']⟩
instance inf222 : Inf Tryz.prog 222 [Value.pointer none, Value.pointer none, Value.pointer none, Value.pointer none] true 32 := ⟨by kernel_rfl, (fun h => by cases h), ⟨_, Tryz.underlying222, rfl⟩, by simp [Value.oneCell']⟩
instance inf223 : Inf Tryz.prog 223 [Value.pointer none, Value.pointer none, Value.pointer none, Value.pointer none] true 32 := ⟨by kernel_rfl, (fun h => by cases h), ⟨_, Tryz.underlying223, rfl⟩, by simp [Value.oneCell']⟩
instance : Und Tryz.prog 224 (.map 3 3) := ⟨Tryz.underlying224⟩
instance inf224 : Inf Tryz.prog 224 [Value.map none] false 8 := ⟨by kernel_rfl, (fun _ => rfl), ⟨_, Tryz.underlying224, rfl⟩, by simp [Value.oneCell']⟩
instance : Und Tryz.prog 225 (.int .i64) := ⟨Tryz.underlying225⟩
instance inf225 : Inf Tryz.prog 225 [Value.int .i64 0] false 8 := ⟨by kernel_rfl, (fun _ => rfl), ⟨_, Tryz.underlying225, rfl⟩, by simp [Value.oneCell']⟩
instance : Und Tryz.prog 226 (.pointer 388) := ⟨Tryz.underlying226⟩
instance inf226 : Inf Tryz.prog 226 [Value.pointer none] false 8 := ⟨by kernel_rfl, (fun _ => rfl), ⟨_, Tryz.underlying226, rfl⟩, by simp [Value.oneCell']⟩
instance inf227 : Inf Tryz.prog 227 [Value.int .i64 0, Value.map none, Value.int .i64 0, Value.int .i64 0, Value.int .i64 0, Value.int .i64 0, Value.int .i64 0, Value.int .i64 0, Value.int .i64 0, Value.int .i64 0, Value.pointer none, Value.pointer none, Value.slice none 0 0, Value.slice none 0 0, Value.bool false, Value.bool false, Value.int .i64 0, Value.int .i64 0, Value.bool false, Value.int .i64 0, Value.slice none 0 0, Value.slice none 0 0, Value.int .i64 0, Value.int .i64 0, Value.bool false] true 256 := ⟨by kernel_rfl, (fun h => by cases h), ⟨_, Tryz.underlying227, rfl⟩, by simp [Value.oneCell']⟩
instance inf228 : Inf Tryz.prog 228 [Value.int .i64 0, Value.map none, Value.int .i64 0, Value.int .i64 0, Value.int .i64 0, Value.int .i64 0, Value.int .i64 0, Value.int .i64 0, Value.int .i64 0, Value.int .i64 0, Value.pointer none, Value.pointer none, Value.slice none 0 0, Value.slice none 0 0, Value.bool false, Value.bool false, Value.int .i64 0, Value.int .i64 0, Value.bool false, Value.int .i64 0, Value.slice none 0 0, Value.slice none 0 0, Value.int .i64 0, Value.int .i64 0, Value.bool false] true 256 := ⟨by kernel_rfl, (fun h => by cases h), ⟨_, Tryz.underlying228, rfl⟩, by simp [Value.oneCell']⟩
instance : Und Tryz.prog 229 (.map 3 389) := ⟨Tryz.underlying229⟩
instance inf229 : Inf Tryz.prog 229 [Value.map none] false 8 := ⟨by kernel_rfl, (fun _ => rfl), ⟨_, Tryz.underlying229, rfl⟩, by simp [Value.oneCell']⟩
instance inf230 : Inf Tryz.prog 230 [Value.int .i64 0, Value.map none] true 16 := ⟨by kernel_rfl, (fun h => by cases h), ⟨_, Tryz.underlying230, rfl⟩, by simp [Value.oneCell']⟩
instance inf231 : Inf Tryz.prog 231 [Value.int .i64 0, Value.map none] true 16 := ⟨by kernel_rfl, (fun h => by cases h), ⟨_, Tryz.underlying231, rfl⟩, by simp [Value.oneCell']⟩
instance : Und Tryz.prog 232 (.pointer 235) := ⟨Tryz.underlying232⟩
instance inf232 : Inf Tryz.prog 232 [Value.pointer none] false 8 := ⟨by kernel_rfl, (fun _ => rfl), ⟨_, Tryz.underlying232, rfl⟩, by simp [Value.oneCell']⟩
instance inf234 : Inf Tryz.prog 234 [Value.bool false, Value.bool false, Value.int .i64 0, Value.int .i64 0, Value.bool false, Value.int .i64 0, Value.slice none 0 0, Value.slice none 0 0, Value.bool false, Value.int .i64 0] true 104 := ⟨by kernel_rfl, (fun h => by cases h), ⟨_, Tryz.underlying234, rfl⟩, by simp [Value.oneCell']⟩
instance inf235 : Inf Tryz.prog 235 [Value.bool false, Value.bool false, Value.int .i64 0, Value.int .i64 0, Value.bool false, Value.int .i64 0, Value.slice none 0 0, Value.slice none 0 0, Value.bool false, Value.int .i64 0] true 104 := ⟨by kernel_rfl, (fun h => by cases h), ⟨_, Tryz.underlying235, rfl⟩, by simp [Value.oneCell']⟩
instance : Und Tryz.prog 255 (.pointer 199) := ⟨Tryz.underlying255⟩
instance inf255 : Inf Tryz.prog 255 [Value.pointer none] false 8 := ⟨by kernel_rfl, (fun _ => rfl), ⟨_, Tryz.underlying255, rfl⟩, by simp [Value.oneCell']⟩
instance : Und Tryz.prog 259 (.slice 261) := ⟨Tryz.underlying259⟩
instance inf259 : Inf Tryz.prog 259 [Value.slice none 0 0] false 24 := ⟨by kernel_rfl, (fun _ => rfl), ⟨_, Tryz.underlying259, rfl⟩, by simp [Value.oneCell']⟩
instance : Und Tryz.prog 261 (.pointer 3) := ⟨Tryz.underlying261⟩
instance inf261 : Inf Tryz.prog 261 [Value.pointer none] false 8 := ⟨by kernel_rfl, (fun _ => rfl), ⟨_, Tryz.underlying261, rfl⟩, by simp [Value.oneCell']⟩
instance : Und Tryz.prog 262 (.pointer 137) := ⟨Tryz.underlying262⟩
instance inf262 : Inf Tryz.prog 262 [Value.pointer none] false 8 := ⟨by kernel_rfl, (fun _ => rfl), ⟨_, Tryz.underlying262, rfl⟩, by simp [Value.oneCell']⟩
instance inf272 : Inf Tryz.prog 272 [Value.bool false, Value.bool false, Value.int .i64 0, Value.int .i64 0, Value.bool false, Value.int .i64 0, Value.slice none 0 0, Value.slice none 0 0, Value.bool false, Value.int .i64 0, Value.bool false, Value.bool false, Value.int .i64 0, Value.int .i64 0, Value.bool false, Value.int .i64 0, Value.slice none 0 0, Value.slice none 0 0, Value.bool false, Value.int .i64 0, Value.bool false, Value.bool false, Value.int .i64 0, Value.int .i64 0, Value.bool false, Value.int .i64 0, Value.slice none 0 0, Value.slice none 0 0, Value.bool false, Value.int .i64 0, Value.bool false, Value.bool false, Value.int .i64 0, Value.int .i64 0, Value.bool false, Value.int .i64 0, Value.slice none 0 0, Value.slice none 0 0, Value.bool false, Value.int .i64 0, Value.bool false, Value.bool false, Value.int .i64 0, Value.int .i64 0, Value.bool false, Value.int .i64 0, Value.slice none 0 0, Value.slice none 0 0, Value.bool false, Value.int .i64 0, Value.bool false, Value.bool false, Value.int .i64 0, Value.int .i64 0, Value.bool false, Value.int .i64 0, Value.slice none 0 0, Value.slice none 0 0, Value.bool false, Value.int .i64 0, Value.bool false, Value.bool false, Value.int .i64 0, Value.int .i64 0, Value.bool false, Value.int .i64 0, Value.slice none 0 0, Value.slice none 0 0, Value.bool false, Value.int .i64 0, Value.bool false, Value.bool false, Value.int .i64 0, Value.int .i64 0, Value.bool false, Value.int .i64 0, Value.slice none 0 0, Value.slice none 0 0, Value.bool false, Value.int .i64 0, Value.bool false, Value.bool false, Value.int .i64 0, Value.int .i64 0, Value.bool false, Value.int .i64 0, Value.slice none 0 0, Value.slice none 0 0, Value.bool false, Value.int .i64 0, Value.bool false, Value.bool false, Value.int .i64 0, Value.int .i64 0, Value.bool false, Value.int .i64 0, Value.slice none 0 0, Value.slice none 0 0, Value.bool false, Value.int .i64 0, Value.bool false, Value.bool false, Value.int .i64 0, Value.int .i64 0, Value.bool false, Value.int .i64 0, Value.slice none 0 0, Value.slice none 0 0, Value.bool false, Value.int .i64 0, Value.bool false, Value.bool false, Value.int .i64 0, Value.int .i64 0, Value.bool false, Value.int .i64 0, Value.slice none 0 0, Value.slice none 0 0, Value.bool false, Value.int .i64 0, Value.bool false, Value.bool false, Value.int .i64 0, Value.int .i64 0, Value.bool false, Value.int .i64 0, Value.slice none 0 0, Value.slice none 0 0, Value.bool false, Value.int .i64 0, Value.bool false, Value.bool false, Value.int .i64 0, Value.int .i64 0, Value.bool false, Value.int .i64 0, Value.slice none 0 0, Value.slice none 0 0, Value.bool false, Value.int .i64 0, Value.bool false, Value.bool false, Value.int .i64 0, Value.int .i64 0, Value.bool false, Value.int .i64 0, Value.slice none 0 0, Value.slice none 0 0, Value.bool false, Value.int .i64 0, Value.bool false, Value.bool false, Value.int .i64 0, Value.int .i64 0, Value.bool false, Value.int .i64 0, Value.slice none 0 0, Value.slice none 0 0, Value.bool false, Value.int .i64 0] true 1664 := ⟨by kernel_rfl, (fun h => by cases h), ⟨_, Tryz.underlying272, rfl⟩, by simp [Value.oneCell']⟩
instance inf273 : Inf Tryz.prog 273 [Value.bool false, Value.bool false, Value.int .i64 0, Value.int .i64 0, Value.bool false, Value.int .i64 0, Value.slice none 0 0, Value.slice none 0 0, Value.bool false, Value.int .i64 0, Value.bool false, Value.bool false, Value.int .i64 0, Value.int .i64 0, Value.bool false, Value.int .i64 0, Value.slice none 0 0, Value.slice none 0 0, Value.bool false, Value.int .i64 0, Value.bool false, Value.bool false, Value.int .i64 0, Value.int .i64 0, Value.bool false, Value.int .i64 0, Value.slice none 0 0, Value.slice none 0 0, Value.bool false, Value.int .i64 0, Value.bool false, Value.bool false, Value.int .i64 0, Value.int .i64 0, Value.bool false, Value.int .i64 0, Value.slice none 0 0, Value.slice none 0 0, Value.bool false, Value.int .i64 0, Value.bool false, Value.bool false, Value.int .i64 0, Value.int .i64 0, Value.bool false, Value.int .i64 0, Value.slice none 0 0, Value.slice none 0 0, Value.bool false, Value.int .i64 0, Value.bool false, Value.bool false, Value.int .i64 0, Value.int .i64 0, Value.bool false, Value.int .i64 0, Value.slice none 0 0, Value.slice none 0 0, Value.bool false, Value.int .i64 0, Value.bool false, Value.bool false, Value.int .i64 0, Value.int .i64 0, Value.bool false, Value.int .i64 0, Value.slice none 0 0, Value.slice none 0 0, Value.bool false, Value.int .i64 0, Value.bool false, Value.bool false, Value.int .i64 0, Value.int .i64 0, Value.bool false, Value.int .i64 0, Value.slice none 0 0, Value.slice none 0 0, Value.bool false, Value.int .i64 0, Value.bool false, Value.bool false, Value.int .i64 0, Value.int .i64 0, Value.bool false, Value.int .i64 0, Value.slice none 0 0, Value.slice none 0 0, Value.bool false, Value.int .i64 0, Value.bool false, Value.bool false, Value.int .i64 0, Value.int .i64 0, Value.bool false, Value.int .i64 0, Value.slice none 0 0, Value.slice none 0 0, Value.bool false, Value.int .i64 0, Value.bool false, Value.bool false, Value.int .i64 0, Value.int .i64 0, Value.bool false, Value.int .i64 0, Value.slice none 0 0, Value.slice none 0 0, Value.bool false, Value.int .i64 0, Value.bool false, Value.bool false, Value.int .i64 0, Value.int .i64 0, Value.bool false, Value.int .i64 0, Value.slice none 0 0, Value.slice none 0 0, Value.bool false, Value.int .i64 0, Value.bool false, Value.bool false, Value.int .i64 0, Value.int .i64 0, Value.bool false, Value.int .i64 0, Value.slice none 0 0, Value.slice none 0 0, Value.bool false, Value.int .i64 0, Value.bool false, Value.bool false, Value.int .i64 0, Value.int .i64 0, Value.bool false, Value.int .i64 0, Value.slice none 0 0, Value.slice none 0 0, Value.bool false, Value.int .i64 0, Value.bool false, Value.bool false, Value.int .i64 0, Value.int .i64 0, Value.bool false, Value.int .i64 0, Value.slice none 0 0, Value.slice none 0 0, Value.bool false, Value.int .i64 0, Value.bool false, Value.bool false, Value.int .i64 0, Value.int .i64 0, Value.bool false, Value.int .i64 0, Value.slice none 0 0, Value.slice none 0 0, Value.bool false, Value.int .i64 0] true 1664 := ⟨by kernel_rfl, (fun h => by cases h), ⟨_, Tryz.underlying273, rfl⟩, by simp [Value.oneCell']⟩
instance inf274 : Inf Tryz.prog 274 [Value.bool false, Value.bool false, Value.int .i64 0, Value.int .i64 0, Value.bool false, Value.int .i64 0, Value.slice none 0 0, Value.slice none 0 0, Value.bool false, Value.int .i64 0, Value.bool false, Value.bool false, Value.int .i64 0, Value.int .i64 0, Value.bool false, Value.int .i64 0, Value.slice none 0 0, Value.slice none 0 0, Value.bool false, Value.int .i64 0, Value.bool false, Value.bool false, Value.int .i64 0, Value.int .i64 0, Value.bool false, Value.int .i64 0, Value.slice none 0 0, Value.slice none 0 0, Value.bool false, Value.int .i64 0, Value.bool false, Value.bool false, Value.int .i64 0, Value.int .i64 0, Value.bool false, Value.int .i64 0, Value.slice none 0 0, Value.slice none 0 0, Value.bool false, Value.int .i64 0, Value.bool false, Value.bool false, Value.int .i64 0, Value.int .i64 0, Value.bool false, Value.int .i64 0, Value.slice none 0 0, Value.slice none 0 0, Value.bool false, Value.int .i64 0, Value.bool false, Value.bool false, Value.int .i64 0, Value.int .i64 0, Value.bool false, Value.int .i64 0, Value.slice none 0 0, Value.slice none 0 0, Value.bool false, Value.int .i64 0, Value.bool false, Value.bool false, Value.int .i64 0, Value.int .i64 0, Value.bool false, Value.int .i64 0, Value.slice none 0 0, Value.slice none 0 0, Value.bool false, Value.int .i64 0, Value.bool false, Value.bool false, Value.int .i64 0, Value.int .i64 0, Value.bool false, Value.int .i64 0, Value.slice none 0 0, Value.slice none 0 0, Value.bool false, Value.int .i64 0, Value.bool false, Value.bool false, Value.int .i64 0, Value.int .i64 0, Value.bool false, Value.int .i64 0, Value.slice none 0 0, Value.slice none 0 0, Value.bool false, Value.int .i64 0, Value.bool false, Value.bool false, Value.int .i64 0, Value.int .i64 0, Value.bool false, Value.int .i64 0, Value.slice none 0 0, Value.slice none 0 0, Value.bool false, Value.int .i64 0, Value.bool false, Value.bool false, Value.int .i64 0, Value.int .i64 0, Value.bool false, Value.int .i64 0, Value.slice none 0 0, Value.slice none 0 0, Value.bool false, Value.int .i64 0, Value.bool false, Value.bool false, Value.int .i64 0, Value.int .i64 0, Value.bool false, Value.int .i64 0, Value.slice none 0 0, Value.slice none 0 0, Value.bool false, Value.int .i64 0, Value.bool false, Value.bool false, Value.int .i64 0, Value.int .i64 0, Value.bool false, Value.int .i64 0, Value.slice none 0 0, Value.slice none 0 0, Value.bool false, Value.int .i64 0, Value.bool false, Value.bool false, Value.int .i64 0, Value.int .i64 0, Value.bool false, Value.int .i64 0, Value.slice none 0 0, Value.slice none 0 0, Value.bool false, Value.int .i64 0, Value.bool false, Value.bool false, Value.int .i64 0, Value.int .i64 0, Value.bool false, Value.int .i64 0, Value.slice none 0 0, Value.slice none 0 0, Value.bool false, Value.int .i64 0, Value.bool false, Value.bool false, Value.int .i64 0, Value.int .i64 0, Value.bool false, Value.int .i64 0, Value.slice none 0 0, Value.slice none 0 0, Value.bool false, Value.int .i64 0] true 1664 := ⟨by kernel_rfl, (fun h => by cases h), ⟨_, Tryz.underlying274, rfl⟩, by simp [Value.oneCell']⟩
instance inf277 : Inf Tryz.prog 277 (List.replicate 24 (Value.int .u8 0)) true 24 := ⟨by kernel_rfl, (fun h => by cases h), ⟨_, Tryz.underlying277, rfl⟩, by simp [Value.oneCell']⟩
instance : Und Tryz.prog 286 (.int .i64) := ⟨Tryz.underlying286⟩
instance inf286 : Inf Tryz.prog 286 [Value.int .i64 0] false 8 := ⟨by kernel_rfl, (fun _ => rfl), ⟨_, Tryz.underlying286, rfl⟩, by simp [Value.oneCell']⟩
instance : Und Tryz.prog 287 (.pointer 314) := ⟨Tryz.underlying287⟩
instance inf287 : Inf Tryz.prog 287 [Value.pointer none] false 8 := ⟨by kernel_rfl, (fun _ => rfl), ⟨_, Tryz.underlying287, rfl⟩, by simp [Value.oneCell']⟩
instance inf296 : Inf Tryz.prog 296 [Value.int .u64 0, Value.int .u64 0, Value.int .u64 0] true 24 := ⟨by kernel_rfl, (fun h => by cases h), ⟨_, Tryz.underlying296, rfl⟩, by simp [Value.oneCell']⟩
instance : Und Tryz.prog 298 (.pointer 319) := ⟨Tryz.underlying298⟩
instance inf298 : Inf Tryz.prog 298 [Value.pointer none] false 8 := ⟨by kernel_rfl, (fun _ => rfl), ⟨_, Tryz.underlying298, rfl⟩, by simp [Value.oneCell']⟩
instance inf301 : Inf Tryz.prog 301 (List.replicate 256 (Value.int .u32 0)) true 1024 := ⟨by kernel_rfl, (fun h => by cases h), ⟨_, Tryz.underlying301, rfl⟩, by simp [Value.oneCell']⟩
instance inf305 : Inf Tryz.prog 305 [Value.int .i64 0, Value.int .i64 0, Value.int .i64 0, Value.int .i64 0, Value.int .i64 0] true 40 := ⟨by kernel_rfl, (fun h => by cases h), ⟨_, Tryz.underlying305, rfl⟩, by simp [Value.oneCell']⟩
instance inf309 : Inf Tryz.prog 309 (List.replicate 20 (Value.int .u64 0)) true 160 := ⟨by kernel_rfl, (fun h => by cases h), ⟨_, Tryz.underlying309, rfl⟩, by simp [Value.oneCell']⟩
instance inf310 : Inf Tryz.prog 310 (List.replicate 65 (Value.int .u8 0)) true 65 := ⟨by kernel_rfl, (fun h => by cases h), ⟨_, Tryz.underlying310, rfl⟩, by simp [Value.oneCell']⟩
instance inf313 : Inf Tryz.prog 313 [Value.string ByteArray.empty, Value.string ByteArray.empty, Value.nilIface] true 48 := ⟨by kernel_rfl, (fun h => by cases h), ⟨_, Tryz.underlying313, rfl⟩, by simp [Value.oneCell']⟩
instance inf314 : Inf Tryz.prog 314 [Value.string ByteArray.empty, Value.string ByteArray.empty, Value.nilIface] true 48 := ⟨by kernel_rfl, (fun h => by cases h), ⟨_, Tryz.underlying314, rfl⟩, by simp [Value.oneCell']⟩
instance inf316 : Inf Tryz.prog 316 (List.replicate 16 (Value.int .i64 0)) true 128 := ⟨by kernel_rfl, (fun h => by cases h), ⟨_, Tryz.underlying316, rfl⟩, by simp [Value.oneCell']⟩
instance inf318 : Inf Tryz.prog 318 [Value.slice none 0 0, Value.int .i64 0, Value.bool false] true 40 := ⟨by kernel_rfl, (fun h => by cases h), ⟨_, Tryz.underlying318, rfl⟩, by simp [Value.oneCell']⟩
instance inf319 : Inf Tryz.prog 319 [Value.slice none 0 0, Value.int .i64 0, Value.bool false] true 40 := ⟨by kernel_rfl, (fun h => by cases h), ⟨_, Tryz.underlying319, rfl⟩, by simp [Value.oneCell']⟩
instance : Und Tryz.prog 322 (.pointer 352) := ⟨Tryz.underlying322⟩
instance inf322 : Inf Tryz.prog 322 [Value.pointer none] false 8 := ⟨by kernel_rfl, (fun _ => rfl), ⟨_, Tryz.underlying322, rfl⟩, by simp [Value.oneCell']⟩
instance inf326 : Inf Tryz.prog 326 (List.replicate 256 (Value.int .u8 0)) true 256 := ⟨by kernel_rfl, (fun h => by cases h), ⟨_, Tryz.underlying326, rfl⟩, by simp [Value.oneCell']⟩
instance inf327 : Inf Tryz.prog 327 [Value.int .u8 0, Value.int .u8 0] true 2 := ⟨by kernel_rfl, (fun h => by cases h), ⟨_, Tryz.underlying327, rfl⟩, by simp [Value.oneCell']⟩
instance inf328 : Inf Tryz.prog 328 [Value.int .u8 0, Value.int .u8 0] true 2 := ⟨by kernel_rfl, (fun h => by cases h), ⟨_, Tryz.underlying328, rfl⟩, by simp [Value.oneCell']⟩
instance inf329 : Inf Tryz.prog 329 (List.replicate 32 (Value.int .u8 0)) true 32 := ⟨by kernel_rfl, (fun h => by cases h), ⟨_, Tryz.underlying329, rfl⟩, by simp [Value.oneCell']⟩
instance : Und Tryz.prog 332 (.pointer 334) := ⟨Tryz.underlying332⟩
instance inf332 : Inf Tryz.prog 332 [Value.pointer none] false 8 := ⟨by kernel_rfl, (fun _ => rfl), ⟨_, Tryz.underlying332, rfl⟩, by simp [Value.oneCell']⟩
instance inf333 : Inf Tryz.prog 333 [Value.string ByteArray.empty] true 16 := ⟨by kernel_rfl, (fun h => by cases h), ⟨_, Tryz.underlying333, rfl⟩, by simp [Value.oneCell']⟩
instance inf334 : Inf Tryz.prog 334 [Value.string ByteArray.empty] true 16 := ⟨by kernel_rfl, (fun h => by cases h), ⟨_, Tryz.underlying334, rfl⟩, by simp [Value.oneCell']⟩
instance inf336 : Inf Tryz.prog 336 [Value.int .u64 0, Value.int .i64 0, Value.int .i64 0] true 24 := ⟨by kernel_rfl, (fun h => by cases h), ⟨_, Tryz.underlying336, rfl⟩, by simp [Value.oneCell']⟩
instance inf337 : Inf Tryz.prog 337 [Value.int .u64 0, Value.int .i64 0, Value.int .i64 0] true 24 := ⟨by kernel_rfl, (fun h => by cases h), ⟨_, Tryz.underlying337, rfl⟩, by simp [Value.oneCell']⟩
instance inf339 : Inf Tryz.prog 339 [Value.bool false, Value.int .i64 0, Value.int .i64 0] true 24 := ⟨by kernel_rfl, (fun h => by cases h), ⟨_, Tryz.underlying339, rfl⟩, by simp [Value.oneCell']⟩
instance inf340 : Inf Tryz.prog 340 [Value.bool false, Value.int .i64 0, Value.int .i64 0] true 24 := ⟨by kernel_rfl, (fun h => by cases h), ⟨_, Tryz.underlying340, rfl⟩, by simp [Value.oneCell']⟩
instance : Und Tryz.prog 343 (.pointer 340) := ⟨Tryz.underlying343⟩
instance inf343 : Inf Tryz.prog 343 [Value.pointer none] false 8 := ⟨by kernel_rfl, (fun _ => rfl), ⟨_, Tryz.underlying343, rfl⟩, by simp [Value.oneCell']⟩
instance : Und Tryz.prog 344 (.slice 347) := ⟨Tryz.underlying344⟩
instance inf344 : Inf Tryz.prog 344 [Value.slice none 0 0] false 24 := ⟨by kernel_rfl, (fun _ => rfl), ⟨_, Tryz.underlying344, rfl⟩, by simp [Value.oneCell']⟩
instance inf346 : Inf Tryz.prog 346 [Value.int .i64 0, Value.int .i64 0] true 16 := ⟨by kernel_rfl, (fun h => by cases h), ⟨_, Tryz.underlying346, rfl⟩, by simp [Value.oneCell']⟩
instance inf347 : Inf Tryz.prog 347 [Value.int .i64 0, Value.int .i64 0] true 16 := ⟨by kernel_rfl, (fun h => by cases h), ⟨_, Tryz.underlying347, rfl⟩, by simp [Value.oneCell']⟩
instance inf351 : Inf Tryz.prog 351 [Value.slice none 0 0, Value.int .i64 0] true 32 := ⟨by kernel_rfl, (fun h => by cases h), ⟨_, Tryz.underlying351, rfl⟩, by simp [Value.oneCell']⟩
instance inf352 : Inf Tryz.prog 352 [Value.slice none 0 0, Value.int .i64 0] true 32 := ⟨by kernel_rfl, (fun h => by cases h), ⟨_, Tryz.underlying352, rfl⟩, by simp [Value.oneCell']⟩
instance inf354 : Inf Tryz.prog 354 (List.replicate 32 (Value.int .u8 0)) true 32 := ⟨by kernel_rfl, (fun h => by cases h), ⟨_, Tryz.underlying354, rfl⟩, by simp [Value.oneCell']⟩
instance inf355 : Inf Tryz.prog 355 (List.replicate 64 (Value.int .u8 0)) true 64 := ⟨by kernel_rfl, (fun h => by cases h), ⟨_, Tryz.underlying355, rfl⟩, by simp [Value.oneCell']⟩
instance : Und Tryz.prog 360 (.map 30 3) := ⟨Tryz.underlying360⟩
instance inf360 : Inf Tryz.prog 360 [Value.map none] false 8 := ⟨by kernel_rfl, (fun _ => rfl), ⟨_, Tryz.underlying360, rfl⟩, by simp [Value.oneCell']⟩
instance : Und Tryz.prog 377 (.int .i64) := ⟨Tryz.underlying377⟩
instance inf377 : Inf Tryz.prog 377 [Value.int .i64 0] false 8 := ⟨by kernel_rfl, (fun _ => rfl), ⟨_, Tryz.underlying377, rfl⟩, by simp [Value.oneCell']⟩
instance inf378 : Inf Tryz.prog 378 [Value.int .i64 0, Value.int .i64 0, Value.int .i64 0, Value.int .i64 0, Value.slice none 0 0, Value.slice none 0 0] true 80 := ⟨by kernel_rfl, (fun h => by cases h), ⟨_, Tryz.underlying378, rfl⟩, by simp [Value.oneCell']⟩
instance inf379 : Inf Tryz.prog 379 [Value.int .i64 0, Value.int .i64 0, Value.int .i64 0, Value.int .i64 0, Value.slice none 0 0, Value.slice none 0 0] true 80 := ⟨by kernel_rfl, (fun h => by cases h), ⟨_, Tryz.underlying379, rfl⟩, by simp [Value.oneCell']⟩
instance inf380 : Inf Tryz.prog 380 [Value.int .i64 0, Value.int .i64 0, Value.int .i64 0, Value.int .i64 0, Value.int .i64 0, Value.int .u64 0, Value.int .i64 0, Value.int .i64 0, Value.int .i64 0, Value.int .i64 0, Value.bool false, Value.bool false, Value.int .i64 0, Value.int .i64 0, Value.bool false, Value.int .i64 0, Value.slice none 0 0, Value.slice none 0 0, Value.bool false, Value.bool false, Value.int .i64 0, Value.int .i64 0, Value.bool false, Value.int .i64 0, Value.slice none 0 0, Value.slice none 0 0, Value.bool false, Value.bool false, Value.bool false, Value.int .i64 0, Value.int .i64 0, Value.int .i64 0, Value.int .i64 0, Value.slice none 0 0, Value.slice none 0 0, Value.int .i64 0, Value.pointer none, Value.int .i64 0, Value.slice none 0 0, Value.int .i64 0, Value.bool false, Value.int .i64 0, Value.int .i64 0, Value.slice none 0 0] true 448 := ⟨by kernel_rfl, (fun h => by cases h), ⟨_, Tryz.underlying380, rfl⟩, by simp [Value.oneCell']⟩
instance inf381 : Inf Tryz.prog 381 [Value.int .i64 0, Value.int .i64 0, Value.int .i64 0, Value.int .i64 0, Value.int .i64 0, Value.int .u64 0, Value.int .i64 0, Value.int .i64 0, Value.int .i64 0, Value.int .i64 0, Value.bool false, Value.bool false, Value.int .i64 0, Value.int .i64 0, Value.bool false, Value.int .i64 0, Value.slice none 0 0, Value.slice none 0 0, Value.bool false, Value.bool false, Value.int .i64 0, Value.int .i64 0, Value.bool false, Value.int .i64 0, Value.slice none 0 0, Value.slice none 0 0, Value.bool false, Value.bool false, Value.bool false, Value.int .i64 0, Value.int .i64 0, Value.int .i64 0, Value.int .i64 0, Value.slice none 0 0, Value.slice none 0 0, Value.int .i64 0, Value.pointer none, Value.int .i64 0, Value.slice none 0 0, Value.int .i64 0, Value.bool false, Value.int .i64 0, Value.int .i64 0, Value.slice none 0 0] true 448 := ⟨by kernel_rfl, (fun h => by cases h), ⟨_, Tryz.underlying381, rfl⟩, by simp [Value.oneCell']⟩
instance inf382 : Inf Tryz.prog 382 [Value.int .i64 0, Value.int .i64 0, Value.int .i64 0, Value.int .i64 0, Value.int .i64 0, Value.int .i64 0, Value.int .i64 0, Value.int .u64 0, Value.int .i64 0, Value.int .i64 0, Value.int .i64 0, Value.int .i64 0, Value.int .i64 0, Value.slice none 0 0] true 128 := ⟨by kernel_rfl, (fun h => by cases h), ⟨_, Tryz.underlying382, rfl⟩, by simp [Value.oneCell']⟩
instance inf383 : Inf Tryz.prog 383 [Value.int .i64 0, Value.int .i64 0, Value.int .i64 0, Value.int .i64 0, Value.int .i64 0, Value.int .i64 0, Value.int .i64 0, Value.int .u64 0, Value.int .i64 0, Value.int .i64 0, Value.int .i64 0, Value.int .i64 0, Value.int .i64 0, Value.slice none 0 0] true 128 := ⟨by kernel_rfl, (fun h => by cases h), ⟨_, Tryz.underlying383, rfl⟩, by simp [Value.oneCell']⟩
instance inf384 : Inf Tryz.prog 384 [Value.int .i64 0, Value.int .i64 0] true 16 := ⟨by kernel_rfl, (fun h => by cases h), ⟨_, Tryz.underlying384, rfl⟩, by simp [Value.oneCell']⟩
instance inf385 : Inf Tryz.prog 385 [Value.int .i64 0, Value.int .i64 0] true 16 := ⟨by kernel_rfl, (fun h => by cases h), ⟨_, Tryz.underlying385, rfl⟩, by simp [Value.oneCell']⟩
instance inf387 : Inf Tryz.prog 387 [Value.bool false, Value.bool false, Value.int .i64 0, Value.int .i64 0, Value.slice none 0 0, Value.slice none 0 0, Value.bool false] true 80 := ⟨by kernel_rfl, (fun h => by cases h), ⟨_, Tryz.underlying387, rfl⟩, by simp [Value.oneCell']⟩
instance inf388 : Inf Tryz.prog 388 [Value.bool false, Value.bool false, Value.int .i64 0, Value.int .i64 0, Value.slice none 0 0, Value.slice none 0 0, Value.bool false] true 80 := ⟨by kernel_rfl, (fun h => by cases h), ⟨_, Tryz.underlying388, rfl⟩, by simp [Value.oneCell']⟩
instance : Und Tryz.prog 389 (.pointer 391) := ⟨Tryz.underlying389⟩
instance inf389 : Inf Tryz.prog 389 [Value.pointer none] false 8 := ⟨by kernel_rfl, (fun _ => rfl), ⟨_, Tryz.underlying389, rfl⟩, by simp [Value.oneCell']⟩
instance inf390 : Inf Tryz.prog 390 [Value.int .i64 0, Value.int .i64 0, Value.int .i64 0, Value.int .i64 0, Value.int .i64 0, Value.int .i64 0, Value.slice none 0 0, Value.slice none 0 0, Value.bool false, Value.int .i64 0] true 112 := ⟨by kernel_rfl, (fun h => by cases h), ⟨_, Tryz.underlying390, rfl⟩, by simp [Value.oneCell']⟩
instance inf391 : Inf Tryz.prog 391 [Value.int .i64 0, Value.int .i64 0, Value.int .i64 0, Value.int .i64 0, Value.int .i64 0, Value.int .i64 0, Value.slice none 0 0, Value.slice none 0 0, Value.bool false, Value.int .i64 0] true 112 := ⟨by kernel_rfl, (fun h => by cases h), ⟨_, Tryz.underlying391, rfl⟩, by simp [Value.oneCell']⟩
instance : FA Tryz.prog 13 0 0 := FA.mk' Tryz.underlying13 rfl inf9 (List.cons_ne_nil _ _)
instance : FA Tryz.prog 13 1 1 := FA.mk' Tryz.underlying13 rfl inf12 (List.cons_ne_nil _ _)
instance : Pl Tryz.prog 13 [Value.string ByteArray.empty, Value.int .u64 0] [(0, 1), (1, 1)] := Pl.mk' Tryz.underlying13 inf13 (by kernel_rfl)
instance : FA Tryz.prog 24 0 0 := FA.mk' Tryz.underlying24 rfl inf22 (List.cons_ne_nil _ _)
instance : FA Tryz.prog 24 1 1 := FA.mk' Tryz.underlying24 rfl inf3 (List.cons_ne_nil _ _)
instance : FA Tryz.prog 24 2 2 := FA.mk' Tryz.underlying24 rfl inf23 (List.cons_ne_nil _ _)
instance : Pl Tryz.prog 24 [Value.int .i64 0, Value.int .i64 0, Value.slice none 0 0] [(0, 1), (1, 1), (2, 1)] := Pl.mk' Tryz.underlying24 inf24 (by kernel_rfl)
instance : FA Tryz.prog 25 0 0 := FA.mk' Tryz.underlying25 rfl inf22 (List.cons_ne_nil _ _)
instance : FA Tryz.prog 25 1 1 := FA.mk' Tryz.underlying25 rfl inf3 (List.cons_ne_nil _ _)
instance : FA Tryz.prog 25 2 2 := FA.mk' Tryz.underlying25 rfl inf23 (List.cons_ne_nil _ _)
instance : Pl Tryz.prog 25 [Value.int .i64 0, Value.int .i64 0, Value.slice none 0 0] [(0, 1), (1, 1), (2, 1)] := Pl.mk' Tryz.underlying25 inf25 (by kernel_rfl)
instance : FA Tryz.prog 31 0 0 := FA.mk' Tryz.underlying31 rfl inf3 (List.cons_ne_nil _ _)
instance : FA Tryz.prog 31 1 1 := FA.mk' Tryz.underlying31 rfl inf3 (List.cons_ne_nil _ _)
instance : FA Tryz.prog 31 2 2 := FA.mk' Tryz.underlying31 rfl inf3 (List.cons_ne_nil _ _)
instance : FA Tryz.prog 31 3 3 := FA.mk' Tryz.underlying31 rfl inf2 (List.cons_ne_nil _ _)
instance : FA Tryz.prog 31 4 4 := FA.mk' Tryz.underlying31 rfl inf30 (List.cons_ne_nil _ _)
instance : FA Tryz.prog 31 5 5 := FA.mk' Tryz.underlying31 rfl inf2 (List.cons_ne_nil _ _)
instance : FA Tryz.prog 31 6 6 := FA.mk' Tryz.underlying31 rfl inf2 (List.cons_ne_nil _ _)
instance : FA Tryz.prog 31 7 7 := FA.mk' Tryz.underlying31 rfl inf3 (List.cons_ne_nil _ _)
instance : Pl Tryz.prog 31 [Value.int .i64 0, Value.int .i64 0, Value.int .i64 0, Value.int .i64 0, Value.int .u64 0, Value.int .i64 0, Value.int .i64 0, Value.int .i64 0] [(0, 1), (1, 1), (2, 1), (3, 1), (4, 1), (5, 1), (6, 1), (7, 1)] := Pl.mk' Tryz.underlying31 inf31 (by kernel_rfl)
instance : FA Tryz.prog 32 0 0 := FA.mk' Tryz.underlying32 rfl inf3 (List.cons_ne_nil _ _)
instance : FA Tryz.prog 32 1 1 := FA.mk' Tryz.underlying32 rfl inf3 (List.cons_ne_nil _ _)
instance : FA Tryz.prog 32 2 2 := FA.mk' Tryz.underlying32 rfl inf3 (List.cons_ne_nil _ _)
instance : FA Tryz.prog 32 3 3 := FA.mk' Tryz.underlying32 rfl inf2 (List.cons_ne_nil _ _)
instance : FA Tryz.prog 32 4 4 := FA.mk' Tryz.underlying32 rfl inf30 (List.cons_ne_nil _ _)
instance : FA Tryz.prog 32 5 5 := FA.mk' Tryz.underlying32 rfl inf2 (List.cons_ne_nil _ _)
instance : FA Tryz.prog 32 6 6 := FA.mk' Tryz.underlying32 rfl inf2 (List.cons_ne_nil _ _)
instance : FA Tryz.prog 32 7 7 := FA.mk' Tryz.underlying32 rfl inf3 (List.cons_ne_nil _ _)
instance : Pl Tryz.prog 32 [Value.int .i64 0, Value.int .i64 0, Value.int .i64 0, Value.int .i64 0, Value.int .u64 0, Value.int .i64 0, Value.int .i64 0, Value.int .i64 0] [(0, 1), (1, 1), (2, 1), (3, 1), (4, 1), (5, 1), (6, 1), (7, 1)] := Pl.mk' Tryz.underlying32 inf32 (by kernel_rfl)
instance : FA Tryz.prog 43 0 0 := FA.mk' Tryz.underlying43 rfl inf9 (List.cons_ne_nil _ _)
instance : FA Tryz.prog 43 1 1 := FA.mk' Tryz.underlying43 rfl inf4 (List.cons_ne_nil _ _)
instance : Pl Tryz.prog 43 [Value.string ByteArray.empty, Value.bool false] [(0, 1), (1, 1)] := Pl.mk' Tryz.underlying43 inf43 (by kernel_rfl)
instance : FA Tryz.prog 57 0 0 := FA.mk' Tryz.underlying57 rfl inf2 (List.cons_ne_nil _ _)
instance : FA Tryz.prog 57 1 1 := FA.mk' Tryz.underlying57 rfl inf30 (List.cons_ne_nil _ _)
instance : Pl Tryz.prog 57 [Value.int .i64 0, Value.int .u64 0] [(0, 1), (1, 1)] := Pl.mk' Tryz.underlying57 inf57 (by kernel_rfl)
instance : FA Tryz.prog 58 0 0 := FA.mk' Tryz.underlying58 rfl inf2 (List.cons_ne_nil _ _)
instance : FA Tryz.prog 58 1 1 := FA.mk' Tryz.underlying58 rfl inf30 (List.cons_ne_nil _ _)
instance : Pl Tryz.prog 58 [Value.int .i64 0, Value.int .u64 0] [(0, 1), (1, 1)] := Pl.mk' Tryz.underlying58 inf58 (by kernel_rfl)
instance : FA Tryz.prog 59 0 0 := FA.mk' Tryz.underlying59 rfl inf3 (List.cons_ne_nil _ _)
instance : FA Tryz.prog 59 1 1 := FA.mk' Tryz.underlying59 rfl inf3 (List.cons_ne_nil _ _)
instance : FA Tryz.prog 59 2 2 := FA.mk' Tryz.underlying59 rfl inf3 (List.cons_ne_nil _ _)
instance : FA Tryz.prog 59 3 3 := FA.mk' Tryz.underlying59 rfl inf2 (List.cons_ne_nil _ _)
instance : FA Tryz.prog 59 4 4 := FA.mk' Tryz.underlying59 rfl inf2 (List.cons_ne_nil _ _)
instance : Pl Tryz.prog 59 [Value.int .i64 0, Value.int .i64 0, Value.int .i64 0, Value.int .i64 0, Value.int .i64 0] [(0, 1), (1, 1), (2, 1), (3, 1), (4, 1)] := Pl.mk' Tryz.underlying59 inf59 (by kernel_rfl)
instance : FA Tryz.prog 60 0 0 := FA.mk' Tryz.underlying60 rfl inf3 (List.cons_ne_nil _ _)
instance : FA Tryz.prog 60 1 1 := FA.mk' Tryz.underlying60 rfl inf3 (List.cons_ne_nil _ _)
instance : FA Tryz.prog 60 2 2 := FA.mk' Tryz.underlying60 rfl inf3 (List.cons_ne_nil _ _)
instance : FA Tryz.prog 60 3 3 := FA.mk' Tryz.underlying60 rfl inf2 (List.cons_ne_nil _ _)
instance : FA Tryz.prog 60 4 4 := FA.mk' Tryz.underlying60 rfl inf2 (List.cons_ne_nil _ _)
instance : Pl Tryz.prog 60 [Value.int .i64 0, Value.int .i64 0, Value.int .i64 0, Value.int .i64 0, Value.int .i64 0] [(0, 1), (1, 1), (2, 1), (3, 1), (4, 1)] := Pl.mk' Tryz.underlying60 inf60 (by kernel_rfl)
instance : FA Tryz.prog 71 0 0 := FA.mk' Tryz.underlying71 rfl inf3 (List.cons_ne_nil _ _)
instance : FA Tryz.prog 71 1 1 := FA.mk' Tryz.underlying71 rfl inf3 (List.cons_ne_nil _ _)
instance : FA Tryz.prog 71 2 2 := FA.mk' Tryz.underlying71 rfl inf3 (List.cons_ne_nil _ _)
instance : Pl Tryz.prog 71 [Value.int .i64 0, Value.int .i64 0, Value.int .i64 0] [(0, 1), (1, 1), (2, 1)] := Pl.mk' Tryz.underlying71 inf71 (by kernel_rfl)
instance : FA Tryz.prog 72 0 0 := FA.mk' Tryz.underlying72 rfl inf3 (List.cons_ne_nil _ _)
instance : FA Tryz.prog 72 1 1 := FA.mk' Tryz.underlying72 rfl inf3 (List.cons_ne_nil _ _)
instance : FA Tryz.prog 72 2 2 := FA.mk' Tryz.underlying72 rfl inf3 (List.cons_ne_nil _ _)
instance : Pl Tryz.prog 72 [Value.int .i64 0, Value.int .i64 0, Value.int .i64 0] [(0, 1), (1, 1), (2, 1)] := Pl.mk' Tryz.underlying72 inf72 (by kernel_rfl)
instance : FA Tryz.prog 90 0 0 := FA.mk' Tryz.underlying90 rfl inf89 (List.cons_ne_nil _ _)
instance : FA Tryz.prog 90 1 1 := FA.mk' Tryz.underlying90 rfl inf38 (List.cons_ne_nil _ _)
instance : Pl Tryz.prog 90 [Value.pointer none, Value.slice none 0 0] [(0, 1), (1, 1)] := Pl.mk' Tryz.underlying90 inf90 (by kernel_rfl)
instance : FA Tryz.prog 91 0 0 := FA.mk' Tryz.underlying91 rfl inf89 (List.cons_ne_nil _ _)
instance : FA Tryz.prog 91 1 1 := FA.mk' Tryz.underlying91 rfl inf38 (List.cons_ne_nil _ _)
instance : Pl Tryz.prog 91 [Value.pointer none, Value.slice none 0 0] [(0, 1), (1, 1)] := Pl.mk' Tryz.underlying91 inf91 (by kernel_rfl)
instance : FA Tryz.prog 102 0 0 := FA.mk' Tryz.underlying102 rfl inf100 (List.cons_ne_nil _ _)
instance : Pl Tryz.prog 102 [Value.slice none 0 0] [(0, 1)] := Pl.mk' Tryz.underlying102 inf102 (by kernel_rfl)
instance : FA Tryz.prog 103 0 0 := FA.mk' Tryz.underlying103 rfl inf100 (List.cons_ne_nil _ _)
instance : Pl Tryz.prog 103 [Value.slice none 0 0] [(0, 1)] := Pl.mk' Tryz.underlying103 inf103 (by kernel_rfl)
instance : FA Tryz.prog 114 0 0 := FA.mk' Tryz.underlying114 rfl inf3 (List.cons_ne_nil _ _)
instance : FA Tryz.prog 114 1 1 := FA.mk' Tryz.underlying114 rfl inf3 (List.cons_ne_nil _ _)
instance : FA Tryz.prog 114 2 2 := FA.mk' Tryz.underlying114 rfl inf3 (List.cons_ne_nil _ _)
instance : FA Tryz.prog 114 3 3 := FA.mk' Tryz.underlying114 rfl inf3 (List.cons_ne_nil _ _)
instance : FA Tryz.prog 114 4 4 := FA.mk' Tryz.underlying114 rfl inf113 (List.cons_ne_nil _ _)
instance : Pl Tryz.prog 114 [Value.int .i64 0, Value.int .i64 0, Value.int .i64 0, Value.int .i64 0, Value.map none] [(0, 1), (1, 1), (2, 1), (3, 1), (4, 1)] := Pl.mk' Tryz.underlying114 inf114 (by kernel_rfl)
instance : FA Tryz.prog 115 0 0 := FA.mk' Tryz.underlying115 rfl inf3 (List.cons_ne_nil _ _)
instance : FA Tryz.prog 115 1 1 := FA.mk' Tryz.underlying115 rfl inf3 (List.cons_ne_nil _ _)
instance : FA Tryz.prog 115 2 2 := FA.mk' Tryz.underlying115 rfl inf3 (List.cons_ne_nil _ _)
instance : FA Tryz.prog 115 3 3 := FA.mk' Tryz.underlying115 rfl inf3 (List.cons_ne_nil _ _)
instance : FA Tryz.prog 115 4 4 := FA.mk' Tryz.underlying115 rfl inf113 (List.cons_ne_nil _ _)
instance : Pl Tryz.prog 115 [Value.int .i64 0, Value.int .i64 0, Value.int .i64 0, Value.int .i64 0, Value.map none] [(0, 1), (1, 1), (2, 1), (3, 1), (4, 1)] := Pl.mk' Tryz.underlying115 inf115 (by kernel_rfl)
instance : FA Tryz.prog 117 0 0 := FA.mk' Tryz.underlying117 rfl inf3 (List.cons_ne_nil _ _)
instance : FA Tryz.prog 117 1 1 := FA.mk' Tryz.underlying117 rfl inf3 (List.cons_ne_nil _ _)
instance : FA Tryz.prog 117 2 2 := FA.mk' Tryz.underlying117 rfl inf116 (List.cons_ne_nil _ _)
instance : FA Tryz.prog 117 3 3 := FA.mk' Tryz.underlying117 rfl inf3 (List.cons_ne_nil _ _)
instance : FA Tryz.prog 117 4 4 := FA.mk' Tryz.underlying117 rfl inf3 (List.cons_ne_nil _ _)
instance : FA Tryz.prog 117 5 5 := FA.mk' Tryz.underlying117 rfl inf3 (List.cons_ne_nil _ _)
instance : Pl Tryz.prog 117 [Value.int .i64 0, Value.int .i64 0, Value.slice none 0 0, Value.int .i64 0, Value.int .i64 0, Value.int .i64 0] [(0, 1), (1, 1), (2, 1), (3, 1), (4, 1), (5, 1)] := Pl.mk' Tryz.underlying117 inf117 (by kernel_rfl)
instance : FA Tryz.prog 118 0 0 := FA.mk' Tryz.underlying118 rfl inf3 (List.cons_ne_nil _ _)
instance : FA Tryz.prog 118 1 1 := FA.mk' Tryz.underlying118 rfl inf3 (List.cons_ne_nil _ _)
instance : FA Tryz.prog 118 2 2 := FA.mk' Tryz.underlying118 rfl inf116 (List.cons_ne_nil _ _)
instance : FA Tryz.prog 118 3 3 := FA.mk' Tryz.underlying118 rfl inf3 (List.cons_ne_nil _ _)
instance : FA Tryz.prog 118 4 4 := FA.mk' Tryz.underlying118 rfl inf3 (List.cons_ne_nil _ _)
instance : FA Tryz.prog 118 5 5 := FA.mk' Tryz.underlying118 rfl inf3 (List.cons_ne_nil _ _)
instance : Pl Tryz.prog 118 [Value.int .i64 0, Value.int .i64 0, Value.slice none 0 0, Value.int .i64 0, Value.int .i64 0, Value.int .i64 0] [(0, 1), (1, 1), (2, 1), (3, 1), (4, 1), (5, 1)] := Pl.mk' Tryz.underlying118 inf118 (by kernel_rfl)
instance : FA Tryz.prog 121 0 0 := FA.mk' Tryz.underlying121 rfl inf118 (List.cons_ne_nil _ _)
instance : FA Tryz.prog 121 1 6 := FA.mk' Tryz.underlying121 rfl inf120 (List.cons_ne_nil _ _)
instance : Pl Tryz.prog 121 [Value.int .i64 0, Value.int .i64 0, Value.slice none 0 0, Value.int .i64 0, Value.int .i64 0, Value.int .i64 0, Value.map none] [(0, 6), (6, 1)] := Pl.mk' Tryz.underlying121 inf121 (by kernel_rfl)
instance : FA Tryz.prog 122 0 0 := FA.mk' Tryz.underlying122 rfl inf118 (List.cons_ne_nil _ _)
instance : FA Tryz.prog 122 1 6 := FA.mk' Tryz.underlying122 rfl inf120 (List.cons_ne_nil _ _)
instance : Pl Tryz.prog 122 [Value.int .i64 0, Value.int .i64 0, Value.slice none 0 0, Value.int .i64 0, Value.int .i64 0, Value.int .i64 0, Value.map none] [(0, 6), (6, 1)] := Pl.mk' Tryz.underlying122 inf122 (by kernel_rfl)
instance : FA Tryz.prog 125 0 0 := FA.mk' Tryz.underlying125 rfl inf38 (List.cons_ne_nil _ _)
instance : FA Tryz.prog 125 1 1 := FA.mk' Tryz.underlying125 rfl inf3 (List.cons_ne_nil _ _)
instance : Pl Tryz.prog 125 [Value.slice none 0 0, Value.int .i64 0] [(0, 1), (1, 1)] := Pl.mk' Tryz.underlying125 inf125 (by kernel_rfl)
instance : FA Tryz.prog 126 0 0 := FA.mk' Tryz.underlying126 rfl inf38 (List.cons_ne_nil _ _)
instance : FA Tryz.prog 126 1 1 := FA.mk' Tryz.underlying126 rfl inf3 (List.cons_ne_nil _ _)
instance : Pl Tryz.prog 126 [Value.slice none 0 0, Value.int .i64 0] [(0, 1), (1, 1)] := Pl.mk' Tryz.underlying126 inf126 (by kernel_rfl)
instance : FA Tryz.prog 128 0 0 := FA.mk' Tryz.underlying128 rfl inf72 (List.cons_ne_nil _ _)
instance : FA Tryz.prog 128 1 3 := FA.mk' Tryz.underlying128 rfl inf2 (List.cons_ne_nil _ _)
instance : FA Tryz.prog 128 2 4 := FA.mk' Tryz.underlying128 rfl inf2 (List.cons_ne_nil _ _)
instance : FA Tryz.prog 128 3 5 := FA.mk' Tryz.underlying128 rfl inf127 (List.cons_ne_nil _ _)
instance : FA Tryz.prog 128 4 6 := FA.mk' Tryz.underlying128 rfl inf4 (List.cons_ne_nil _ _)
instance : FA Tryz.prog 128 5 7 := FA.mk' Tryz.underlying128 rfl inf4 (List.cons_ne_nil _ _)
instance : FA Tryz.prog 128 6 8 := FA.mk' Tryz.underlying128 rfl inf4 (List.cons_ne_nil _ _)
instance : FA Tryz.prog 128 7 9 := FA.mk' Tryz.underlying128 rfl inf23 (List.cons_ne_nil _ _)
instance : FA Tryz.prog 128 8 10 := FA.mk' Tryz.underlying128 rfl inf23 (List.cons_ne_nil _ _)
instance : Pl Tryz.prog 128 [Value.int .i64 0, Value.int .i64 0, Value.int .i64 0, Value.int .i64 0, Value.int .i64 0, Value.pointer none, Value.bool false, Value.bool false, Value.bool false, Value.slice none 0 0, Value.slice none 0 0] [(0, 3), (3, 1), (4, 1), (5, 1), (6, 1), (7, 1), (8, 1), (9, 1), (10, 1)] := Pl.mk' Tryz.underlying128 inf128 (by kernel_rfl)
instance : FA Tryz.prog 129 0 0 := FA.mk' Tryz.underlying129 rfl inf72 (List.cons_ne_nil _ _)
instance : FA Tryz.prog 129 1 3 := FA.mk' Tryz.underlying129 rfl inf2 (List.cons_ne_nil _ _)
instance : FA Tryz.prog 129 2 4 := FA.mk' Tryz.underlying129 rfl inf2 (List.cons_ne_nil _ _)
instance : FA Tryz.prog 129 3 5 := FA.mk' Tryz.underlying129 rfl inf127 (List.cons_ne_nil _ _)
instance : FA Tryz.prog 129 4 6 := FA.mk' Tryz.underlying129 rfl inf4 (List.cons_ne_nil _ _)
instance : FA Tryz.prog 129 5 7 := FA.mk' Tryz.underlying129 rfl inf4 (List.cons_ne_nil _ _)
instance : FA Tryz.prog 129 6 8 := FA.mk' Tryz.underlying129 rfl inf4 (List.cons_ne_nil _ _)
instance : FA Tryz.prog 129 7 9 := FA.mk' Tryz.underlying129 rfl inf23 (List.cons_ne_nil _ _)
instance : FA Tryz.prog 129 8 10 := FA.mk' Tryz.underlying129 rfl inf23 (List.cons_ne_nil _ _)
instance : Pl Tryz.prog 129 [Value.int .i64 0, Value.int .i64 0, Value.int .i64 0, Value.int .i64 0, Value.int .i64 0, Value.pointer none, Value.bool false, Value.bool false, Value.bool false, Value.slice none 0 0, Value.slice none 0 0] [(0, 3), (3, 1), (4, 1), (5, 1), (6, 1), (7, 1), (8, 1), (9, 1), (10, 1)] := Pl.mk' Tryz.underlying129 inf129 (by kernel_rfl)
instance : FA Tryz.prog 136 0 0 := FA.mk' Tryz.underlying136 rfl inf72 (List.cons_ne_nil _ _)
instance : FA Tryz.prog 136 1 3 := FA.mk' Tryz.underlying136 rfl inf3 (List.cons_ne_nil _ _)
instance : FA Tryz.prog 136 2 4 := FA.mk' Tryz.underlying136 rfl inf4 (List.cons_ne_nil _ _)
instance : FA Tryz.prog 136 3 5 := FA.mk' Tryz.underlying136 rfl inf4 (List.cons_ne_nil _ _)
instance : FA Tryz.prog 136 4 6 := FA.mk' Tryz.underlying136 rfl inf3 (List.cons_ne_nil _ _)
instance : Pl Tryz.prog 136 [Value.int .i64 0, Value.int .i64 0, Value.int .i64 0, Value.int .i64 0, Value.bool false, Value.bool false, Value.int .i64 0] [(0, 3), (3, 1), (4, 1), (5, 1), (6, 1)] := Pl.mk' Tryz.underlying136 inf136 (by kernel_rfl)
instance : FA Tryz.prog 137 0 0 := FA.mk' Tryz.underlying137 rfl inf72 (List.cons_ne_nil _ _)
instance : FA Tryz.prog 137 1 3 := FA.mk' Tryz.underlying137 rfl inf3 (List.cons_ne_nil _ _)
instance : FA Tryz.prog 137 2 4 := FA.mk' Tryz.underlying137 rfl inf4 (List.cons_ne_nil _ _)
instance : FA Tryz.prog 137 3 5 := FA.mk' Tryz.underlying137 rfl inf4 (List.cons_ne_nil _ _)
instance : FA Tryz.prog 137 4 6 := FA.mk' Tryz.underlying137 rfl inf3 (List.cons_ne_nil _ _)
instance : Pl Tryz.prog 137 [Value.int .i64 0, Value.int .i64 0, Value.int .i64 0, Value.int .i64 0, Value.bool false, Value.bool false, Value.int .i64 0] [(0, 3), (3, 1), (4, 1), (5, 1), (6, 1)] := Pl.mk' Tryz.underlying137 inf137 (by kernel_rfl)
instance : FA Tryz.prog 140 0 0 := FA.mk' Tryz.underlying140 rfl inf3 (List.cons_ne_nil _ _)
instance : FA Tryz.prog 140 1 1 := FA.mk' Tryz.underlying140 rfl inf3 (List.cons_ne_nil _ _)
instance : FA Tryz.prog 140 2 2 := FA.mk' Tryz.underlying140 rfl inf2 (List.cons_ne_nil _ _)
instance : FA Tryz.prog 140 3 3 := FA.mk' Tryz.underlying140 rfl inf2 (List.cons_ne_nil _ _)
instance : Pl Tryz.prog 140 [Value.int .i64 0, Value.int .i64 0, Value.int .i64 0, Value.int .i64 0] [(0, 1), (1, 1), (2, 1), (3, 1)] := Pl.mk' Tryz.underlying140 inf140 (by kernel_rfl)
instance : FA Tryz.prog 141 0 0 := FA.mk' Tryz.underlying141 rfl inf3 (List.cons_ne_nil _ _)
instance : FA Tryz.prog 141 1 1 := FA.mk' Tryz.underlying141 rfl inf3 (List.cons_ne_nil _ _)
instance : FA Tryz.prog 141 2 2 := FA.mk' Tryz.underlying141 rfl inf2 (List.cons_ne_nil _ _)
instance : FA Tryz.prog 141 3 3 := FA.mk' Tryz.underlying141 rfl inf2 (List.cons_ne_nil _ _)
instance : Pl Tryz.prog 141 [Value.int .i64 0, Value.int .i64 0, Value.int .i64 0, Value.int .i64 0] [(0, 1), (1, 1), (2, 1), (3, 1)] := Pl.mk' Tryz.underlying141 inf141 (by kernel_rfl)
instance : FA Tryz.prog 152 0 0 := FA.mk' Tryz.underlying152 rfl inf151 (List.cons_ne_nil _ _)
instance : FA Tryz.prog 152 1 1 := FA.mk' Tryz.underlying152 rfl inf3 (List.cons_ne_nil _ _)
instance : Pl Tryz.prog 152 [Value.pointer none, Value.int .i64 0] [(0, 1), (1, 1)] := Pl.mk' Tryz.underlying152 inf152 (by kernel_rfl)
instance : FA Tryz.prog 153 0 0 := FA.mk' Tryz.underlying153 rfl inf151 (List.cons_ne_nil _ _)
instance : FA Tryz.prog 153 1 1 := FA.mk' Tryz.underlying153 rfl inf3 (List.cons_ne_nil _ _)
instance : Pl Tryz.prog 153 [Value.pointer none, Value.int .i64 0] [(0, 1), (1, 1)] := Pl.mk' Tryz.underlying153 inf153 (by kernel_rfl)
instance : FA Tryz.prog 157 0 0 := FA.mk' Tryz.underlying157 rfl inf147 (List.cons_ne_nil _ _)
instance : FA Tryz.prog 157 1 1 := FA.mk' Tryz.underlying157 rfl inf149 (List.cons_ne_nil _ _)
instance : FA Tryz.prog 157 2 2 := FA.mk' Tryz.underlying157 rfl inf154 (List.cons_ne_nil _ _)
instance : FA Tryz.prog 157 3 18 := FA.mk' Tryz.underlying157 rfl inf155 (List.cons_ne_nil _ _)
instance : FA Tryz.prog 157 4 19 := FA.mk' Tryz.underlying157 rfl inf156 (List.cons_ne_nil _ _)
instance : Pl Tryz.prog 157 [Value.pointer none, Value.pointer none, Value.pointer none, Value.int .i64 0, Value.pointer none, Value.int .i64 0, Value.pointer none, Value.int .i64 0, Value.pointer none, Value.int .i64 0, Value.pointer none, Value.int .i64 0, Value.pointer none, Value.int .i64 0, Value.pointer none, Value.int .i64 0, Value.pointer none, Value.int .i64 0, Value.slice none 0 0, Value.slice none 0 0] [(0, 1), (1, 1), (2, 16), (18, 1), (19, 1)] := Pl.mk' Tryz.underlying157 inf157 (by kernel_rfl)
instance : FA Tryz.prog 158 0 0 := FA.mk' Tryz.underlying158 rfl inf147 (List.cons_ne_nil _ _)
instance : FA Tryz.prog 158 1 1 := FA.mk' Tryz.underlying158 rfl inf149 (List.cons_ne_nil _ _)
instance : FA Tryz.prog 158 2 2 := FA.mk' Tryz.underlying158 rfl inf154 (List.cons_ne_nil _ _)
instance : FA Tryz.prog 158 3 18 := FA.mk' Tryz.underlying158 rfl inf155 (List.cons_ne_nil _ _)
instance : FA Tryz.prog 158 4 19 := FA.mk' Tryz.underlying158 rfl inf156 (List.cons_ne_nil _ _)
instance : Pl Tryz.prog 158 [Value.pointer none, Value.pointer none, Value.pointer none, Value.int .i64 0, Value.pointer none, Value.int .i64 0, Value.pointer none, Value.int .i64 0, Value.pointer none, Value.int .i64 0, Value.pointer none, Value.int .i64 0, Value.pointer none, Value.int .i64 0, Value.pointer none, Value.int .i64 0, Value.pointer none, Value.int .i64 0, Value.slice none 0 0, Value.slice none 0 0] [(0, 1), (1, 1), (2, 16), (18, 1), (19, 1)] := Pl.mk' Tryz.underlying158 inf158 (by kernel_rfl)
instance : FA Tryz.prog 168 0 0 := FA.mk' Tryz.underlying168 rfl inf4 (List.cons_ne_nil _ _)
instance : FA Tryz.prog 168 1 1 := FA.mk' Tryz.underlying168 rfl inf2 (List.cons_ne_nil _ _)
instance : FA Tryz.prog 168 2 2 := FA.mk' Tryz.underlying168 rfl inf23 (List.cons_ne_nil _ _)
instance : Pl Tryz.prog 168 [Value.bool false, Value.int .i64 0, Value.slice none 0 0] [(0, 1), (1, 1), (2, 1)] := Pl.mk' Tryz.underlying168 inf168 (by kernel_rfl)
instance : FA Tryz.prog 169 0 0 := FA.mk' Tryz.underlying169 rfl inf4 (List.cons_ne_nil _ _)
instance : FA Tryz.prog 169 1 1 := FA.mk' Tryz.underlying169 rfl inf2 (List.cons_ne_nil _ _)
instance : FA Tryz.prog 169 2 2 := FA.mk' Tryz.underlying169 rfl inf23 (List.cons_ne_nil _ _)
instance : Pl Tryz.prog 169 [Value.bool false, Value.int .i64 0, Value.slice none 0 0] [(0, 1), (1, 1), (2, 1)] := Pl.mk' Tryz.underlying169 inf169 (by kernel_rfl)
instance : FA Tryz.prog 171 0 0 := FA.mk' Tryz.underlying171 rfl inf4 (List.cons_ne_nil _ _)
instance : FA Tryz.prog 171 1 1 := FA.mk' Tryz.underlying171 rfl inf4 (List.cons_ne_nil _ _)
instance : FA Tryz.prog 171 2 2 := FA.mk' Tryz.underlying171 rfl inf3 (List.cons_ne_nil _ _)
instance : FA Tryz.prog 171 3 3 := FA.mk' Tryz.underlying171 rfl inf3 (List.cons_ne_nil _ _)
instance : FA Tryz.prog 171 4 4 := FA.mk' Tryz.underlying171 rfl inf169 (List.cons_ne_nil _ _)
instance : FA Tryz.prog 171 5 7 := FA.mk' Tryz.underlying171 rfl inf170 (List.cons_ne_nil _ _)
instance : Pl Tryz.prog 171 [Value.bool false, Value.bool false, Value.int .i64 0, Value.int .i64 0, Value.bool false, Value.int .i64 0, Value.slice none 0 0, Value.slice none 0 0] [(0, 1), (1, 1), (2, 1), (3, 1), (4, 3), (7, 1)] := Pl.mk' Tryz.underlying171 inf171 (by kernel_rfl)
instance : FA Tryz.prog 172 0 0 := FA.mk' Tryz.underlying172 rfl inf4 (List.cons_ne_nil _ _)
instance : FA Tryz.prog 172 1 1 := FA.mk' Tryz.underlying172 rfl inf4 (List.cons_ne_nil _ _)
instance : FA Tryz.prog 172 2 2 := FA.mk' Tryz.underlying172 rfl inf3 (List.cons_ne_nil _ _)
instance : FA Tryz.prog 172 3 3 := FA.mk' Tryz.underlying172 rfl inf3 (List.cons_ne_nil _ _)
instance : FA Tryz.prog 172 4 4 := FA.mk' Tryz.underlying172 rfl inf169 (List.cons_ne_nil _ _)
instance : FA Tryz.prog 172 5 7 := FA.mk' Tryz.underlying172 rfl inf170 (List.cons_ne_nil _ _)
instance : Pl Tryz.prog 172 [Value.bool false, Value.bool false, Value.int .i64 0, Value.int .i64 0, Value.bool false, Value.int .i64 0, Value.slice none 0 0, Value.slice none 0 0] [(0, 1), (1, 1), (2, 1), (3, 1), (4, 3), (7, 1)] := Pl.mk' Tryz.underlying172 inf172 (by kernel_rfl)
instance : FA Tryz.prog 189 0 0 := FA.mk' Tryz.underlying189 rfl inf38 (List.cons_ne_nil _ _)
instance : Pl Tryz.prog 189 [Value.slice none 0 0] [(0, 1)] := Pl.mk' Tryz.underlying189 inf189 (by kernel_rfl)
instance : FA Tryz.prog 190 0 0 := FA.mk' Tryz.underlying190 rfl inf38 (List.cons_ne_nil _ _)
instance : Pl Tryz.prog 190 [Value.slice none 0 0] [(0, 1)] := Pl.mk' Tryz.underlying190 inf190 (by kernel_rfl)
instance : FA Tryz.prog 198 0 0 := FA.mk' Tryz.underlying198 rfl inf4 (List.cons_ne_nil _ _)
instance : FA Tryz.prog 198 1 1 := FA.mk' Tryz.underlying198 rfl inf4 (List.cons_ne_nil _ _)
instance : FA Tryz.prog 198 2 2 := FA.mk' Tryz.underlying198 rfl inf3 (List.cons_ne_nil _ _)
instance : Pl Tryz.prog 198 [Value.bool false, Value.bool false, Value.int .i64 0] [(0, 1), (1, 1), (2, 1)] := Pl.mk' Tryz.underlying198 inf198 (by kernel_rfl)
instance : FA Tryz.prog 199 0 0 := FA.mk' Tryz.underlying199 rfl inf4 (List.cons_ne_nil _ _)
instance : FA Tryz.prog 199 1 1 := FA.mk' Tryz.underlying199 rfl inf4 (List.cons_ne_nil _ _)
instance : FA Tryz.prog 199 2 2 := FA.mk' Tryz.underlying199 rfl inf3 (List.cons_ne_nil _ _)
instance : Pl Tryz.prog 199 [Value.bool false, Value.bool false, Value.int .i64 0] [(0, 1), (1, 1), (2, 1)] := Pl.mk' Tryz.underlying199 inf199 (by kernel_rfl)
instance : FA Tryz.prog 200 0 0 := FA.mk' Tryz.underlying200 rfl inf199 (List.cons_ne_nil _ _)
instance : FA Tryz.prog 200 1 3 := FA.mk' Tryz.underlying200 rfl inf38 (List.cons_ne_nil _ _)
instance : FA Tryz.prog 200 2 4 := FA.mk' Tryz.underlying200 rfl inf23 (List.cons_ne_nil _ _)
instance : FA Tryz.prog 200 3 5 := FA.mk' Tryz.underlying200 rfl inf4 (List.cons_ne_nil _ _)
instance : Pl Tryz.prog 200 [Value.bool false, Value.bool false, Value.int .i64 0, Value.slice none 0 0, Value.slice none 0 0, Value.bool false] [(0, 3), (3, 1), (4, 1), (5, 1)] := Pl.mk' Tryz.underlying200 inf200 (by kernel_rfl)
instance : FA Tryz.prog 201 0 0 := FA.mk' Tryz.underlying201 rfl inf199 (List.cons_ne_nil _ _)
instance : FA Tryz.prog 201 1 3 := FA.mk' Tryz.underlying201 rfl inf38 (List.cons_ne_nil _ _)
instance : FA Tryz.prog 201 2 4 := FA.mk' Tryz.underlying201 rfl inf23 (List.cons_ne_nil _ _)
instance : FA Tryz.prog 201 3 5 := FA.mk' Tryz.underlying201 rfl inf4 (List.cons_ne_nil _ _)
instance : Pl Tryz.prog 201 [Value.bool false, Value.bool false, Value.int .i64 0, Value.slice none 0 0, Value.slice none 0 0, Value.bool false] [(0, 3), (3, 1), (4, 1), (5, 1)] := Pl.mk' Tryz.underlying201 inf201 (by kernel_rfl)
instance : FA Tryz.prog 218 0 0 := FA.mk' Tryz.underlying218 rfl inf38 (List.cons_ne_nil _ _)
instance : FA Tryz.prog 218 1 1 := FA.mk' Tryz.underlying218 rfl inf3 (List.cons_ne_nil _ _)
instance : FA Tryz.prog 218 2 2 := FA.mk' Tryz.underlying218 rfl inf4 (List.cons_ne_nil _ _)
instance : Pl Tryz.prog 218 [Value.slice none 0 0, Value.int .i64 0, Value.bool false] [(0, 1), (1, 1), (2, 1)] := Pl.mk' Tryz.underlying218 inf218 (by kernel_rfl)
instance : FA Tryz.prog 219 0 0 := FA.mk' Tryz.underlying219 rfl inf38 (List.cons_ne_nil _ _)
instance : FA Tryz.prog 219 1 1 := FA.mk' Tryz.underlying219 rfl inf3 (List.cons_ne_nil _ _)
instance : FA Tryz.prog 219 2 2 := FA.mk' Tryz.underlying219 rfl inf4 (List.cons_ne_nil _ _)
instance : Pl Tryz.prog 219 [Value.slice none 0 0, Value.int .i64 0, Value.bool false] [(0, 1), (1, 1), (2, 1)] := Pl.mk' Tryz.underlying219 inf219 (by kernel_rfl)
instance : FA Tryz.prog 222 0 0 := FA.mk' Tryz.underlying222 rfl inf160 (List.cons_ne_nil _ _)
instance : FA Tryz.prog 222 1 1 := FA.mk' Tryz.underlying222 rfl inf53 (List.cons_ne_nil _ _)
instance : FA Tryz.prog 222 2 2 := FA.mk' Tryz.underlying222 rfl inf51 (List.cons_ne_nil _ _)
instance : FA Tryz.prog 222 3 3 := FA.mk' Tryz.underlying222 rfl inf164 (List.cons_ne_nil _ _)
instance : Pl Tryz.prog 222 [Value.pointer none, Value.pointer none, Value.pointer none, Value.pointer none] [(0, 1), (1, 1), (2, 1), (3, 1)] := Pl.mk' Tryz.underlying222 inf222 (by kernel_rfl)
instance : FA Tryz.prog 223 0 0 := FA.mk' Tryz.underlying223 rfl inf160 (List.cons_ne_nil _ _)
instance : FA Tryz.prog 223 1 1 := FA.mk' Tryz.underlying223 rfl inf53 (List.cons_ne_nil _ _)
instance : FA Tryz.prog 223 2 2 := FA.mk' Tryz.underlying223 rfl inf51 (List.cons_ne_nil _ _)
instance : FA Tryz.prog 223 3 3 := FA.mk' Tryz.underlying223 rfl inf164 (List.cons_ne_nil _ _)
instance : Pl Tryz.prog 223 [Value.pointer none, Value.pointer none, Value.pointer none, Value.pointer none] [(0, 1), (1, 1), (2, 1), (3, 1)] := Pl.mk' Tryz.underlying223 inf223 (by kernel_rfl)
instance : FA Tryz.prog 227 0 0 := FA.mk' Tryz.underlying227 rfl inf225 (List.cons_ne_nil _ _)
instance : FA Tryz.prog 227 1 1 := FA.mk' Tryz.underlying227 rfl inf224 (List.cons_ne_nil _ _)
instance : FA Tryz.prog 227 2 2 := FA.mk' Tryz.underlying227 rfl inf3 (List.cons_ne_nil _ _)
instance : FA Tryz.prog 227 3 3 := FA.mk' Tryz.underlying227 rfl inf3 (List.cons_ne_nil _ _)
instance : FA Tryz.prog 227 4 4 := FA.mk' Tryz.underlying227 rfl inf60 (List.cons_ne_nil _ _)
instance : FA Tryz.prog 227 5 9 := FA.mk' Tryz.underlying227 rfl inf3 (List.cons_ne_nil _ _)
instance : FA Tryz.prog 227 6 10 := FA.mk' Tryz.underlying227 rfl inf127 (List.cons_ne_nil _ _)
instance : FA Tryz.prog 227 7 11 := FA.mk' Tryz.underlying227 rfl inf226 (List.cons_ne_nil _ _)
instance : FA Tryz.prog 227 8 12 := FA.mk' Tryz.underlying227 rfl inf23 (List.cons_ne_nil _ _)
instance : FA Tryz.prog 227 9 13 := FA.mk' Tryz.underlying227 rfl inf38 (List.cons_ne_nil _ _)
instance : FA Tryz.prog 227 10 14 := FA.mk' Tryz.underlying227 rfl inf172 (List.cons_ne_nil _ _)
instance : FA Tryz.prog 227 11 22 := FA.mk' Tryz.underlying227 rfl inf3 (List.cons_ne_nil _ _)
instance : FA Tryz.prog 227 12 23 := FA.mk' Tryz.underlying227 rfl inf3 (List.cons_ne_nil _ _)
instance : FA Tryz.prog 227 13 24 := FA.mk' Tryz.underlying227 rfl inf4 (List.cons_ne_nil _ _)
instance : Pl Tryz.prog 227 [Value.int .i64 0, Value.map none, Value.int .i64 0, Value.int .i64 0, Value.int .i64 0, Value.int .i64 0, Value.int .i64 0, Value.int .i64 0, Value.int .i64 0, Value.int .i64 0, Value.pointer none, Value.pointer none, Value.slice none 0 0, Value.slice none 0 0, Value.bool false, Value.bool false, Value.int .i64 0, Value.int .i64 0, Value.bool false, Value.int .i64 0, Value.slice none 0 0, Value.slice none 0 0, Value.int .i64 0, Value.int .i64 0, Value.bool false] [(0, 1), (1, 1), (2, 1), (3, 1), (4, 5), (9, 1), (10, 1), (11, 1), (12, 1), (13, 1), (14, 8), (22, 1), (23, 1), (24, 1)] := Pl.mk' Tryz.underlying227 inf227 (by kernel_rfl)
instance : FA Tryz.prog 228 0 0 := FA.mk' Tryz.underlying228 rfl inf225 (List.cons_ne_nil _ _)
instance : FA Tryz.prog 228 1 1 := FA.mk' Tryz.underlying228 rfl inf224 (List.cons_ne_nil _ _)
instance : FA Tryz.prog 228 2 2 := FA.mk' Tryz.underlying228 rfl inf3 (List.cons_ne_nil _ _)
instance : FA Tryz.prog 228 3 3 := FA.mk' Tryz.underlying228 rfl inf3 (List.cons_ne_nil _ _)
instance : FA Tryz.prog 228 4 4 := FA.mk' Tryz.underlying228 rfl inf60 (List.cons_ne_nil _ _)
instance : FA Tryz.prog 228 5 9 := FA.mk' Tryz.underlying228 rfl inf3 (List.cons_ne_nil _ _)
instance : FA Tryz.prog 228 6 10 := FA.mk' Tryz.underlying228 rfl inf127 (List.cons_ne_nil _ _)
instance : FA Tryz.prog 228 7 11 := FA.mk' Tryz.underlying228 rfl inf226 (List.cons_ne_nil _ _)
instance : FA Tryz.prog 228 8 12 := FA.mk' Tryz.underlying228 rfl inf23 (List.cons_ne_nil _ _)
instance : FA Tryz.prog 228 9 13 := FA.mk' Tryz.underlying228 rfl inf38 (List.cons_ne_nil _ _)
instance : FA Tryz.prog 228 10 14 := FA.mk' Tryz.underlying228 rfl inf172 (List.cons_ne_nil _ _)
instance : FA Tryz.prog 228 11 22 := FA.mk' Tryz.underlying228 rfl inf3 (List.cons_ne_nil _ _)
instance : FA Tryz.prog 228 12 23 := FA.mk' Tryz.underlying228 rfl inf3 (List.cons_ne_nil _ _)
instance : FA Tryz.prog 228 13 24 := FA.mk' Tryz.underlying228 rfl inf4 (List.cons_ne_nil _ _)
instance : Pl Tryz.prog 228 [Value.int .i64 0, Value.map none, Value.int .i64 0, Value.int .i64 0, Value.int .i64 0, Value.int .i64 0, Value.int .i64 0, Value.int .i64 0, Value.int .i64 0, Value.int .i64 0, Value.pointer none, Value.pointer none, Value.slice none 0 0, Value.slice none 0 0, Value.bool false, Value.bool false, Value.int .i64 0, Value.int .i64 0, Value.bool false, Value.int .i64 0, Value.slice none 0 0, Value.slice none 0 0, Value.int .i64 0, Value.int .i64 0, Value.bool false] [(0, 1), (1, 1), (2, 1), (3, 1), (4, 5), (9, 1), (10, 1), (11, 1), (12, 1), (13, 1), (14, 8), (22, 1), (23, 1), (24, 1)] := Pl.mk' Tryz.underlying228 inf228 (by kernel_rfl)
instance : FA Tryz.prog 230 0 0 := FA.mk' Tryz.underlying230 rfl inf3 (List.cons_ne_nil _ _)
instance : FA Tryz.prog 230 1 1 := FA.mk' Tryz.underlying230 rfl inf229 (List.cons_ne_nil _ _)
instance : Pl Tryz.prog 230 [Value.int .i64 0, Value.map none] [(0, 1), (1, 1)] := Pl.mk' Tryz.underlying230 inf230 (by kernel_rfl)
instance : FA Tryz.prog 231 0 0 := FA.mk' Tryz.underlying231 rfl inf3 (List.cons_ne_nil _ _)
instance : FA Tryz.prog 231 1 1 := FA.mk' Tryz.underlying231 rfl inf229 (List.cons_ne_nil _ _)
instance : Pl Tryz.prog 231 [Value.int .i64 0, Value.map none] [(0, 1), (1, 1)] := Pl.mk' Tryz.underlying231 inf231 (by kernel_rfl)
instance : FA Tryz.prog 234 0 0 := FA.mk' Tryz.underlying234 rfl inf172 (List.cons_ne_nil _ _)
instance : FA Tryz.prog 234 1 8 := FA.mk' Tryz.underlying234 rfl inf4 (List.cons_ne_nil _ _)
instance : FA Tryz.prog 234 2 9 := FA.mk' Tryz.underlying234 rfl inf3 (List.cons_ne_nil _ _)
instance : Pl Tryz.prog 234 [Value.bool false, Value.bool false, Value.int .i64 0, Value.int .i64 0, Value.bool false, Value.int .i64 0, Value.slice none 0 0, Value.slice none 0 0, Value.bool false, Value.int .i64 0] [(0, 8), (8, 1), (9, 1)] := Pl.mk' Tryz.underlying234 inf234 (by kernel_rfl)
instance : FA Tryz.prog 235 0 0 := FA.mk' Tryz.underlying235 rfl inf172 (List.cons_ne_nil _ _)
instance : FA Tryz.prog 235 1 8 := FA.mk' Tryz.underlying235 rfl inf4 (List.cons_ne_nil _ _)
instance : FA Tryz.prog 235 2 9 := FA.mk' Tryz.underlying235 rfl inf3 (List.cons_ne_nil _ _)
instance : Pl Tryz.prog 235 [Value.bool false, Value.bool false, Value.int .i64 0, Value.int .i64 0, Value.bool false, Value.int .i64 0, Value.slice none 0 0, Value.slice none 0 0, Value.bool false, Value.int .i64 0] [(0, 8), (8, 1), (9, 1)] := Pl.mk' Tryz.underlying235 inf235 (by kernel_rfl)
instance : FA Tryz.prog 273 0 0 := FA.mk' Tryz.underlying273 rfl inf272 (List.cons_ne_nil _ _)
instance : Pl Tryz.prog 273 [Value.bool false, Value.bool false, Value.int .i64 0, Value.int .i64 0, Value.bool false, Value.int .i64 0, Value.slice none 0 0, Value.slice none 0 0, Value.bool false, Value.int .i64 0, Value.bool false, Value.bool false, Value.int .i64 0, Value.int .i64 0, Value.bool false, Value.int .i64 0, Value.slice none 0 0, Value.slice none 0 0, Value.bool false, Value.int .i64 0, Value.bool false, Value.bool false, Value.int .i64 0, Value.int .i64 0, Value.bool false, Value.int .i64 0, Value.slice none 0 0, Value.slice none 0 0, Value.bool false, Value.int .i64 0, Value.bool false, Value.bool false, Value.int .i64 0, Value.int .i64 0, Value.bool false, Value.int .i64 0, Value.slice none 0 0, Value.slice none 0 0, Value.bool false, Value.int .i64 0, Value.bool false, Value.bool false, Value.int .i64 0, Value.int .i64 0, Value.bool false, Value.int .i64 0, Value.slice none 0 0, Value.slice none 0 0, Value.bool false, Value.int .i64 0, Value.bool false, Value.bool false, Value.int .i64 0, Value.int .i64 0, Value.bool false, Value.int .i64 0, Value.slice none 0 0, Value.slice none 0 0, Value.bool false, Value.int .i64 0, Value.bool false, Value.bool false, Value.int .i64 0, Value.int .i64 0, Value.bool false, Value.int .i64 0, Value.slice none 0 0, Value.slice none 0 0, Value.bool false, Value.int .i64 0, Value.bool false, Value.bool false, Value.int .i64 0, Value.int .i64 0, Value.bool false, Value.int .i64 0, Value.slice none 0 0, Value.slice none 0 0, Value.bool false, Value.int .i64 0, Value.bool false, Value.bool false, Value.int .i64 0, Value.int .i64 0, Value.bool false, Value.int .i64 0, Value.slice none 0 0, Value.slice none 0 0, Value.bool false, Value.int .i64 0, Value.bool false, Value.bool false, Value.int .i64 0, Value.int .i64 0, Value.bool false, Value.int .i64 0, Value.slice none 0 0, Value.slice none 0 0, Value.bool false, Value.int .i64 0, Value.bool false, Value.bool false, Value.int .i64 0, Value.int .i64 0, Value.bool false, Value.int .i64 0, Value.slice none 0 0, Value.slice none 0 0, Value.bool false, Value.int .i64 0, Value.bool false, Value.bool false, Value.int .i64 0, Value.int .i64 0, Value.bool false, Value.int .i64 0, Value.slice none 0 0, Value.slice none 0 0, Value.bool false, Value.int .i64 0, Value.bool false, Value.bool false, Value.int .i64 0, Value.int .i64 0, Value.bool false, Value.int .i64 0, Value.slice none 0 0, Value.slice none 0 0, Value.bool false, Value.int .i64 0, Value.bool false, Value.bool false, Value.int .i64 0, Value.int .i64 0, Value.bool false, Value.int .i64 0, Value.slice none 0 0, Value.slice none 0 0, Value.bool false, Value.int .i64 0, Value.bool false, Value.bool false, Value.int .i64 0, Value.int .i64 0, Value.bool false, Value.int .i64 0, Value.slice none 0 0, Value.slice none 0 0, Value.bool false, Value.int .i64 0, Value.bool false, Value.bool false, Value.int .i64 0, Value.int .i64 0, Value.bool false, Value.int .i64 0, Value.slice none 0 0, Value.slice none 0 0, Value.bool false, Value.int .i64 0] [(0, 160)] := Pl.mk' Tryz.underlying273 inf273 (by kernel_rfl)
instance : FA Tryz.prog 274 0 0 := FA.mk' Tryz.underlying274 rfl inf272 (List.cons_ne_nil _ _)
instance : Pl Tryz.prog 274 [Value.bool false, Value.bool false, Value.int .i64 0, Value.int .i64 0, Value.bool false, Value.int .i64 0, Value.slice none 0 0, Value.slice none 0 0, Value.bool false, Value.int .i64 0, Value.bool false, Value.bool false, Value.int .i64 0, Value.int .i64 0, Value.bool false, Value.int .i64 0, Value.slice none 0 0, Value.slice none 0 0, Value.bool false, Value.int .i64 0, Value.bool false, Value.bool false, Value.int .i64 0, Value.int .i64 0, Value.bool false, Value.int .i64 0, Value.slice none 0 0, Value.slice none 0 0, Value.bool false, Value.int .i64 0, Value.bool false, Value.bool false, Value.int .i64 0, Value.int .i64 0, Value.bool false, Value.int .i64 0, Value.slice none 0 0, Value.slice none 0 0, Value.bool false, Value.int .i64 0, Value.bool false, Value.bool false, Value.int .i64 0, Value.int .i64 0, Value.bool false, Value.int .i64 0, Value.slice none 0 0, Value.slice none 0 0, Value.bool false, Value.int .i64 0, Value.bool false, Value.bool false, Value.int .i64 0, Value.int .i64 0, Value.bool false, Value.int .i64 0, Value.slice none 0 0, Value.slice none 0 0, Value.bool false, Value.int .i64 0, Value.bool false, Value.bool false, Value.int .i64 0, Value.int .i64 0, Value.bool false, Value.int .i64 0, Value.slice none 0 0, Value.slice none 0 0, Value.bool false, Value.int .i64 0, Value.bool false, Value.bool false, Value.int .i64 0, Value.int .i64 0, Value.bool false, Value.int .i64 0, Value.slice none 0 0, Value.slice none 0 0, Value.bool false, Value.int .i64 0, Value.bool false, Value.bool false, Value.int .i64 0, Value.int .i64 0, Value.bool false, Value.int .i64 0, Value.slice none 0 0, Value.slice none 0 0, Value.bool false, Value.int .i64 0, Value.bool false, Value.bool false, Value.int .i64 0, Value.int .i64 0, Value.bool false, Value.int .i64 0, Value.slice none 0 0, Value.slice none 0 0, Value.bool false, Value.int .i64 0, Value.bool false, Value.bool false, Value.int .i64 0, Value.int .i64 0, Value.bool false, Value.int .i64 0, Value.slice none 0 0, Value.slice none 0 0, Value.bool false, Value.int .i64 0, Value.bool false, Value.bool false, Value.int .i64 0, Value.int .i64 0, Value.bool false, Value.int .i64 0, Value.slice none 0 0, Value.slice none 0 0, Value.bool false, Value.int .i64 0, Value.bool false, Value.bool false, Value.int .i64 0, Value.int .i64 0, Value.bool false, Value.int .i64 0, Value.slice none 0 0, Value.slice none 0 0, Value.bool false, Value.int .i64 0, Value.bool false, Value.bool false, Value.int .i64 0, Value.int .i64 0, Value.bool false, Value.int .i64 0, Value.slice none 0 0, Value.slice none 0 0, Value.bool false, Value.int .i64 0, Value.bool false, Value.bool false, Value.int .i64 0, Value.int .i64 0, Value.bool false, Value.int .i64 0, Value.slice none 0 0, Value.slice none 0 0, Value.bool false, Value.int .i64 0, Value.bool false, Value.bool false, Value.int .i64 0, Value.int .i64 0, Value.bool false, Value.int .i64 0, Value.slice none 0 0, Value.slice none 0 0, Value.bool false, Value.int .i64 0] [(0, 160)] := Pl.mk' Tryz.underlying274 inf274 (by kernel_rfl)
instance : FA Tryz.prog 313 0 0 := FA.mk' Tryz.underlying313 rfl inf9 (List.cons_ne_nil _ _)
instance : FA Tryz.prog 313 1 1 := FA.mk' Tryz.underlying313 rfl inf9 (List.cons_ne_nil _ _)
instance : FA Tryz.prog 313 2 2 := FA.mk' Tryz.underlying313 rfl inf93 (List.cons_ne_nil _ _)
instance : Pl Tryz.prog 313 [Value.string ByteArray.empty, Value.string ByteArray.empty, Value.nilIface] [(0, 1), (1, 1), (2, 1)] := Pl.mk' Tryz.underlying313 inf313 (by kernel_rfl)
instance : FA Tryz.prog 314 0 0 := FA.mk' Tryz.underlying314 rfl inf9 (List.cons_ne_nil _ _)
instance : FA Tryz.prog 314 1 1 := FA.mk' Tryz.underlying314 rfl inf9 (List.cons_ne_nil _ _)
instance : FA Tryz.prog 314 2 2 := FA.mk' Tryz.underlying314 rfl inf93 (List.cons_ne_nil _ _)
instance : Pl Tryz.prog 314 [Value.string ByteArray.empty, Value.string ByteArray.empty, Value.nilIface] [(0, 1), (1, 1), (2, 1)] := Pl.mk' Tryz.underlying314 inf314 (by kernel_rfl)
instance : FA Tryz.prog 318 0 0 := FA.mk' Tryz.underlying318 rfl inf38 (List.cons_ne_nil _ _)
instance : FA Tryz.prog 318 1 1 := FA.mk' Tryz.underlying318 rfl inf3 (List.cons_ne_nil _ _)
instance : FA Tryz.prog 318 2 2 := FA.mk' Tryz.underlying318 rfl inf4 (List.cons_ne_nil _ _)
instance : Pl Tryz.prog 318 [Value.slice none 0 0, Value.int .i64 0, Value.bool false] [(0, 1), (1, 1), (2, 1)] := Pl.mk' Tryz.underlying318 inf318 (by kernel_rfl)
instance : FA Tryz.prog 319 0 0 := FA.mk' Tryz.underlying319 rfl inf38 (List.cons_ne_nil _ _)
instance : FA Tryz.prog 319 1 1 := FA.mk' Tryz.underlying319 rfl inf3 (List.cons_ne_nil _ _)
instance : FA Tryz.prog 319 2 2 := FA.mk' Tryz.underlying319 rfl inf4 (List.cons_ne_nil _ _)
instance : Pl Tryz.prog 319 [Value.slice none 0 0, Value.int .i64 0, Value.bool false] [(0, 1), (1, 1), (2, 1)] := Pl.mk' Tryz.underlying319 inf319 (by kernel_rfl)
instance : FA Tryz.prog 327 0 0 := FA.mk' Tryz.underlying327 rfl inf5 (List.cons_ne_nil _ _)
instance : FA Tryz.prog 327 1 1 := FA.mk' Tryz.underlying327 rfl inf5 (List.cons_ne_nil _ _)
instance : Pl Tryz.prog 327 [Value.int .u8 0, Value.int .u8 0] [(0, 1), (1, 1)] := Pl.mk' Tryz.underlying327 inf327 (by kernel_rfl)
instance : FA Tryz.prog 328 0 0 := FA.mk' Tryz.underlying328 rfl inf5 (List.cons_ne_nil _ _)
instance : FA Tryz.prog 328 1 1 := FA.mk' Tryz.underlying328 rfl inf5 (List.cons_ne_nil _ _)
instance : Pl Tryz.prog 328 [Value.int .u8 0, Value.int .u8 0] [(0, 1), (1, 1)] := Pl.mk' Tryz.underlying328 inf328 (by kernel_rfl)
instance : FA Tryz.prog 333 0 0 := FA.mk' Tryz.underlying333 rfl inf9 (List.cons_ne_nil _ _)
instance : Pl Tryz.prog 333 [Value.string ByteArray.empty] [(0, 1)] := Pl.mk' Tryz.underlying333 inf333 (by kernel_rfl)
instance : FA Tryz.prog 334 0 0 := FA.mk' Tryz.underlying334 rfl inf9 (List.cons_ne_nil _ _)
instance : Pl Tryz.prog 334 [Value.string ByteArray.empty] [(0, 1)] := Pl.mk' Tryz.underlying334 inf334 (by kernel_rfl)
instance : FA Tryz.prog 336 0 0 := FA.mk' Tryz.underlying336 rfl inf30 (List.cons_ne_nil _ _)
instance : FA Tryz.prog 336 1 1 := FA.mk' Tryz.underlying336 rfl inf3 (List.cons_ne_nil _ _)
instance : FA Tryz.prog 336 2 2 := FA.mk' Tryz.underlying336 rfl inf3 (List.cons_ne_nil _ _)
instance : Pl Tryz.prog 336 [Value.int .u64 0, Value.int .i64 0, Value.int .i64 0] [(0, 1), (1, 1), (2, 1)] := Pl.mk' Tryz.underlying336 inf336 (by kernel_rfl)
instance : FA Tryz.prog 337 0 0 := FA.mk' Tryz.underlying337 rfl inf30 (List.cons_ne_nil _ _)
instance : FA Tryz.prog 337 1 1 := FA.mk' Tryz.underlying337 rfl inf3 (List.cons_ne_nil _ _)
instance : FA Tryz.prog 337 2 2 := FA.mk' Tryz.underlying337 rfl inf3 (List.cons_ne_nil _ _)
instance : Pl Tryz.prog 337 [Value.int .u64 0, Value.int .i64 0, Value.int .i64 0] [(0, 1), (1, 1), (2, 1)] := Pl.mk' Tryz.underlying337 inf337 (by kernel_rfl)
instance : FA Tryz.prog 339 0 0 := FA.mk' Tryz.underlying339 rfl inf4 (List.cons_ne_nil _ _)
instance : FA Tryz.prog 339 1 1 := FA.mk' Tryz.underlying339 rfl inf3 (List.cons_ne_nil _ _)
instance : FA Tryz.prog 339 2 2 := FA.mk' Tryz.underlying339 rfl inf3 (List.cons_ne_nil _ _)
instance : Pl Tryz.prog 339 [Value.bool false, Value.int .i64 0, Value.int .i64 0] [(0, 1), (1, 1), (2, 1)] := Pl.mk' Tryz.underlying339 inf339 (by kernel_rfl)
instance : FA Tryz.prog 340 0 0 := FA.mk' Tryz.underlying340 rfl inf4 (List.cons_ne_nil _ _)
instance : FA Tryz.prog 340 1 1 := FA.mk' Tryz.underlying340 rfl inf3 (List.cons_ne_nil _ _)
instance : FA Tryz.prog 340 2 2 := FA.mk' Tryz.underlying340 rfl inf3 (List.cons_ne_nil _ _)
instance : Pl Tryz.prog 340 [Value.bool false, Value.int .i64 0, Value.int .i64 0] [(0, 1), (1, 1), (2, 1)] := Pl.mk' Tryz.underlying340 inf340 (by kernel_rfl)
instance : FA Tryz.prog 346 0 0 := FA.mk' Tryz.underlying346 rfl inf3 (List.cons_ne_nil _ _)
instance : FA Tryz.prog 346 1 1 := FA.mk' Tryz.underlying346 rfl inf3 (List.cons_ne_nil _ _)
instance : Pl Tryz.prog 346 [Value.int .i64 0, Value.int .i64 0] [(0, 1), (1, 1)] := Pl.mk' Tryz.underlying346 inf346 (by kernel_rfl)
instance : FA Tryz.prog 347 0 0 := FA.mk' Tryz.underlying347 rfl inf3 (List.cons_ne_nil _ _)
instance : FA Tryz.prog 347 1 1 := FA.mk' Tryz.underlying347 rfl inf3 (List.cons_ne_nil _ _)
instance : Pl Tryz.prog 347 [Value.int .i64 0, Value.int .i64 0] [(0, 1), (1, 1)] := Pl.mk' Tryz.underlying347 inf347 (by kernel_rfl)
instance : FA Tryz.prog 351 0 0 := FA.mk' Tryz.underlying351 rfl inf38 (List.cons_ne_nil _ _)
instance : FA Tryz.prog 351 1 1 := FA.mk' Tryz.underlying351 rfl inf3 (List.cons_ne_nil _ _)
instance : Pl Tryz.prog 351 [Value.slice none 0 0, Value.int .i64 0] [(0, 1), (1, 1)] := Pl.mk' Tryz.underlying351 inf351 (by kernel_rfl)
instance : FA Tryz.prog 352 0 0 := FA.mk' Tryz.underlying352 rfl inf38 (List.cons_ne_nil _ _)
instance : FA Tryz.prog 352 1 1 := FA.mk' Tryz.underlying352 rfl inf3 (List.cons_ne_nil _ _)
instance : Pl Tryz.prog 352 [Value.slice none 0 0, Value.int .i64 0] [(0, 1), (1, 1)] := Pl.mk' Tryz.underlying352 inf352 (by kernel_rfl)
instance : FA Tryz.prog 378 0 0 := FA.mk' Tryz.underlying378 rfl inf3 (List.cons_ne_nil _ _)
instance : FA Tryz.prog 378 1 1 := FA.mk' Tryz.underlying378 rfl inf3 (List.cons_ne_nil _ _)
instance : FA Tryz.prog 378 2 2 := FA.mk' Tryz.underlying378 rfl inf2 (List.cons_ne_nil _ _)
instance : FA Tryz.prog 378 3 3 := FA.mk' Tryz.underlying378 rfl inf2 (List.cons_ne_nil _ _)
instance : FA Tryz.prog 378 4 4 := FA.mk' Tryz.underlying378 rfl inf170 (List.cons_ne_nil _ _)
instance : FA Tryz.prog 378 5 5 := FA.mk' Tryz.underlying378 rfl inf23 (List.cons_ne_nil _ _)
instance : Pl Tryz.prog 378 [Value.int .i64 0, Value.int .i64 0, Value.int .i64 0, Value.int .i64 0, Value.slice none 0 0, Value.slice none 0 0] [(0, 1), (1, 1), (2, 1), (3, 1), (4, 1), (5, 1)] := Pl.mk' Tryz.underlying378 inf378 (by kernel_rfl)
instance : FA Tryz.prog 379 0 0 := FA.mk' Tryz.underlying379 rfl inf3 (List.cons_ne_nil _ _)
instance : FA Tryz.prog 379 1 1 := FA.mk' Tryz.underlying379 rfl inf3 (List.cons_ne_nil _ _)
instance : FA Tryz.prog 379 2 2 := FA.mk' Tryz.underlying379 rfl inf2 (List.cons_ne_nil _ _)
instance : FA Tryz.prog 379 3 3 := FA.mk' Tryz.underlying379 rfl inf2 (List.cons_ne_nil _ _)
instance : FA Tryz.prog 379 4 4 := FA.mk' Tryz.underlying379 rfl inf170 (List.cons_ne_nil _ _)
instance : FA Tryz.prog 379 5 5 := FA.mk' Tryz.underlying379 rfl inf23 (List.cons_ne_nil _ _)
instance : Pl Tryz.prog 379 [Value.int .i64 0, Value.int .i64 0, Value.int .i64 0, Value.int .i64 0, Value.slice none 0 0, Value.slice none 0 0] [(0, 1), (1, 1), (2, 1), (3, 1), (4, 1), (5, 1)] := Pl.mk' Tryz.underlying379 inf379 (by kernel_rfl)
instance : FA Tryz.prog 380 0 0 := FA.mk' Tryz.underlying380 rfl inf3 (List.cons_ne_nil _ _)
instance : FA Tryz.prog 380 1 1 := FA.mk' Tryz.underlying380 rfl inf32 (List.cons_ne_nil _ _)
instance : FA Tryz.prog 380 2 9 := FA.mk' Tryz.underlying380 rfl inf377 (List.cons_ne_nil _ _)
instance : FA Tryz.prog 380 3 10 := FA.mk' Tryz.underlying380 rfl inf172 (List.cons_ne_nil _ _)
instance : FA Tryz.prog 380 4 18 := FA.mk' Tryz.underlying380 rfl inf172 (List.cons_ne_nil _ _)
instance : FA Tryz.prog 380 5 26 := FA.mk' Tryz.underlying380 rfl inf4 (List.cons_ne_nil _ _)
instance : FA Tryz.prog 380 6 27 := FA.mk' Tryz.underlying380 rfl inf4 (List.cons_ne_nil _ _)
instance : FA Tryz.prog 380 7 28 := FA.mk' Tryz.underlying380 rfl inf4 (List.cons_ne_nil _ _)
instance : FA Tryz.prog 380 8 29 := FA.mk' Tryz.underlying380 rfl inf379 (List.cons_ne_nil _ _)
instance : FA Tryz.prog 380 9 35 := FA.mk' Tryz.underlying380 rfl inf3 (List.cons_ne_nil _ _)
instance : FA Tryz.prog 380 10 36 := FA.mk' Tryz.underlying380 rfl inf63 (List.cons_ne_nil _ _)
instance : FA Tryz.prog 380 11 37 := FA.mk' Tryz.underlying380 rfl inf3 (List.cons_ne_nil _ _)
instance : FA Tryz.prog 380 12 38 := FA.mk' Tryz.underlying380 rfl inf23 (List.cons_ne_nil _ _)
instance : FA Tryz.prog 380 13 39 := FA.mk' Tryz.underlying380 rfl inf3 (List.cons_ne_nil _ _)
instance : FA Tryz.prog 380 14 40 := FA.mk' Tryz.underlying380 rfl inf4 (List.cons_ne_nil _ _)
instance : FA Tryz.prog 380 15 41 := FA.mk' Tryz.underlying380 rfl inf25 (List.cons_ne_nil _ _)
instance : Pl Tryz.prog 380 [Value.int .i64 0, Value.int .i64 0, Value.int .i64 0, Value.int .i64 0, Value.int .i64 0, Value.int .u64 0, Value.int .i64 0, Value.int .i64 0, Value.int .i64 0, Value.int .i64 0, Value.bool false, Value.bool false, Value.int .i64 0, Value.int .i64 0, Value.bool false, Value.int .i64 0, Value.slice none 0 0, Value.slice none 0 0, Value.bool false, Value.bool false, Value.int .i64 0, Value.int .i64 0, Value.bool false, Value.int .i64 0, Value.slice none 0 0, Value.slice none 0 0, Value.bool false, Value.bool false, Value.bool false, Value.int .i64 0, Value.int .i64 0, Value.int .i64 0, Value.int .i64 0, Value.slice none 0 0, Value.slice none 0 0, Value.int .i64 0, Value.pointer none, Value.int .i64 0, Value.slice none 0 0, Value.int .i64 0, Value.bool false, Value.int .i64 0, Value.int .i64 0, Value.slice none 0 0] [(0, 1), (1, 8), (9, 1), (10, 8), (18, 8), (26, 1), (27, 1), (28, 1), (29, 6), (35, 1), (36, 1), (37, 1), (38, 1), (39, 1), (40, 1), (41, 3)] := Pl.mk' Tryz.underlying380 inf380 (by kernel_rfl)
instance : FA Tryz.prog 381 0 0 := FA.mk' Tryz.underlying381 rfl inf3 (List.cons_ne_nil _ _)
instance : FA Tryz.prog 381 1 1 := FA.mk' Tryz.underlying381 rfl inf32 (List.cons_ne_nil _ _)
instance : FA Tryz.prog 381 2 9 := FA.mk' Tryz.underlying381 rfl inf377 (List.cons_ne_nil _ _)
instance : FA Tryz.prog 381 3 10 := FA.mk' Tryz.underlying381 rfl inf172 (List.cons_ne_nil _ _)
instance : FA Tryz.prog 381 4 18 := FA.mk' Tryz.underlying381 rfl inf172 (List.cons_ne_nil _ _)
instance : FA Tryz.prog 381 5 26 := FA.mk' Tryz.underlying381 rfl inf4 (List.cons_ne_nil _ _)
instance : FA Tryz.prog 381 6 27 := FA.mk' Tryz.underlying381 rfl inf4 (List.cons_ne_nil _ _)
instance : FA Tryz.prog 381 7 28 := FA.mk' Tryz.underlying381 rfl inf4 (List.cons_ne_nil _ _)
instance : FA Tryz.prog 381 8 29 := FA.mk' Tryz.underlying381 rfl inf379 (List.cons_ne_nil _ _)
instance : FA Tryz.prog 381 9 35 := FA.mk' Tryz.underlying381 rfl inf3 (List.cons_ne_nil _ _)
instance : FA Tryz.prog 381 10 36 := FA.mk' Tryz.underlying381 rfl inf63 (List.cons_ne_nil _ _)
instance : FA Tryz.prog 381 11 37 := FA.mk' Tryz.underlying381 rfl inf3 (List.cons_ne_nil _ _)
instance : FA Tryz.prog 381 12 38 := FA.mk' Tryz.underlying381 rfl inf23 (List.cons_ne_nil _ _)
instance : FA Tryz.prog 381 13 39 := FA.mk' Tryz.underlying381 rfl inf3 (List.cons_ne_nil _ _)
instance : FA Tryz.prog 381 14 40 := FA.mk' Tryz.underlying381 rfl inf4 (List.cons_ne_nil _ _)
instance : FA Tryz.prog 381 15 41 := FA.mk' Tryz.underlying381 rfl inf25 (List.cons_ne_nil _ _)
instance : Pl Tryz.prog 381 [Value.int .i64 0, Value.int .i64 0, Value.int .i64 0, Value.int .i64 0, Value.int .i64 0, Value.int .u64 0, Value.int .i64 0, Value.int .i64 0, Value.int .i64 0, Value.int .i64 0, Value.bool false, Value.bool false, Value.int .i64 0, Value.int .i64 0, Value.bool false, Value.int .i64 0, Value.slice none 0 0, Value.slice none 0 0, Value.bool false, Value.bool false, Value.int .i64 0, Value.int .i64 0, Value.bool false, Value.int .i64 0, Value.slice none 0 0, Value.slice none 0 0, Value.bool false, Value.bool false, Value.bool false, Value.int .i64 0, Value.int .i64 0, Value.int .i64 0, Value.int .i64 0, Value.slice none 0 0, Value.slice none 0 0, Value.int .i64 0, Value.pointer none, Value.int .i64 0, Value.slice none 0 0, Value.int .i64 0, Value.bool false, Value.int .i64 0, Value.int .i64 0, Value.slice none 0 0] [(0, 1), (1, 8), (9, 1), (10, 8), (18, 8), (26, 1), (27, 1), (28, 1), (29, 6), (35, 1), (36, 1), (37, 1), (38, 1), (39, 1), (40, 1), (41, 3)] := Pl.mk' Tryz.underlying381 inf381 (by kernel_rfl)
instance : FA Tryz.prog 382 0 0 := FA.mk' Tryz.underlying382 rfl inf3 (List.cons_ne_nil _ _)
instance : FA Tryz.prog 382 1 1 := FA.mk' Tryz.underlying382 rfl inf3 (List.cons_ne_nil _ _)
instance : FA Tryz.prog 382 2 2 := FA.mk' Tryz.underlying382 rfl inf3 (List.cons_ne_nil _ _)
instance : FA Tryz.prog 382 3 3 := FA.mk' Tryz.underlying382 rfl inf32 (List.cons_ne_nil _ _)
instance : FA Tryz.prog 382 4 11 := FA.mk' Tryz.underlying382 rfl inf25 (List.cons_ne_nil _ _)
instance : Pl Tryz.prog 382 [Value.int .i64 0, Value.int .i64 0, Value.int .i64 0, Value.int .i64 0, Value.int .i64 0, Value.int .i64 0, Value.int .i64 0, Value.int .u64 0, Value.int .i64 0, Value.int .i64 0, Value.int .i64 0, Value.int .i64 0, Value.int .i64 0, Value.slice none 0 0] [(0, 1), (1, 1), (2, 1), (3, 8), (11, 3)] := Pl.mk' Tryz.underlying382 inf382 (by kernel_rfl)
instance : FA Tryz.prog 383 0 0 := FA.mk' Tryz.underlying383 rfl inf3 (List.cons_ne_nil _ _)
instance : FA Tryz.prog 383 1 1 := FA.mk' Tryz.underlying383 rfl inf3 (List.cons_ne_nil _ _)
instance : FA Tryz.prog 383 2 2 := FA.mk' Tryz.underlying383 rfl inf3 (List.cons_ne_nil _ _)
instance : FA Tryz.prog 383 3 3 := FA.mk' Tryz.underlying383 rfl inf32 (List.cons_ne_nil _ _)
instance : FA Tryz.prog 383 4 11 := FA.mk' Tryz.underlying383 rfl inf25 (List.cons_ne_nil _ _)
instance : Pl Tryz.prog 383 [Value.int .i64 0, Value.int .i64 0, Value.int .i64 0, Value.int .i64 0, Value.int .i64 0, Value.int .i64 0, Value.int .i64 0, Value.int .u64 0, Value.int .i64 0, Value.int .i64 0, Value.int .i64 0, Value.int .i64 0, Value.int .i64 0, Value.slice none 0 0] [(0, 1), (1, 1), (2, 1), (3, 8), (11, 3)] := Pl.mk' Tryz.underlying383 inf383 (by kernel_rfl)
instance : FA Tryz.prog 384 0 0 := FA.mk' Tryz.underlying384 rfl inf3 (List.cons_ne_nil _ _)
instance : FA Tryz.prog 384 1 1 := FA.mk' Tryz.underlying384 rfl inf3 (List.cons_ne_nil _ _)
instance : Pl Tryz.prog 384 [Value.int .i64 0, Value.int .i64 0] [(0, 1), (1, 1)] := Pl.mk' Tryz.underlying384 inf384 (by kernel_rfl)
instance : FA Tryz.prog 385 0 0 := FA.mk' Tryz.underlying385 rfl inf3 (List.cons_ne_nil _ _)
instance : FA Tryz.prog 385 1 1 := FA.mk' Tryz.underlying385 rfl inf3 (List.cons_ne_nil _ _)
instance : Pl Tryz.prog 385 [Value.int .i64 0, Value.int .i64 0] [(0, 1), (1, 1)] := Pl.mk' Tryz.underlying385 inf385 (by kernel_rfl)
instance : FA Tryz.prog 387 0 0 := FA.mk' Tryz.underlying387 rfl inf199 (List.cons_ne_nil _ _)
instance : FA Tryz.prog 387 1 3 := FA.mk' Tryz.underlying387 rfl inf3 (List.cons_ne_nil _ _)
instance : FA Tryz.prog 387 2 4 := FA.mk' Tryz.underlying387 rfl inf23 (List.cons_ne_nil _ _)
instance : FA Tryz.prog 387 3 5 := FA.mk' Tryz.underlying387 rfl inf38 (List.cons_ne_nil _ _)
instance : FA Tryz.prog 387 4 6 := FA.mk' Tryz.underlying387 rfl inf4 (List.cons_ne_nil _ _)
instance : Pl Tryz.prog 387 [Value.bool false, Value.bool false, Value.int .i64 0, Value.int .i64 0, Value.slice none 0 0, Value.slice none 0 0, Value.bool false] [(0, 3), (3, 1), (4, 1), (5, 1), (6, 1)] := Pl.mk' Tryz.underlying387 inf387 (by kernel_rfl)
instance : FA Tryz.prog 388 0 0 := FA.mk' Tryz.underlying388 rfl inf199 (List.cons_ne_nil _ _)
instance : FA Tryz.prog 388 1 3 := FA.mk' Tryz.underlying388 rfl inf3 (List.cons_ne_nil _ _)
instance : FA Tryz.prog 388 2 4 := FA.mk' Tryz.underlying388 rfl inf23 (List.cons_ne_nil _ _)
instance : FA Tryz.prog 388 3 5 := FA.mk' Tryz.underlying388 rfl inf38 (List.cons_ne_nil _ _)
instance : FA Tryz.prog 388 4 6 := FA.mk' Tryz.underlying388 rfl inf4 (List.cons_ne_nil _ _)
instance : Pl Tryz.prog 388 [Value.bool false, Value.bool false, Value.int .i64 0, Value.int .i64 0, Value.slice none 0 0, Value.slice none 0 0, Value.bool false] [(0, 3), (3, 1), (4, 1), (5, 1), (6, 1)] := Pl.mk' Tryz.underlying388 inf388 (by kernel_rfl)
instance : FA Tryz.prog 390 0 0 := FA.mk' Tryz.underlying390 rfl inf3 (List.cons_ne_nil _ _)
instance : FA Tryz.prog 390 1 1 := FA.mk' Tryz.underlying390 rfl inf3 (List.cons_ne_nil _ _)
instance : FA Tryz.prog 390 2 2 := FA.mk' Tryz.underlying390 rfl inf379 (List.cons_ne_nil _ _)
instance : FA Tryz.prog 390 3 8 := FA.mk' Tryz.underlying390 rfl inf4 (List.cons_ne_nil _ _)
instance : FA Tryz.prog 390 4 9 := FA.mk' Tryz.underlying390 rfl inf3 (List.cons_ne_nil _ _)
instance : Pl Tryz.prog 390 [Value.int .i64 0, Value.int .i64 0, Value.int .i64 0, Value.int .i64 0, Value.int .i64 0, Value.int .i64 0, Value.slice none 0 0, Value.slice none 0 0, Value.bool false, Value.int .i64 0] [(0, 1), (1, 1), (2, 6), (8, 1), (9, 1)] := Pl.mk' Tryz.underlying390 inf390 (by kernel_rfl)
instance : FA Tryz.prog 391 0 0 := FA.mk' Tryz.underlying391 rfl inf3 (List.cons_ne_nil _ _)
instance : FA Tryz.prog 391 1 1 := FA.mk' Tryz.underlying391 rfl inf3 (List.cons_ne_nil _ _)
instance : FA Tryz.prog 391 2 2 := FA.mk' Tryz.underlying391 rfl inf379 (List.cons_ne_nil _ _)
instance : FA Tryz.prog 391 3 8 := FA.mk' Tryz.underlying391 rfl inf4 (List.cons_ne_nil _ _)
instance : FA Tryz.prog 391 4 9 := FA.mk' Tryz.underlying391 rfl inf3 (List.cons_ne_nil _ _)
instance : Pl Tryz.prog 391 [Value.int .i64 0, Value.int .i64 0, Value.int .i64 0, Value.int .i64 0, Value.int .i64 0, Value.int .i64 0, Value.slice none 0 0, Value.slice none 0 0, Value.bool false, Value.int .i64 0] [(0, 1), (1, 1), (2, 6), (8, 1), (9, 1)] := Pl.mk' Tryz.underlying391 inf391 (by kernel_rfl)
instance : FnB Tryz.prog 3 := ⟨_, Tryz.func3, by kernel_rfl, by kernel_rfl⟩
instance : FnB Tryz.prog 4 := ⟨_, Tryz.func4, by kernel_rfl, by kernel_rfl⟩
instance : FnB Tryz.prog 5 := ⟨_, Tryz.func5, by kernel_rfl, by kernel_rfl⟩
instance : FnB Tryz.prog 6 := ⟨_, Tryz.func6, by kernel_rfl, by kernel_rfl⟩
instance : FnB Tryz.prog 7 := ⟨_, Tryz.func7, by kernel_rfl, by kernel_rfl⟩
instance : FnB Tryz.prog 8 := ⟨_, Tryz.func8, by kernel_rfl, by kernel_rfl⟩
instance : FnB Tryz.prog 9 := ⟨_, Tryz.func9, by kernel_rfl, by kernel_rfl⟩
instance : FnB Tryz.prog 10 := ⟨_, Tryz.func10, by kernel_rfl, by kernel_rfl⟩
instance : FnB Tryz.prog 11 := ⟨_, Tryz.func11, by kernel_rfl, by kernel_rfl⟩
instance : FnB Tryz.prog 12 := ⟨_, Tryz.func12, by kernel_rfl, by kernel_rfl⟩
instance : FnB Tryz.prog 13 := ⟨_, Tryz.func13, by kernel_rfl, by kernel_rfl⟩
instance : FnB Tryz.prog 14 := ⟨_, Tryz.func14, by kernel_rfl, by kernel_rfl⟩
instance : FnB Tryz.prog 15 := ⟨_, Tryz.func15, by kernel_rfl, by kernel_rfl⟩
instance : FnB Tryz.prog 16 := ⟨_, Tryz.func16, by kernel_rfl, by kernel_rfl⟩
instance : FnB Tryz.prog 17 := ⟨_, Tryz.func17, by kernel_rfl, by kernel_rfl⟩
instance : FnB Tryz.prog 18 := ⟨_, Tryz.func18, by kernel_rfl, by kernel_rfl⟩
instance : FnB Tryz.prog 19 := ⟨_, Tryz.func19, by kernel_rfl, by kernel_rfl⟩
instance : FnB Tryz.prog 20 := ⟨_, Tryz.func20, by kernel_rfl, by kernel_rfl⟩
instance : FnB Tryz.prog 21 := ⟨_, Tryz.func21, by kernel_rfl, by kernel_rfl⟩
instance : FnB Tryz.prog 22 := ⟨_, Tryz.func22, by kernel_rfl, by kernel_rfl⟩
instance : FnB Tryz.prog 23 := ⟨_, Tryz.func23, by kernel_rfl, by kernel_rfl⟩
instance : FnB Tryz.prog 24 := ⟨_, Tryz.func24, by kernel_rfl, by kernel_rfl⟩
instance : FnB Tryz.prog 25 := ⟨_, Tryz.func25, by kernel_rfl, by kernel_rfl⟩
instance : FnB Tryz.prog 26 := ⟨_, Tryz.func26, by kernel_rfl, by kernel_rfl⟩
instance : FnB Tryz.prog 27 := ⟨_, Tryz.func27, by kernel_rfl, by kernel_rfl⟩
instance : FnB Tryz.prog 28 := ⟨_, Tryz.func28, by kernel_rfl, by kernel_rfl⟩
instance : FnB Tryz.prog 29 := ⟨_, Tryz.func29, by kernel_rfl, by kernel_rfl⟩
instance : FnB Tryz.prog 30 := ⟨_, Tryz.func30, by kernel_rfl, by kernel_rfl⟩
instance : FnB Tryz.prog 31 := ⟨_, Tryz.func31, by kernel_rfl, by kernel_rfl⟩
instance : FnB Tryz.prog 32 := ⟨_, Tryz.func32, by kernel_rfl, by kernel_rfl⟩
instance : FnB Tryz.prog 33 := ⟨_, Tryz.func33, by kernel_rfl, by kernel_rfl⟩
instance : FnB Tryz.prog 34 := ⟨_, Tryz.func34, by kernel_rfl, by kernel_rfl⟩
instance : FnB Tryz.prog 35 := ⟨_, Tryz.func35, by kernel_rfl, by kernel_rfl⟩
instance : FnB Tryz.prog 36 := ⟨_, Tryz.func36, by kernel_rfl, by kernel_rfl⟩
instance : FnB Tryz.prog 37 := ⟨_, Tryz.func37, by kernel_rfl, by kernel_rfl⟩
instance : FnB Tryz.prog 38 := ⟨_, Tryz.func38, by kernel_rfl, by kernel_rfl⟩
instance : FnB Tryz.prog 39 := ⟨_, Tryz.func39, by kernel_rfl, by kernel_rfl⟩
instance : FnB Tryz.prog 40 := ⟨_, Tryz.func40, by kernel_rfl, by kernel_rfl⟩
instance : FnB Tryz.prog 41 := ⟨_, Tryz.func41, by kernel_rfl, by kernel_rfl⟩
instance : FnB Tryz.prog 42 := ⟨_, Tryz.func42, by kernel_rfl, by kernel_rfl⟩
instance : FnB Tryz.prog 43 := ⟨_, Tryz.func43, by kernel_rfl, by kernel_rfl⟩
instance : FnB Tryz.prog 44 := ⟨_, Tryz.func44, by kernel_rfl, by kernel_rfl⟩
instance : FnB Tryz.prog 45 := ⟨_, Tryz.func45, by kernel_rfl, by kernel_rfl⟩
instance : FnB Tryz.prog 46 := ⟨_, Tryz.func46, by kernel_rfl, by kernel_rfl⟩
instance : FnB Tryz.prog 47 := ⟨_, Tryz.func47, by kernel_rfl, by kernel_rfl⟩
instance : FnB Tryz.prog 48 := ⟨_, Tryz.func48, by kernel_rfl, by kernel_rfl⟩
instance : FnB Tryz.prog 49 := ⟨_, Tryz.func49, by kernel_rfl, by kernel_rfl⟩
instance : FnB Tryz.prog 50 := ⟨_, Tryz.func50, by kernel_rfl, by kernel_rfl⟩
instance : FnB Tryz.prog 51 := ⟨_, Tryz.func51, by kernel_rfl, by kernel_rfl⟩
instance : FnB Tryz.prog 52 := ⟨_, Tryz.func52, by kernel_rfl, by kernel_rfl⟩
instance : FnB Tryz.prog 53 := ⟨_, Tryz.func53, by kernel_rfl, by kernel_rfl⟩
instance : FnB Tryz.prog 54 := ⟨_, Tryz.func54, by kernel_rfl, by kernel_rfl⟩
instance : FnB Tryz.prog 55 := ⟨_, Tryz.func55, by kernel_rfl, by kernel_rfl⟩
instance : FnB Tryz.prog 56 := ⟨_, Tryz.func56, by kernel_rfl, by kernel_rfl⟩
instance : FnB Tryz.prog 57 := ⟨_, Tryz.func57, by kernel_rfl, by kernel_rfl⟩
instance : FnB Tryz.prog 58 := ⟨_, Tryz.func58, by kernel_rfl, by kernel_rfl⟩
instance : FnB Tryz.prog 59 := ⟨_, Tryz.func59, by kernel_rfl, by kernel_rfl⟩
instance : FnB Tryz.prog 60 := ⟨_, Tryz.func60, by kernel_rfl, by kernel_rfl⟩
instance : FnB Tryz.prog 61 := ⟨_, Tryz.func61, by kernel_rfl, by kernel_rfl⟩
instance : FnB Tryz.prog 62 := ⟨_, Tryz.func62, by kernel_rfl, by kernel_rfl⟩
instance : FnB Tryz.prog 63 := ⟨_, Tryz.func63, by kernel_rfl, by kernel_rfl⟩
instance : FnB Tryz.prog 64 := ⟨_, Tryz.func64, by kernel_rfl, by kernel_rfl⟩
instance : FnB Tryz.prog 65 := ⟨_, Tryz.func65, by kernel_rfl, by kernel_rfl⟩
instance : FnB Tryz.prog 66 := ⟨_, Tryz.func66, by kernel_rfl, by kernel_rfl⟩
instance : FnB Tryz.prog 67 := ⟨_, Tryz.func67, by kernel_rfl, by kernel_rfl⟩
instance : FnB Tryz.prog 68 := ⟨_, Tryz.func68, by kernel_rfl, by kernel_rfl⟩
instance : FnB Tryz.prog 69 := ⟨_, Tryz.func69, by kernel_rfl, by kernel_rfl⟩
instance : FnB Tryz.prog 70 := ⟨_, Tryz.func70, by kernel_rfl, by kernel_rfl⟩
instance : FnB Tryz.prog 71 := ⟨_, Tryz.func71, by kernel_rfl, by kernel_rfl⟩
instance : FnB Tryz.prog 72 := ⟨_, Tryz.func72, by kernel_rfl, by kernel_rfl⟩
instance : FnB Tryz.prog 73 := ⟨_, Tryz.func73, by kernel_rfl, by kernel_rfl⟩
instance : FnB Tryz.prog 74 := ⟨_, Tryz.func74, by kernel_rfl, by kernel_rfl⟩
instance : FnB Tryz.prog 75 := ⟨_, Tryz.func75, by kernel_rfl, by kernel_rfl⟩
instance : FnB Tryz.prog 76 := ⟨_, Tryz.func76, by kernel_rfl, by kernel_rfl⟩
instance : FnB Tryz.prog 77 := ⟨_, Tryz.func77, by kernel_rfl, by kernel_rfl⟩
instance : FnB Tryz.prog 78 := ⟨_, Tryz.func78, by kernel_rfl, by kernel_rfl⟩
instance : FnB Tryz.prog 79 := ⟨_, Tryz.func79, by kernel_rfl, by kernel_rfl⟩
instance : FnB Tryz.prog 80 := ⟨_, Tryz.func80, by kernel_rfl, by kernel_rfl⟩
instance : FnB Tryz.prog 81 := ⟨_, Tryz.func81, by kernel_rfl, by kernel_rfl⟩
instance : FnB Tryz.prog 82 := ⟨_, Tryz.func82, by kernel_rfl, by kernel_rfl⟩
instance : FnB Tryz.prog 83 := ⟨_, Tryz.func83, by kernel_rfl, by kernel_rfl⟩
instance : FnB Tryz.prog 84 := ⟨_, Tryz.func84, by kernel_rfl, by kernel_rfl⟩
instance : FnB Tryz.prog 85 := ⟨_, Tryz.func85, by kernel_rfl, by kernel_rfl⟩
instance : FnB Tryz.prog 86 := ⟨_, Tryz.func86, by kernel_rfl, by kernel_rfl⟩
instance : FnB Tryz.prog 87 := ⟨_, Tryz.func87, by kernel_rfl, by kernel_rfl⟩
instance : FnB Tryz.prog 88 := ⟨_, Tryz.func88, by kernel_rfl, by kernel_rfl⟩
instance : FnB Tryz.prog 89 := ⟨_, Tryz.func89, by kernel_rfl, by kernel_rfl⟩
instance : FnB Tryz.prog 90 := ⟨_, Tryz.func90, by kernel_rfl, by kernel_rfl⟩
instance : FnB Tryz.prog 91 := ⟨_, Tryz.func91, by kernel_rfl, by kernel_rfl⟩
instance : FnB Tryz.prog 92 := ⟨_, Tryz.func92, by kernel_rfl, by kernel_rfl⟩
instance : FnB Tryz.prog 93 := ⟨_, Tryz.func93, by kernel_rfl, by kernel_rfl⟩
instance : FnB Tryz.prog 94 := ⟨_, Tryz.func94, by kernel_rfl, by kernel_rfl⟩
instance : FnB Tryz.prog 95 := ⟨_, Tryz.func95, by kernel_rfl, by kernel_rfl⟩
instance : FnB Tryz.prog 96 := ⟨_, Tryz.func96, by kernel_rfl, by kernel_rfl⟩
instance : FnB Tryz.prog 97 := ⟨_, Tryz.func97, by kernel_rfl, by kernel_rfl⟩
instance : FnB Tryz.prog 98 := ⟨_, Tryz.func98, by kernel_rfl, by kernel_rfl⟩
instance : FnB Tryz.prog 99 := ⟨_, Tryz.func99, by kernel_rfl, by kernel_rfl⟩
instance : FnB Tryz.prog 100 := ⟨_, Tryz.func100, by kernel_rfl, by kernel_rfl⟩
instance : FnB Tryz.prog 101 := ⟨_, Tryz.func101, by kernel_rfl, by kernel_rfl⟩
instance : FnB Tryz.prog 102 := ⟨_, Tryz.func102, by kernel_rfl, by kernel_rfl⟩
instance : FnB Tryz.prog 103 := ⟨_, Tryz.func103, by kernel_rfl, by kernel_rfl⟩
instance : FnB Tryz.prog 104 := ⟨_, Tryz.func104, by kernel_rfl, by kernel_rfl⟩
instance : FnB Tryz.prog 105 := ⟨_, Tryz.func105, by kernel_rfl, by kernel_rfl⟩
instance : FnB Tryz.prog 106 := ⟨_, Tryz.func106, by kernel_rfl, by kernel_rfl⟩
instance : FnB Tryz.prog 107 := ⟨_, Tryz.func107, by kernel_rfl, by kernel_rfl⟩
instance : FnB Tryz.prog 108 := ⟨_, Tryz.func108, by kernel_rfl, by kernel_rfl⟩
instance : FnB Tryz.prog 109 := ⟨_, Tryz.func109, by kernel_rfl, by kernel_rfl⟩
instance : FnB Tryz.prog 110 := ⟨_, Tryz.func110, by kernel_rfl, by kernel_rfl⟩
instance : FnB Tryz.prog 111 := ⟨_, Tryz.func111, by kernel_rfl, by kernel_rfl⟩
instance : FnB Tryz.prog 112 := ⟨_, Tryz.func112, by kernel_rfl, by kernel_rfl⟩
instance : FnB Tryz.prog 113 := ⟨_, Tryz.func113, by kernel_rfl, by kernel_rfl⟩
instance : FnB Tryz.prog 114 := ⟨_, Tryz.func114, by kernel_rfl, by kernel_rfl⟩
instance : FnB Tryz.prog 115 := ⟨_, Tryz.func115, by kernel_rfl, by kernel_rfl⟩
instance : FnB Tryz.prog 116 := ⟨_, Tryz.func116, by kernel_rfl, by kernel_rfl⟩
instance : FnB Tryz.prog 117 := ⟨_, Tryz.func117, by kernel_rfl, by kernel_rfl⟩
instance : FnB Tryz.prog 118 := ⟨_, Tryz.func118, by kernel_rfl, by kernel_rfl⟩
instance : FnB Tryz.prog 119 := ⟨_, Tryz.func119, by kernel_rfl, by kernel_rfl⟩
instance : FnB Tryz.prog 120 := ⟨_, Tryz.func120, by kernel_rfl, by kernel_rfl⟩
instance : FnB Tryz.prog 121 := ⟨_, Tryz.func121, by kernel_rfl, by kernel_rfl⟩
instance : FnB Tryz.prog 122 := ⟨_, Tryz.func122, by kernel_rfl, by kernel_rfl⟩
instance : FnB Tryz.prog 123 := ⟨_, Tryz.func123, by kernel_rfl, by kernel_rfl⟩
instance : FnB Tryz.prog 124 := ⟨_, Tryz.func124, by kernel_rfl, by kernel_rfl⟩
instance : FnB Tryz.prog 126 := ⟨_, Tryz.func126, by kernel_rfl, by kernel_rfl⟩
instance : FnB Tryz.prog 127 := ⟨_, Tryz.func127, by kernel_rfl, by kernel_rfl⟩
instance : FnB Tryz.prog 128 := ⟨_, Tryz.func128, by kernel_rfl, by kernel_rfl⟩
instance : FnB Tryz.prog 129 := ⟨_, Tryz.func129, by kernel_rfl, by kernel_rfl⟩
instance : FnB Tryz.prog 130 := ⟨_, Tryz.func130, by kernel_rfl, by kernel_rfl⟩
instance : FnB Tryz.prog 131 := ⟨_, Tryz.func131, by kernel_rfl, by kernel_rfl⟩
instance : FnB Tryz.prog 132 := ⟨_, Tryz.func132, by kernel_rfl, by kernel_rfl⟩
instance : FnB Tryz.prog 133 := ⟨_, Tryz.func133, by kernel_rfl, by kernel_rfl⟩
instance : FnB Tryz.prog 134 := ⟨_, Tryz.func134, by kernel_rfl, by kernel_rfl⟩
instance : FnB Tryz.prog 135 := ⟨_, Tryz.func135, by kernel_rfl, by kernel_rfl⟩
instance : FnB Tryz.prog 136 := ⟨_, Tryz.func136, by kernel_rfl, by kernel_rfl⟩
instance : FnB Tryz.prog 137 := ⟨_, Tryz.func137, by kernel_rfl, by kernel_rfl⟩
instance : FnB Tryz.prog 138 := ⟨_, Tryz.func138, by kernel_rfl, by kernel_rfl⟩
instance : FnB Tryz.prog 139 := ⟨_, Tryz.func139, by kernel_rfl, by kernel_rfl⟩
instance : FnB Tryz.prog 140 := ⟨_, Tryz.func140, by kernel_rfl, by kernel_rfl⟩
instance : FnB Tryz.prog 141 := ⟨_, Tryz.func141, by kernel_rfl, by kernel_rfl⟩
instance : FnB Tryz.prog 142 := ⟨_, Tryz.func142, by kernel_rfl, by kernel_rfl⟩
instance : FnB Tryz.prog 143 := ⟨_, Tryz.func143, by kernel_rfl, by kernel_rfl⟩
instance : FnB Tryz.prog 144 := ⟨_, Tryz.func144, by kernel_rfl, by kernel_rfl⟩
instance : FnB Tryz.prog 145 := ⟨_, Tryz.func145, by kernel_rfl, by kernel_rfl⟩
instance : FnB Tryz.prog 146 := ⟨_, Tryz.func146, by kernel_rfl, by kernel_rfl⟩
instance : FnB Tryz.prog 147 := ⟨_, Tryz.func147, by kernel_rfl, by kernel_rfl⟩
instance : FnB Tryz.prog 148 := ⟨_, Tryz.func148, by kernel_rfl, by kernel_rfl⟩
instance : FnB Tryz.prog 149 := ⟨_, Tryz.func149, by kernel_rfl, by kernel_rfl⟩
instance : FnB Tryz.prog 150 := ⟨_, Tryz.func150, by kernel_rfl, by kernel_rfl⟩
instance : FnB Tryz.prog 151 := ⟨_, Tryz.func151, by kernel_rfl, by kernel_rfl⟩
instance : FnB Tryz.prog 152 := ⟨_, Tryz.func152, by kernel_rfl, by kernel_rfl⟩
instance : FnB Tryz.prog 153 := ⟨_, Tryz.func153, by kernel_rfl, by kernel_rfl⟩
instance : FnB Tryz.prog 154 := ⟨_, Tryz.func154, by kernel_rfl, by kernel_rfl⟩
instance : FnB Tryz.prog 155 := ⟨_, Tryz.func155, by kernel_rfl, by kernel_rfl⟩
instance : FnB Tryz.prog 156 := ⟨_, Tryz.func156, by kernel_rfl, by kernel_rfl⟩
instance : FnB Tryz.prog 157 := ⟨_, Tryz.func157, by kernel_rfl, by kernel_rfl⟩
instance : FnB Tryz.prog 158 := ⟨_, Tryz.func158, by kernel_rfl, by kernel_rfl⟩
instance : FnB Tryz.prog 159 := ⟨_, Tryz.func159, by kernel_rfl, by kernel_rfl⟩
instance : FnB Tryz.prog 160 := ⟨_, Tryz.func160, by kernel_rfl, by kernel_rfl⟩
instance : FnB Tryz.prog 161 := ⟨_, Tryz.func161, by kernel_rfl, by kernel_rfl⟩
instance : FnB Tryz.prog 162 := ⟨_, Tryz.func162, by kernel_rfl, by kernel_rfl⟩
instance : FnB Tryz.prog 163 := ⟨_, Tryz.func163, by kernel_rfl, by kernel_rfl⟩
instance : FnB Tryz.prog 164 := ⟨_, Tryz.func164, by kernel_rfl, by kernel_rfl⟩
instance : FnB Tryz.prog 165 := ⟨_, Tryz.func165, by kernel_rfl, by kernel_rfl⟩
instance : FnB Tryz.prog 166 := ⟨_, Tryz.func166, by kernel_rfl, by kernel_rfl⟩
instance : FnB Tryz.prog 167 := ⟨_, Tryz.func167, by kernel_rfl, by kernel_rfl⟩
instance : FnB Tryz.prog 168 := ⟨_, Tryz.func168, by kernel_rfl, by kernel_rfl⟩
instance : FnB Tryz.prog 169 := ⟨_, Tryz.func169, by kernel_rfl, by kernel_rfl⟩
instance : FnB Tryz.prog 170 := ⟨_, Tryz.func170, by kernel_rfl, by kernel_rfl⟩
instance : FnB Tryz.prog 171 := ⟨_, Tryz.func171, by kernel_rfl, by kernel_rfl⟩
instance : FnB Tryz.prog 172 := ⟨_, Tryz.func172, by kernel_rfl, by kernel_rfl⟩
instance : FnB Tryz.prog 173 := ⟨_, Tryz.func173, by kernel_rfl, by kernel_rfl⟩
instance : FnB Tryz.prog 174 := ⟨_, Tryz.func174, by kernel_rfl, by kernel_rfl⟩
instance : FnB Tryz.prog 175 := ⟨_, Tryz.func175, by kernel_rfl, by kernel_rfl⟩
instance : FnB Tryz.prog 178 := ⟨_, Tryz.func178, by kernel_rfl, by kernel_rfl⟩
instance : FnB Tryz.prog 179 := ⟨_, Tryz.func179, by kernel_rfl, by kernel_rfl⟩
instance : FnB Tryz.prog 180 := ⟨_, Tryz.func180, by kernel_rfl, by kernel_rfl⟩
instance : FnB Tryz.prog 181 := ⟨_, Tryz.func181, by kernel_rfl, by kernel_rfl⟩
instance : FnB Tryz.prog 182 := ⟨_, Tryz.func182, by kernel_rfl, by kernel_rfl⟩
instance : FnB Tryz.prog 183 := ⟨_, Tryz.func183, by kernel_rfl, by kernel_rfl⟩
instance : FnB Tryz.prog 184 := ⟨_, Tryz.func184, by kernel_rfl, by kernel_rfl⟩
instance : FnB Tryz.prog 185 := ⟨_, Tryz.func185, by kernel_rfl, by kernel_rfl⟩
instance : FnB Tryz.prog 186 := ⟨_, Tryz.func186, by kernel_rfl, by kernel_rfl⟩
instance : FnB Tryz.prog 187 := ⟨_, Tryz.func187, by kernel_rfl, by kernel_rfl⟩
instance : FnB Tryz.prog 188 := ⟨_, Tryz.func188, by kernel_rfl, by kernel_rfl⟩
instance : FnB Tryz.prog 189 := ⟨_, Tryz.func189, by kernel_rfl, by kernel_rfl⟩
instance : FnB Tryz.prog 190 := ⟨_, Tryz.func190, by kernel_rfl, by kernel_rfl⟩
instance : FnB Tryz.prog 191 := ⟨_, Tryz.func191, by kernel_rfl, by kernel_rfl⟩
instance : FnB Tryz.prog 192 := ⟨_, Tryz.func192, by kernel_rfl, by kernel_rfl⟩
instance : FnB Tryz.prog 193 := ⟨_, Tryz.func193, by kernel_rfl, by kernel_rfl⟩
instance : FnB Tryz.prog 194 := ⟨_, Tryz.func194, by kernel_rfl, by kernel_rfl⟩
instance : FnB Tryz.prog 195 := ⟨_, Tryz.func195, by kernel_rfl, by kernel_rfl⟩
instance : FnB Tryz.prog 196 := ⟨_, Tryz.func196, by kernel_rfl, by kernel_rfl⟩
instance : FnB Tryz.prog 197 := ⟨_, Tryz.func197, by kernel_rfl, by kernel_rfl⟩
instance : FnB Tryz.prog 198 := ⟨_, Tryz.func198, by kernel_rfl, by kernel_rfl⟩
instance : FnB Tryz.prog 199 := ⟨_, Tryz.func199, by kernel_rfl, by kernel_rfl⟩
instance : FnB Tryz.prog 200 := ⟨_, Tryz.func200, by kernel_rfl, by kernel_rfl⟩
instance : FnB Tryz.prog 201 := ⟨_, Tryz.func201, by kernel_rfl, by kernel_rfl⟩
instance : FnB Tryz.prog 202 := ⟨_, Tryz.func202, by kernel_rfl, by kernel_rfl⟩
instance : FnB Tryz.prog 203 := ⟨_, Tryz.func203, by kernel_rfl, by kernel_rfl⟩
instance : FnB Tryz.prog 204 := ⟨_, Tryz.func204, by kernel_rfl, by kernel_rfl⟩
instance : FnB Tryz.prog 205 := ⟨_, Tryz.func205, by kernel_rfl, by kernel_rfl⟩
instance : FnB Tryz.prog 207 := ⟨_, Tryz.func207, by kernel_rfl, by kernel_rfl⟩
instance : FnB Tryz.prog 208 := ⟨_, Tryz.func208, by kernel_rfl, by kernel_rfl⟩
instance : FnB Tryz.prog 209 := ⟨_, Tryz.func209, by kernel_rfl, by kernel_rfl⟩
instance : FnB Tryz.prog 210 := ⟨_, Tryz.func210, by kernel_rfl, by kernel_rfl⟩
instance : FnB Tryz.prog 211 := ⟨_, Tryz.func211, by kernel_rfl, by kernel_rfl⟩
instance : FnB Tryz.prog 212 := ⟨_, Tryz.func212, by kernel_rfl, by kernel_rfl⟩
instance : FnB Tryz.prog 213 := ⟨_, Tryz.func213, by kernel_rfl, by kernel_rfl⟩
instance : FnB Tryz.prog 214 := ⟨_, Tryz.func214, by kernel_rfl, by kernel_rfl⟩
instance : FnB Tryz.prog 215 := ⟨_, Tryz.func215, by kernel_rfl, by kernel_rfl⟩
instance : FnB Tryz.prog 216 := ⟨_, Tryz.func216, by kernel_rfl, by kernel_rfl⟩
instance : FnB Tryz.prog 219 := ⟨_, Tryz.func219, by kernel_rfl, by kernel_rfl⟩
instance : FnB Tryz.prog 220 := ⟨_, Tryz.func220, by kernel_rfl, by kernel_rfl⟩
instance : FnB Tryz.prog 222 := ⟨_, Tryz.func222, by kernel_rfl, by kernel_rfl⟩
instance : FnB Tryz.prog 223 := ⟨_, Tryz.func223, by kernel_rfl, by kernel_rfl⟩
instance : FnB Tryz.prog 224 := ⟨_, Tryz.func224, by kernel_rfl, by kernel_rfl⟩
instance : FnB Tryz.prog 225 := ⟨_, Tryz.func225, by kernel_rfl, by kernel_rfl⟩
instance : FnB Tryz.prog 226 := ⟨_, Tryz.func226, by kernel_rfl, by kernel_rfl⟩
instance : FnB Tryz.prog 227 := ⟨_, Tryz.func227, by kernel_rfl, by kernel_rfl⟩
instance : FnB Tryz.prog 228 := ⟨_, Tryz.func228, by kernel_rfl, by kernel_rfl⟩
instance : FnB Tryz.prog 229 := ⟨_, Tryz.func229, by kernel_rfl, by kernel_rfl⟩
instance : FnB Tryz.prog 230 := ⟨_, Tryz.func230, by kernel_rfl, by kernel_rfl⟩
instance : FnB Tryz.prog 231 := ⟨_, Tryz.func231, by kernel_rfl, by kernel_rfl⟩
instance : FnB Tryz.prog 232 := ⟨_, Tryz.func232, by kernel_rfl, by kernel_rfl⟩
instance : FnB Tryz.prog 233 := ⟨_, Tryz.func233, by kernel_rfl, by kernel_rfl⟩
instance : FnB Tryz.prog 234 := ⟨_, Tryz.func234, by kernel_rfl, by kernel_rfl⟩
instance : FnB Tryz.prog 235 := ⟨_, Tryz.func235, by kernel_rfl, by kernel_rfl⟩
instance : FnB Tryz.prog 236 := ⟨_, Tryz.func236, by kernel_rfl, by kernel_rfl⟩
instance : FnB Tryz.prog 237 := ⟨_, Tryz.func237, by kernel_rfl, by kernel_rfl⟩
instance : FnB Tryz.prog 238 := ⟨_, Tryz.func238, by kernel_rfl, by kernel_rfl⟩
instance : FnB Tryz.prog 239 := ⟨_, Tryz.func239, by kernel_rfl, by kernel_rfl⟩
instance : FnB Tryz.prog 240 := ⟨_, Tryz.func240, by kernel_rfl, by kernel_rfl⟩
instance : FnB Tryz.prog 241 := ⟨_, Tryz.func241, by kernel_rfl, by kernel_rfl⟩
instance : FnB Tryz.prog 243 := ⟨_, Tryz.func243, by kernel_rfl, by kernel_rfl⟩
instance : FnB Tryz.prog 244 := ⟨_, Tryz.func244, by kernel_rfl, by kernel_rfl⟩
instance : FnB Tryz.prog 245 := ⟨_, Tryz.func245, by kernel_rfl, by kernel_rfl⟩
instance : FnB Tryz.prog 246 := ⟨_, Tryz.func246, by kernel_rfl, by kernel_rfl⟩
instance : FnB Tryz.prog 247 := ⟨_, Tryz.func247, by kernel_rfl, by kernel_rfl⟩
instance : FnB Tryz.prog 248 := ⟨_, Tryz.func248, by kernel_rfl, by kernel_rfl⟩
instance : FnB Tryz.prog 249 := ⟨_, Tryz.func249, by kernel_rfl, by kernel_rfl⟩
instance : FnB Tryz.prog 250 := ⟨_, Tryz.func250, by kernel_rfl, by kernel_rfl⟩
instance : FnB Tryz.prog 251 := ⟨_, Tryz.func251, by kernel_rfl, by kernel_rfl⟩
instance : FnB Tryz.prog 252 := ⟨_, Tryz.func252, by kernel_rfl, by kernel_rfl⟩
instance : FnB Tryz.prog 253 := ⟨_, Tryz.func253, by kernel_rfl, by kernel_rfl⟩
instance : FnB Tryz.prog 254 := ⟨_, Tryz.func254, by kernel_rfl, by kernel_rfl⟩
instance : FnB Tryz.prog 255 := ⟨_, Tryz.func255, by kernel_rfl, by kernel_rfl⟩
instance : FnB Tryz.prog 256 := ⟨_, Tryz.func256, by kernel_rfl, by kernel_rfl⟩
instance : FnB Tryz.prog 257 := ⟨_, Tryz.func257, by kernel_rfl, by kernel_rfl⟩
instance : FnB Tryz.prog 258 := ⟨_, Tryz.func258, by kernel_rfl, by kernel_rfl⟩
instance : FnB Tryz.prog 259 := ⟨_, Tryz.func259, by kernel_rfl, by kernel_rfl⟩
instance : FnB Tryz.prog 260 := ⟨_, Tryz.func260, by kernel_rfl, by kernel_rfl⟩
instance : FnB Tryz.prog 261 := ⟨_, Tryz.func261, by kernel_rfl, by kernel_rfl⟩
instance : FnB Tryz.prog 262 := ⟨_, Tryz.func262, by kernel_rfl, by kernel_rfl⟩
instance : FnB Tryz.prog 263 := ⟨_, Tryz.func263, by kernel_rfl, by kernel_rfl⟩
instance : FnB Tryz.prog 264 := ⟨_, Tryz.func264, by kernel_rfl, by kernel_rfl⟩
instance : FnB Tryz.prog 265 := ⟨_, Tryz.func265, by kernel_rfl, by kernel_rfl⟩
instance : FnB Tryz.prog 266 := ⟨_, Tryz.func266, by kernel_rfl, by kernel_rfl⟩
instance : FnB Tryz.prog 267 := ⟨_, Tryz.func267, by kernel_rfl, by kernel_rfl⟩
instance : FnB Tryz.prog 268 := ⟨_, Tryz.func268, by kernel_rfl, by kernel_rfl⟩
instance : FnB Tryz.prog 269 := ⟨_, Tryz.func269, by kernel_rfl, by kernel_rfl⟩
instance : FnB Tryz.prog 270 := ⟨_, Tryz.func270, by kernel_rfl, by kernel_rfl⟩
instance : FnB Tryz.prog 271 := ⟨_, Tryz.func271, by kernel_rfl, by kernel_rfl⟩
instance : FnB Tryz.prog 272 := ⟨_, Tryz.func272, by kernel_rfl, by kernel_rfl⟩
instance : FnB Tryz.prog 273 := ⟨_, Tryz.func273, by kernel_rfl, by kernel_rfl⟩
instance : FnB Tryz.prog 311 := ⟨_, Tryz.func311, by kernel_rfl, by kernel_rfl⟩
end Go.Proofs.YtnnehiiblfmpnaaGreatDoor

namespace Go.Proofs.YtnnehiiblfmpnaaGreatDoor
open Go.Hw
set_option maxHeartbeats 4000000

abbrev BwPt (p : Nat) (a : Option Addr) (m c n : Nat) : HProp := pt p (.cells [.slice a m c, .int .i64 n].toArray 352 (0, 0))
def IsBW (p : Nat) (bs : List Bool) : HProp := ex fun q : Option Addr × Nat => all [BwPt p q.1 ((bs.length + 7) / 8) q.2 bs.length, Own 5 1 q.1 ((bs.length + 7) / 8) q.2 (bytesV (pack bs))]
section
variable {w0 w : World} {l : List HProp} {p : Nat} {bs : List Bool}
theorem St.bw : St w0 (IsBW p bs :: l) w ↔ ∃ a c, St w0 (BwPt p a ((bs.length + 7) / 8) c bs.length :: Own 5 1 a ((bs.length + 7) / 8) c (bytesV (pack bs)) :: l) w := by
 unfold IsBW
 rw [St.ex]
 exact ⟨fun ⟨q, h⟩ => ⟨q.1, q.2, h.join⟩, fun ⟨a, c, h⟩ => ⟨(a, c), St.fold [_, _] h⟩⟩

theorem bits_NewWriter (h : St w0 l w) : Ret Tryz.prog 235 [] w fun v w' => ∃ p, v = .pointer (some ⟨p, 0, none⟩) ∧ St w0 (IsBW p [] :: l) w' := by
 refine enter Tryz.func235 rfl Tryz.results235 Tryz.ntmps235 rfl ?_
 refine c_seq (c_region ?_)
 refine r_v (q_assignP rfl) rfl ?_
 refine r_nil ?_
 refine c_seq (c_region ?_)
 refine r_v (q_build (r := [.slice none 0 0, .int .i64 0]) rfl) rfl ?_
 refine r_c rfl (x_box h (show _ = Value.agg [.slice none 0 0, .int .i64 0].toArray from rfl) fun p w h => ?_)
 refine r_v (q_assignP rfl) rfl ?_
 refine r_nil ?_
 refine c_ret (bq1 ⟨p, rfl, St.bw.2 ⟨none, 0, ?_⟩⟩)
 exact (St.ownNil 5 1 h).f 1
theorem bits_held (n : Int) (h : St w0 l w) : Ret Tryz.prog 244 [.int .i64 n] w fun v w' => v = .int .i64 (heldN n) ∧ St w0 l w' := by
 refine enter Tryz.func244 rfl Tryz.results244 Tryz.ntmps244 rfl ?_
 refine c_seq (c_region ?_)
 refine r_v (q_assignI rfl) rfl ?_
 refine r_nil ?_
 refine c_seq (c_region ?_)
 refine r_v (q_moveI rfl) rfl ?_; refine r_v (q_max rfl rfl) rfl ?_; refine r_v (q_min rfl rfl) rfl ?_
 refine r_is (.int .i64 (heldN n)) (by unfold heldN; congr 1; omega) ?_
 refine r_v (q_assignI rfl) rfl ?_
 refine r_nil ?_
 exact c_ret (bq1 ⟨rfl, h⟩)
theorem heldN_le (n : Int) : heldN n ≤ 64 := by unfold heldN; omega
theorem testBit_toNat (v k : Nat) : v / 2 ^ k % 2 = (v.testBit k).toNat := by
 rw [Nat.toNat_testBit]

theorem bits_Put (v : Nat) (n : Int) (hv : v < 18446744073709551616) (hlen : bs.length ≤ 70368744177664) (h : St w0 (IsBW p bs :: l) w) :
  Ret Tryz.prog 261 [.pointer (some ⟨p, 0, none⟩), .int .u64 v, .int .i64 n] w fun v' w' => v' = .tuple #[] ∧ St w0 (IsBW p (bs ++ bitsOf v (heldN n)) :: l) w' := by
 refine enter Tryz.func261 rfl Tryz.results261 Tryz.ntmps261 rfl ?_
 have hle := heldN_le n
 refine c_seq (c_region ?_)
 refine r_v (q_moveI rfl) rfl ?_
 refine r_c rfl (x_call rfl (bits_held n h) ?_)
 rintro _ w ⟨rfl, h⟩
 refine r_v (q_sub rfl rfl) rfl ?_
 refine r_is (.int .i64 ((heldN n : Int) - 1)) (by rw [wrap64 (by omega) (by omega)]) ?_
 refine r_v (q_assignI rfl) rfl ?_
 refine r_nil ?_
 refine c_block ?_
 refine c_loop (Γ := Nat × List Bool) (fun k => [(0, .pointer (some ⟨p, 0, none⟩)), (1, .int .u64 v), (6, .int .i64 ((k.1 : Int) - 1))])
  (fun k w => k.1 ≤ 64 ∧ k.2 ++ bitsOf v k.1 = bs ++ bitsOf v (heldN n) ∧ St w0 (IsBW p k.2 :: l) w) (fun k => k.1) (heldN n, bs) ⟨rfl, rfl, rfl, trivial⟩ ⟨hle, rfl, h⟩ ?_
 clear h
 rintro ⟨k, cur⟩ w e ⟨hk, hcur, h⟩
 dsimp only at hk hcur h ⊢
 have hcl : cur.length + k = bs.length + heldN n := by
  have := congrArg List.length hcur
  simpa [bitsOf_len] using this
 refine c_seq (c_seq (c_region ?_))
 refine r_v (q_moveI rfl) rfl ?_; refine r_v (q_geq rfl rfl) rfl ?_
 cases k with
 | zero =>
  refine r_is (.bool false) (by simp) ?_
  refine r_nil (c_false rfl ?_)
  refine c_exit ?_
  rw [← hcur, bitsOf, List.append_nil]
  exact (show (packv [] : Value) = .tuple #[] ∧ _ from ⟨rfl, h⟩)
 | succ k =>
 refine r_is (.bool true) (by simp <;> omega) ?_
 refine r_nil (c_true rfl (c_skip ?_))
 obtain ⟨a, c, h⟩ := St.bw.1 h
 refine c_seq (c_block ?_)
 refine c_cut (Γ := Option Addr × Nat) (fun q => [(0, .pointer (some ⟨p, 0, none⟩)), (1, .int .u64 v), (6, .int .i64 (((k + 1 : Nat) : Int) - 1))])
  (fun q w => St w0 (BwPt p q.1 (cur.length / 8 + 1) q.2 cur.length :: Own 5 1 q.1 (cur.length / 8 + 1) q.2 (bytesV (padz cur)) :: l) w) ?_ ?_
 ·refine c_seq (c_region ?_)
  refine r_v (q_moveP rfl) rfl ?_; refine r_v (q_nil rfl) rfl ?_; refine r_v (q_fa rfl) rfl ?_; refine r_v (q_load rfl (h.b 0) rfl) rfl ?_
  refine r_v (q_rem rfl rfl (by decide)) rfl ?_
  refine r_is (.int .i64 ((cur.length % 8 : Nat) : Int)) (by exact congrArg (Value.int .i64) (tmod_nat _ _)) ?_
  refine r_v (q_eql rfl rfl) rfl ?_
  by_cases h8 : cur.length % 8 = 0
  ·refine r_is (.bool true) (by simp [h8]) ?_
   refine r_nil (c_true rfl ?_)
   refine c_region ?_
   refine r_v (q_moveP rfl) rfl ?_; refine r_v (q_moveP rfl) rfl ?_; refine r_v (q_nil rfl) rfl ?_; refine r_v (q_fa rfl) rfl ?_; refine r_v (q_load rfl (h.b 0) rfl) rfl ?_
   refine r_c rfl (x_bslice (r := [.int .u8 0]) h rfl rfl rfl fun b w h => ?_)
   refine r_c rfl (x_append' (ys := [.int .u8 0]) (zs := bytesV (padz cur)) (m3 := cur.length / 8 + 1) (h.f 2) rfl rfl ⟨rfl, .inr ⟨b, 0, rfl, at_of (h.b 0 rfl) rfl⟩⟩ (fun u hu => by rw [List.mem_singleton.1 hu]; rfl) (by omega) (by rw [padz_even h8]; simp [bytesV]) (by omega) (by omega) rfl fun a' c' w _ h => ?_)
   refine r_v (q_nil rfl) rfl ?_; refine r_v (q_fa rfl) rfl ?_
   refine r_c rfl (x_store 2 h rfl (show _ = Value.slice _ _ _ from rfl) rfl rfl rfl rfl fun w h => ?_)
   refine r_nil ⟨(a', c'), ⟨rfl, rfl, rfl, trivial⟩, ?_⟩
   exact (h.f 1).drop.f 1
  ·refine r_is (.bool false) (by simp; omega) ?_
   refine r_nil (c_false rfl (c_skip ⟨(a, c), ⟨rfl, rfl, rfl, trivial⟩, ?_⟩))
   rw [padz_odd h8]
   have e : cur.length / 8 + 1 = (cur.length + 7) / 8 := by omega
   rw [e]
   exact h
 clear h
 rintro ⟨a, c⟩ w e h
 dsimp only at h
 obtain ⟨g, rfl⟩ := (h.f 1).own_some (by omega)
 have hk64 : k < 64 := by omega
 have hb2 : (v.testBit k).toNat ≤ 1 := by cases v.testBit k <;> decide
 have hb3 : (v.testBit k).toNat * 2 ^ (7 - cur.length % 8) < 256 := by
  have : 2 ^ (7 - cur.length % 8) ≤ 2 ^ 7 := Nat.pow_le_pow_right (by decide) (by omega)
  have := Nat.mul_le_mul hb2 this
  omega
 refine c_seq (c_any (some 25) (fun w => St w0 _ w) (by kernel_rfl) (by kernel_rfl) h.drew fun w h => ?_)
 refine cur_pure rfl rfl rfl rfl (fun _ => h) (fun _ => flt_v rfl (q_moveP rfl)) ?_; refine cur_pure rfl rfl rfl rfl (fun _ => h) (fun _ => flt_v rfl (q_nil rfl)) ?_; refine cur_pure rfl rfl rfl rfl (fun _ => h) (fun _ => flt_v rfl (q_fa rfl)) ?_; refine cur_float rfl rfl rfl rfl h (fun _ h => flt_v rfl (q_load rfl (h.b 0) rfl)) ?_; refine cur_pure rfl rfl rfl rfl (fun _ => h) (fun _ => flt_v rfl (q_moveP rfl)) ?_; refine cur_pure rfl rfl rfl rfl (fun _ => h) (fun _ => flt_v rfl (q_nil rfl)) ?_; refine cur_pure rfl rfl rfl rfl (fun _ => h) (fun _ => flt_v rfl (q_fa rfl)) ?_; refine cur_float rfl rfl rfl rfl h (fun _ h => flt_v rfl (q_load rfl (h.b 0) rfl)) ?_
 refine cur_pure rfl rfl rfl rfl (fun _ => h) (fun _ => flt_v rfl (q_is (v' := .int .i64 ((cur.length / 8 : Nat) : Int)) (q_quo rfl rfl (by decide)) (by rw [show ((cur.length : Nat) : Int).tdiv 8 = ((cur.length / 8 : Nat) : Int) from tdiv_nat _ 8, wrap64 (by omega) (by omega)]))) ?_
 refine cur_pure rfl rfl rfl rfl (fun _ => h) (fun _ => flt_v rfl (q_idx (o' := cur.length / 8) rfl rfl rfl (by omega) (by simp))) ?_
 refine cur_float rfl rfl rfl rfl h (fun w h => flt_v rfl (q_loadc (v := .int .u8 (byteAt cur (cur.length / 8)).toNat) rfl (by have := (h.f 1).own_rd.cell (bytesV_get (padz_at cur)); simpa using this))) ?_
 refine cur_pure rfl rfl rfl rfl (fun _ => h) (fun _ => flt_v rfl (q_moveI rfl)) ?_; refine cur_pure rfl rfl rfl rfl (fun _ => h) (fun _ => flt_v rfl (q_moveI rfl)) ?_
 refine cur_pure rfl rfl rfl rfl (fun _ => h) (fun _ => flt_v rfl (q_is (v' := .int .u64 ((v / 2 ^ k : Nat) : Int)) (q_shr rfl rfl (by omega)) (by rw [show (((k + 1 : Nat) : Int) - 1) = (k : Int) by omega]; exact congrArg (Value.int .u64) (fdiv_nat v k _ (Nat.le_of_lt hk64))))) ?_
 refine cur_pure rfl rfl rfl rfl (fun _ => h) (fun _ => flt_v rfl (q_is (v' := .int .u64 (((v.testBit k).toNat : Nat) : Int)) (q_and rfl rfl) (by
  rw [show bitOp .and .u64 ((v / 2 ^ k : Nat) : Int) 1 = ((v / 2 ^ k &&& 1 : Nat) : Int) from (bit_u64 (Nat.lt_of_le_of_lt (Nat.div_le_self _ _) hv) (by decide)).1, Nat.and_one_is_mod, testBit_toNat]))) ?_
 refine cur_pure rfl rfl rfl rfl (fun _ => h) (fun _ => flt_v rfl (q_is (v' := .int .u8 (((v.testBit k).toNat : Nat) : Int)) (q_conv rfl) (by rw [wrap_u8, Nat.mod_eq_of_lt (by omega)]))) ?_
 refine cur_pure rfl rfl rfl rfl (fun _ => h) (fun _ => flt_v rfl (q_moveP rfl)) ?_; refine cur_pure rfl rfl rfl rfl (fun _ => h) (fun _ => flt_v rfl (q_nil rfl)) ?_; refine cur_pure rfl rfl rfl rfl (fun _ => h) (fun _ => flt_v rfl (q_fa rfl)) ?_; refine cur_float rfl rfl rfl rfl h (fun _ h => flt_v rfl (q_load rfl (h.b 0) rfl)) ?_
 refine cur_pure rfl rfl rfl rfl (fun _ => h) (fun _ => flt_v rfl (q_is (v' := .int .i64 ((cur.length % 8 : Nat) : Int)) (q_rem rfl rfl (by decide)) (congrArg (Value.int .i64) (tmod_nat _ 8)))) ?_
 refine cur_pure rfl rfl rfl rfl (fun _ => h) (fun _ => flt_v rfl (q_is (v' := .int .i64 ((7 - cur.length % 8 : Nat) : Int)) (q_sub rfl rfl) (by rw [wrap64 (by omega) (by omega)]; congr 1; omega))) ?_
 refine cur_pure rfl rfl rfl rfl (fun _ => h) (fun _ => flt_v rfl (q_is (v' := .int .u8 (((v.testBit k).toNat * 2 ^ (7 - cur.length % 8) : Nat) : Int)) (q_shl rfl rfl (by omega)) (by rw [shl_u8 _ _ (by omega), Nat.mod_eq_of_lt hb3]))) ?_
 refine cur_pure rfl rfl rfl rfl (fun _ => h) (fun _ => flt_v rfl (q_is (v' := .int .u8 ((byteAt cur (cur.length / 8) ||| UInt8.ofNat ((v.testBit k).toNat * 2 ^ (7 - cur.length % 8))).toNat : Int)) (q_or rfl rfl) (by
  rw [← or_bytes, UInt8.toNat_ofNat', Nat.mod_eq_of_lt hb3]))) ?_
 refine cur_pure rfl rfl rfl rfl (fun _ => h) (fun _ => flt_v rfl (q_idx (o' := cur.length / 8) rfl rfl rfl (by omega) (by simp))) ?_
 refine cur_skip ?_
 refine cur_last 25 rfl rfl rfl ?_
 refine x_ownset (v := .int .u8 ((byteAt cur (cur.length / 8) ||| UInt8.ofNat ((v.testBit k).toNat * 2 ^ (7 - cur.length % 8))).toNat : Int)) (h.f 1) rfl rfl (by omega) rfl fun w h => ?_
 rw [bytesV_set, ← pack_snoc] at h
 refine c_region ?_
 refine r_v (q_moveP rfl) rfl ?_; refine r_v (q_nil rfl) rfl ?_; refine r_v (q_fa rfl) rfl ?_
 refine r_v (q_load (v := .int .i64 cur.length) rfl (h.b 1 rfl) rfl) rfl ?_
 refine r_v (q_add rfl rfl) rfl ?_
 refine r_is (.int .i64 ((cur.length + 1 : Nat) : Int)) (by rw [wrap64 (by omega) (by omega)]; rfl) ?_
 refine r_v (q_nil rfl) rfl ?_; refine r_v (q_fa rfl) rfl ?_
 refine r_c rfl (x_store 1 h rfl (show _ = Value.int _ _ from rfl) rfl rfl rfl rfl fun w h => ?_)
 refine r_nil ?_
 refine c_region ?_
 refine r_v (q_moveI rfl) rfl ?_; refine r_v (q_sub rfl rfl) rfl ?_
 refine r_is (.int .i64 ((k : Int) - 1)) (by rw [wrap64 (by omega) (by omega)]; congr 1; omega) ?_
 refine r_v (q_assignI rfl) rfl ?_
 refine r_nil ⟨(k, cur ++ [v.testBit k]), ⟨rfl, rfl, rfl, trivial⟩, ⟨by dsimp only; omega, ?_, St.bw.2 ⟨some ⟨g, 0, none⟩, c, ?_⟩⟩, by dsimp only; omega⟩
 ·rw [← hcur, List.append_assoc]; rfl
 ·have e1 : ((cur ++ [v.testBit k]).length + 7) / 8 = cur.length / 8 + 1 := by simp; omega
  rw [e1, List.length_append]
  exact h.f 1
end
end Go.Proofs.YtnnehiiblfmpnaaGreatDoor

namespace Go.Hw

def len64 (x : Nat) : Nat := if x = 0 then 0 else Nat.log2 x + 1
theorem len64_le {x k : Nat} : len64 x ≤ k ↔ x < 2 ^ k := by
 unfold len64
 split
 ·rename_i h; subst h; simp [Nat.two_pow_pos]
 ·rename_i h
  rw [← Nat.log2_lt h]
  omega
theorem len64_lt (x : Nat) : x < 2 ^ len64 x := len64_le.1 (Nat.le_refl _)
theorem len64_64 {x : Nat} (h : x < 18446744073709551616) : len64 x ≤ 64 := len64_le.2 h
def tzA : Nat → Nat → Nat
 | 0, _ => 0
 | k + 1, x => if x % 2 = 1 then 0 else tzA k (x / 2) + 1
def tz (x : Nat) : Nat := tzA 64 x
theorem tzA_dvd : ∀ (k x : Nat), x / 2 ^ tzA k x * 2 ^ tzA k x = x
 | 0, x => by simp [tzA]
 | k + 1, x => by
  rw [tzA]
  split
  ·simp
  ·have ih := tzA_dvd k (x / 2)
   rw [Nat.pow_succ, Nat.mul_comm _ 2, ← Nat.div_div_eq_div_mul, Nat.mul_comm 2, ← Nat.mul_assoc, ih]
   omega
theorem tz_dvd {x t : Nat} (h : t ≤ tz x) : x / 2 ^ t * 2 ^ t = x := by
 have h1 := tzA_dvd 64 x
 have h2 : 2 ^ tz x = 2 ^ (tz x - t) * 2 ^ t := by rw [← Nat.pow_add]; congr 1; omega
 have h3 : x = (x / 2 ^ tz x * 2 ^ (tz x - t)) * 2 ^ t := by rw [Nat.mul_assoc, ← h2]; exact h1.symm
 have h4 : x / 2 ^ t = x / 2 ^ tz x * 2 ^ (tz x - t) := by
  conv => lhs; rw [h3]
  exact Nat.mul_div_cancel _ (Nat.two_pow_pos t)
 rw [h4]; exact h3.symm
theorem tz_lead {x : Nat} (h0 : x ≠ 0) : tz x + 1 ≤ len64 x := by
 have h1 := tz_dvd (Nat.le_refl (tz x))
 have h2 : 2 ^ tz x ≤ x := by
  conv => rhs; rw [← h1]
  have : x / 2 ^ tz x ≠ 0 := by
   intro h; rw [h] at h1; simp at h1; exact h0 h1.symm
  exact Nat.le_mul_of_pos_left _ (Nat.pos_of_ne_zero this)
 rcases Nat.lt_or_ge (tz x) (len64 x) with h3 | h3
 ·exact h3
 ·have := len64_le.1 h3; omega

structure Win where
 is : Bool
 lead : Nat
 trail : Nat
 deriving DecidableEq
def winOf (x : Nat) : Win := ⟨true, min (64 - len64 x) 31, tz x⟩
def Win.fits (w : Win) (x : Nat) : Bool := w.is && decide (w.lead ≤ (winOf x).lead) && decide (w.trail ≤ (winOf x).trail)
def Win.long (w : Win) : Nat := 64 - w.lead - w.trail
def xorRest (win : Win) (was : Nat) : List Nat → List Bool
 | [] => []
 | now :: r => if now ^^^ was = 0 then bitsOf 0 1 ++ xorRest win now r
  else if win.fits (now ^^^ was) = true then bitsOf 2 2 ++ (bitsOf ((now ^^^ was) / 2 ^ win.trail) win.long ++ xorRest win now r)
  else bitsOf 3 2 ++ (bitsOf (winOf (now ^^^ was)).lead 5 ++ (bitsOf ((winOf (now ^^^ was)).long - 1) 6 ++ (bitsOf ((now ^^^ was) / 2 ^ (winOf (now ^^^ was)).trail) (winOf (now ^^^ was)).long ++ xorRest (winOf (now ^^^ was)) now r)))
def xorBits : List Nat → List Bool
 | [] => []
 | v :: r => bitsOf v 64 ++ xorRest ⟨false, 0, 0⟩ v r
def turnR (s : RS) (win : Win) : Option (Nat × Win) × RS :=
 if (s.get 1).1 = 0 then (some (0, win), (s.get 1).2)
 else if ((s.get 1).2.get 1).1 = 0 then
  let g := ((s.get 1).2.get 1).2.get win.long
  let x := g.1 * 2 ^ win.trail % 18446744073709551616
  (if win.is = true ∧ x ≠ 0 then some (x, win) else none, g.2)
 else
  let a := ((s.get 1).2.get 1).2.get 5
  let b := a.2.get 6
  if 64 < a.1 + (b.1 + 1) then (none, b.2) else
  let g := b.2.get (b.1 + 1)
  let x := g.1 * 2 ^ (64 - a.1 - (b.1 + 1)) % 18446744073709551616
  (if x = 0 ∨ winOf x ≠ ⟨true, a.1, 64 - a.1 - (b.1 + 1)⟩ ∨ win.fits x = true then none else some (x, ⟨true, a.1, 64 - a.1 - (b.1 + 1)⟩), g.2)
theorem turnR_0 {s s1 : RS} {win : Win} (h : s.get 1 = (0, s1)) : turnR s win = (some (0, win), s1) := by
 unfold turnR; rw [h]; rfl
theorem turnR_2 {s s1 s2 s3 : RS} {win : Win} {a g : Nat} (h1 : s.get 1 = (a, s1)) (ha : a ≠ 0) (h2 : s1.get 1 = (0, s2)) (h3 : s2.get win.long = (g, s3)) :
  turnR s win = (if win.is = true ∧ g * 2 ^ win.trail % 18446744073709551616 ≠ 0 then some (g * 2 ^ win.trail % 18446744073709551616, win) else none, s3) := by
 unfold turnR
 simp only [h1, h2, h3]
 rw [if_neg ha, if_pos trivial]
theorem turnR_3x {s s1 s2 s3 s4 : RS} {win : Win} {a b lead long : Nat} (h1 : s.get 1 = (a, s1)) (ha : a ≠ 0) (h2 : s1.get 1 = (b, s2)) (hb : b ≠ 0) (h3 : s2.get 5 = (lead, s3)) (h4 : s3.get 6 = (long, s4)) (h5 : 64 < lead + (long + 1)) :
  turnR s win = (none, s4) := by
 unfold turnR
 simp only [h1, h2, h3, h4]
 rw [if_neg ha, if_neg hb, if_pos h5]
theorem turnR_3 {s s1 s2 s3 s4 s5 : RS} {win : Win} {a b lead long g : Nat} (h1 : s.get 1 = (a, s1)) (ha : a ≠ 0) (h2 : s1.get 1 = (b, s2)) (hb : b ≠ 0) (h3 : s2.get 5 = (lead, s3)) (h4 : s3.get 6 = (long, s4)) (h5 : ¬ 64 < lead + (long + 1)) (h6 : s4.get (long + 1) = (g, s5)) :
  turnR s win = (if g * 2 ^ (64 - lead - (long + 1)) % 18446744073709551616 = 0 ∨ winOf (g * 2 ^ (64 - lead - (long + 1)) % 18446744073709551616) ≠ ⟨true, lead, 64 - lead - (long + 1)⟩ ∨ win.fits (g * 2 ^ (64 - lead - (long + 1)) % 18446744073709551616) = true then none
   else some (g * 2 ^ (64 - lead - (long + 1)) % 18446744073709551616, ⟨true, lead, 64 - lead - (long + 1)⟩), s5) := by
 unfold turnR
 simp only [h1, h2, h3, h4, h6]
 rw [if_neg ha, if_neg hb, if_neg h5]
def xorDecA : Nat → Nat → Win → RS → Option (List Nat)
 | 0, _, _, _ => some []
 | k + 1, was, win, s => match turnR s win with
  | (none, _) => none
  | (some (x, win'), s') => if s'.bad = true then none else (xorDecA k (was ^^^ x) win' s').map fun r => (was ^^^ x) :: r
def xorDec (n : Nat) (s : RS) : Option (List Nat) := match n with
 | 0 => if s.bad = true then none else some []
 | k + 1 => if (s.get 64).2.bad = true then none else (xorDecA k (s.get 64).1 ⟨false, 0, 0⟩ (s.get 64).2).map fun r => (s.get 64).1 :: r
theorem winOf_long {x : Nat} (h0 : x ≠ 0) (h : x < 18446744073709551616) : (winOf x).lead + (winOf x).trail + (winOf x).long = 64 ∧ 1 ≤ (winOf x).long ∧ (winOf x).long ≤ 64 ∧ (winOf x).lead ≤ 31 := by
 have h1 := tz_lead h0
 have h2 := len64_64 h
 unfold Win.long winOf
 dsimp only
 omega
theorem shown {x : Nat} {w : Win} (h : x < 18446744073709551616) (h1 : w.lead ≤ (winOf x).lead) (h2 : w.trail ≤ (winOf x).trail) : x / 2 ^ w.trail % 2 ^ w.long * 2 ^ w.trail % 18446744073709551616 = x := by
 have h3 : x < 2 ^ (64 - w.lead) := by
  have := len64_lt x
  refine Nat.lt_of_lt_of_le this (Nat.pow_le_pow_right (by decide) ?_)
  have := len64_64 h
  unfold winOf at h1; dsimp only at h1
  omega
 have h5 : x / 2 ^ w.trail % 2 ^ w.long = x / 2 ^ w.trail := by
  apply Nat.mod_eq_of_lt
  rcases Nat.lt_or_ge (64 - w.lead) w.trail with h6 | h6
  ·have h7 : x < 2 ^ w.trail := Nat.lt_of_lt_of_le h3 (Nat.pow_le_pow_right (by decide) (by omega))
   rw [Nat.div_eq_of_lt h7]
   exact Nat.two_pow_pos _
  ·rw [Nat.div_lt_iff_lt_mul (Nat.two_pow_pos _), ← Nat.pow_add]
   unfold Win.long
   rwa [show 64 - w.lead - w.trail + w.trail = 64 - w.lead by omega]
 rw [h5, tz_dvd h2, Nat.mod_eq_of_lt h]
theorem fits_le {w : Win} {x : Nat} (h : w.fits x = true) : w.is = true ∧ w.lead ≤ (winOf x).lead ∧ w.trail ≤ (winOf x).trail := by
 unfold Win.fits at h
 simpa [Bool.and_eq_true, and_assoc] using h
theorem xor_back {a b : Nat} : b ^^^ (a ^^^ b) = a := by rw [Nat.xor_comm a b, ← Nat.xor_assoc, Nat.xor_self, Nat.zero_xor]
theorem xorDecA_told (r : List Bool) : ∀ (vs : List Nat) (was : Nat) (win : Win), was < 18446744073709551616 → (∀ v ∈ vs, v < 18446744073709551616) → xorDecA vs.length was win ⟨xorRest win was vs ++ r, false⟩ = some vs
 | [], _, _, _, _ => rfl
 | v :: vs, was, win, hw, hv => by
  have hx : v ^^^ was < 18446744073709551616 := Nat.xor_lt_two_pow (n := 64) (hv v (List.mem_cons_self ..)) hw
  have ih := fun w => xorDecA_told r vs v w (hv v (List.mem_cons_self ..)) fun x h => hv x (List.mem_cons_of_mem _ h)
  have hb : was ^^^ (v ^^^ was) = v := xor_back
  rw [xorRest, List.length_cons, xorDecA]
  generalize hxe : v ^^^ was = x at *
  by_cases h0 : x = 0
  ·rw [if_pos h0, List.append_assoc]
   have ht : turnR ⟨bitsOf 0 1 ++ (xorRest win v vs ++ r), false⟩ win = (some (0, win), ⟨xorRest win v vs ++ r, false⟩) := by
    unfold turnR
    rw [RS.get_put]; rfl
   rw [ht]
   dsimp only
   rw [h0] at hb
   rw [hb, ih win]; rfl
  ·rw [if_neg h0]
   by_cases hf : win.fits x = true
   ·rw [if_pos hf, List.append_assoc, List.append_assoc]
    obtain ⟨f1, f2, f3⟩ := fits_le hf
    have ht : turnR ⟨bitsOf 2 2 ++ (bitsOf (x / 2 ^ win.trail) win.long ++ (xorRest win v vs ++ r)), false⟩ win = (some (x, win), ⟨xorRest win v vs ++ r, false⟩) := by
     refine (turnR_2 (get_bit true _) (by decide) (get_bit false _) (RS.get_put _ _ _)).trans ?_
     rw [shown hx f2 f3, if_pos ⟨f1, h0⟩]
    rw [ht]
    dsimp only
    rw [hb, ih win]; rfl
   ·rw [if_neg hf, List.append_assoc, List.append_assoc, List.append_assoc, List.append_assoc]
    obtain ⟨l1, l2, l3, l4⟩ := winOf_long h0 hx
    have ht : turnR ⟨bitsOf 3 2 ++ (bitsOf (winOf x).lead 5 ++ (bitsOf ((winOf x).long - 1) 6 ++ (bitsOf (x / 2 ^ (winOf x).trail) (winOf x).long ++ (xorRest (winOf x) v vs ++ r)))), false⟩ win = (some (x, winOf x), ⟨xorRest (winOf x) v vs ++ r, false⟩) := by
     have e1 : (winOf x).long - 1 + 1 = (winOf x).long := by omega
     have e2 : 64 - (winOf x).lead - (winOf x).long = (winOf x).trail := by omega
     have g1 := RS.get_put (winOf x).lead 5 (bitsOf ((winOf x).long - 1) 6 ++ (bitsOf (x / 2 ^ (winOf x).trail) (winOf x).long ++ (xorRest (winOf x) v vs ++ r)))
     have g2 := RS.get_put ((winOf x).long - 1) 6 (bitsOf (x / 2 ^ (winOf x).trail) (winOf x).long ++ (xorRest (winOf x) v vs ++ r))
     rw [Nat.mod_eq_of_lt (show (winOf x).lead < 2 ^ 5 by omega)] at g1
     rw [Nat.mod_eq_of_lt (show (winOf x).long - 1 < 2 ^ 6 by omega)] at g2
     have g3 : RS.get ⟨bitsOf (x / 2 ^ (winOf x).trail) (winOf x).long ++ (xorRest (winOf x) v vs ++ r), false⟩ ((winOf x).long - 1 + 1) = (x / 2 ^ (winOf x).trail % 2 ^ (winOf x).long, ⟨xorRest (winOf x) v vs ++ r, false⟩) := by rw [e1]; exact RS.get_put _ _ _
     have := turnR_3 (win := win) (get_bit true _) (by decide) (get_bit true _) (by decide) g1 g2 (by omega) g3
     rw [e1, e2, shown hx (Nat.le_refl _) (Nat.le_refl _), if_neg] at this
     ·exact this
     ·rintro (h | h | h)
      ·exact h0 h
      ·exact h rfl
      ·exact hf h
    rw [ht]
    dsimp only
    rw [hb, ih (winOf x)]; rfl
theorem xorDec_told (vs : List Nat) (hv : ∀ v ∈ vs, v < 18446744073709551616) (r : List Bool) : xorDec vs.length ⟨xorBits vs ++ r, false⟩ = some vs := by
 cases vs with
 | nil => rfl
 | cons v vs =>
  have h := hv v (List.mem_cons_self ..)
  show xorDec (vs.length + 1) ⟨(bitsOf v 64 ++ xorRest ⟨false, 0, 0⟩ v vs) ++ r, false⟩ = _
  rw [List.append_assoc, xorDec, RS.get_put, Nat.mod_eq_of_lt (show v < 2 ^ 64 from h)]
  dsimp only
  rw [xorDecA_told r vs v ⟨false, 0, 0⟩ h fun x hx => hv x (List.mem_cons_of_mem _ hx)]
  rfl

def packW (b : Nat) : List Nat → Nat
 | [] => 0
 | x :: r => x + 2 ^ b * packW b r
def kindsL : List (Nat × Nat) := [(240, 0), (120, 0), (60, 1), (30, 2), (20, 3), (15, 4), (12, 5), (10, 6), (8, 7), (7, 8), (6, 10), (5, 12), (4, 15), (3, 20), (2, 30), (1, 60)]
def fitsK (k : Nat × Nat) (u : List Nat) : Option Nat := if k.2 = 0 ∧ u.length < k.1 then none else if (u.take k.1).all (fun x => decide (len64 x ≤ k.2)) = true then some (min u.length k.1) else none
def wordA : Nat → List (Nat × Nat) → List Nat → Option (Nat × Nat)
 | _, [], _ => none
 | i, k :: ks, u => match fitsK k u with
  | some n => some (i * 1152921504606846976 + packW k.2 (u.take n), n)
  | none => wordA (i + 1) ks u
def simpEncF : Nat → List Nat → Option (List Nat)
 | _, [] => some []
 | 0, _ :: _ => none
 | k + 1, a :: r => match wordA 0 kindsL (a :: r) with
  | none => none
  | some (w, n) => (simpEncF k ((a :: r).drop n)).map fun y => w :: y
def simpEnc (u : List Nat) : Option (List Nat) := simpEncF u.length u
def unpackW (x b m : Nat) : List Nat := (List.range m).map fun j => x / 2 ^ (j * b) % 2 ^ b
def simpDecA : List Nat → Nat → Option (List Nat)
 | [], _ => some []
 | x :: ws, room => if room = 0 then none else
  (simpDecA ws (room - min (kindsL.getD (x / 1152921504606846976) (0, 0)).1 room)).map fun r =>
   unpackW (x % 1152921504606846976) (kindsL.getD (x / 1152921504606846976) (0, 0)).2 (min (kindsL.getD (x / 1152921504606846976) (0, 0)).1 room) ++ r
def simpDec (ws : List Nat) (n : Nat) : Option (List Nat) := match simpDecA ws n with
 | none => none
 | some out => if out.length = n ∧ simpEnc out = some ws then some out else none
theorem packW_lt {b : Nat} : ∀ {l : List Nat}, (∀ x ∈ l, x < 2 ^ b) → packW b l < 2 ^ (b * l.length)
 | [], _ => by simp [packW]
 | x :: l, h => by
  have h1 := packW_lt (l := l) fun y hy => h y (List.mem_cons_of_mem _ hy)
  have h2 := h x (List.mem_cons_self ..)
  rw [packW, List.length_cons, Nat.mul_add, Nat.mul_one, Nat.pow_add, Nat.mul_comm (2 ^ (b * l.length))]
  have h3 : 2 ^ b * (packW b l + 1) ≤ 2 ^ b * 2 ^ (b * l.length) := Nat.mul_le_mul_left _ h1
  rw [Nat.mul_add] at h3
  omega
theorem unpackW_packW {b : Nat} : ∀ {l : List Nat}, (∀ x ∈ l, x < 2 ^ b) → ∀ m, m ≤ l.length → unpackW (packW b l) b m = l.take m
 | _, _, 0, _ => by simp [unpackW]
 | [], _, m + 1, hm => by simp at hm
 | x :: l, h, m + 1, hm => by
  have h2 := h x (List.mem_cons_self ..)
  have ih := unpackW_packW (l := l) (fun y hy => h y (List.mem_cons_of_mem _ hy)) m (by simpa using hm)
  unfold unpackW at ih ⊢
  rw [List.range_succ_eq_map, List.map_cons, List.map_map, List.take_succ_cons]
  congr 1
  ·rw [packW, Nat.zero_mul, Nat.pow_zero, Nat.div_one, Nat.add_mul_mod_self_left, Nat.mod_eq_of_lt h2]
  ·rw [← ih]
   apply List.map_congr_left
   intro j _
   show packW b (x :: l) / 2 ^ ((j + 1) * b) % 2 ^ b = _
   congr 1
   rw [packW, Nat.add_mul, Nat.one_mul, Nat.add_comm (j * b), Nat.pow_add, ← Nat.div_div_eq_div_mul, Nat.add_mul_div_left _ _ (Nat.two_pow_pos b), Nat.div_eq_of_lt h2, Nat.zero_add]
theorem fitsK_some {k : Nat × Nat} {u : List Nat} {n : Nat} (h : fitsK k u = some n) : n = min u.length k.1 ∧ (∀ x ∈ u.take n, x < 2 ^ k.2) ∧ (k.2 = 0 → n = k.1) := by
 unfold fitsK at h
 split at h
 ·cases h
 ·rename_i h0
  split at h
  ·rename_i h1
   cases h
   refine ⟨rfl, fun x hx => ?_, fun hk => by omega⟩
   have : x ∈ u.take k.1 := by
    rcases Nat.le_total u.length k.1 with h2 | h2
    ·rw [Nat.min_eq_left h2] at hx; rw [List.take_of_length_le h2]; exact List.mem_of_mem_take hx
    ·rw [Nat.min_eq_right h2] at hx; exact hx
   have := List.all_eq_true.1 h1 x this
   exact len64_le.1 (by simpa using this)
  ·cases h
theorem wordA_some : ∀ {i : Nat} {ks : List (Nat × Nat)} {u : List Nat} {w n : Nat}, wordA i ks u = some (w, n) → ∃ j k, ks[j]? = some k ∧ fitsK k u = some n ∧ w = (i + j) * 1152921504606846976 + packW k.2 (u.take n)
 | _, [], _, _, _, h => by cases h
 | i, k :: ks, u, w, n, h => by
  rw [wordA] at h
  cases hf : fitsK k u with
  | some m => rw [hf] at h; cases h; exact ⟨0, k, rfl, hf, by simp⟩
  | none =>
   rw [hf] at h
   obtain ⟨j, k', h1, h2, h3⟩ := wordA_some h
   exact ⟨j + 1, k', by simpa using h1, h2, by rw [h3]; congr 2; omega⟩
theorem kindsL_ok : ∀ (j : Nat) (k : Nat × Nat), kindsL[j]? = some k → j < 16 ∧ 0 < k.1 ∧ k.1 ≤ 240 ∧ k.2 * k.1 ≤ 60 := by
 intro j k h
 have hj : j < 16 := (List.getElem?_eq_some_iff.1 h).1
 refine ⟨hj, ?_⟩
 have hall : ∀ k ∈ kindsL, 0 < k.1 ∧ k.1 ≤ 240 ∧ k.2 * k.1 ≤ 60 := by decide
 exact hall k (List.mem_of_getElem? h)
theorem wordA_pos {u : List Nat} (hu : u ≠ []) {w n : Nat} (h : wordA 0 kindsL u = some (w, n)) : 0 < n ∧ n ≤ u.length := by
 obtain ⟨j, k, g1, g2, g3⟩ := wordA_some h
 obtain ⟨f1, f2, f3⟩ := fitsK_some g2
 obtain ⟨k1, k2, k3, k4⟩ := kindsL_ok j k g1
 have : 0 < u.length := List.length_pos_iff.2 hu
 omega
theorem simpEncF_fuel : ∀ (k m : Nat) (u : List Nat), u.length ≤ k → k ≤ m → simpEncF m u = simpEncF k u
 | k, m, [], _, _ => by rw [simpEncF, simpEncF]
 | 0, _, _ :: _, h, _ => by simp at h
 | _ + 1, 0, _ :: _, _, h => by omega
 | k + 1, m + 1, a :: r, h, hm => by
  rw [simpEncF, simpEncF]
  cases hw : wordA 0 kindsL (a :: r) with
  | none => rfl
  | some wn =>
   obtain ⟨w, n⟩ := wn
   have := wordA_pos (by simp) hw
   dsimp only
   rw [simpEncF_fuel k m _ (by rw [List.length_drop]; rw [List.length_cons] at h ⊢; omega) (by omega)]
theorem simpEnc_nil : simpEnc [] = some [] := rfl
theorem simpEnc_none {u : List Nat} (hu : u ≠ []) (h : wordA 0 kindsL u = none) : simpEnc u = none := by
 cases u with
 | nil => exact absurd rfl hu
 | cons a r => unfold simpEnc; rw [List.length_cons, simpEncF, h]
theorem simpEnc_some {u : List Nat} (hu : u ≠ []) {w n : Nat} (h : wordA 0 kindsL u = some (w, n)) : simpEnc u = (simpEnc (u.drop n)).map fun y => w :: y := by
 have hp := wordA_pos hu h
 cases u with
 | nil => exact absurd rfl hu
 | cons a r =>
  unfold simpEnc
  rw [List.length_cons, simpEncF, h]
  dsimp only
  rw [simpEncF_fuel ((a :: r).drop n).length r.length _ (Nat.le_refl _) (by rw [List.length_drop, List.length_cons]; omega)]
theorem simpDecA_told : ∀ (m : Nat) (u ws : List Nat), u.length ≤ m → simpEnc u = some ws → simpDecA ws u.length = some u ∧ ∀ w ∈ ws, w < 18446744073709551616
 | m, [], ws, _, h => by
  rw [simpEnc_nil] at h
  cases h
  exact ⟨rfl, fun _ h => by cases h⟩
 | 0, _ :: _, _, hm, _ => by simp at hm
 | m + 1, a :: b, ws, hm, h => by
  have hne : a :: b ≠ [] := by simp
  generalize hu : a :: b = u at *
  have hpos : 0 < u.length := List.length_pos_iff.2 hne
  cases hw : wordA 0 kindsL u with
  | none => rw [simpEnc_none hne hw] at h; cases h
  | some wn =>
   obtain ⟨w, n⟩ := wn
   rw [simpEnc_some hne hw] at h
   obtain ⟨r, h1, rfl⟩ := Option.map_eq_some_iff.1 h
   have hn := wordA_pos hne hw
   obtain ⟨j, k, g1, g2, g3⟩ := wordA_some hw
   obtain ⟨f1, f2, f3⟩ := fitsK_some g2
   obtain ⟨k1, k2, k3, k4⟩ := kindsL_ok j k g1
   have hlt : packW k.2 (u.take n) < 1152921504606846976 := by
    refine Nat.lt_of_lt_of_le (packW_lt f2) ?_
    have : k.2 * (u.take n).length ≤ 60 := by
     rw [List.length_take]
     exact Nat.le_trans (Nat.mul_le_mul_left _ (by omega)) k4
    exact Nat.pow_le_pow_right (by decide) this
   rw [Nat.zero_add] at g3
   have hdiv : w / 1152921504606846976 = j := by omega
   have hmod : w % 1152921504606846976 = packW k.2 (u.take n) := by omega
   obtain ⟨ih, ih2⟩ := simpDecA_told m (u.drop n) r (by rw [List.length_drop]; omega) h1
   refine ⟨?_, ?_⟩
   ·rw [simpDecA, if_neg (by omega), hdiv, hmod]
    have hk : kindsL.getD j (0, 0) = k := by simp [List.getD, g1]
    rw [hk]
    have hmin : min k.1 u.length = n := by omega
    rw [hmin, show u.length - n = (u.drop n).length by simp, ih, unpackW_packW f2 n (by simp; omega)]
    simp [List.take_take]
   ·intro x hx
    rcases List.mem_cons.1 hx with rfl | hx
    ·omega
    ·exact ih2 x hx
theorem simpDec_told {u ws : List Nat} (h : simpEnc u = some ws) : simpDec ws u.length = some u := by
 unfold simpDec
 rw [(simpDecA_told _ u ws (Nat.le_refl _) h).1]
 dsimp only
 rw [if_pos ⟨rfl, h⟩]
end Go.Hw

namespace Go.Hw

class EqI (P : Program) (t : TypeId) (ks : outParam (List IntKind)) : Prop where
 u : ∃ fl : List Field, P.underlying t = some (.struct fl.toArray) ∧ fl.map (fun f => (f.name == "_", f.offset, P.underlying f.type)) = ks.zipIdx.map (fun p => (false, p.2, some (.int p.1)))
 s : P.stoodInHeld t = false
 g : P.eqGuardType P.depth t = false
def ints (ks : List IntKind) (aL : List Int) : List Value := List.zipWith Value.int ks aL
theorem ints_get : ∀ (ks : List IntKind) (aL : List Int) (j : Nat), (ints ks aL)[j]? = (ks[j]?).bind fun k => (aL[j]?).map (Value.int k) := by
 intro ks aL j
 simp only [ints, List.getElem?_zipWith]
 cases ks[j]? <;> cases aL[j]? <;> rfl
theorem run_part_int {P : Program} {w : World} {t : TypeId} {k : IntKind} (ht : P.underlying t = some (.int k)) {cs : List Value} {off : Nat} {v : Value} (hv : cs[off]? = some v) : (part t cs.toArray off).run P w = .ok v w := by
 have : (isAgg t).run P w = .ok false w := by
  unfold Go.isAgg
  rw [Sem.run_bind, run_underlying ht w]
  rfl
 simp [part, this, hv]
theorem run_eqFields {P : Program} {w : World} (d : Nat) : ∀ (fl : List Field) (ks : List IntKind) (aL bs : List Int) (p q : List Value), p.length = q.length → aL.length = ks.length → bs.length = ks.length →
  fl.map (fun f => (f.name == "_", f.offset, P.underlying f.type)) = (ks.zipIdx p.length).map (fun p => (false, p.2, some (.int p.1))) →
  (Op.eqFields (d + 1) (p ++ ints ks aL).toArray (q ++ ints ks bs).toArray fl).run P w = .ok (aL == bs) w
 | [], [], [], [], _, _, _, _, _, _ => by simp [Op.eqFields]
 | [], k :: ks, _, _, _, _, _, _, _, h => by simp at h
 | f :: fl, [], _, _, _, _, _, _, _, h => by simp at h
 | f :: fl, k :: ks, [], _, _, _, _, h, _, _ => by simp at h
 | f :: fl, k :: ks, a :: aL, [], _, _, _, _, h, _ => by simp at h
 | f :: fl, k :: ks, a :: aL, b :: bs, p, q, hpq, ha, hb, h => by
  simp only [List.map_cons, List.zipIdx_cons, List.cons.injEq, Prod.mk.injEq] at h
  obtain ⟨⟨h1, h2, h3⟩, h4⟩ := h
  have hn : f.name ≠ "_" := by simpa using h1
  have e1 : (p ++ ints (k :: ks) (a :: aL))[f.offset]? = some (.int k a) := by rw [h2]; simp [ints]
  have e2 : (q ++ ints (k :: ks) (b :: bs))[f.offset]? = some (.int k b) := by rw [h2, hpq]; simp [ints]
  unfold Op.eqFields
  rw [if_pos hn]
  simp only [Sem.run_bind, run_part_int h3 e1, run_part_int h3 e2, Result.andThen_ok, run_equalIn_int w d f.type k k a b h3]
  by_cases hab : a = b
  ·subst hab
   have ih := run_eqFields (P := P) (w := w) d fl ks aL bs (p ++ [.int k a]) (q ++ [.int k a]) (by simp [hpq]) (by simpa using ha) (by simpa using hb) (by simpa using h4)
   simp only [List.append_assoc, List.singleton_append] at ih
   have hi : ints (k :: ks) (a :: aL) = .int k a :: ints ks aL := rfl
   have hi2 : ints (k :: ks) (a :: bs) = .int k a :: ints ks bs := rfl
   rw [hi, hi2]
   simp [ih]
  ·have : (a == b) = false := by simp [hab]
   simp [this]
theorem run_eqI {P : Program} {w : World} {t : TypeId} {ks : List IntKind} (h : EqI P t ks) {aL bs : List Int} (ha : aL.length = ks.length) (hb : bs.length = ks.length) (d : Nat) :
  (Op.equalIn (d + 2) t (.agg (ints ks aL).toArray) (.agg (ints ks bs).toArray)).run P w = .ok (aL == bs) w := by
 obtain ⟨fl, hu, hf⟩ := h.u
 have hfo : P.fieldsOf t = fl.toArray := by unfold Program.fieldsOf; rw [hu]
 rw [run_equalIn_struct w (d + 1) t _ _ (by rw [hfo]; exact hu) h.s, hfo]
 have := run_eqFields (P := P) (w := w) d fl ks aL bs [] [] rfl ha hb (by simpa using hf)
 simpa using this

section
variable {P : Program} {e : Env} {w : World} {d : Option Nat} {ty : TypeId} {pos : String} {af : Array Edge} {g : Option (Nat × Bool)}
theorem q_eqI {t t2 : TypeId} {ks : List IntKind} [h : EqI P t ks] {x y : Operand} (aL bs : List Int) (hx : ev e x = .agg (ints ks aL).toArray) (hy : ev e y = .agg (ints ks bs).toArray) (ha : aL.length = ks.length) (hb : bs.length = ks.length) :
  Qv P e ⟨d, .binOp .eql t x y t2, ty, pos, af, g⟩ w (.bool (aL == bs)) := by
 unfold Qv
 have h1 := run_eqGuard_agg (P := P) w .eql t x y (ints ks aL).toArray (ints ks bs).toArray h.g
 have h2 := run_eql_struct (P := P) w t (ints ks aL).toArray (ints ks bs).toArray
 rw [run_eqI h ha hb 9998] at h2
 simp only [execOp, hx, hy, Sem.run_bind, h1, Result.andThen_ok, h2, Result.andThen]
 rfl
theorem q_neI {t t2 : TypeId} {ks : List IntKind} [h : EqI P t ks] {x y : Operand} (aL bs : List Int) (hx : ev e x = .agg (ints ks aL).toArray) (hy : ev e y = .agg (ints ks bs).toArray) (ha : aL.length = ks.length) (hb : bs.length = ks.length) :
  Qv P e ⟨d, .binOp .neq t x y t2, ty, pos, af, g⟩ w (.bool (!(aL == bs))) := by
 unfold Qv
 have h1 := run_eqGuard_agg (P := P) w .neq t x y (ints ks aL).toArray (ints ks bs).toArray h.g
 have h2 := run_neq_struct (P := P) w t (ints ks aL).toArray (ints ks bs).toArray
 rw [run_eqI h ha hb 9998] at h2
 simp only [execOp, hx, hy, Sem.run_bind, h1, Result.andThen_ok, h2, Result.andThen]
 rfl
end

theorem flat_get {α : Type} {f : α → List Value} {sz : Nat} (hf : ∀ x, (f x).length = sz) : ∀ (L : List α) (k : Nat) (x : α), L[k]? = some x → ∀ j v, (f x)[j]? = some v → (L.flatMap f)[k * sz + j]? = some v
 | [], k, x, h, _, _, _ => by simp at h
 | a :: L, 0, x, h, j, v, hj => by
  simp only [List.getElem?_cons_zero, Option.some.injEq] at h
  subst h
  rw [List.flatMap_cons, Nat.zero_mul, Nat.zero_add, List.getElem?_append_left (List.getElem?_eq_some_iff.1 hj).1]
  exact hj
 | a :: L, k + 1, x, h, j, v, hj => by
  have ih := flat_get hf L k x (by simpa using h) j v hj
  rw [List.flatMap_cons, List.getElem?_append_right (by rw [hf, Nat.add_mul]; omega), hf]
  rw [show (k + 1) * sz + j - sz = k * sz + j by rw [Nat.add_mul]; omega]
  exact ih
theorem flat_len {α : Type} {f : α → List Value} {sz : Nat} (hf : ∀ x, (f x).length = sz) : ∀ (L : List α), (L.flatMap f).length = L.length * sz
 | [] => by simp
 | a :: L => by rw [List.flatMap_cons, List.length_append, hf, flat_len hf L, List.length_cons, Nat.add_mul]; omega
theorem flat_set {α : Type} {f : α → List Value} {sz : Nat} (hf : ∀ x, (f x).length = sz) : ∀ (L : List α) (k : Nat) (x y : α) (j : Nat) (v : Value), L[k]? = some x → j < sz → f y = (f x).set j v → (L.flatMap f).set (k * sz + j) v = (L.set k y).flatMap f
 | [], k, x, y, j, v, h, _, _ => by simp at h
 | a :: L, 0, x, y, j, v, h, hj, hy => by
  simp only [List.getElem?_cons_zero, Option.some.injEq] at h
  subst h
  rw [List.flatMap_cons, Nat.zero_mul, Nat.zero_add, List.set_cons_zero, List.flatMap_cons, hy, List.set_append, if_pos (by rw [hf]; exact hj)]
 | a :: L, k + 1, x, y, j, v, h, hj, hy => by
  have ih := flat_set hf L k x y j v (by simpa using h) hj hy
  rw [List.flatMap_cons, List.set_cons_succ, List.flatMap_cons, List.set_append, if_neg (by rw [hf, Nat.add_mul]; omega), hf]
  rw [show (k + 1) * sz + j - sz = k * sz + j by rw [Nat.add_mul]; omega, ih]
theorem Rd.elem {w : World} {sz n b o : Nat} {α : Type} {f : α → List Value} {L : List α} (h : Rd w sz (Option.some ⟨b, o, none⟩) n (L.flatMap f)) (hf : ∀ x, (f x).length = sz) {k : Nat} {x : α} (hk : L[k]? = Option.some x) : At w b (o + k * sz) (f x) := by
 intro j v hj
 have := h.cell (flat_get hf L k x hk j v hj)
 rwa [← Nat.add_assoc] at this
theorem Rd.count {w : World} {sz n : Nat} {a : Option Addr} {α : Type} {f : α → List Value} {L : List α} (h : Rd w sz a n (L.flatMap f)) (hf : ∀ x, (f x).length = sz) (hs : 0 < sz) : L.length = n := by
 have := h.1
 rw [flat_len hf] at this
 exact Nat.eq_of_mul_eq_mul_right hs this
structure Smp where
 T : Int
 V : Int
 deriving DecidableEq
def Smp.cells (s : Smp) : List Value := [.int .i64 s.T, .int .u64 s.V]
abbrev smpsV (L : List Smp) : List Value := L.flatMap Smp.cells
theorem smp_len (s : Smp) : s.cells.length = 2 := rfl
theorem smps_one (L : List Smp) : ∀ u ∈ smpsV L, u.oneCell' = true := by
 intro u hu
 simp only [List.mem_flatMap, Smp.cells, List.mem_cons, List.not_mem_nil, or_false] at hu
 obtain ⟨s, _, rfl | rfl⟩ := hu <;> rfl
structure Prt where
 blob : Int
 tag : Int
 count : Int
 frm : Int
 upto : Int
 deriving DecidableEq
def Prt.cells (p : Prt) : List Value := [.int .i64 p.blob, .int .i64 p.tag, .int .i64 p.count, .int .i64 p.frm, .int .i64 p.upto]
abbrev prtsV (L : List Prt) : List Value := L.flatMap Prt.cells
theorem prt_len (s : Prt) : s.cells.length = 5 := rfl
theorem prts_one (L : List Prt) : ∀ u ∈ prtsV L, u.oneCell' = true := by
 intro u hu
 simp only [List.mem_flatMap, Prt.cells, List.mem_cons, List.not_mem_nil, or_false] at hu
 obtain ⟨s, _, rfl | rfl | rfl | rfl | rfl⟩ := hu <;> rfl
end Go.Hw

namespace Go.Hw

def runsA (x k : Nat) : List Nat → List UInt8
 | [] => vput k ++ vput x
 | y :: r => if y = x then runsA x (k + 1) r else vput k ++ (vput x ++ runsA y 1 r)
def runsEnc : List Nat → List UInt8
 | [] => []
 | x :: r => runsA x 1 r
def lead (x : Nat) : List Nat → Nat
 | [] => 0
 | y :: r => if y = x then lead x r + 1 else 0
theorem lead_le (x : Nat) : ∀ l : List Nat, lead x l ≤ l.length
 | [] => Nat.le_refl _
 | y :: r => by
  rw [lead]; split
  ·have := lead_le x r; rw [List.length_cons]; omega
  ·exact Nat.zero_le _
theorem runsA_eq (x : Nat) : ∀ (l : List Nat) (k : Nat), runsA x k l = vput (k + lead x l) ++ (vput x ++ runsEnc (l.drop (lead x l)))
 | [], k => by simp [runsA, lead, runsEnc]
 | y :: r, k => by
  rw [runsA, lead]
  split
  ·rename_i h
   rw [runsA_eq x r (k + 1), List.drop_succ_cons]
   congr 2
   omega
  ·rfl
theorem runsEnc_cons (x : Nat) (r : List Nat) : runsEnc (x :: r) = vput (1 + lead x r) ++ (vput x ++ runsEnc (r.drop (lead x r))) := runsA_eq x r 1
theorem lead_split (x : Nat) : ∀ l : List Nat, List.replicate (lead x l) x ++ l.drop (lead x l) = l
 | [] => rfl
 | y :: r => by
  rw [lead]; split
  ·rename_i h; rw [List.replicate_succ, List.drop_succ_cons, List.cons_append, lead_split x r, h]
  ·rfl
theorem lead_head (x : Nat) : ∀ l : List Nat, (l.drop (lead x l)).head? ≠ some x
 | [] => by simp [lead]
 | y :: r => by
  rw [lead]; split
  ·rw [List.drop_succ_cons]; exact lead_head x r
  ·rename_i h; simpa using h
def runsDecA : Nat → List UInt8 → Nat → Option Nat → Option (List Nat)
 | _, [], room, _ => if room = 0 then some [] else none
 | 0, _ :: _, _, _ => none
 | f + 1, c :: b, room, last =>
  if (vget (c :: b)).2 = 0 ∨ (vget ((c :: b).drop (vget (c :: b)).2)).2 = 0 ∨ (vget (c :: b)).1 = 0 ∨ room < (vget (c :: b)).1 ∨ last = some (vget ((c :: b).drop (vget (c :: b)).2)).1 then none
  else (runsDecA f ((c :: b).drop ((vget (c :: b)).2 + (vget ((c :: b).drop (vget (c :: b)).2)).2)) (room - (vget (c :: b)).1) (some (vget ((c :: b).drop (vget (c :: b)).2)).1)).map fun r => List.replicate (vget (c :: b)).1 (vget ((c :: b).drop (vget (c :: b)).2)).1 ++ r
def runsDec (b : List UInt8) (n : Nat) : Option (List Nat) := runsDecA b.length b n none
theorem runsDecA_told : ∀ (m : Nat) (v : List Nat) (last : Option Nat), v.length ≤ m → v.length < 18446744073709551616 → (∀ x ∈ v, x < 18446744073709551616) → (v.head? ≠ last ∨ last = none) → ∀ f, (runsEnc v).length ≤ f → runsDecA f (runsEnc v) v.length last = some v
 | m, [], last, _, _, _, _, f, _ => by cases f <;> rfl
 | 0, _ :: _, _, h, _, _, _, _, _ => by simp at h
 | m + 1, x :: r, last, hm, hl, hv, hh, f, hf => by
  have hx := hv x (List.mem_cons_self ..)
  have hle := lead_le x r
  rw [List.length_cons] at hl hm
  have hk : 1 + lead x r < 18446744073709551616 := by omega
  have e := runsEnc_cons x r
  have h1 : vget (runsEnc (x :: r)) = (1 + lead x r, (vput (1 + lead x r)).length) := by rw [e]; exact vget_vput hk _
  have h2 : (runsEnc (x :: r)).drop (vput (1 + lead x r)).length = vput x ++ runsEnc (r.drop (lead x r)) := by rw [e]; simp
  have h3 : vget (vput x ++ runsEnc (r.drop (lead x r))) = (x, (vput x).length) := vget_vput hx _
  have h4 : (runsEnc (x :: r)).drop ((vput (1 + lead x r)).length + (vput x).length) = runsEnc (r.drop (lead x r)) := by rw [← List.drop_drop, h2]; simp
  have p1 := vput_len (1 + lead x r)
  have p2 := vput_len x
  have hlen : (runsEnc (x :: r)).length = (vput (1 + lead x r)).length + ((vput x).length + (runsEnc (r.drop (lead x r))).length) := by rw [e]; simp
  generalize hE : runsEnc (x :: r) = E at *
  cases f with
  | zero => omega
  | succ f =>
   cases E with
   | nil => simp at hlen; omega
   | cons c b =>
    rw [runsDecA, h1]
    dsimp only
    rw [h2, h3]
    dsimp only
    rw [if_neg, h4, List.length_cons, show r.length + 1 - (1 + lead x r) = (r.drop (lead x r)).length by rw [List.length_drop]; omega,
     runsDecA_told m (r.drop (lead x r)) (some x) (by rw [List.length_drop]; omega) (by rw [List.length_drop]; omega) (fun y hy => hv y (List.mem_cons_of_mem _ (List.mem_of_mem_drop hy))) (.inl (lead_head x r)) f (by omega)]
    ·show some (List.replicate (1 + lead x r) x ++ _) = _
     rw [Nat.add_comm, List.replicate_succ, List.cons_append, lead_split]
    ·rintro (h | h | h | h | h)
     ·omega
     ·omega
     ·omega
     ·rw [List.length_cons] at h; omega
     ·rcases hh with hh | hh
      ·exact hh (by rw [h]; rfl)
      ·rw [hh] at h; cases h
theorem runsDec_told {v : List Nat} (hl : v.length < 18446744073709551616) (hv : ∀ x ∈ v, x < 18446744073709551616) : runsDec (runsEnc v) v.length = some v :=
 runsDecA_told _ v none (Nat.le_refl _) hl hv (.inr rfl) _ (Nat.le_refl _)

def getAll : Nat → Nat → RS → Option (List Nat)
 | 0, _, _ => some []
 | k + 1, wide, s => if (s.get wide).2.bad = true then none else (getAll k wide (s.get wide).2).map fun r => (s.get wide).1 :: r
theorem getAll_told (wide : Nat) (r : List Bool) : ∀ vs : List Nat, (∀ v ∈ vs, v < 2 ^ wide) → getAll vs.length wide ⟨vs.flatMap (fun x => bitsOf x wide) ++ r, false⟩ = some vs
 | [], _ => rfl
 | v :: vs, h => by
  rw [List.flatMap_cons, List.append_assoc, List.length_cons, getAll, RS.get_put, Nat.mod_eq_of_lt (h v (List.mem_cons_self ..))]
  dsimp only
  rw [getAll_told wide r vs fun x hx => h x (List.mem_cons_of_mem _ hx)]
  rfl
theorem getAll_len : ∀ (k wide : Nat) (s : RS) (x : List Nat), getAll k wide s = some x → x.length = k
 | 0, _, _, x, h => by cases h; rfl
 | k + 1, wide, s, x, h => by
  rw [getAll] at h
  split at h
  ·cases h
  ·obtain ⟨y, h1, rfl⟩ := Option.map_eq_some_iff.1 h
   simp [getAll_len k _ _ y h1]
def leastA (m : Nat) : List Nat → Nat
 | [] => m
 | x :: r => leastA (min m x) r
def greatA (m : Nat) : List Nat → Nat
 | [] => m
 | x :: r => greatA (max m x) r
theorem leastA_le : ∀ (l : List Nat) (m : Nat), leastA m l ≤ m ∧ ∀ x ∈ l, leastA m l ≤ x
 | [], m => ⟨Nat.le_refl _, fun _ h => by cases h⟩
 | y :: r, m => by
  obtain ⟨h1, h2⟩ := leastA_le r (min m y)
  refine ⟨by rw [leastA]; omega, fun x hx => ?_⟩
  rw [leastA]
  rcases List.mem_cons.1 hx with rfl | hx
  ·omega
  ·exact h2 x hx
theorem greatA_ge : ∀ (l : List Nat) (m : Nat), m ≤ greatA m l ∧ ∀ x ∈ l, x ≤ greatA m l
 | [], m => ⟨Nat.le_refl _, fun _ h => by cases h⟩
 | y :: r, m => by
  obtain ⟨h1, h2⟩ := greatA_ge r (max m y)
  refine ⟨by rw [greatA]; omega, fun x hx => ?_⟩
  rw [greatA]
  rcases List.mem_cons.1 hx with rfl | hx
  ·omega
  ·exact h2 x hx
theorem leastA_lt : ∀ (l : List Nat) (m : Nat), m < 18446744073709551616 → leastA m l < 18446744073709551616
 | l, m, h => Nat.lt_of_le_of_lt (leastA_le l m).1 h
theorem greatA_lt : ∀ (l : List Nat) (m : Nat), m < 18446744073709551616 → (∀ x ∈ l, x < 18446744073709551616) → greatA m l < 18446744073709551616
 | [], m, h, _ => h
 | y :: r, m, h, hl => by
  rw [greatA]
  have := hl y (List.mem_cons_self ..)
  exact greatA_lt r _ (by omega) fun x hx => hl x (List.mem_cons_of_mem _ hx)
def frameEnc : List Nat → List UInt8
 | [] => []
 | x :: r => vput (leastA x r) ++ (UInt8.ofNat (len64 (greatA x r - leastA x r)) :: pack ((x :: r).flatMap fun y => bitsOf (y - leastA x r) (len64 (greatA x r - leastA x r))))
def frameDec (b : List UInt8) (n : Nat) : Option (List Nat) :=
 if n = 0 then (if b = [] then some [] else none)
 else if (vget b).2 = 0 then none else match b[(vget b).2]? with
  | none => none
  | some c => if 64 < c.toNat then none else
   match getAll n c.toNat ⟨bitsB (b.drop ((vget b).2 + 1)), false⟩ with
   | none => none
   | some l => if frameEnc (l.map fun x => summ (vget b).1 x) = b then some (l.map fun x => summ (vget b).1 x) else none
theorem frameDec_told {v : List Nat} (hv : ∀ x ∈ v, x < 18446744073709551616) : frameDec (frameEnc v) v.length = some v := by
 cases v with
 | nil => rfl
 | cons x r =>
  have hx := hv x (List.mem_cons_self ..)
  have hl := leastA_lt r x hx
  have hg := greatA_lt r x hx fun y hy => hv y (List.mem_cons_of_mem _ hy)
  have hw : len64 (greatA x r - leastA x r) ≤ 64 := len64_64 (by omega)
  have hmem : ∀ y ∈ x :: r, leastA x r ≤ y ∧ y ≤ greatA x r := by
   intro y hy
   rcases List.mem_cons.1 hy with rfl | hy
   ·exact ⟨(leastA_le r y).1, (greatA_ge r y).1⟩
   ·exact ⟨(leastA_le r x).2 y hy, (greatA_ge r x).2 y hy⟩
  have hget := vget_vput hl (UInt8.ofNat (len64 (greatA x r - leastA x r)) :: pack ((x :: r).flatMap fun y => bitsOf (y - leastA x r) (len64 (greatA x r - leastA x r))))
  have hp := vput_len (leastA x r)
  have hE : frameEnc (x :: r) = vput (leastA x r) ++ (UInt8.ofNat (len64 (greatA x r - leastA x r)) :: pack ((x :: r).flatMap fun y => bitsOf (y - leastA x r) (len64 (greatA x r - leastA x r)))) := rfl
  rw [← hE] at hget
  have h1 : (frameEnc (x :: r))[(vput (leastA x r)).length]? = some (UInt8.ofNat (len64 (greatA x r - leastA x r))) := by rw [hE, List.getElem?_append_right (Nat.le_refl _)]; simp
  have h2 : (frameEnc (x :: r)).drop ((vput (leastA x r)).length + 1) = pack ((x :: r).flatMap fun y => bitsOf (y - leastA x r) (len64 (greatA x r - leastA x r))) := by
   rw [hE, ← List.drop_drop, List.drop_left]; rfl
  have hc : (UInt8.ofNat (len64 (greatA x r - leastA x r))).toNat = len64 (greatA x r - leastA x r) := by rw [UInt8.toNat_ofNat', Nat.mod_eq_of_lt (by omega)]
  unfold frameDec
  rw [if_neg (by simp), hget]
  dsimp only
  rw [if_neg (by omega), h1]
  dsimp only
  rw [hc, if_neg (by omega), h2, bitsB_pack]
  have hga : getAll (x :: r).length (len64 (greatA x r - leastA x r)) ⟨((x :: r).flatMap fun y => bitsOf (y - leastA x r) (len64 (greatA x r - leastA x r))) ++ List.replicate (8 * ((((x :: r).flatMap fun y => bitsOf (y - leastA x r) (len64 (greatA x r - leastA x r))).length + 7) / 8) - ((x :: r).flatMap fun y => bitsOf (y - leastA x r) (len64 (greatA x r - leastA x r))).length) false, false⟩ = some ((x :: r).map fun y => y - leastA x r) := by
   have := getAll_told (len64 (greatA x r - leastA x r)) (List.replicate (8 * ((((x :: r).flatMap fun y => bitsOf (y - leastA x r) (len64 (greatA x r - leastA x r))).length + 7) / 8) - ((x :: r).flatMap fun y => bitsOf (y - leastA x r) (len64 (greatA x r - leastA x r))).length) false) ((x :: r).map fun y => y - leastA x r) (by
    intro z hz
    obtain ⟨y, hy, rfl⟩ := List.mem_map.1 hz
    obtain ⟨m1, m2⟩ := hmem y hy
    exact Nat.lt_of_le_of_lt (by omega : y - leastA x r ≤ greatA x r - leastA x r) (len64_lt _))
   rw [List.flatMap_map, List.length_map] at this
   exact this
  rw [hga]
  dsimp only
  have hback : ((x :: r).map fun y => y - leastA x r).map (fun z => summ (leastA x r) z) = x :: r := by
   rw [List.map_map]
   conv => rhs; rw [← List.map_id (x :: r)]
   apply List.map_congr_left
   intro y hy
   obtain ⟨m1, m2⟩ := hmem y hy
   show summ (leastA x r) (y - leastA x r) = y
   unfold summ
   omega
  rw [hback, if_pos rfl]

def unlikeA (l : List Nat) : List Nat → Option (List Nat)
 | [] => some l
 | x :: r => if x ∈ l then unlikeA l r else if l.length = 256 then none else unlikeA (l ++ [x]) r
theorem unlikeA_some : ∀ (v l m : List Nat), unlikeA l v = some m → l.length ≤ 256 → (∃ t, m = l ++ t) ∧ (∀ x ∈ v, x ∈ m) ∧ m.length ≤ 256 ∧ (∀ x ∈ m, x ∈ l ∨ x ∈ v)
 | [], l, m, h, hl => by cases h; exact ⟨⟨[], by simp⟩, (fun _ h => by cases h), hl, fun _ h => .inl h⟩
 | y :: r, l, m, h, hl => by
  rw [unlikeA] at h
  split at h
  ·rename_i hy
   obtain ⟨⟨t, h1⟩, h2, h3, h4⟩ := unlikeA_some r l m h hl
   refine ⟨⟨t, h1⟩, fun x hx => ?_, h3, fun x hx => (h4 x hx).imp id (List.mem_cons_of_mem _)⟩
   rcases List.mem_cons.1 hx with rfl | hx
   ·rw [h1]; exact List.mem_append_left _ hy
   ·exact h2 x hx
  ·split at h
   ·cases h
   ·obtain ⟨⟨t, h1⟩, h2, h3, h4⟩ := unlikeA_some r (l ++ [y]) m h (by simp; omega)
    refine ⟨⟨y :: t, by rw [h1]; simp⟩, fun x hx => ?_, h3, fun x hx => ?_⟩
    ·rcases List.mem_cons.1 hx with rfl | hx
     ·rw [h1]; simp
     ·exact h2 x hx
    ·rcases h4 x hx with h | h
     ·rcases List.mem_append.1 h with h | h
      ·exact .inl h
      ·simp at h; subst h; exact .inr (List.mem_cons_self ..)
     ·exact .inr (List.mem_cons_of_mem _ h)
def dictBytes (l v : List Nat) : List UInt8 := vput l.length ++ (l.flatMap vput ++ pack (v.flatMap fun x => bitsOf (l.idxOf x) (len64 (l.length - 1))))
def dictEnc (v : List Nat) : Option (List UInt8) := match unlikeA [] v with
 | none => none
 | some l => if v = [] then some [] else some (dictBytes l v)
def getVs : Nat → List UInt8 → Option (List Nat × List UInt8)
 | 0, b => some ([], b)
 | k + 1, b => if (vget b).2 = 0 then none else (getVs k (b.drop (vget b).2)).map fun r => ((vget b).1 :: r.1, r.2)
theorem getVs_told (r : List UInt8) : ∀ l : List Nat, (∀ x ∈ l, x < 18446744073709551616) → getVs l.length (l.flatMap vput ++ r) = some (l, r)
 | [], _ => rfl
 | x :: l, h => by
  have hg := vget_vput (h x (List.mem_cons_self ..)) (l.flatMap vput ++ r)
  have hp := vput_len x
  rw [List.flatMap_cons, List.append_assoc, List.length_cons, getVs, hg]
  dsimp only
  rw [if_neg (by omega), List.drop_left, getVs_told r l fun y hy => h y (List.mem_cons_of_mem _ hy)]
  rfl
theorem getVs_len : ∀ (k : Nat) (b : List UInt8) (x : List Nat × List UInt8), getVs k b = some x → x.1.length = k
 | 0, _, x, h => by cases h; rfl
 | k + 1, b, x, h => by
  rw [getVs] at h; split at h
  ·cases h
  ·obtain ⟨y, h1, rfl⟩ := Option.map_eq_some_iff.1 h
   simp [getVs_len k _ y h1]
def pickAll (l : List Nat) : List Nat → Option (List Nat)
 | [] => some []
 | a :: r => match l[a]? with
  | none => none
  | some x => (pickAll l r).map fun y => x :: y
def dictDec (b : List UInt8) (n : Nat) : Option (List Nat) :=
 if n = 0 then (if b = [] then some [] else none)
 else if (vget b).2 = 0 ∨ (vget b).1 = 0 ∨ 256 < (vget b).1 then none
 else match getVs (vget b).1 (b.drop (vget b).2) with
  | none => none
  | some (l, rest) => match getAll n (len64 (l.length - 1)) ⟨bitsB rest, false⟩ with
   | none => none
   | some at_ => match pickAll l at_ with
    | none => none
    | some out => if dictEnc out = some b then some out else none
theorem pickAll_told {l : List Nat} : ∀ v : List Nat, (∀ x ∈ v, x ∈ l) → pickAll l (v.map fun x => l.idxOf x) = some v
 | [], _ => rfl
 | x :: v, h => by
  have hx := h x (List.mem_cons_self ..)
  have h1 : l[l.idxOf x]? = some x := by
   rw [List.getElem?_eq_getElem (List.idxOf_lt_length_iff.2 hx), List.getElem_idxOf]
  rw [List.map_cons, pickAll, h1]
  dsimp only
  rw [pickAll_told v fun y hy => h y (List.mem_cons_of_mem _ hy)]
  rfl
theorem dictDec_told {v : List Nat} {b : List UInt8} (hv : ∀ x ∈ v, x < 18446744073709551616) (h : dictEnc v = some b) : dictDec b v.length = some v := by
 have h0 := h
 unfold dictEnc at h
 cases hu : unlikeA [] v with
 | none => rw [hu] at h; cases h
 | some l =>
  rw [hu] at h
  dsimp only at h
  by_cases hn : v = []
  ·rw [if_pos hn] at h; cases h; subst hn; rfl
  ·rw [if_neg hn] at h
   cases h
   obtain ⟨_, h2, h3, h4⟩ := unlikeA_some v [] l hu (by simp)
   have hl : ∀ x ∈ l, x < 18446744073709551616 := fun x hx => by
    rcases h4 x hx with h | h
    ·cases h
    ·exact hv x h
   have hpos : 0 < v.length := List.length_pos_iff.2 hn
   have hlp : 0 < l.length := by
    cases v with
    | nil => exact absurd rfl hn
    | cons x r => exact List.length_pos_of_mem (h2 x (List.mem_cons_self ..))
   have hg := vget_vput (show l.length < 18446744073709551616 by omega) (l.flatMap vput ++ pack (v.flatMap fun x => bitsOf (l.idxOf x) (len64 (l.length - 1))))
   have hp := vput_len l.length
   unfold dictDec
   rw [if_neg (by omega), show vget (dictBytes l v) = _ from hg]
   dsimp only
   rw [if_neg (by omega), show (dictBytes l v).drop (vput l.length).length = _ from List.drop_left, getVs_told _ l hl]
   dsimp only
   rw [bitsB_pack]
   have hga := getAll_told (len64 (l.length - 1)) (List.replicate (8 * (((v.flatMap fun x => bitsOf (l.idxOf x) (len64 (l.length - 1))).length + 7) / 8) - (v.flatMap fun x => bitsOf (l.idxOf x) (len64 (l.length - 1))).length) false) (v.map fun x => l.idxOf x) (by
    intro z hz
    obtain ⟨y, hy, rfl⟩ := List.mem_map.1 hz
    have := List.idxOf_lt_length_iff.2 (h2 y hy)
    exact Nat.lt_of_le_of_lt (by omega : l.idxOf y ≤ l.length - 1) (len64_lt _))
   rw [List.flatMap_map, List.length_map] at hga
   rw [hga]
   dsimp only
   rw [pickAll_told v h2]
   dsimp only
   rw [if_pos h0]
end Go.Hw

namespace Go.Hw

def zigU (u : Nat) : Nat := if u < 9223372036854775808 then 2 * u else 36893488147419103231 - 2 * u
def zagU (u : Nat) : Nat := if u % 2 = 0 then u / 2 else 18446744073709551615 - u / 2
theorem zigU_lt {u : Nat} (h : u < 18446744073709551616) : zigU u < 18446744073709551616 := by unfold zigU; split <;> omega
theorem zagU_lt {u : Nat} (h : u < 18446744073709551616) : zagU u < 18446744073709551616 := by unfold zagU; split <;> omega
theorem zag_zig {u : Nat} (h : u < 18446744073709551616) : zagU (zigU u) = u := by
 unfold zigU
 split
 ·unfold zagU; rw [if_pos (by omega)]; omega
 ·unfold zagU; rw [if_neg (by omega)]; omega
def stepsL (was : Nat) : List Nat → List Nat
 | [] => []
 | x :: r => zigU (diff x was) :: stepsL x r
def sumsL (was : Nat) : List Nat → List Nat
 | [] => []
 | x :: r => summ was (zagU x) :: sumsL (summ was (zagU x)) r
theorem sums_steps : ∀ (v : List Nat) (was : Nat), was < 18446744073709551616 → (∀ x ∈ v, x < 18446744073709551616) → sumsL was (stepsL was v) = v
 | [], _, _, _ => rfl
 | x :: r, was, hw, h => by
  have hx := h x (List.mem_cons_self ..)
  have e : summ was (zagU (zigU (diff x was))) = x := by
   rw [zag_zig (Nat.mod_lt _ (by decide))]; unfold summ; omega
  rw [stepsL, sumsL, e, sums_steps r x hx fun y hy => h y (List.mem_cons_of_mem _ hy)]
theorem stepsL_len : ∀ (v : List Nat) (was : Nat), (stepsL was v).length = v.length
 | [], _ => rfl
 | x :: r, was => by simp [stepsL, stepsL_len r x]
theorem sumsL_len : ∀ (v : List Nat) (was : Nat), (sumsL was v).length = v.length
 | [], _ => rfl
 | x :: r, was => by simp [sumsL, sumsL_len r]
theorem stepsL_lt : ∀ (v : List Nat) (was : Nat), ∀ x ∈ stepsL was v, x < 18446744073709551616
 | [], _, _, h => by cases h
 | y :: r, was, x, h => by
  rw [stepsL] at h
  rcases List.mem_cons.1 h with rfl | h
  ·exact zigU_lt (Nat.mod_lt _ (by decide))
  ·exact stepsL_lt r y x h
def be8 (x : Nat) : List UInt8 := [UInt8.ofNat (x / 2 ^ 56), UInt8.ofNat (x / 2 ^ 48), UInt8.ofNat (x / 2 ^ 40), UInt8.ofNat (x / 2 ^ 32), UInt8.ofNat (x / 2 ^ 24), UInt8.ofNat (x / 2 ^ 16), UInt8.ofNat (x / 2 ^ 8), UInt8.ofNat x]
def bigL (w : List Nat) : List UInt8 := w.flatMap be8
def wordsA (x k : Nat) : List UInt8 → List Nat
 | [] => if k = 0 then [] else [x]
 | c :: r => if k = 8 then x :: wordsA c.toNat 1 r else wordsA ((x * 256 + c.toNat) % 18446744073709551616) (k + 1) r
def wordsL : List UInt8 → List Nat
 | [] => []
 | c :: r => wordsA c.toNat 1 r
theorem wordsL_bigL : ∀ w : List Nat, (∀ x ∈ w, x < 18446744073709551616) → wordsL (bigL w) = w ∧ ∀ x, wordsA x 8 (bigL w) = x :: w
 | [], _ => ⟨rfl, fun _ => rfl⟩
 | x :: w, h => by
  have hx := h x (List.mem_cons_self ..)
  obtain ⟨_, ih⟩ := wordsL_bigL w fun y hy => h y (List.mem_cons_of_mem _ hy)
  have e : bigL (x :: w) = be8 x ++ bigL w := rfl
  have key : wordsA (UInt8.ofNat (x / 2 ^ 56)).toNat 1 (UInt8.ofNat (x / 2 ^ 48) :: UInt8.ofNat (x / 2 ^ 40) :: UInt8.ofNat (x / 2 ^ 32) :: UInt8.ofNat (x / 2 ^ 24) :: UInt8.ofNat (x / 2 ^ 16) :: UInt8.ofNat (x / 2 ^ 8) :: UInt8.ofNat x :: bigL w) = x :: w := by
   rw [wordsA, if_neg (by decide), wordsA, if_neg (by decide), wordsA, if_neg (by decide), wordsA, if_neg (by decide), wordsA, if_neg (by decide), wordsA, if_neg (by decide), wordsA, if_neg (by decide)]
   rw [UInt8.toNat_ofNat', UInt8.toNat_ofNat', UInt8.toNat_ofNat', UInt8.toNat_ofNat', UInt8.toNat_ofNat', UInt8.toNat_ofNat', UInt8.toNat_ofNat', UInt8.toNat_ofNat']
   have e2 : (((((((x / 2 ^ 56 % 2 ^ 8 * 256 + x / 2 ^ 48 % 2 ^ 8) % 18446744073709551616 * 256 + x / 2 ^ 40 % 2 ^ 8) % 18446744073709551616 * 256 + x / 2 ^ 32 % 2 ^ 8) % 18446744073709551616 * 256 + x / 2 ^ 24 % 2 ^ 8) % 18446744073709551616 * 256 + x / 2 ^ 16 % 2 ^ 8) % 18446744073709551616 * 256 + x / 2 ^ 8 % 2 ^ 8) % 18446744073709551616 * 256 + x % 2 ^ 8) % 18446744073709551616 = x := by
    simp only [Nat.reducePow]
    omega
   rw [e2]
   exact ih x
  refine ⟨?_, fun y => ?_⟩
  ·rw [e]; exact key
  ·rw [e]
   show wordsA y 8 (UInt8.ofNat (x / 2 ^ 56) :: _) = _
   rw [wordsA, if_pos rfl]
   congr 1
theorem bigL_len (w : List Nat) : (bigL w).length = 8 * w.length := by
 induction w with
 | nil => rfl
 | cons x w ih =>
  show (be8 x ++ bigL w).length = _
  rw [List.length_append, ih, List.length_cons]
  show 8 + _ = _
  omega
def sameEnc : List Nat → Option (List UInt8)
 | [] => some []
 | x :: r => if r.all (fun y => decide (y = x)) = true then some (vput x) else none
def valuesEnc (tag : Int) (v : List Nat) : Option (List UInt8) :=
 if tag = 1 then some (pack (xorBits v)) else if tag = 2 then (simpEnc (stepsL 0 v)).map bigL else if tag = 3 then some (runsEnc v) else if tag = 4 then some (frameEnc v)
 else if tag = 5 then dictEnc v else if tag = 6 then sameEnc v else none
def valuesDec (tag : Int) (b : List UInt8) (n : Nat) : Option (List Nat) :=
 if tag = 1 then xorDec n ⟨bitsB b, false⟩ else if tag = 2 then (if b.length % 8 = 0 then (simpDec (wordsL b) n).map (sumsL 0) else none) else if tag = 3 then runsDec b n else if tag = 4 then frameDec b n
 else if tag = 5 then dictDec b n else if tag = 6 then some (List.replicate n (vget b).1) else none
def timesOf (l : List Smp) : List Int := l.map Smp.T
def valsOf (l : List Smp) : List Nat := l.map fun s => s.V.toNat
def Smp.Wf (s : Smp) : Prop := I64 s.T ∧ 0 ≤ s.V ∧ s.V < 18446744073709551616
def risesA (t : Int) : List Smp → Bool
 | [] => true
 | s :: r => decide (t < s.T) && risesA s.T r
def rises : List Smp → Bool
 | [] => true
 | s :: r => risesA s.T r
def rising (l : List Smp) : Bool := rises l && decide (l.length ≤ 65535)
def suitBytes (l : List Smp) (b : List UInt8) : List UInt8 := vput (pack (timesBits (timesOf l))).length ++ (pack (timesBits (timesOf l)) ++ b)
def suitEnc (tag : Int) (l : List Smp) : Option (List UInt8) := if rising l = true then (valuesEnc tag (valsOf l)).map (suitBytes l) else none
def zipS : List Int → List Nat → List Smp
 | t :: ts, v :: vs => ⟨t, v⟩ :: zipS ts vs
 | _, _ => []
def suitDec (tag : Int) (b : List UInt8) (n : Int) : Option (List Smp) :=
 if (vget b).2 = 0 ∨ n < 0 ∨ 65535 < n ∨ b.length - (vget b).2 < (vget b).1 then none
 else match timesDec n.toNat ⟨bitsB ((b.drop (vget b).2).take (vget b).1), false⟩, valuesDec tag (b.drop ((vget b).2 + (vget b).1)) n.toNat with
  | some x, some v => if suitEnc tag (zipS x.1 v) = some b then some (zipS x.1 v) else none
  | _, _ => none
def bestA (l : List Smp) : List Int → Int → List UInt8 → Int × List UInt8
 | [], t, b => (t, b)
 | k :: ks, t, b => match suitEnc k l with
  | none => bestA l ks t b
  | some c => if t = 0 ∨ c.length < b.length then bestA l ks k c else bestA l ks t b
def suitBest (l : List Smp) : Int × List UInt8 := bestA l [1, 2, 3, 4, 5, 6] 0 []
theorem zipS_of : ∀ l : List Smp, (∀ s ∈ l, s.Wf) → zipS (timesOf l) (valsOf l) = l
 | [], _ => rfl
 | s :: l, h => by
  obtain ⟨_, h1, _⟩ := h s (List.mem_cons_self ..)
  have ih := zipS_of l fun x hx => h x (List.mem_cons_of_mem _ hx)
  show (⟨s.T, (s.V.toNat : Int)⟩ : Smp) :: zipS (timesOf l) (valsOf l) = _
  rw [ih, Int.toNat_of_nonneg h1]
theorem valuesDec_told {tag : Int} {v : List Nat} {b : List UInt8} (hl : v.length < 18446744073709551616) (hv : ∀ x ∈ v, x < 18446744073709551616) (h : valuesEnc tag v = some b) : valuesDec tag b v.length = some v := by
 unfold valuesEnc at h
 unfold valuesDec
 repeat' split at h
 ·cases h; rw [if_pos ‹_›, bitsB_pack]; exact xorDec_told v hv _
 ·rw [if_neg ‹_›, if_pos ‹_›]
  obtain ⟨ws, h1, rfl⟩ := Option.map_eq_some_iff.1 h
  obtain ⟨_, h3⟩ := simpDecA_told _ _ ws (Nat.le_refl _) h1
  rw [if_pos (by rw [bigL_len]; omega), (wordsL_bigL ws h3).1]
  have h4 := simpDec_told h1
  rw [stepsL_len] at h4
  rw [h4, Option.map_some, sums_steps v 0 (by decide) hv]
 ·cases h; rw [if_neg ‹_›, if_neg ‹_›, if_pos ‹_›]; exact runsDec_told hl hv
 ·cases h; rw [if_neg ‹_›, if_neg ‹_›, if_neg ‹_›, if_pos ‹_›]; exact frameDec_told hv
 ·rw [if_neg ‹_›, if_neg ‹_›, if_neg ‹_›, if_neg ‹_›, if_pos ‹_›]; exact dictDec_told hv h
 ·rw [if_neg ‹_›, if_neg ‹_›, if_neg ‹_›, if_neg ‹_›, if_neg ‹_›, if_pos ‹_›]
  cases v with
  | nil => rfl
  | cons x r =>
   rw [sameEnc] at h
   split at h
   ·rename_i hall
    cases h
    have := vget_vput (hv x (List.mem_cons_self ..)) []
    rw [List.append_nil] at this
    rw [this]
    congr 1
    apply List.ext_getElem (by simp)
    intro i h1 h2
    rw [List.getElem_replicate]
    cases i with
    | zero => rfl
    | succ i =>
     rw [List.getElem_cons_succ]
     have := List.all_eq_true.1 hall (r[i]'(by simpa using h2)) (List.getElem_mem _)
     exact (by simpa using this : r[i]'(by simpa using h2) = x).symm
   ·cases h
 ·cases h
theorem suitDec_told {tag : Int} {l : List Smp} {b : List UInt8} (hw : ∀ s ∈ l, s.Wf) (hb : b.length < 18446744073709551616) (h : suitEnc tag l = some b) : suitDec tag b l.length = some l := by
 have h0 := h
 unfold suitEnc at h
 split at h
 ·rename_i hr
  obtain ⟨x, h1, rfl⟩ := Option.map_eq_some_iff.1 h
  have hlen : l.length ≤ 65535 := by
   unfold rising at hr
   simp only [Bool.and_eq_true, decide_eq_true_eq] at hr
   exact hr.2
  have ht : ∀ t ∈ timesOf l, I64 t := by
   intro t ht
   obtain ⟨s, hs, rfl⟩ := List.mem_map.1 ht
   exact (hw s hs).1
  have hv : ∀ v ∈ valsOf l, v < 18446744073709551616 := by
   intro t ht
   obtain ⟨s, hs, rfl⟩ := List.mem_map.1 ht
   obtain ⟨_, h2, h3⟩ := hw s hs
   omega
  have hvl : (valsOf l).length = l.length := by simp [valsOf]
  have htl : (timesOf l).length = l.length := by simp [timesOf]
  have hpl : (suitBytes l x).length = (vput (pack (timesBits (timesOf l))).length).length + ((pack (timesBits (timesOf l))).length + x.length) := by simp [suitBytes]
  have hg : vget (suitBytes l x) = _ := vget_vput (show (pack (timesBits (timesOf l))).length < 18446744073709551616 by omega) (pack (timesBits (timesOf l)) ++ x)
  have hp := vput_len (pack (timesBits (timesOf l))).length
  have hdr : (suitBytes l x).drop (vput (pack (timesBits (timesOf l))).length).length = pack (timesBits (timesOf l)) ++ x := List.drop_left
  have hd2 : (suitBytes l x).drop ((vput (pack (timesBits (timesOf l))).length).length + (pack (timesBits (timesOf l))).length) = x := by rw [← List.drop_drop, hdr, List.drop_left]
  unfold suitDec
  rw [hg]
  dsimp only
  rw [if_neg (by omega), hdr, List.take_left, hd2, Int.toNat_natCast, bitsB_pack]
  have e1 := timesDec_told (timesOf l) ht (List.replicate (8 * (((timesBits (timesOf l)).length + 7) / 8) - (timesBits (timesOf l)).length) false)
  rw [htl] at e1
  have e2 := valuesDec_told (by rw [hvl]; omega) hv h1
  rw [hvl] at e2
  rw [e1, e2]
  dsimp only
  rw [zipS_of l hw, if_pos h0]
 ·cases h
theorem suitDec_sound {tag : Int} {b : List UInt8} {n : Int} {l : List Smp} (h : suitDec tag b n = some l) : suitEnc tag l = some b := by
 unfold suitDec at h
 split at h
 ·cases h
 ·split at h
  ·split at h
   ·cases h; assumption
   ·cases h
  ·cases h
end Go.Hw

namespace Go.Proofs.YtnnehiiblfmpnaaGreatDoor
open Go.Hw
set_option maxHeartbeats 4000000
set_option maxRecDepth 100000

abbrev OwnB (a : Option Addr) (c : Nat) (bs : List UInt8) : HProp := Own 5 1 a bs.length c (bytesV bs)
section
variable {w0 w : World} {l : List HProp}
theorem bytes_Clone {sl : Option Addr} {c : Nat} {bs : List UInt8} (h : St w0 l w) (hr : ∀ w', St w0 l w' → Rd w' 1 sl bs.length (bytesV bs)) (hn : bs.length ≤ 140737488355328) : Ret Tryz.prog 60 [.slice sl bs.length c] w fun v w' => ∃ a c', v = .slice a bs.length c' ∧ St w0 (OwnB a c' bs :: l) w' := by
 refine enter Tryz.func60 rfl Tryz.results60 Tryz.ntmps60 rfl ?_
 refine c_seq (c_region ?_)
 refine r_v (q_assignS rfl) rfl ?_
 refine r_nil (c_seq (c_seq (c_region ?_)))
 refine r_v (q_moveS rfl) rfl ?_
 refine r_v (q_seqnil rfl rfl) rfl ?_
 refine r_nil (c_cond sl.isNone rfl (fun hs => ?_) (fun hs => ?_))
 ·refine c_seq (c_region ?_)
  refine r_v (q_assignS rfl) rfl ?_
  obtain rfl : sl = none := by simpa using hs
  have h2 := hr w h
  obtain ⟨h3, h4⟩ := h2
  have h5 : bs.length = 0 := by rcases h4 with h | ⟨b, o, h, _⟩; exact h; cases h
  obtain rfl : bs = [] := List.eq_nil_of_length_eq_zero h5
  exact r_nil (c_ret (bq1 ⟨none, 0, rfl, St.ownNil _ _ h⟩))
 ·refine c_skip ?_
  refine c_seq (c_region ?_)
  refine r_c rfl (x_bslice (r := []) h rfl rfl rfl fun b w h => ?_)
  refine r_v (q_moveS rfl) rfl ?_
  have h1 : St w0 (Own 5 1 (some ⟨b, 0, none⟩) 0 0 [] :: l) w := St.own_mk (cur := []) h rfl rfl (Nat.le_refl _)
  refine r_c rfl (x_append' (zs := bytesV bs) (m3 := bs.length) h1 rfl rfl (hr w h1.drop) (bytesV_one _) (by omega) (List.nil_append _) (by omega) (by omega) rfl fun a c' w hn h => ?_)
  refine r_v (q_assignS rfl) rfl ?_
  exact r_nil (c_ret (bq1 ⟨a, c', rfl, h⟩))
theorem bytes_Clip {a : Option Addr} {c n : Nat} {xs : List Value} (h : St w0 (Own 5 1 a n c xs :: l) w) : Ret Tryz.prog 238 [.slice a n c] w fun v w' => v = .slice a n n ∧ St w0 (Own 5 1 a n n xs :: l) w' := by
 have hc := h.own_cases.2.1
 refine enter Tryz.func238 rfl Tryz.results238 Tryz.ntmps238 rfl ?_
 refine c_seq (c_region ?_)
 refine r_v (q_assignS rfl) rfl ?_
 refine r_nil ?_
 refine c_seq (c_region ?_)
 refine r_v (q_moveS rfl) rfl ?_; refine r_v (q_moveS rfl) rfl ?_; refine r_v (q_len rfl) rfl ?_; refine r_v (q_moveS rfl) rfl ?_; refine r_v (q_len rfl) rfl ?_
 refine r_v (q_clip rfl rfl rfl (Nat.le_refl _) hc) rfl ?_
 refine r_v (q_assignS rfl) rfl ?_
 refine r_nil ?_
 exact c_ret (bq1 ⟨rfl, h.own_clip⟩)
theorem bits_Bytes {p : Nat} {bs : List Bool} (h : St w0 (IsBW p bs :: l) w) (hn : bs.length ≤ 70368744177664) : Ret Tryz.prog 237 [.pointer (some ⟨p, 0, none⟩)] w fun v w' => ∃ a c, v = .slice a (pack bs).length c ∧ St w0 (OwnB a c (pack bs) :: IsBW p bs :: l) w' := by
 obtain ⟨a, c, h⟩ := St.bw.1 h
 rw [← pack_len] at h
 refine enter Tryz.func237 rfl Tryz.results237 Tryz.ntmps237 rfl ?_
 refine c_seq (c_region ?_)
 refine r_v (q_assignS rfl) rfl ?_
 refine r_nil ?_
 refine c_seq (c_region ?_)
 refine r_v (q_moveP rfl) rfl ?_; refine r_v (q_nil rfl) rfl ?_; refine r_v (q_fa rfl) rfl ?_; refine r_v (q_load rfl (h.b 0) rfl) rfl ?_
 refine r_c rfl (x_call rfl (bytes_Clone (bs := pack bs) h (fun w' h' => (h'.f 1).own_rd) (by rw [pack_len]; omega)) ?_)
 rintro _ w ⟨a', c', rfl, h⟩
 refine r_v (q_assignS rfl) rfl ?_
 refine r_nil ?_
 refine c_ret (bq1 ⟨a', c', rfl, ?_⟩)
 rw [pack_len] at h
 exact ((St.bw.2 ⟨a, c, (h.f 2).f 2⟩).f 1)

theorem or_more : ∀ x : Nat, x < 256 → x ||| 128 = x % 128 + 128 := by decide
theorem vint_Put {sl : Option Addr} {c : Nat} {bs : List UInt8} (u : Nat) (hu : u < 18446744073709551616) (h : St w0 l w) (hr : ∀ w', St w0 l w' → Rd w' 1 sl bs.length (bytesV bs)) (hn : bs.length ≤ 70368744177664) :
  Ret Tryz.prog 200 [.slice sl bs.length c, .int .u64 u] w fun v w' => ∃ a c', v = .slice a (bs ++ vput u).length c' ∧ St w0 (OwnB a c' (bs ++ vput u) :: l) w' := by
 refine enter Tryz.func200 rfl Tryz.results200 Tryz.ntmps200 rfl ?_
 refine c_seq (c_region ?_)
 refine r_v (q_assignS rfl) rfl ?_
 refine r_nil ?_
 refine c_seq (c_region ?_)
 refine r_v (q_moveS rfl) rfl ?_
 refine r_c rfl (x_call rfl (bytes_Clone h hr (by omega)) ?_)
 rintro _ w ⟨a, c1, rfl, h⟩
 refine r_c rfl (x_call rfl (bytes_Clip h) ?_)
 rintro _ w ⟨rfl, h⟩
 refine r_v (q_assignS rfl) rfl ?_
 refine r_nil ?_
 refine c_cut (Γ := Nat × List UInt8 × Option Addr × Nat) (fun k => [(1, .int .u64 k.1), (5, .slice k.2.2.1 k.2.1.length k.2.2.2)])
  (fun k w => k.1 < 128 ∧ k.2.1 ++ vput k.1 = bs ++ vput u ∧ St w0 (OwnB k.2.2.1 k.2.2.2 k.2.1 :: l) w) ?_ ?_
 ·refine c_block ?_
  refine c_loop (Γ := Nat × List UInt8 × Option Addr × Nat) (fun k => [(1, .int .u64 k.1), (5, .slice k.2.2.1 k.2.1.length k.2.2.2)])
   (fun k w => k.1 < 18446744073709551616 ∧ k.2.1 ++ vput k.1 = bs ++ vput u ∧ St w0 (OwnB k.2.2.1 k.2.2.2 k.2.1 :: l) w) (fun k => k.1) (u, bs, a, bs.length) ⟨rfl, rfl, trivial⟩ ⟨hu, rfl, h⟩ ?_
  clear h hu
  rintro ⟨u', out, a, c⟩ w e ⟨hu, he, h⟩
  dsimp only at hu he h ⊢
  have hlen : out.length ≤ bs.length + 10 := by
   have h1 := congrArg List.length he
   have h2 := vput_len u
   have h3 := vput_len u'
   simp only [List.length_append] at h1
   omega
  refine c_seq (c_seq (c_region ?_))
  refine r_v (q_moveI rfl) rfl ?_; refine r_v (q_geq rfl rfl) rfl ?_
  refine r_nil (c_cond (decide ((u' : Int) ≥ 128)) rfl (fun hc => ?_) (fun hc => ?_))
  ·
   have hge : 128 ≤ u' := by simp at hc; omega
   refine c_skip ?_
   refine c_seq (c_block ?_)
   refine c_region ?_
   refine r_v (q_moveS rfl) rfl ?_; refine r_v (q_moveI rfl) rfl ?_; refine r_v (q_conv rfl) rfl ?_
   refine r_is (.int .u8 ((u' % 256 : Nat) : Int)) (by rw [wrap_u8]) ?_
   refine r_v (q_or rfl rfl) rfl ?_
   refine r_is (.int .u8 ((UInt8.ofNat (u' % 128 + 128)).toNat : Int)) (by
    rw [show bitOp .or .u8 ((u' % 256 : Nat) : Int) 128 = ((u' % 256 ||| 128 : Nat) : Int) from (bit_u8 (Nat.mod_lt _ (by decide)) (by decide)).2.1, or_more _ (Nat.mod_lt _ (by decide)), UInt8.toNat_ofNat', show u' % 256 % 128 + 128 = (u' % 128 + 128) % 2 ^ 8 by simp only [Nat.reducePow]; omega]) ?_
   refine r_c rfl (x_bslice (r := bytesV [UInt8.ofNat (u' % 128 + 128)]) h rfl rfl rfl fun b w h => ?_)
   refine r_c rfl (x_append' (ys := bytesV [UInt8.ofNat (u' % 128 + 128)]) (zs := bytesV (out ++ [UInt8.ofNat (u' % 128 + 128)])) (m3 := (out ++ [UInt8.ofNat (u' % 128 + 128)]).length) (h.f 1) rfl rfl ⟨rfl, .inr ⟨b, 0, rfl, at_of (h.b 0 rfl) rfl⟩⟩ (bytesV_one _) (by simp) (by simp [bytesV]) (by simp; omega) (by simp; omega) rfl fun a' c' w _ h => ?_)
   refine r_v (q_assignS rfl) rfl ?_
   refine r_nil ?_
   refine c_region ?_
   refine r_v (q_moveI rfl) rfl ?_
   refine r_v (q_is (v' := .int .u64 ((u' / 128 : Nat) : Int)) (q_shr rfl rfl (by omega)) (congrArg (Value.int .u64) (fdiv_nat u' 7 64 (by decide)))) rfl ?_
   refine r_v (q_assignI rfl) rfl ?_
   refine r_nil ⟨(u' / 128, out ++ [UInt8.ofNat (u' % 128 + 128)], a', c'), ⟨rfl, rfl, trivial⟩, ⟨by dsimp only; omega, ?_, (h.f 1).drop⟩, by dsimp only; omega⟩
   rw [← he, vput_ge (by omega) hu, List.append_assoc]; rfl
  exact c_exit ⟨(u', out, a, c), ⟨rfl, rfl, trivial⟩, by simp at hc; dsimp only; omega, he, h⟩
 clear h hu
 rintro ⟨u', out, a, c⟩ w e ⟨hu, he, h⟩
 dsimp only at hu he h ⊢
 rw [vput_lt hu] at he
 have hlen : out.length ≤ bs.length + 10 := by
  have h1 := congrArg List.length he
  have h2 := vput_len u
  simp only [List.length_append, List.length_singleton] at h1
  omega
 refine c_seq (c_region ?_)
 refine r_v (q_moveS rfl) rfl ?_; refine r_v (q_moveI rfl) rfl ?_; refine r_v (q_conv rfl) rfl ?_
 refine r_is (.int .u8 ((UInt8.ofNat u').toNat : Int)) (by rw [wrap_u8, UInt8.toNat_ofNat']) ?_
 refine r_c rfl (x_bslice (r := bytesV [UInt8.ofNat u']) h rfl rfl rfl fun b w h => ?_)
 refine r_c rfl (x_append' (ys := bytesV [UInt8.ofNat u']) (zs := bytesV (bs ++ vput u)) (m3 := (bs ++ vput u).length) (h.f 1) rfl rfl ⟨rfl, .inr ⟨b, 0, rfl, at_of (h.b 0 rfl) rfl⟩⟩ (bytesV_one _) (by rw [← he]; simp) (by rw [← he]; simp [bytesV]) (by rw [← he]; simp; omega) (by rw [← he]; simp; omega) rfl fun a' c' w _ h => ?_)
 refine r_v (q_assignS rfl) rfl ?_
 refine r_nil ?_
 exact c_ret (bq1 ⟨a', c', rfl, (h.f 1).drop⟩)

theorem vint_Get {sl : Option Addr} {c : Nat} {bs : List UInt8} (h : St w0 l w) (hr : ∀ w', St w0 l w' → Rd w' 1 sl bs.length (bytesV bs)) (hn : bs.length ≤ 140737488355328) :
  Ret Tryz.prog 194 [.slice sl bs.length c] w fun v w' => v = .tuple [.int .u64 ((vget bs).1 : Nat), .int .i64 ((vget bs).2 : Nat)].toArray ∧ St w0 l w' := by
 refine enter Tryz.func194 rfl Tryz.results194 Tryz.ntmps194 rfl ?_
 refine c_seq (c_region ?_)
 refine r_v (q_assignI rfl) rfl ?_; refine r_v (q_assignI rfl) rfl ?_
 refine r_nil ?_
 refine c_seq (c_region ?_)
 refine r_v (q_assignI rfl) rfl ?_
 refine r_nil ?_
 refine c_seq (c_seq (c_region ?_))
 refine r_v (q_moveS rfl) rfl ?_; refine r_v (q_len rfl) rfl ?_; refine r_v (q_moveI rfl) rfl ?_
 refine r_nil ?_
 refine c_block ?_
 refine c_loop (Γ := Nat × Nat) (fun k => [(4, .int .u64 k.2), (7, .slice sl bs.length c), (8, .int .i64 bs.length), (9, .int .i64 k.1)])
  (fun k w => k.1 ≤ bs.length ∧ k.1 ≤ 10 ∧ k.2 < 2 ^ (7 * k.1) ∧ vgetA (bs.drop k.1) k.1 k.2 = vget bs ∧ St w0 l w) (fun k => bs.length - k.1) (0, 0) ⟨rfl, rfl, rfl, rfl, trivial⟩ ⟨Nat.zero_le _, by decide, by decide, rfl, h⟩ ?_
 clear h
 rintro ⟨i, u⟩ w e ⟨hi, hi10, hu, hv, h⟩
 dsimp only at hi hi10 hu hv ⊢
 refine c_seq (c_region ?_)
 refine r_v (q_lss rfl rfl) rfl ?_
 refine r_nil ?_
 refine c_seq (c_cond (decide ((i : Int) < (bs.length : Int))) rfl (fun hc => ?_) (fun hc => ?_))
 ·
  have hin : i < bs.length := by simp at hc; omega
  have hg := List.getElem?_eq_getElem hin
  have hdr := List.drop_eq_getElem_cons hin
  generalize bs[i] = x at hg hdr
  rw [hdr, vgetA] at hv
  obtain ⟨b, o, hsl⟩ := (hr w h).some (by omega)
  have hx := x.toNat_lt
  refine c_skip ?_
  refine c_seq (c_block ?_)
  refine c_seq (c_region ?_)
  refine r_v (q_moveI rfl) rfl ?_
  refine r_v (q_idx (b := b) (o := o) (m := bs.length) (c := c) (o' := o + i) (by rw [← hsl]; rfl) rfl rfl hin (by simp)) rfl ?_
  refine r_v (q_loadc (v := .int .u8 x.toNat) rfl ((hsl ▸ hr w h).cell (bytesV_get hg))) rfl ?_
  refine r_v (q_assignI rfl) rfl ?_; refine r_v (q_assignI rfl) rfl ?_
  refine r_nil ?_
  refine c_cut (Γ := Unit) (fun k => [(4, .int .u64 u), (5, .int .i64 i), (6, .int .u8 x.toNat), (7, .slice sl bs.length c), (8, .int .i64 bs.length), (9, .int .i64 i)])
   (fun k w => i ≤ 9 ∧ (i = 9 → x.toNat ≤ 1) ∧ vgetA (bs.drop (i + 1)) (i + 1) (u + x.toNat % 128 * 2 ^ (7 * i)) = vget bs ∧ St w0 l w) ?_ ?_
  ·refine c_block ?_
   refine c_cut (Γ := Bool) (fun k => [(4, .int .u64 u), (5, .int .i64 i), (6, .int .u8 x.toNat), (7, .slice sl bs.length c), (8, .int .i64 bs.length), (9, .int .i64 i), (14, .bool k)])
    (fun k w => (k = true ↔ (i = 10 ∨ (i = 9 ∧ 1 < x.toNat) ∨ (0 < i ∧ x.toNat = 0))) ∧ St w0 l w) ?_ ?_
   ·refine c_region ?_
    refine r_v (q_moveI rfl) rfl ?_; refine r_v (q_eql rfl rfl) rfl ?_
    by_cases h10 : i = 10
    ·refine r_is (.bool true) (by simp; omega) ?_
     refine r_v (q_moveB rfl) rfl ?_; refine r_gn rfl rfl rfl ?_; refine r_gn rfl rfl rfl ?_; refine r_gn rfl rfl rfl ?_; refine r_gu rfl rfl ?_; refine r_gu rfl rfl ?_; refine r_gn rfl rfl rfl ?_; refine r_v (q_pick1 rfl rfl rfl) rfl ?_; refine r_v (q_moveB rfl) rfl ?_; refine r_gn rfl rfl rfl ?_; refine r_gn rfl rfl rfl ?_; refine r_gn rfl rfl rfl ?_; refine r_gu rfl rfl ?_; refine r_gu rfl rfl ?_; refine r_gn rfl rfl rfl ?_; refine r_v (q_pick1 rfl rfl rfl) rfl ?_; refine r_v (q_assignB rfl) rfl ?_
     exact r_nil ⟨true, ⟨rfl, rfl, rfl, rfl, rfl, rfl, rfl, trivial⟩, ⟨fun _ => .inl h10, fun _ => rfl⟩, h⟩
    ·refine r_is (.bool false) (by simp; omega) ?_
     refine r_v (q_moveB rfl) rfl ?_; refine r_gd rfl rfl ?_; refine r_v (q_moveI rfl) rfl ?_; refine r_gd rfl rfl ?_; refine r_v (q_eql rfl rfl) rfl ?_
     by_cases h9 : i = 9
     ·refine r_is (.bool true) (by simp; omega) ?_
      refine r_gd rfl rfl ?_; refine r_v (q_moveB rfl) rfl ?_; refine r_gd rfl rfl ?_; refine r_v (q_moveI rfl) rfl ?_; refine r_gd rfl rfl ?_; refine r_v (q_gtr rfl rfl) rfl ?_
      by_cases h1 : 1 < x.toNat
      ·refine r_is (.bool true) (by simp; omega) ?_
       refine r_gd rfl rfl ?_; refine r_v (q_pick1 rfl rfl rfl) rfl ?_; refine r_v (q_pick0 rfl rfl rfl) rfl ?_; refine r_v (q_moveB rfl) rfl ?_; refine r_gn rfl rfl rfl ?_; refine r_gn rfl rfl rfl ?_; refine r_gn rfl rfl rfl ?_; refine r_gu rfl rfl ?_; refine r_gu rfl rfl ?_; refine r_gn rfl rfl rfl ?_; refine r_v (q_pick1 rfl rfl rfl) rfl ?_; refine r_v (q_assignB rfl) rfl ?_
       exact r_nil ⟨true, ⟨rfl, rfl, rfl, rfl, rfl, rfl, rfl, trivial⟩, ⟨fun _ => .inr (.inl ⟨h9, h1⟩), fun _ => rfl⟩, h⟩
      ·refine r_is (.bool false) (by simp; omega) ?_
       refine r_gd rfl rfl ?_; refine r_v (q_pick1 rfl rfl rfl) rfl ?_; refine r_v (q_pick0 rfl rfl rfl) rfl ?_; refine r_v (q_moveB rfl) rfl ?_; refine r_gd rfl rfl ?_; refine r_v (q_moveI rfl) rfl ?_; refine r_gd rfl rfl ?_; refine r_v (q_gtr rfl rfl) rfl ?_
       refine r_is (.bool true) (by simp; omega) ?_
       refine r_gd rfl rfl ?_; refine r_v (q_moveB rfl) rfl ?_; refine r_gd rfl rfl ?_; refine r_v (q_moveI rfl) rfl ?_; refine r_gd rfl rfl ?_; refine r_v (q_eql rfl rfl) rfl ?_
       by_cases h0 : x.toNat = 0
       ·refine r_is (.bool true) (by rw [h0]; rfl) ?_
        refine r_gd rfl rfl ?_; refine r_v (q_pick1 rfl rfl rfl) rfl ?_; refine r_v (q_pick0 rfl rfl rfl) rfl ?_; refine r_v (q_assignB rfl) rfl ?_
        exact r_nil ⟨true, ⟨rfl, rfl, rfl, rfl, rfl, rfl, rfl, trivial⟩, ⟨fun _ => .inr (.inr ⟨by omega, h0⟩), fun _ => rfl⟩, h⟩
       ·refine r_is (.bool false) (by congr 1; rw [beq_eq_false_iff_ne]; omega) ?_
        refine r_gd rfl rfl ?_; refine r_v (q_pick1 rfl rfl rfl) rfl ?_; refine r_v (q_pick0 rfl rfl rfl) rfl ?_; refine r_v (q_assignB rfl) rfl ?_
        exact r_nil ⟨false, ⟨rfl, rfl, rfl, rfl, rfl, rfl, rfl, trivial⟩, ⟨(fun h => by cases h), (fun h => by omega)⟩, h⟩
     ·refine r_is (.bool false) (by simp; omega) ?_
      refine r_gd rfl rfl ?_; refine r_v (q_moveB rfl) rfl ?_; refine r_gn rfl rfl rfl ?_; refine r_gn rfl rfl rfl ?_; refine r_gd rfl rfl ?_; refine r_v (q_pick0 rfl rfl rfl) rfl ?_; refine r_v (q_pick0 rfl rfl rfl) rfl ?_; refine r_v (q_moveB rfl) rfl ?_; refine r_gd rfl rfl ?_; refine r_v (q_moveI rfl) rfl ?_; refine r_gd rfl rfl ?_; refine r_v (q_gtr rfl rfl) rfl ?_
      by_cases hp : 0 < i
      ·refine r_is (.bool true) (by simp; omega) ?_
       refine r_gd rfl rfl ?_; refine r_v (q_moveB rfl) rfl ?_; refine r_gd rfl rfl ?_; refine r_v (q_moveI rfl) rfl ?_; refine r_gd rfl rfl ?_; refine r_v (q_eql rfl rfl) rfl ?_
       by_cases h0 : x.toNat = 0
       ·refine r_is (.bool true) (by rw [h0]; rfl) ?_
        refine r_gd rfl rfl ?_; refine r_v (q_pick1 rfl rfl rfl) rfl ?_; refine r_v (q_pick0 rfl rfl rfl) rfl ?_; refine r_v (q_assignB rfl) rfl ?_
        exact r_nil ⟨true, ⟨rfl, rfl, rfl, rfl, rfl, rfl, rfl, trivial⟩, ⟨fun _ => .inr (.inr ⟨by omega, h0⟩), fun _ => rfl⟩, h⟩
       ·refine r_is (.bool false) (by congr 1; rw [beq_eq_false_iff_ne]; omega) ?_
        refine r_gd rfl rfl ?_; refine r_v (q_pick1 rfl rfl rfl) rfl ?_; refine r_v (q_pick0 rfl rfl rfl) rfl ?_; refine r_v (q_assignB rfl) rfl ?_
        exact r_nil ⟨false, ⟨rfl, rfl, rfl, rfl, rfl, rfl, rfl, trivial⟩, ⟨(fun h => by cases h), (fun h => by omega)⟩, h⟩
      ·refine r_is (.bool false) (by simp; omega) ?_
       refine r_gd rfl rfl ?_; refine r_v (q_moveB rfl) rfl ?_; refine r_gn rfl rfl rfl ?_; refine r_gn rfl rfl rfl ?_; refine r_gd rfl rfl ?_; refine r_v (q_pick0 rfl rfl rfl) rfl ?_; refine r_v (q_pick0 rfl rfl rfl) rfl ?_; refine r_v (q_assignB rfl) rfl ?_
       exact r_nil ⟨false, ⟨rfl, rfl, rfl, rfl, rfl, rfl, rfl, trivial⟩, ⟨(fun h => by cases h), (fun h => by omega)⟩, h⟩
   clear h
   rintro k w e ⟨hk, h⟩
   refine c_cond k rfl (fun hc => ?_) (fun hc => ?_)
   ·
    rw [if_pos (hk.1 hc)] at hv
    refine c_seq (c_region ?_)
    refine r_v (q_assignI rfl) rfl ?_; refine r_v (q_assignI rfl) rfl ?_
    refine r_nil ?_
    exact c_ret (bq2 ⟨by rw [← hv]; rfl, h⟩)
   ·
    have hnb : ¬ (i = 10 ∨ (i = 9 ∧ 1 < x.toNat) ∨ (0 < i ∧ x.toNat = 0)) := fun hb => by rw [hk.2 hb] at hc; cases hc
    rw [if_neg hnb] at hv
    have hi9 : i ≤ 9 := by omega
    have hb : x.toNat * 2 ^ (7 * i) < 18446744073709551616 := by
     rcases Nat.lt_or_ge i 9 with h2 | h2
     ·have h3 : (2 : Nat) ^ (7 * i) ≤ 2 ^ 56 := Nat.pow_le_pow_right (by decide) (by omega)
      have h4 : x.toNat * 2 ^ (7 * i) ≤ 255 * 2 ^ 56 := Nat.mul_le_mul (by omega) h3
      omega
     ·obtain rfl : i = 9 := by omega
      have h4 : x.toNat * 2 ^ (7 * 9) ≤ 1 * 2 ^ (7 * 9) := Nat.mul_le_mul_right _ (by omega)
      have h5 : (2 : Nat) ^ (7 * 9) = 9223372036854775808 := by decide
      omega
    have hu64 : u < 18446744073709551616 := Nat.lt_of_lt_of_le hu (by
     have : (2 : Nat) ^ (7 * i) ≤ 2 ^ 64 := Nat.pow_le_pow_right (by decide) (by omega)
     exact this)
    refine c_seq (c_region ?_)
    refine r_v (q_moveI rfl) rfl ?_; refine r_v (q_lss rfl rfl) rfl ?_; refine r_v (q_assignB rfl) rfl ?_
    refine r_nil ?_
    refine c_cond (decide ((x.toNat : Int) < 128)) rfl (fun hc => ?_) (fun hc => ?_)
    ·
     rw [if_pos (by simp at hc; omega)] at hv
     refine c_seq (c_region ?_)
     refine r_v (q_moveI rfl) rfl ?_; refine r_v (q_moveI rfl) rfl ?_; refine r_v (q_conv rfl) rfl ?_
     refine r_is (.int .u64 (x.toNat : Int)) (by rw [wrap_u64, Nat.mod_eq_of_lt (by omega)]) ?_
     refine r_v (q_moveI rfl) rfl ?_; refine r_v (q_mul rfl rfl) rfl ?_
     refine r_is (.int .i64 ((7 * i : Nat) : Int)) (by rw [wrap64 (by omega) (by omega)]; rfl) ?_
     refine r_v (q_is (v' := .int .u64 ((x.toNat * 2 ^ (7 * i) : Nat) : Int)) (q_shl rfl rfl (by omega)) (by rw [shl_u64 _ _ (by omega), Nat.mod_eq_of_lt hb])) rfl ?_
     refine r_v (q_or rfl rfl) rfl ?_
     refine r_is (.int .u64 ((u + x.toNat * 2 ^ (7 * i) : Nat) : Int)) (by rw [(bit_u64 hu64 hb).2.1, or_shift hu]) ?_
     refine r_v (q_moveI rfl) rfl ?_; refine r_v (q_add rfl rfl) rfl ?_
     refine r_is (.int .i64 ((i + 1 : Nat) : Int)) (by rw [wrap64 (by omega) (by omega)]; rfl) ?_
     refine r_v (q_assignI rfl) rfl ?_; refine r_v (q_assignI rfl) rfl ?_
     refine r_nil ?_
     exact c_ret (bq2 ⟨by rw [← hv]; rfl, h⟩)
    ·
     rw [if_neg (by simp at hc; omega)] at hv
     exact c_skip ⟨(), ⟨rfl, rfl, rfl, rfl, rfl, rfl, trivial⟩, hi9, by omega, hv, h⟩
  clear h hv
  rintro ⟨⟩ w e ⟨hi9, hx1, hv, h⟩
  have hm : x.toNat % 128 * 2 ^ (7 * i) ≤ 127 * 2 ^ (7 * i) := Nat.mul_le_mul_right _ (by omega)
  have h63 : (2 : Nat) ^ (7 * i) ≤ 2 ^ 63 := Nat.pow_le_pow_right (by decide) (by omega)
  have hu64 : u < 18446744073709551616 := by omega
  have hb : x.toNat % 128 * 2 ^ (7 * i) < 18446744073709551616 := by
   rcases Nat.lt_or_ge i 9 with h2 | h2
   ·have h3 : (2 : Nat) ^ (7 * i) ≤ 2 ^ 56 := Nat.pow_le_pow_right (by decide) (by omega)
    omega
   ·obtain rfl : i = 9 := by omega
    have h4 : x.toNat % 128 * 2 ^ (7 * 9) ≤ 1 * 2 ^ (7 * 9) := Nat.mul_le_mul_right _ (by have := hx1 rfl; omega)
    have h5 : (2 : Nat) ^ (7 * 9) = 9223372036854775808 := by decide
    omega
  refine c_region ?_
  refine r_v (q_moveI rfl) rfl ?_; refine r_v (q_moveI rfl) rfl ?_; refine r_v (q_and rfl rfl) rfl ?_
  refine r_is (.int .u8 ((x.toNat % 128 : Nat) : Int)) (by rw [show bitOp .and .u8 (x.toNat : Int) 127 = ((x.toNat &&& 127 : Nat) : Int) from (bit_u8 hx (by decide)).1, show x.toNat &&& 127 = x.toNat % 128 from and_low x.toNat 7]) ?_
  refine r_v (q_conv rfl) rfl ?_
  refine r_is (.int .u64 ((x.toNat % 128 : Nat) : Int)) (by rw [wrap_u64, Nat.mod_eq_of_lt (by omega)]) ?_
  refine r_v (q_moveI rfl) rfl ?_; refine r_v (q_mul rfl rfl) rfl ?_
  refine r_is (.int .i64 ((7 * i : Nat) : Int)) (by rw [wrap64 (by omega) (by omega)]; rfl) ?_
  refine r_v (q_is (v' := .int .u64 ((x.toNat % 128 * 2 ^ (7 * i) : Nat) : Int)) (q_shl rfl rfl (by omega)) (by rw [shl_u64 _ _ (by omega), Nat.mod_eq_of_lt hb])) rfl ?_
  refine r_v (q_or rfl rfl) rfl ?_
  refine r_is (.int .u64 ((u + x.toNat % 128 * 2 ^ (7 * i) : Nat) : Int)) (by rw [(bit_u64 hu64 hb).2.1, or_shift hu]) ?_
  refine r_v (q_assignI rfl) rfl ?_
  refine r_nil ?_
  refine c_region ?_
  refine r_v (q_add rfl rfl) rfl ?_
  refine r_is (.int .i64 ((i + 1 : Nat) : Int)) (by rw [wrap64 (by omega) (by omega)]; rfl) ?_
  refine r_v (q_moveI rfl) rfl ?_
  refine r_nil ⟨(i + 1, u + x.toNat % 128 * 2 ^ (7 * i)), ⟨rfl, rfl, rfl, rfl, trivial⟩, ⟨by dsimp only; omega, by dsimp only; omega, ?_, hv, h⟩, by dsimp only; omega⟩
  have hp : (2 : Nat) ^ (7 * (i + 1)) = 128 * 2 ^ (7 * i) := by rw [Nat.mul_add, Nat.pow_add, Nat.mul_comm]
  dsimp only
  rw [hp]
  omega
 have hin : i = bs.length := by simp at hc; omega
 rw [hin, List.drop_length, vgetA] at hv
 refine c_exit ?_
 refine c_seq (c_region ?_)
 refine r_v (q_assignI rfl) rfl ?_; refine r_v (q_assignI rfl) rfl ?_
 refine r_nil ?_
 exact c_ret (bq2 ⟨by rw [← hv]; rfl, h⟩)
end
end Go.Proofs.YtnnehiiblfmpnaaGreatDoor

namespace Go.Proofs.YtnnehiiblfmpnaaGreatDoor
open Go.Hw
set_option maxHeartbeats 4000000
set_option maxRecDepth 100000
section
variable {w0 w : World} {l : List HProp}

theorem vint_Zig {t : Int} (ht : I64 t) (h : St w0 l w) : Ret Tryz.prog 201 [.int .i64 t] w fun v w' => v = .int .u64 (zigU (us t) : Nat) ∧ St w0 l w' := by
 have hlt := us_lt t
 refine enter Tryz.func201 rfl Tryz.results201 Tryz.ntmps201 rfl ?_
 refine c_seq (c_region ?_)
 refine r_v (q_assignI rfl) rfl ?_
 refine r_nil ?_
 refine c_seq (c_region ?_)
 refine r_v (q_moveI rfl) rfl ?_; refine r_v (q_conv rfl) rfl ?_
 refine r_is (.int .u64 (us t : Nat)) (by rw [wrap_us]) ?_
 refine r_v (q_is (v' := .int .u64 ((us t * 2 % 18446744073709551616 : Nat) : Int)) (q_shl rfl rfl (by omega)) (congrArg (Value.int .u64) (shl_u64 (us t) 1 (by decide)))) rfl ?_
 refine r_v (q_moveI rfl) rfl ?_
 refine r_v (q_is (v' := .int .i64 (if us t < 9223372036854775808 then 0 else -1)) (q_shr rfl rfl (by omega)) (by
  congr 1
  rw [show (2 : Int) ^ (min (63 : Int).toNat IntKind.i64.bits) = 9223372036854775808 by decide, Int.fdiv_eq_ediv_of_nonneg _ (by decide)]
  obtain ⟨h1, h2⟩ := ht
  unfold us
  split <;> omega)) rfl ?_
 refine r_v (q_conv rfl) rfl ?_
 refine r_is (.int .u64 ((if us t < 9223372036854775808 then 0 else 18446744073709551615 : Nat) : Int)) (by
  rw [wrap_us]; congr 2; split <;> rfl) ?_
 refine r_v (q_xor rfl rfl) rfl ?_
 refine r_is (.int .u64 (zigU (us t) : Nat)) (by
  rw [(bit_u64 (Nat.mod_lt _ (by decide)) (by split <;> decide)).2.2]
  congr 2
  unfold zigU
  split
  ·rw [Nat.xor_zero, Nat.mod_eq_of_lt (by omega), Nat.mul_comm]
  ·rw [xor_ones (Nat.mod_lt _ (by decide))]; omega) ?_
 refine r_v (q_assignI rfl) rfl ?_
 refine r_nil ?_
 exact c_ret (bq1 ⟨rfl, h⟩)
theorem vint_Zag {u : Nat} (hu : u < 18446744073709551616) (h : St w0 l w) : Ret Tryz.prog 195 [.int .u64 u] w fun v w' => v = .int .i64 (sg (zagU u)) ∧ St w0 l w' := by
 refine enter Tryz.func195 rfl Tryz.results195 Tryz.ntmps195 rfl ?_
 refine c_seq (c_region ?_)
 refine r_v (q_assignI rfl) rfl ?_
 refine r_nil ?_
 refine c_seq (c_region ?_)
 refine r_v (q_moveI rfl) rfl ?_
 refine r_v (q_is (v' := .int .u64 ((u / 2 : Nat) : Int)) (q_shr rfl rfl (by omega)) (congrArg (Value.int .u64) (fdiv_nat u 1 64 (by decide)))) rfl ?_
 refine r_v (q_conv rfl) rfl ?_
 refine r_is (.int .i64 ((u / 2 : Nat) : Int)) (by rw [wrap64 (by omega) (by omega)]) ?_
 refine r_v (q_moveI rfl) rfl ?_; refine r_v (q_and rfl rfl) rfl ?_
 refine r_is (.int .u64 ((u % 2 : Nat) : Int)) (by rw [show bitOp .and .u64 (u : Int) 1 = ((u &&& 1 : Nat) : Int) from (bit_u64 hu (by decide)).1, Nat.and_one_is_mod]) ?_
 refine r_v (q_conv rfl) rfl ?_
 refine r_is (.int .i64 ((u % 2 : Nat) : Int)) (by rw [wrap64 (by omega) (by omega)]) ?_
 refine r_v (q_neg rfl) rfl ?_
 refine r_is (.int .i64 (0 - ((u % 2 : Nat) : Int))) (by rw [wrap64 (by omega) (by omega)]) ?_
 refine r_v (q_xor rfl rfl) rfl ?_
 refine r_is (.int .i64 (sg (zagU u))) (by
  rw [(bit_i64 _ _).2.2]
  congr 2
  have h1 : us ((u / 2 : Nat) : Int) = u / 2 := by unfold us; omega
  rw [h1]
  unfold zagU
  split
  ·rename_i h0
   rw [h0]
   exact Nat.xor_zero _
  ·rename_i h0
   have h2 : u % 2 = 1 := by omega
   rw [h2]
   exact xor_ones (by omega)) ?_
 refine r_v (q_assignI rfl) rfl ?_
 refine r_nil ?_
 exact c_ret (bq1 ⟨rfl, h⟩)

abbrev BrPt (p : Nat) (a : Option Addr) (m c at_ : Nat) (bad : Bool) : HProp := pt p (.cells [.slice a m c, .int .i64 at_, .bool bad].toArray 319 (0, 0))
def IsBR (p : Nat) (s : RS) : HProp := ex fun q : Option Addr × Nat × List UInt8 × Nat => all [BrPt p q.1 q.2.2.1.length q.2.1 q.2.2.2 s.bad, OwnB q.1 q.2.1 q.2.2.1, lift (s.rest = (bitsB q.2.2.1).drop q.2.2.2 ∧ q.2.2.2 ≤ 8 * q.2.2.1.length ∧ q.2.2.1.length ≤ 140737488355328)]
theorem St.br {p : Nat} {s : RS} : St w0 (IsBR p s :: l) w ↔ ∃ a c B at_, (s.rest = (bitsB B).drop at_ ∧ at_ ≤ 8 * B.length ∧ B.length ≤ 140737488355328) ∧ St w0 (BrPt p a B.length c at_ s.bad :: OwnB a c B :: l) w := by
 unfold IsBR
 rw [St.ex]
 constructor
 ·rintro ⟨⟨a, c, B, at_⟩, h⟩
  obtain ⟨h1, h2⟩ := St.lift.1 (h.join.f 2)
  exact ⟨a, c, B, at_, h1, h2⟩
 ·rintro ⟨a, c, B, at_, h1, h⟩
  refine ⟨(a, c, B, at_), St.fold [_, _, _] ?_⟩
  have h2 := St.lift.2 ⟨h1, h⟩
  exact h2.of_all (by simp only [List.cons_append, List.nil_append, all_star]; ac_rfl)

theorem bits_NewReader {sl : Option Addr} {c : Nat} {bs : List UInt8} (h : St w0 l w) (hr : ∀ w', St w0 l w' → Rd w' 1 sl bs.length (bytesV bs)) (hn : bs.length ≤ 140737488355328) : Ret Tryz.prog 197 [.slice sl bs.length c] w fun v w' => ∃ p, v = .pointer (some ⟨p, 0, none⟩) ∧ St w0 (IsBR p ⟨bitsB bs, false⟩ :: l) w' := by
 refine enter Tryz.func197 rfl Tryz.results197 Tryz.ntmps197 rfl ?_
 refine c_seq (c_region ?_)
 refine r_v (q_assignP rfl) rfl ?_
 refine r_nil ?_
 refine c_seq (c_region ?_)
 refine r_v (q_moveS rfl) rfl ?_
 refine r_c rfl (x_call rfl (bytes_Clone h hr hn) ?_)
 rintro _ w ⟨a, c1, rfl, h⟩
 refine r_v (q_build (r := [.slice a bs.length c1, .int .i64 0, .bool false]) rfl) rfl ?_
 refine r_c rfl (x_box h (show _ = Value.agg [.slice a bs.length c1, .int .i64 0, .bool false].toArray from rfl) fun p w h => ?_)
 refine r_v (q_assignP rfl) rfl ?_
 refine r_nil ?_
 exact c_ret (bq1 ⟨p, rfl, St.br.2 ⟨a, c1, bs, 0, ⟨rfl, Nat.zero_le _, hn⟩, h⟩⟩)
theorem bits_Ok {p : Nat} {s : RS} (h : St w0 (IsBR p s :: l) w) : Ret Tryz.prog 225 [.pointer (some ⟨p, 0, none⟩)] w fun v w' => v = .bool (!s.bad) ∧ St w0 (IsBR p s :: l) w' := by
 obtain ⟨a, c, B, at_, h1, h⟩ := St.br.1 h
 refine enter Tryz.func225 rfl Tryz.results225 Tryz.ntmps225 rfl ?_
 refine c_seq (c_region ?_)
 refine r_v (q_assignB rfl) rfl ?_
 refine r_nil ?_
 refine c_seq (c_region ?_)
 refine r_v (q_moveP rfl) rfl ?_; refine r_v (q_nil rfl) rfl ?_; refine r_v (q_fa rfl) rfl ?_; refine r_v (q_load rfl (h.b 0) rfl) rfl ?_; refine r_v (q_not rfl) rfl ?_; refine r_v (q_assignB rfl) rfl ?_
 refine r_nil ?_
 exact c_ret (bq1 ⟨rfl, St.br.2 ⟨a, c, B, at_, h1, h⟩⟩)
theorem bits_Left {p : Nat} {a : Option Addr} {c at_ : Nat} {bad : Bool} {B : List UInt8} (hat : at_ ≤ 8 * B.length) (hB : B.length ≤ 140737488355328) (h : St w0 (BrPt p a B.length c at_ bad :: OwnB a c B :: l) w) :
  Ret Tryz.prog 245 [.pointer (some ⟨p, 0, none⟩)] w fun v w' => v = .int .i64 (if bad = true then 0 else (8 * B.length - at_ : Nat) : Nat) ∧ St w0 (BrPt p a B.length c at_ bad :: OwnB a c B :: l) w' := by
 refine enter Tryz.func245 rfl Tryz.results245 Tryz.ntmps245 rfl ?_
 refine c_seq (c_region ?_)
 refine r_v (q_assignI rfl) rfl ?_
 refine r_nil ?_
 refine c_seq (c_seq (c_region ?_))
 refine r_v (q_moveP rfl) rfl ?_; refine r_v (q_nil rfl) rfl ?_; refine r_v (q_fa rfl) rfl ?_; refine r_v (q_load rfl (h.b 0) rfl) rfl ?_
 refine r_nil (c_cond bad rfl (fun hc => ?_) (fun hc => ?_))
 ·
  refine c_seq (c_region ?_)
  refine r_v (q_assignI rfl) rfl ?_
  refine r_nil ?_
  exact c_ret (bq1 ⟨by rw [if_pos hc]; rfl, h⟩)
 refine c_skip ?_
 refine c_seq (c_any none (fun w => St w0 _ w) (by kernel_rfl) (by kernel_rfl) h.drew fun w h => ?_)
 refine cur_pure rfl rfl rfl rfl (fun _ => h) (fun _ => flt_v rfl (q_moveP rfl)) ?_; refine cur_pure rfl rfl rfl rfl (fun _ => h) (fun _ => flt_v rfl (q_nil rfl)) ?_; refine cur_pure rfl rfl rfl rfl (fun _ => h) (fun _ => flt_v rfl (q_fa rfl)) ?_; refine cur_float rfl rfl rfl rfl h (fun _ h => flt_v rfl (q_load rfl (h.b 0) rfl)) ?_; refine cur_pure rfl rfl rfl rfl (fun _ => h) (fun _ => flt_v rfl (q_len rfl)) ?_
 refine cur_pure rfl rfl rfl rfl (fun _ => h) (fun _ => flt_v rfl (q_is (v' := .int .i64 ((8 * B.length : Nat) : Int)) (q_mul rfl rfl) (by rw [wrap64 (by omega) (by omega)]; rfl))) ?_
 refine cur_pure rfl rfl rfl rfl (fun _ => h) (fun _ => flt_v rfl (q_moveP rfl)) ?_; refine cur_pure rfl rfl rfl rfl (fun _ => h) (fun _ => flt_v rfl (q_nil rfl)) ?_; refine cur_pure rfl rfl rfl rfl (fun _ => h) (fun _ => flt_v rfl (q_fa rfl)) ?_
 refine cur_float rfl rfl rfl rfl h (fun _ h => flt_v rfl (q_load (v := .int .i64 at_) rfl (h.b 0 rfl) rfl)) ?_
 refine cur_pure rfl rfl rfl rfl (fun _ => h) (fun _ => flt_v rfl (q_is (v' := .int .i64 ((8 * B.length - at_ : Nat) : Int)) (q_sub rfl rfl) (by rw [wrap64 (by omega) (by omega)]; congr 1; omega))) ?_
 refine cur_pure rfl rfl rfl rfl (fun _ => h) (fun _ => flt_v rfl (q_assignI rfl)) ?_
 refine cur_end ?_
 exact c_ret (bq1 ⟨by rw [if_neg (by rw [hc]; decide)]; rfl, h⟩)
theorem take_succ_num {s : List Bool} {k : Nat} {b : Bool} (h : s[k]? = some b) : num (s.take (k + 1)) = 2 * num (s.take k) + b.toNat := by
 rw [List.take_add_one, h]
 exact num_snoc _ _
theorem heldN_nat {n : Nat} (h : n ≤ 64) : heldN (n : Int) = n := by unfold heldN; omega

theorem bits_Get {p : Nat} {s : RS} (n : Int) (h : St w0 (IsBR p s :: l) w) : Ret Tryz.prog 223 [.pointer (some ⟨p, 0, none⟩), .int .i64 n] w fun v w' => v = .int .u64 ((s.get (heldN n)).1 : Nat) ∧ St w0 (IsBR p (s.get (heldN n)).2 :: l) w' := by
 obtain ⟨a, c, B, at_, ⟨hrest, hat, hB⟩, h⟩ := St.br.1 h
 obtain ⟨rest, bad⟩ := s
 dsimp only at hrest h
 have hm := heldN_le n
 have hrl : rest.length = 8 * B.length - at_ := by rw [hrest, List.length_drop, bitsB_len]
 refine enter Tryz.func223 rfl Tryz.results223 Tryz.ntmps223 rfl ?_
 refine c_seq (c_region ?_)
 refine r_v (q_assignI rfl) rfl ?_
 refine r_nil ?_
 refine c_seq (c_region ?_)
 refine r_v (q_moveI rfl) rfl ?_
 refine r_c rfl (x_call rfl (bits_held n h) ?_)
 rintro _ w ⟨rfl, h⟩
 generalize heldN n = m at hm ⊢
 refine r_v (q_assignI rfl) rfl ?_
 refine r_nil ?_
 refine c_cut (Γ := Bool) (fun _ => [(0, .pointer (some ⟨p, 0, none⟩)), (1, .int .i64 m)])
  (fun k w => (k = true ↔ (bad = true ∨ rest.length < m)) ∧ St w0 (BrPt p a B.length c at_ k :: OwnB a c B :: l) w) ?_ ?_
 ·refine c_seq (c_region ?_)
  refine r_v (q_moveI rfl) rfl ?_; refine r_v (q_moveP rfl) rfl ?_
  refine r_c rfl (x_call rfl (bits_Left hat hB h) ?_)
  rintro _ w ⟨rfl, h⟩
  refine r_v (q_gtr rfl rfl) rfl ?_
  refine r_nil ?_
  refine c_cond (decide ((m : Int) > ((if bad = true then 0 else (8 * B.length - at_ : Nat) : Nat) : Int))) rfl (fun hc => ?_) (fun hc => ?_)
  ·refine c_region ?_
   refine r_v (q_moveP rfl) rfl ?_; refine r_v (q_nil rfl) rfl ?_; refine r_v (q_fa rfl) rfl ?_
   refine r_c rfl (x_store 0 h rfl (show _ = Value.bool true from rfl) rfl rfl rfl rfl fun w h => ?_)
   refine r_nil ⟨true, ⟨rfl, rfl, trivial⟩, ⟨fun _ => ?_, fun _ => rfl⟩, h⟩
   rw [decide_eq_true_eq] at hc
   split at hc
   ·exact .inl ‹_›
   ·exact .inr (by omega)
  ·refine c_skip ⟨bad, ⟨rfl, rfl, trivial⟩, ⟨fun hb => .inl hb, fun hb => ?_⟩, h⟩
   rw [decide_eq_false_iff_not] at hc
   rcases hb with hb | hb
   ·exact hb
   ·split at hc
    ·assumption
    ·omega
 clear h
 rintro k w e ⟨hk, h⟩
 refine c_seq (c_seq (c_region ?_))
 refine r_v (q_moveP rfl) rfl ?_; refine r_v (q_nil rfl) rfl ?_; refine r_v (q_fa rfl) rfl ?_; refine r_v (q_load rfl (h.b 0) rfl) rfl ?_
 refine r_nil (c_cond k rfl (fun hc => ?_) (fun hc => ?_))
 ·
  subst hc
  have hbad := hk.1 rfl
  refine c_seq (c_region ?_)
  refine r_v (q_assignI rfl) rfl ?_
  refine r_nil ?_
  refine c_ret (bq1 ?_)
  have e1 : RS.get ⟨rest, bad⟩ m = (0, ⟨rest, true⟩) := by unfold RS.get; rw [if_pos hbad]
  rw [e1]
  exact ⟨rfl, St.br.2 ⟨a, c, B, at_, ⟨hrest, hat, hB⟩, h⟩⟩
 subst hc
 have hok : ¬ (bad = true ∨ rest.length < m) := fun hb => by cases hk.2 hb
 refine c_skip ?_
 refine c_seq (c_region ?_)
 refine r_v (q_assignI rfl) rfl ?_
 refine r_nil ?_
 refine c_seq (c_seq (c_region ?_))
 refine r_v (q_moveI rfl) rfl ?_; refine r_v (q_moveI rfl) rfl ?_
 refine r_nil ?_
 refine c_block ?_
 refine c_loop (Γ := Nat) (fun k => [(0, .pointer (some ⟨p, 0, none⟩)), (5, .int .u64 (num (rest.take k))), (19, .int .i64 m), (20, .int .i64 k)]) (fun k w => k ≤ m ∧ St w0 (BrPt p a B.length c (at_ + k) false :: OwnB a c B :: l) w) (fun k => m - k) 0 ⟨rfl, rfl, rfl, rfl, trivial⟩ ⟨Nat.zero_le _, h⟩ ?_
 clear h
 rintro k w e ⟨hkm, h⟩
 refine c_seq (c_region ?_)
 refine r_v (q_lss rfl rfl) rfl ?_
 refine r_nil ?_
 refine c_seq (c_cond (decide ((k : Int) < (m : Int))) rfl (fun hc => ?_) (fun hc => ?_))
 ·
  have hlt : k < m := by simp at hc; omega
  have hkr : k < rest.length := by omega
  have hbyte : (at_ + k) / 8 < B.length := by omega
  have hgB := List.getElem?_eq_getElem hbyte
  generalize B[(at_ + k) / 8] = x at hgB
  have hbit : rest[k]? = some (x.toNat.testBit (7 - (at_ + k) % 8)) := by rw [hrest, List.getElem?_drop, bitsB_get _ _ _ hgB]
  have hnum := take_succ_num hbit
  generalize hb : x.toNat.testBit (7 - (at_ + k) % 8) = b at hnum hbit
  have hn1 := num_lt (rest.take k)
  rw [List.length_take, Nat.min_eq_left (by omega)] at hn1
  have hn2 : (2 : Nat) ^ k ≤ 2 ^ 63 := Nat.pow_le_pow_right (by decide) (by omega)
  have hn3 : num (rest.take k) < 9223372036854775808 := by omega
  generalize num (rest.take k) = N at *
  have hb2 : b.toNat ≤ 1 := by cases b <;> decide
  have hx := x.toNat_lt
  obtain ⟨g, rfl⟩ := (h.f 1).own_some (by omega)
  refine c_skip ?_
  refine c_seq (c_block ?_)
  refine c_seq (c_any none (fun w => St w0 _ w) (by kernel_rfl) (by kernel_rfl) h.drew fun w h => ?_)
  refine cur_pure rfl rfl rfl rfl (fun _ => h) (fun _ => flt_v rfl (q_moveI rfl)) ?_
  refine cur_pure rfl rfl rfl rfl (fun _ => h) (fun _ => flt_v rfl (q_is (v' := .int .u64 ((2 ^ 1 * N : Nat) : Int)) (q_shl rfl rfl (by omega)) (by rw [show IntKind.u64.wrap ((N : Int) * 2 ^ (min (1 : Int).toNat IntKind.u64.bits)) = ((N * 2 ^ 1 % 18446744073709551616 : Nat) : Int) from shl_u64 N 1 (by decide), Nat.mod_eq_of_lt (by omega), Nat.mul_comm]))) ?_
  refine cur_pure rfl rfl rfl rfl (fun _ => h) (fun _ => flt_v rfl (q_moveP rfl)) ?_; refine cur_pure rfl rfl rfl rfl (fun _ => h) (fun _ => flt_v rfl (q_nil rfl)) ?_; refine cur_pure rfl rfl rfl rfl (fun _ => h) (fun _ => flt_v rfl (q_fa rfl)) ?_; refine cur_float rfl rfl rfl rfl h (fun _ h => flt_v rfl (q_load rfl (h.b 0) rfl)) ?_; refine cur_pure rfl rfl rfl rfl (fun _ => h) (fun _ => flt_v rfl (q_moveP rfl)) ?_; refine cur_pure rfl rfl rfl rfl (fun _ => h) (fun _ => flt_v rfl (q_nil rfl)) ?_; refine cur_pure rfl rfl rfl rfl (fun _ => h) (fun _ => flt_v rfl (q_fa rfl)) ?_
  refine cur_float rfl rfl rfl rfl h (fun _ h => flt_v rfl (q_load (v := .int .i64 ((at_ + k : Nat) : Int)) rfl (h.b 0 rfl) rfl)) ?_
  refine cur_pure rfl rfl rfl rfl (fun _ => h) (fun _ => flt_v rfl (q_is (v' := .int .i64 (((at_ + k) / 8 : Nat) : Int)) (q_quo rfl rfl (by decide)) (by rw [show ((at_ + k : Nat) : Int).tdiv 8 = (((at_ + k) / 8 : Nat) : Int) from tdiv_nat _ 8, wrap64 (by omega) (by omega)]))) ?_
  refine cur_pure rfl rfl rfl rfl (fun _ => h) (fun _ => flt_v rfl (q_idx (o' := (at_ + k) / 8) rfl rfl rfl hbyte (by simp))) ?_
  refine cur_float rfl rfl rfl rfl h (fun w h => flt_v rfl (q_loadc (v := .int .u8 x.toNat) rfl (by have := (h.f 1).own_rd.cell (bytesV_get hgB); simpa using this))) ?_
  refine cur_pure rfl rfl rfl rfl (fun _ => h) (fun _ => flt_v rfl (q_moveP rfl)) ?_; refine cur_pure rfl rfl rfl rfl (fun _ => h) (fun _ => flt_v rfl (q_nil rfl)) ?_; refine cur_pure rfl rfl rfl rfl (fun _ => h) (fun _ => flt_v rfl (q_fa rfl)) ?_
  refine cur_float rfl rfl rfl rfl h (fun _ h => flt_v rfl (q_load (v := .int .i64 ((at_ + k : Nat) : Int)) rfl (h.b 0 rfl) rfl)) ?_
  refine cur_pure rfl rfl rfl rfl (fun _ => h) (fun _ => flt_v rfl (q_is (v' := .int .i64 (((at_ + k) % 8 : Nat) : Int)) (q_rem rfl rfl (by decide)) (congrArg (Value.int .i64) (tmod_nat _ 8)))) ?_
  refine cur_pure rfl rfl rfl rfl (fun _ => h) (fun _ => flt_v rfl (q_is (v' := .int .i64 ((7 - (at_ + k) % 8 : Nat) : Int)) (q_sub rfl rfl) (by rw [wrap64 (by omega) (by omega)]; congr 1; omega))) ?_
  refine cur_pure rfl rfl rfl rfl (fun _ => h) (fun _ => flt_v rfl (q_is (v' := .int .u8 ((x.toNat / 2 ^ (7 - (at_ + k) % 8) : Nat) : Int)) (q_shr rfl rfl (by omega)) (congrArg (Value.int .u8) (fdiv_nat x.toNat _ 8 (by omega))))) ?_
  refine cur_pure rfl rfl rfl rfl (fun _ => h) (fun _ => flt_v rfl (q_is (v' := .int .u8 ((b.toNat : Nat) : Int)) (q_and rfl rfl) (by
   rw [show bitOp .and .u8 ((x.toNat / 2 ^ (7 - (at_ + k) % 8) : Nat) : Int) 1 = ((x.toNat / 2 ^ (7 - (at_ + k) % 8) &&& 1 : Nat) : Int) from (bit_u8 (Nat.lt_of_le_of_lt (Nat.div_le_self _ _) hx) (by decide)).1, Nat.and_one_is_mod, testBit_toNat, hb]))) ?_
  refine cur_pure rfl rfl rfl rfl (fun _ => h) (fun _ => flt_v rfl (q_is (v' := .int .u64 ((b.toNat : Nat) : Int)) (q_conv rfl) (by rw [wrap_u64, Nat.mod_eq_of_lt (by omega)]))) ?_
  refine cur_pure rfl rfl rfl rfl (fun _ => h) (fun _ => flt_v rfl (q_is (v' := .int .u64 (num (rest.take (k + 1)) : Nat)) (q_or rfl rfl) (by
   rw [(bit_u64 (by omega) (by omega)).2.1, hnum, ← Nat.two_pow_add_eq_or_of_lt (show b.toNat < 2 ^ 1 by omega)]))) ?_
  refine cur_pure rfl rfl rfl rfl (fun _ => h) (fun _ => flt_v rfl (q_assignI rfl)) ?_
  refine cur_end ?_
  refine c_region ?_
  refine r_v (q_moveP rfl) rfl ?_; refine r_v (q_nil rfl) rfl ?_; refine r_v (q_fa rfl) rfl ?_
  refine r_v (q_load (v := .int .i64 ((at_ + k : Nat) : Int)) rfl (h.b 0 rfl) rfl) rfl ?_
  refine r_v (q_add rfl rfl) rfl ?_
  refine r_is (.int .i64 ((at_ + (k + 1) : Nat) : Int)) (by rw [wrap64 (by omega) (by omega)]; congr 1) ?_
  refine r_v (q_nil rfl) rfl ?_; refine r_v (q_fa rfl) rfl ?_
  refine r_c rfl (x_store 0 h rfl (show _ = Value.int _ _ from rfl) rfl rfl rfl rfl fun w h => ?_)
  refine r_nil ?_
  refine c_region ?_
  refine r_v (q_add rfl rfl) rfl ?_
  refine r_is (.int .i64 ((k + 1 : Nat) : Int)) (by rw [wrap64 (by omega) (by omega)]; rfl) ?_
  refine r_v (q_moveI rfl) rfl ?_
  exact r_nil ⟨k + 1, ⟨rfl, rfl, rfl, rfl, trivial⟩, ⟨by omega, h⟩, by omega⟩
 obtain rfl : k = m := by simp at hc; omega
 refine c_exit ?_
 refine c_seq (c_region ?_)
 refine r_v (q_moveI rfl) rfl ?_; refine r_v (q_assignI rfl) rfl ?_
 refine r_nil ?_
 refine c_ret (bq1 ?_)
 have e1 : RS.get ⟨rest, bad⟩ k = (num (rest.take k), ⟨rest.drop k, false⟩) := by unfold RS.get; rw [if_neg hok]
 rw [e1]
 exact ⟨rfl, St.br.2 ⟨a, c, B, at_ + k, ⟨by rw [hrest, List.drop_drop], by omega, hB⟩, h⟩⟩
end
end Go.Proofs.YtnnehiiblfmpnaaGreatDoor

namespace Go.Hw
section
variable {P : Program} {e : Env} {w : World} {d : Option Nat} {ty : TypeId} {pos : String} {af : Array Edge} {g : Option (Nat × Bool)}
theorem q_sidx {t : TypeId} [ht : Und P t .string] {x y : Operand} {s : ByteArray} {k : IntKind} {i : Nat} {b : UInt8} (hx : ev e x = .string s) (hy : ev e y = .int k (i : Int)) (hb : s.data.toList[i]? = some b) : Qv P e ⟨d, .index t x y, ty, pos, af, g⟩ w (.int .u8 b.toNat) := by
 unfold Qv
 obtain ⟨h1, h2⟩ := List.getElem?_eq_some_iff.1 hb
 have h3 : i < s.size := by simpa using h1
 have h4 := run_index_string (P := P) (w := w) t s k (i : Int) ht.h
 rw [dif_pos ⟨by omega, by omega⟩] at h4
 simp only [execOp, hx, hy, Sem.run_bind, h4, Result.andThen_ok]
 have h5 : (s[(i : Int).toNat]'(by omega)) = b := by rw [← h2]; simp; rfl
 rw [h5]; rfl
theorem q_aidx {t T m : Nat} [ht : Und P t (.array m T)] {z : List Value} {agg : Bool} {bytes : Nat} [hi : Inf P T z agg bytes] {x y : Operand} {b o o' j : Nat} {k : IntKind} {i : Int}
  (hx : ev e x = .pointer (some ⟨b, o, none⟩)) (hy : ev e y = .int k i) (hij : i = (j : Int)) (hj : j < m) (ho : o + j * z.length = o') : Qv P e ⟨d, .indexAddr t x y, ty, pos, af, g⟩ w (.pointer (some ⟨b, o', none⟩)) := by
 unfold Qv
 subst hij ho
 have h1 := hi.sizeOf w
 simp [execOp, hx, hy, Instr.indexAt, asIntOf, Instr.sureAddr, run_underlying ht.h, h1, Addr.add_mid, hj]
end
theorem len64_shift {x k : Nat} (h : 2 ^ k ≤ x) : len64 (x / 2 ^ k) + k = len64 x := by
 have key : ∀ m, len64 (x / 2 ^ k) + k ≤ m ↔ len64 x ≤ m := by
  intro m
  rw [len64_le]
  constructor
  ·intro h1
   have h2 : len64 (x / 2 ^ k) ≤ m - k := by omega
   rw [len64_le, Nat.div_lt_iff_lt_mul (Nat.two_pow_pos k), ← Nat.pow_add] at h2
   rwa [show m - k + k = m by omega] at h2
  ·intro h1
   have h2 : k < m := by
    rcases Nat.lt_or_ge k m with h3 | h3
    ·exact h3
    ·have : 2 ^ m ≤ 2 ^ k := Nat.pow_le_pow_right (by decide) h3
     omega
   have h3 : len64 (x / 2 ^ k) ≤ m - k := by
    rw [len64_le, Nat.div_lt_iff_lt_mul (Nat.two_pow_pos k), ← Nat.pow_add]
    rwa [show m - k + k = m by omega]
   omega
 exact Nat.le_antisymm ((key _).2 (Nat.le_refl _)) ((key _).1 (Nat.le_refl _))
def lenTab : ByteArray := ⟨((List.range 256).map fun x => UInt8.ofNat (len64 x)).toArray⟩
theorem lenTab_get {x : Nat} (h : x < 256) : lenTab.data.toList[x]? = some (UInt8.ofNat (len64 x)) := by
 show ((List.range 256).map fun x => UInt8.ofNat (len64 x))[x]? = _
 rw [List.getElem?_map, List.getElem?_range h]; rfl
theorem tzA_odd : ∀ (k x : Nat), x ≠ 0 → x < 2 ^ k → x / 2 ^ tzA k x % 2 = 1 ∧ tzA k x < k
 | 0, x, h0, h => by simp at h; omega
 | k + 1, x, h0, h => by
  rw [tzA]
  split
  ·rename_i h1; simpa using h1
  ·rename_i h1
   obtain ⟨h2, h3⟩ := tzA_odd k (x / 2) (by omega) (by rw [Nat.pow_succ] at h; omega)
   rw [Nat.pow_succ, Nat.mul_comm, ← Nat.div_div_eq_div_mul]
   exact ⟨h2, by omega⟩
theorem low_bit {x : Nat} (h0 : x ≠ 0) (h : x < 18446744073709551616) : x &&& (18446744073709551616 - x) = 2 ^ tz x := by
 obtain ⟨h1, h2⟩ := tzA_odd 64 x h0 h
 have h3 := tzA_dvd 64 x
 have ht : tzA 64 x = tz x := rfl
 rw [ht] at h1 h2 h3
 generalize tz x = t at *
 generalize hm : x / 2 ^ t = m at *
 have hp := Nat.two_pow_pos t
 have hx1 : (x - 1) / 2 ^ t = m - 1 := by
  have e : x - 1 = (m - 1) * 2 ^ t + (2 ^ t - 1) := by
   rw [Nat.sub_mul, Nat.one_mul, h3]
   have : 2 ^ t ≤ x := by rw [← h3]; exact Nat.le_mul_of_pos_left _ (by omega)
   omega
  rw [e, Nat.add_comm, Nat.add_mul_div_right _ _ hp, Nat.div_eq_of_lt (by omega), Nat.zero_add]
 apply Nat.eq_of_testBit_eq
 intro i
 rw [Nat.testBit_and, Nat.testBit_two_pow]
 have hs : (18446744073709551616 - x).testBit i = (decide (i < 64) && !(x - 1).testBit i) := by
  have := Nat.testBit_two_pow_sub_succ (n := 64) (x := x - 1) (by omega) i
  rw [show x - 1 + 1 = x by omega] at this
  exact this
 rw [hs]
 have hx : x.testBit i = (decide (i ≥ t) && m.testBit (i - t)) := by rw [← Nat.testBit_two_pow_mul, Nat.mul_comm, h3]
 by_cases hit : i < t
 ·rw [hx]; simp [show ¬ t ≤ i by omega, show ¬ t = i by omega]
 ·have hj : (x - 1).testBit i = (m - 1).testBit (i - t) := by rw [← hx1, Nat.testBit_div_two_pow]; congr 1; omega
  rw [hx, hj]
  cases hd : i - t with
  | zero =>
   have : i = t := by omega
   subst this
   simp [Nat.testBit_zero, h1, h2, show ¬ (m - 1) % 2 = 1 by omega]
  | succ j =>
   rw [Nat.testBit_succ, Nat.testBit_succ, show (m - 1) / 2 = m / 2 by omega]
   simp [show ¬ t = i by omega]
   intro _ h5 _
   exact h5
def deB : List Nat := [0, 1, 56, 2, 57, 49, 28, 3, 61, 58, 42, 50, 38, 29, 17, 4, 62, 47, 59, 36, 45, 43, 51, 22, 53, 39, 33, 30, 24, 18, 12, 5, 63, 55, 48, 27, 60, 41, 37, 16, 46, 35, 44, 21, 52, 32, 23, 11, 54, 26, 40, 15, 34, 20, 31, 10, 25, 14, 19, 9, 13, 8, 7, 6]
set_option maxRecDepth 100000
theorem deB_get : ∀ t, t < 64 → 2 ^ t * 285870213051353865 % 18446744073709551616 / 2 ^ 58 < 64 ∧ deB[2 ^ t * 285870213051353865 % 18446744073709551616 / 2 ^ 58]? = some t := by decide
end Go.Hw
namespace Go.Proofs.YtnnehiiblfmpnaaGreatDoor
open Go.Hw
set_option maxHeartbeats 4000000
structure Tz (W : World) : Prop where
 size : 7 < W.heap.size
 cell : ∀ (i v : Nat), deB[i]? = some v → W.cell? ⟨7, i, none⟩ = some (.int .u8 v)
section
variable {w0 w : World} {l : List HProp}
theorem mb_Len64 {x : Nat} (hx : x < 18446744073709551616) (h : St w0 l w) : Ret Tryz.prog 212 [.int .u64 x] w fun v w' => v = .int .i64 (len64 x) ∧ St w0 l w' := by
 have hl64 := len64_64 hx
 refine enter Tryz.func212 rfl Tryz.results212 Tryz.ntmps212 rfl ?_
 refine c_seq (c_region ?_)
 refine r_v (q_assignI rfl) rfl ?_
 refine r_nil ?_
 refine c_cut (Γ := Nat × Nat) (fun k => [(0, .int .u64 k.1), (2, .int .i64 k.2)]) (fun k w => k.1 < 4294967296 ∧ len64 k.1 + k.2 = len64 x ∧ St w0 l w) ?_ ?_
 ·refine c_seq (c_region ?_)
  refine r_v (q_moveI rfl) rfl ?_; refine r_v (q_geq rfl rfl) rfl ?_
  refine r_nil (c_cond (decide ((x : Int) ≥ 4294967296)) rfl (fun hc => ?_) (fun hc => ?_))
  ·have hge : 4294967296 ≤ x := by simp at hc; omega
   refine c_seq (c_region ?_)
   refine r_v (q_moveI rfl) rfl ?_
   refine r_v (q_is (v' := .int .u64 ((x / 2 ^ 32 : Nat) : Int)) (q_shr rfl rfl (by omega)) (congrArg (Value.int .u64) (fdiv_nat x 32 64 (by decide)))) rfl ?_
   refine r_v (q_assignI rfl) rfl ?_
   refine r_nil ?_
   refine c_region ?_
   refine r_v (q_assignI rfl) rfl ?_
   exact r_nil ⟨(x / 2 ^ 32, 32), ⟨rfl, rfl, trivial⟩, by dsimp only; omega, len64_shift hge, h⟩
  ·exact c_skip ⟨(x, 0), ⟨rfl, rfl, trivial⟩, by simp at hc; dsimp only; omega, rfl, h⟩
 clear h
 rintro ⟨x1, n1⟩ w e ⟨hx1, hl1, h⟩
 dsimp only at hx1 hl1 ⊢
 refine c_cut (Γ := Nat × Nat) (fun k => [(0, .int .u64 k.1), (2, .int .i64 k.2)]) (fun k w => k.1 < 65536 ∧ len64 k.1 + k.2 = len64 x ∧ St w0 l w) ?_ ?_
 ·refine c_seq (c_region ?_)
  refine r_v (q_moveI rfl) rfl ?_; refine r_v (q_geq rfl rfl) rfl ?_
  refine r_nil (c_cond (decide ((x1 : Int) ≥ 65536)) rfl (fun hc => ?_) (fun hc => ?_))
  ·have hge : 65536 ≤ x1 := by simp at hc; omega
   have hsh := len64_shift (k := 16) (x := x1) hge
   refine c_seq (c_region ?_)
   refine r_v (q_moveI rfl) rfl ?_
   refine r_v (q_is (v' := .int .u64 ((x1 / 2 ^ 16 : Nat) : Int)) (q_shr rfl rfl (by omega)) (congrArg (Value.int .u64) (fdiv_nat x1 16 64 (by decide)))) rfl ?_
   refine r_v (q_assignI rfl) rfl ?_
   refine r_nil ?_
   refine c_region ?_
   refine r_v (q_moveI rfl) rfl ?_; refine r_v (q_add rfl rfl) rfl ?_
   refine r_is (.int .i64 ((n1 + 16 : Nat) : Int)) (by rw [wrap64 (by omega) (by omega)]; rfl) ?_
   refine r_v (q_assignI rfl) rfl ?_
   exact r_nil ⟨(x1 / 2 ^ 16, n1 + 16), ⟨rfl, rfl, trivial⟩, by dsimp only; omega, by dsimp only; omega, h⟩
  ·exact c_skip ⟨(x1, n1), ⟨rfl, rfl, trivial⟩, by simp at hc; dsimp only; omega, hl1, h⟩
 clear h
 rintro ⟨x2, n2⟩ w e ⟨hx2, hl2, h⟩
 dsimp only at hx2 hl2 ⊢
 refine c_cut (Γ := Nat × Nat) (fun k => [(0, .int .u64 k.1), (2, .int .i64 k.2)]) (fun k w => k.1 < 256 ∧ len64 k.1 + k.2 = len64 x ∧ St w0 l w) ?_ ?_
 ·refine c_seq (c_region ?_)
  refine r_v (q_moveI rfl) rfl ?_; refine r_v (q_geq rfl rfl) rfl ?_
  refine r_nil (c_cond (decide ((x2 : Int) ≥ 256)) rfl (fun hc => ?_) (fun hc => ?_))
  ·have hge : 256 ≤ x2 := by simp at hc; omega
   have hsh := len64_shift (k := 8) (x := x2) hge
   refine c_seq (c_region ?_)
   refine r_v (q_moveI rfl) rfl ?_
   refine r_v (q_is (v' := .int .u64 ((x2 / 2 ^ 8 : Nat) : Int)) (q_shr rfl rfl (by omega)) (congrArg (Value.int .u64) (fdiv_nat x2 8 64 (by decide)))) rfl ?_
   refine r_v (q_assignI rfl) rfl ?_
   refine r_nil ?_
   refine c_region ?_
   refine r_v (q_moveI rfl) rfl ?_; refine r_v (q_add rfl rfl) rfl ?_
   refine r_is (.int .i64 ((n2 + 8 : Nat) : Int)) (by rw [wrap64 (by omega) (by omega)]; rfl) ?_
   refine r_v (q_assignI rfl) rfl ?_
   exact r_nil ⟨(x2 / 2 ^ 8, n2 + 8), ⟨rfl, rfl, trivial⟩, by dsimp only; omega, by dsimp only; omega, h⟩
  ·exact c_skip ⟨(x2, n2), ⟨rfl, rfl, trivial⟩, by simp at hc; dsimp only; omega, hl2, h⟩
 clear h
 rintro ⟨x3, n3⟩ w e ⟨hx3, hl3, h⟩
 dsimp only at hx3 hl3 ⊢
 have hl8 : len64 x3 ≤ 8 := len64_le.2 hx3
 refine c_seq (c_region ?_)
 refine r_v (q_moveI rfl) rfl ?_; refine r_v (q_moveI rfl) rfl ?_; refine r_v (q_conv rfl) rfl ?_
 refine r_is (.int .u8 (x3 : Int)) (by rw [wrap_u8, Nat.mod_eq_of_lt hx3]) ?_
 refine r_v (q_sidx (s := lenTab) (by kernel_rfl) rfl (lenTab_get hx3)) rfl ?_
 refine r_is (.int .u8 (len64 x3)) (by rw [UInt8.toNat_ofNat', Nat.mod_eq_of_lt (by omega)]) ?_
 refine r_v (q_conv rfl) rfl ?_
 refine r_is (.int .i64 (len64 x3)) (by rw [wrap64 (by omega) (by omega)]) ?_
 refine r_v (q_add rfl rfl) rfl ?_
 refine r_is (.int .i64 (len64 x)) (by rw [wrap64 (by omega) (by omega)]; congr 1; omega) ?_
 refine r_v (q_assignI rfl) rfl ?_
 refine r_nil ?_
 exact c_ret (bq1 ⟨rfl, h⟩)
theorem mb_Len {x : Nat} (hx : x < 18446744073709551616) (h : St w0 l w) : Ret Tryz.prog 254 [.int .u64 x] w fun v w' => v = .int .i64 (len64 x) ∧ St w0 l w' := by
 refine enter Tryz.func254 rfl Tryz.results254 Tryz.ntmps254 rfl ?_
 refine c_seq (c_region ?_)
 refine r_v (q_assignI rfl) rfl ?_
 refine r_nil ?_
 refine c_seq (c_false rfl (c_skip ?_))
 refine c_seq (c_region ?_)
 refine r_v (q_moveI rfl) rfl ?_
 refine r_c rfl (x_call rfl (mb_Len64 hx h) ?_)
 rintro _ w ⟨rfl, h⟩
 refine r_v (q_assignI rfl) rfl ?_
 refine r_nil ?_
 exact c_ret (bq1 ⟨rfl, h⟩)
theorem mb_LeadingZeros64 {x : Nat} (hx : x < 18446744073709551616) (h : St w0 l w) : Ret Tryz.prog 272 [.int .u64 x] w fun v w' => v = .int .i64 (64 - len64 x : Nat) ∧ St w0 l w' := by
 have hl64 := len64_64 hx
 refine enter Tryz.func272 rfl Tryz.results272 Tryz.ntmps272 rfl ?_
 refine c_seq (c_region ?_)
 refine r_v (q_assignI rfl) rfl ?_
 refine r_nil ?_
 refine c_seq (c_region ?_)
 refine r_v (q_moveI rfl) rfl ?_
 refine r_c rfl (x_call rfl (mb_Len64 hx h) ?_)
 rintro _ w ⟨rfl, h⟩
 refine r_v (q_sub rfl rfl) rfl ?_
 refine r_is (.int .i64 (64 - len64 x : Nat)) (by rw [wrap64 (by omega) (by omega)]; congr 1; omega) ?_
 refine r_v (q_assignI rfl) rfl ?_
 refine r_nil ?_
 exact c_ret (bq1 ⟨rfl, h⟩)
instance undDeB : Und Tryz.prog 355 (.array 64 5) := ⟨Tryz.underlying355⟩
theorem mb_TrailingZeros64 (hT : Tz w0) {x : Nat} (hx : x < 18446744073709551616) (h : St w0 l w) : Ret Tryz.prog 241 [.int .u64 x] w fun v w' => v = .int .i64 (tz x) ∧ St w0 l w' := by
 refine enter Tryz.func241 rfl Tryz.results241 Tryz.ntmps241 rfl ?_
 refine c_seq (c_region ?_)
 refine r_v (q_assignI rfl) rfl ?_
 refine r_nil ?_
 refine c_seq (c_seq (c_region ?_))
 refine r_v (q_moveI rfl) rfl ?_; refine r_v (q_eql rfl rfl) rfl ?_
 by_cases h0 : x = 0
 ·refine r_is (.bool true) (by subst h0; rfl) ?_
  refine r_nil (c_true rfl ?_)
  refine c_seq (c_region ?_)
  refine r_v (q_assignI rfl) rfl ?_
  refine r_nil ?_
  exact c_ret (bq1 ⟨by subst h0; rfl, h⟩)
 refine r_is (.bool false) (by congr 1; rw [beq_eq_false_iff_ne]; omega) ?_
 refine r_nil (c_false rfl (c_skip ?_))
 have ht : tz x < 64 := (tzA_odd 64 x h0 hx).2
 obtain ⟨hd1, hd2⟩ := deB_get (tz x) ht
 have hc := hT.cell _ _ hd2
 refine c_seq (c_region ?_)
 refine r_v (q_moveI rfl) rfl ?_; refine r_v (q_moveI rfl) rfl ?_; refine r_v (q_neg rfl) rfl ?_
 refine r_is (.int .u64 ((18446744073709551616 - x : Nat) : Int)) (by rw [wrap_us]; unfold us; congr 1; omega) ?_
 refine r_v (q_and rfl rfl) rfl ?_
 refine r_is (.int .u64 ((2 ^ tz x : Nat) : Int)) (by rw [(bit_u64 hx (by omega)).1, low_bit h0 hx]) ?_
 refine r_v (q_mul rfl rfl) rfl ?_
 refine r_is (.int .u64 ((2 ^ tz x * 285870213051353865 % 18446744073709551616 : Nat) : Int)) (by rw [← wrap_u64]; rfl) ?_
 refine r_v (q_is (v' := .int .u64 ((2 ^ tz x * 285870213051353865 % 18446744073709551616 / 2 ^ 58 : Nat) : Int)) (q_shr rfl rfl (by omega)) (congrArg (Value.int .u64) (fdiv_nat _ 58 64 (by decide)))) rfl ?_
 generalize 2 ^ tz x * 285870213051353865 % 18446744073709551616 / 2 ^ 58 = j at hd1 hd2 hc ⊢
 refine r_v (q_aidx (j := j) (o' := j) rfl rfl rfl hd1 (by simp)) rfl ?_
 refine r_v (q_loadc (v := .int .u8 (tz x)) rfl ((h.cell_old hT.size).trans hc)) rfl ?_
 refine r_v (q_conv rfl) rfl ?_
 refine r_is (.int .i64 (tz x)) (by rw [wrap64 (by omega) (by omega)]) ?_
 refine r_v (q_assignI rfl) rfl ?_
 refine r_nil ?_
 exact c_ret (bq1 ⟨rfl, h⟩)
end
end Go.Proofs.YtnnehiiblfmpnaaGreatDoor

namespace Go.Hw
theorem packW_snoc (b : Nat) : ∀ (l : List Nat) (x : Nat), packW b (l ++ [x]) = packW b l + 2 ^ (b * l.length) * x
 | [], x => by simp [packW]
 | y :: l, x => by
  have hp : 2 ^ (b * (l.length + 1)) = 2 ^ b * 2 ^ (b * l.length) := by rw [Nat.mul_add, Nat.mul_one, Nat.add_comm, Nat.pow_add]
  rw [List.cons_append, packW, packW, packW_snoc b l x, List.length_cons, hp, Nat.mul_add, Nat.mul_assoc, Nat.add_assoc]
theorem or_three {I p y s : Nat} (hp : p < 2 ^ s) (hy : p + y * 2 ^ s < 1152921504606846976) : (I * 1152921504606846976 + p) ||| (y * 2 ^ s) = I * 1152921504606846976 + (p + y * 2 ^ s) := by
 have h1 : I * 1152921504606846976 + p = 2 ^ 60 * I ||| p := by
  rw [← Nat.two_pow_add_eq_or_of_lt (i := 60) (by omega), Nat.mul_comm]
 have h2 : I * 1152921504606846976 + (p + y * 2 ^ s) = 2 ^ 60 * I ||| (p + y * 2 ^ s) := by
  rw [← Nat.two_pow_add_eq_or_of_lt (i := 60) hy, Nat.mul_comm]
 rw [h1, h2, ← or_shift hp, Nat.or_assoc]
end Go.Hw
namespace Go.Proofs.YtnnehiiblfmpnaaGreatDoor
open Go.Hw
set_option maxHeartbeats 4000000
set_option maxRecDepth 100000
def kindC (k : Nat × Nat) : List Value := [.int .i64 k.1, .int .i64 k.2]
theorem kindC_len (k : Nat × Nat) : (kindC k).length = 2 := rfl
section
variable {w0 w : World} {l : List HProp}
abbrev KindsPt (b : Nat) : HProp := pt b (.cells (kindsL.flatMap kindC).toArray 347 (0, 0))
theorem simp_kinds (h : St w0 l w) : Ret Tryz.prog 249 [] w fun v w' => ∃ b, v = .slice (some ⟨b, 0, none⟩) 16 16 ∧ St w0 (KindsPt b :: l) w' := by
 refine enter Tryz.func249 rfl Tryz.results249 Tryz.ntmps249 rfl ?_
 refine c_seq (c_region ?_)
 refine r_v (q_assignS rfl) rfl ?_
 refine r_nil ?_
 refine c_seq (c_region ?_)
 refine r_v (q_build rfl) rfl ?_; refine r_v (q_build rfl) rfl ?_; refine r_v (q_build rfl) rfl ?_; refine r_v (q_build rfl) rfl ?_; refine r_v (q_build rfl) rfl ?_; refine r_v (q_build rfl) rfl ?_; refine r_v (q_build rfl) rfl ?_; refine r_v (q_build rfl) rfl ?_; refine r_v (q_build rfl) rfl ?_; refine r_v (q_build rfl) rfl ?_; refine r_v (q_build rfl) rfl ?_; refine r_v (q_build rfl) rfl ?_; refine r_v (q_build rfl) rfl ?_; refine r_v (q_build rfl) rfl ?_; refine r_v (q_build rfl) rfl ?_; refine r_v (q_build rfl) rfl ?_
 refine r_c rfl (x_bslice (r := kindsL.flatMap kindC) h rfl rfl rfl fun b w h => ?_)
 refine r_v (q_assignS rfl) rfl ?_
 refine r_nil ?_
 exact c_ret (bq1 ⟨b, rfl, h⟩)
theorem all_take_succ {u : List Nat} {j x : Nat} (p : Nat → Bool) (h : u[j]? = some x) (ha : (u.take j).all p = true) (hx : p x = true) : (u.take (j + 1)).all p = true := by
 rw [List.take_add_one, h, List.all_append, ha]; simp [hx]
theorem simp_fits {k : Nat × Nat} {sl : Option Addr} {c : Nat} {u : List Nat} (hk : k.1 ≤ 1000) (hk2 : k.2 ≤ 1000) (hu : ∀ x ∈ u, x < 18446744073709551616) (hn : u.length ≤ 65535) (hc : u.length ≤ c) (hr : Reads w0 l 1 sl u.length (u64V u)) (h : St w0 l w) :
  Ret Tryz.prog 273 [.agg (kindC k).toArray, .slice sl u.length c] w fun v w' => v = .tuple [.int .i64 (((fitsK k u).getD 0 : Nat)), .bool (fitsK k u).isSome].toArray ∧ St w0 l w' := by
 obtain ⟨k1, k2⟩ := k
 dsimp only at hk hk2
 refine enter Tryz.func273 rfl Tryz.results273 Tryz.ntmps273 rfl ?_
 refine c_seq (c_region ?_)
 refine r_c rfl (x_box h (show _ = Value.agg (kindC (k1, k2)).toArray from rfl) fun b w h => ?_)
 replace h : St w0 (pt b (.cells (kindC (k1, k2)).toArray 347 (0, 0)) :: l) w := h
 refine r_v (q_assignI rfl) rfl ?_; refine r_v (q_assignB rfl) rfl ?_
 refine r_nil ?_
 refine c_cut (Γ := Unit) (fun _ => [(1, .slice sl u.length c), (2, .pointer (some ⟨b, 0, none⟩))]) (fun _ w => ¬ (k2 = 0 ∧ u.length < k1) ∧ St w0 (pt b (.cells (kindC (k1, k2)).toArray 347 (0, 0)) :: l) w) ?_ ?_
 ·refine c_seq (c_region ?_)
  refine r_v (q_fa rfl) rfl ?_; refine r_v (q_load rfl (h.b 0) rfl) rfl ?_; refine r_v (q_eql rfl rfl) rfl ?_
  by_cases h0 : k2 = 0
  ·refine r_is (.bool true) (by subst h0; rfl) ?_
   refine r_v (q_moveB rfl) rfl ?_; refine r_gd rfl rfl ?_; refine r_v (q_moveS rfl) rfl ?_; refine r_gd rfl rfl ?_; refine r_v (q_len rfl) rfl ?_; refine r_gd rfl rfl ?_; refine r_v (q_fa rfl) rfl ?_; refine r_gd rfl rfl ?_; refine r_v (q_load rfl (h.b 0) rfl) rfl ?_; refine r_gd rfl rfl ?_; refine r_v (q_lss rfl rfl) rfl ?_
   by_cases h1 : u.length < k1
   ·refine r_is (.bool true) (by simp; omega) ?_
    refine r_v (q_pick1 rfl rfl rfl) rfl ?_
    refine r_nil (c_true rfl ?_)
    refine c_seq (c_region ?_)
    refine r_v (q_assignI rfl) rfl ?_; refine r_v (q_assignB rfl) rfl ?_
    refine r_nil ?_
    have e1 : fitsK (k1, k2) u = none := by unfold fitsK; rw [if_pos ⟨h0, h1⟩]
    rw [e1]
    exact c_ret (bq2 ⟨rfl, h.drop⟩)
   ·refine r_is (.bool false) (by simp; omega) ?_
    refine r_v (q_pick1 rfl rfl rfl) rfl ?_
    exact r_nil (c_false rfl (c_skip ⟨(), ⟨rfl, rfl, trivial⟩, fun hh => h1 hh.2, h⟩))
  ·refine r_is (.bool false) (by congr 1; rw [beq_eq_false_iff_ne]; omega) ?_
   refine r_v (q_moveB rfl) rfl ?_; refine r_gn rfl rfl rfl ?_; refine r_gn rfl rfl rfl ?_; refine r_gn rfl rfl rfl ?_; refine r_gn rfl rfl rfl ?_; refine r_gn rfl rfl rfl ?_; refine r_v (q_pick0 rfl rfl rfl) rfl ?_
   exact r_nil (c_false rfl (c_skip ⟨(), ⟨rfl, rfl, trivial⟩, fun hh => h0 hh.1, h⟩))
 clear h
 rintro ⟨⟩ w e ⟨hno, h⟩
 refine c_seq (c_region ?_)
 refine r_v (q_moveS rfl) rfl ?_; refine r_v (q_len rfl) rfl ?_; refine r_v (q_fa rfl) rfl ?_; refine r_v (q_load rfl (h.b 0) rfl) rfl ?_; refine r_v (q_min rfl rfl) rfl ?_
 refine r_is (.int .i64 ((min u.length k1 : Nat) : Int)) (by congr 1; omega) ?_
 refine r_v (q_assignI rfl) rfl ?_
 refine r_nil ?_
 refine c_seq (c_seq (c_region ?_))
 refine r_v (q_moveS rfl) rfl ?_; refine r_v (q_moveI rfl) rfl ?_
 refine r_v (q_head (h := min u.length k1) rfl rfl (by omega)) rfl ?_
 refine r_v (q_len rfl) rfl ?_; refine r_v (q_moveI rfl) rfl ?_
 refine r_nil ?_
 refine c_block ?_
 refine c_loop (Γ := Nat) (fun j => [(2, .pointer (some ⟨b, 0, none⟩)), (6, .int .i64 ((min u.length k1 : Nat) : Int)), (26, .slice sl (min u.length k1) c), (27, .int .i64 ((min u.length k1 : Nat) : Int)), (28, .int .i64 j)])
  (fun j w => j ≤ min u.length k1 ∧ (u.take j).all (fun x => decide (len64 x ≤ k2)) = true ∧ St w0 (pt b (.cells (kindC (k1, k2)).toArray 347 (0, 0)) :: l) w) (fun j => min u.length k1 - j) 0 ⟨rfl, rfl, rfl, rfl, rfl, trivial⟩ ⟨Nat.zero_le _, by simp, h⟩ ?_
 clear h
 rintro j w e ⟨hj, hall, h⟩
 refine c_seq (c_region ?_)
 refine r_v (q_lss rfl rfl) rfl ?_
 refine r_nil ?_
 refine c_seq (c_cond (decide ((j : Int) < ((min u.length k1 : Nat) : Int))) rfl (fun hc => ?_) (fun hc => ?_))
 ·
  have hlt : j < min u.length k1 := by simp at hc; omega
  have hg := List.getElem?_eq_getElem (show j < u.length by omega)
  generalize u[j]'(by omega) = x at hg
  have hx := hu x (List.mem_of_getElem? hg)
  obtain ⟨bs, o, hsl⟩ := (hr.at_ h.drop).some (by omega)
  refine c_skip ?_
  refine c_seq (c_block ?_)
  refine c_seq (c_region ?_)
  refine r_v (q_idx (b := bs) (o := o) (m := min u.length k1) (c := c) (o' := o + j) (by rw [← hsl]; rfl) rfl rfl hlt (by simp)) rfl ?_
  refine r_v (q_loadc (v := .int .u64 x) rfl ((hsl ▸ hr.at_ h.drop).cell (u64V_get hg))) rfl ?_
  refine r_v (q_assignI rfl) rfl ?_
  refine r_nil ?_
  refine c_seq (c_any none (fun w => St w0 _ w) (by kernel_rfl) (by kernel_rfl) h.drew fun w h => ?_)
  refine cur_pure rfl rfl rfl rfl (fun _ => h) (fun _ => flt_v rfl (q_moveI rfl)) ?_; refine cur_skip ?_; refine cur_pure rfl rfl rfl rfl (fun _ => h) (fun _ => flt_v rfl (q_fa rfl)) ?_
  refine cur_float rfl rfl rfl rfl h (fun _ h => flt_v rfl (q_load (v := .int .i64 k2) rfl (h.b 0 rfl) rfl)) ?_
  refine cur_skip ?_
  refine cur_one 1 rfl rfl rfl rfl ?_
  refine (x_call rfl (mb_Len64 hx h) ?_)
  rintro _ w ⟨rfl, h⟩
  refine ⟨fun _ => h, ?_⟩
  refine cur_pure rfl rfl rfl rfl (fun _ => h) (fun _ => flt_v rfl (q_gtr rfl rfl)) ?_
  refine cur_end ?_
  refine c_cond (decide ((len64 x : Int) > (k2 : Int))) rfl (fun hc => ?_) (fun hc => ?_)
  ·
   have hgt : ¬ len64 x ≤ k2 := by rw [decide_eq_true_eq] at hc; omega
   refine c_seq (c_region ?_)
   refine r_v (q_assignI rfl) rfl ?_; refine r_v (q_assignB rfl) rfl ?_
   refine r_nil ?_
   have e1 : fitsK (k1, k2) u = none := by
    unfold fitsK
    rw [if_neg hno, if_neg]
    intro hh
    have := List.all_eq_true.1 hh x (by
     have : (u.take k1)[j]? = some x := by rw [List.getElem?_take, if_pos (by omega), hg]
     exact List.mem_of_getElem? this)
    exact hgt (by simpa using this)
   rw [e1]
   exact c_ret (bq2 ⟨rfl, h.drop⟩)
  ·have hle : len64 x ≤ k2 := by rw [decide_eq_false_iff_not] at hc; omega
   refine c_skip ?_
   refine c_region ?_
   refine r_v (q_add rfl rfl) rfl ?_
   refine r_is (.int .i64 ((j + 1 : Nat) : Int)) (by rw [wrap64 (by omega) (by omega)]; rfl) ?_
   refine r_v (q_moveI rfl) rfl ?_
   exact r_nil ⟨j + 1, ⟨rfl, rfl, rfl, rfl, rfl, trivial⟩, ⟨hlt, all_take_succ _ hg hall (by simpa using hle), h⟩, by omega⟩
 have hjn : j = min u.length k1 := by simp at hc; omega
 refine c_exit ?_
 refine c_seq (c_region ?_)
 refine r_v (q_moveI rfl) rfl ?_; refine r_v (q_assignI rfl) rfl ?_; refine r_v (q_assignB rfl) rfl ?_
 refine r_nil ?_
 have e1 : fitsK (k1, k2) u = some (min u.length k1) := by
  unfold fitsK
  rw [if_neg hno, if_pos]
  dsimp only
  rcases Nat.le_total u.length k1 with h1 | h1
  ·rw [List.take_of_length_le h1]
   rw [hjn, Nat.min_eq_left h1, List.take_length] at hall; exact hall
  ·rw [hjn, Nat.min_eq_right h1] at hall; exact hall
 rw [e1]
 exact c_ret (bq2 ⟨rfl, h.drop⟩)

theorem simp_word {b : Nat} {sl : Option Addr} {c : Nat} {u : List Nat} (hu : ∀ x ∈ u, x < 18446744073709551616) (hn : u.length ≤ 65535) (hc_ : u.length ≤ c) (hr : Reads w0 (KindsPt b :: l) 1 sl u.length (u64V u)) (h : St w0 (KindsPt b :: l) w) :
  Ret Tryz.prog 266 [.slice (some ⟨b, 0, none⟩) 16 16, .slice sl u.length c] w fun v w' => v = .tuple [.int .u64 (((wordA 0 kindsL u).getD (0, 0)).1 : Nat), .int .i64 (((wordA 0 kindsL u).getD (0, 0)).2 : Nat)].toArray ∧ St w0 (KindsPt b :: l) w' := by
 refine enter Tryz.func266 rfl Tryz.results266 Tryz.ntmps266 rfl ?_
 refine c_seq (c_region ?_)
 refine r_v (q_assignI rfl) rfl ?_; refine r_v (q_assignI rfl) rfl ?_
 refine r_nil ?_
 refine c_seq (c_seq (c_region ?_))
 refine r_v (q_moveS rfl) rfl ?_; refine r_v (q_len rfl) rfl ?_; refine r_v (q_moveI rfl) rfl ?_
 refine r_nil ?_
 refine c_block ?_
 refine c_loop (Γ := Nat) (fun i => [(1, .slice sl u.length c), (13, .slice (some ⟨b, 0, none⟩) 16 16), (14, .int .i64 16), (15, .int .i64 i)]) (fun i w => i ≤ 16 ∧ wordA i (kindsL.drop i) u = wordA 0 kindsL u ∧ St w0 (KindsPt b :: l) w) (fun i => 16 - i) 0 ⟨rfl, rfl, rfl, rfl, trivial⟩ ⟨Nat.zero_le _, rfl, h⟩ ?_
 clear h
 rintro i w e ⟨hi, hw, h⟩
 refine c_seq (c_region ?_)
 refine r_v (q_lss rfl rfl) rfl ?_
 refine r_nil ?_
 refine c_seq (c_cond (decide ((i : Int) < 16)) rfl (fun hc => ?_) (fun hc => ?_))
 ·
  have hlt : i < 16 := by simp at hc; omega
  have hg := List.getElem?_eq_getElem (show i < kindsL.length from hlt)
  have hdr := List.drop_eq_getElem_cons (show i < kindsL.length from hlt)
  generalize kindsL[i]'hlt = k at hg hdr
  obtain ⟨_, k1, k2, k3⟩ := kindsL_ok i k hg
  have hk2 : k.2 ≤ 60 := Nat.le_trans (Nat.le_mul_of_pos_right _ k1) k3
  refine c_skip ?_
  refine c_seq (c_block ?_)
  refine c_seq (c_region ?_)
  refine r_v (q_moveI rfl) rfl ?_
  refine r_v (q_idx (o' := i * 2) rfl rfl rfl hlt (by simp)) rfl ?_
  refine r_v (q_loadS (l := kindC k) rfl rfl (fun j v hj => cell_of (h.b 0 rfl) (flat_get kindC_len kindsL i k hg j v hj))) rfl ?_
  refine r_c rfl (x_alloc h fun b7 w h => ?_)
  refine r_v (q_assignI rfl) rfl ?_
  refine r_c rfl (x_storeA (vs := kindC k) 0 h rfl rfl rfl rfl rfl rfl rfl fun w h => ?_)
  replace h : St w0 (pt b7 (.cells (kindC k).toArray 347 (0, 0)) :: KindsPt b :: l) w := h
  refine r_nil ?_
  refine c_seq (c_region ?_)
  refine r_v (q_loadS (l := kindC k) rfl rfl (at_of (h.b 0 rfl) rfl)) rfl ?_
  refine r_v (q_moveS rfl) rfl ?_
  refine r_c rfl (x_call rfl (simp_fits (k := k) (by omega) (by omega) hu hn hc_ hr.cons h) ?_)
  rintro _ w ⟨rfl, h⟩
  refine r_v (q_moveT rfl) rfl ?_; refine r_v (q_ext rfl rfl) rfl ?_; refine r_v (q_ext rfl rfl) rfl ?_; refine r_v (q_assignI rfl) rfl ?_; refine r_v (q_assignB rfl) rfl ?_
  refine r_nil ?_
  rw [hdr, wordA] at hw
  refine c_seq (c_seq (c_region ?_))
  refine r_v (q_moveB rfl) rfl ?_; refine r_v (q_not rfl) rfl ?_
  refine r_nil ?_
  cases hf : fitsK k u with
  | none =>
   rw [hf] at hw
   refine c_true rfl ?_
   refine c_exit ?_
   refine c_region ?_
   refine r_v (q_add rfl rfl) rfl ?_
   refine r_is (.int .i64 ((i + 1 : Nat) : Int)) (by rw [wrap64 (by omega) (by omega)]; rfl) ?_
   refine r_v (q_moveI rfl) rfl ?_
   exact r_nil ⟨i + 1, ⟨rfl, rfl, rfl, rfl, trivial⟩, ⟨hlt, hw, h.drop⟩, by omega⟩
  | some m =>
   rw [hf] at hw
   obtain ⟨f1, f2, f3⟩ := fitsK_some hf
   refine c_false rfl (c_skip ?_)
   refine c_seq (c_region ?_)
   refine r_v (q_moveI rfl) rfl ?_; refine r_v (q_conv rfl) rfl ?_
   refine r_is (.int .u64 (i : Int)) (by rw [wrap_u64, Nat.mod_eq_of_lt (by omega)]) ?_
   refine r_v (q_is (v' := .int .u64 ((i * 1152921504606846976 + packW k.2 (u.take 0) : Nat) : Int)) (q_shl rfl rfl (by omega)) (by rw [show IntKind.u64.wrap ((i : Int) * 2 ^ (min (60 : Int).toNat IntKind.u64.bits)) = ((i * 2 ^ 60 % 18446744073709551616 : Nat) : Int) from shl_u64 i 60 (by decide), Nat.mod_eq_of_lt (by omega)]; simp [packW])) rfl ?_
   refine r_v (q_assignI rfl) rfl ?_
   refine r_nil ?_
   refine c_seq (c_seq (c_region ?_))
   refine r_v (q_moveS rfl) rfl ?_; refine r_v (q_moveI rfl) rfl ?_
   refine r_v (q_head (h := m) rfl rfl (by omega)) rfl ?_
   refine r_v (q_len rfl) rfl ?_; refine r_v (q_moveI rfl) rfl ?_
   refine r_nil ?_
   refine c_block ?_
   refine c_loop (Γ := Nat) (fun j => [(7, .pointer (some ⟨b7, 0, none⟩)), (8, .int .i64 m), (10, .int .u64 ((i * 1152921504606846976 + packW k.2 (u.take j) : Nat) : Int)), (33, .slice sl m c), (34, .int .i64 m), (35, .int .i64 j)])
    (fun j w => j ≤ m ∧ St w0 (pt b7 (.cells (kindC k).toArray 347 (0, 0)) :: KindsPt b :: l) w) (fun j => m - j) 0 ⟨rfl, rfl, rfl, rfl, rfl, rfl, trivial⟩ ⟨Nat.zero_le _, h⟩ ?_
   clear h
   rintro j w e ⟨hj, h⟩
   refine c_seq (c_region ?_)
   refine r_v (q_lss rfl rfl) rfl ?_
   refine r_nil ?_
   refine c_seq (c_cond (decide ((j : Int) < (m : Int))) rfl (fun hc => ?_) (fun hc => ?_))
   ·
    have hjm : j < m := by simp at hc; omega
    have hgu := List.getElem?_eq_getElem (show j < u.length by omega)
    generalize u[j]'(by omega) = x at hgu
    have hxb : x < 2 ^ k.2 := f2 x (by
     have : (u.take m)[j]? = some x := by rw [List.getElem?_take, if_pos hjm, hgu]
     exact List.mem_of_getElem? this)
    have hsum : packW k.2 (u.take (j + 1)) = packW k.2 (u.take j) + 2 ^ (k.2 * j) * x := by
     rw [List.take_add_one, hgu]
     show packW k.2 (u.take j ++ [x]) = _
     rw [packW_snoc, List.length_take, Nat.min_eq_left (by omega)]
    have hjk : j * k.2 ≤ 60 := by
     have : j * k.2 ≤ k.1 * k.2 := Nat.mul_le_mul_right _ (by omega)
     rw [Nat.mul_comm k.1] at this; omega
    have hlt60 : packW k.2 (u.take (j + 1)) < 1152921504606846976 := by
     refine Nat.lt_of_lt_of_le (packW_lt (fun y hy => f2 y (by
      have hp : u.take (j + 1) = (u.take m).take (j + 1) := by rw [List.take_take, Nat.min_eq_left (by omega)]
      rw [hp] at hy; exact List.mem_of_mem_take hy))) ?_
     have : k.2 * (u.take (j + 1)).length ≤ 60 := by
      rw [List.length_take]
      exact Nat.le_trans (Nat.mul_le_mul_left _ (by omega)) k3
     exact Nat.pow_le_pow_right (by decide) this
    have hpl : packW k.2 (u.take j) < 2 ^ (j * k.2) := by
     have := packW_lt (b := k.2) (l := u.take j) (fun y hy => f2 y (by
      have hp : u.take j = (u.take m).take j := by rw [List.take_take, Nat.min_eq_left (by omega)]
      rw [hp] at hy; exact List.mem_of_mem_take hy))
     rwa [List.length_take, Nat.min_eq_left (by omega), Nat.mul_comm] at this
    rw [Nat.mul_comm k.2 j, Nat.mul_comm (2 ^ (j * k.2)) x] at hsum
    obtain ⟨bs, o, hsl⟩ := (hr.cons.at_ h).some (by omega)
    refine c_skip ?_
    refine c_seq (c_block ?_)
    refine c_seq (c_region ?_)
    refine r_v (q_moveI rfl) rfl ?_
    refine r_v (q_idx (b := bs) (o := o) (m := m) (c := c) (o' := o + j) (by rw [← hsl]; rfl) rfl rfl hjm (by simp)) rfl ?_
    refine r_v (q_loadc (v := .int .u64 x) rfl ((hsl ▸ hr.cons.at_ h).cell (u64V_get hgu))) rfl ?_
    refine r_v (q_assignI rfl) rfl ?_; refine r_v (q_assignI rfl) rfl ?_
    refine r_nil ?_
    refine c_region ?_
    refine r_v (q_moveI rfl) rfl ?_; refine r_v (q_moveI rfl) rfl ?_; refine r_v (q_moveI rfl) rfl ?_; refine r_v (q_fa rfl) rfl ?_
    refine r_v (q_load (v := .int .i64 k.2) rfl (h.b 0 rfl) rfl) rfl ?_
    refine r_v (q_mul rfl rfl) rfl ?_
    refine r_is (.int .i64 ((j * k.2 : Nat) : Int)) (by rw [← Int.natCast_mul, wrap64 (by omega) (by omega)]) ?_
    refine r_v (q_is (v' := .int .u64 ((x * 2 ^ (j * k.2) : Nat) : Int)) (q_shl rfl rfl (by omega)) (by rw [shl_u64 _ _ (by omega), Nat.mod_eq_of_lt (by omega)])) rfl ?_
    refine r_v (q_or rfl rfl) rfl ?_
    refine r_is (.int .u64 ((i * 1152921504606846976 + packW k.2 (u.take (j + 1)) : Nat) : Int)) (by
     rw [(bit_u64 (by omega) (by omega)).2.1, hsum, or_three hpl (by omega)]) ?_
    refine r_v (q_assignI rfl) rfl ?_
    refine r_nil ?_
    refine c_region ?_
    refine r_v (q_add rfl rfl) rfl ?_
    refine r_is (.int .i64 ((j + 1 : Nat) : Int)) (by rw [wrap64 (by omega) (by omega)]; rfl) ?_
    refine r_v (q_moveI rfl) rfl ?_
    exact r_nil ⟨j + 1, ⟨rfl, rfl, rfl, rfl, rfl, rfl, trivial⟩, ⟨hjm, h⟩, by omega⟩
   obtain rfl : j = m := by simp at hc; omega
   refine c_exit ?_
   refine c_seq (c_region ?_)
   refine r_v (q_moveI rfl) rfl ?_; refine r_v (q_moveI rfl) rfl ?_; refine r_v (q_assignI rfl) rfl ?_; refine r_v (q_assignI rfl) rfl ?_
   refine r_nil ?_
   rw [← hw]
   exact c_ret (bq2 ⟨rfl, h.drop⟩)
 have hin : i = 16 := by simp at hc; omega
 rw [hin] at hw
 refine c_exit ?_
 refine c_seq (c_region ?_)
 refine r_v (q_assignI rfl) rfl ?_; refine r_v (q_assignI rfl) rfl ?_
 refine r_nil ?_
 rw [← hw]
 exact c_ret (bq2 ⟨rfl, h⟩)
end
end Go.Proofs.YtnnehiiblfmpnaaGreatDoor
