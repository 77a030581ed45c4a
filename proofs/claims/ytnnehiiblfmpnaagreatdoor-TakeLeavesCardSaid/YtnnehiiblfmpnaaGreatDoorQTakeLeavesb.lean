/- What the proof of TakeLeaves needs, part 2: plain lemmas, and what each function does. -/
import Derived.Test.YtnnehiiblfmpnaaGreatDoorQTakeLeavesa
import Derived.Test.YtnnehiiblfmpnaaGreatDoorProg
import Derived.KernelRfl
import Derived.Laws.StructEq
import Derived.Deep.Slices
import Derived.Laws.Strings
set_option linter.unusedVariables false
set_option linter.unusedSimpArgs false
set_option linter.unnecessarySimpa false
set_option maxRecDepth 100000
namespace Go.Proofs.YtnnehiiblfmpnaaGreatDoor
open Go.Hw
instance {P : Program} {kt : TypeId} {ik : IntKind} [h : Und P kt (.int ik)] : MK P kt Int (Value.int ik) := MK.int h.h
instance : Und Tryz.prog 2 (.int .i64) := ⟨Tryz.underlying2⟩
instance inf2 : Inf Tryz.prog 2 [Value.int .i64 0] false 8 := ⟨by kernel_rfl, (fun _ => rfl), ⟨_, Tryz.underlying2, rfl⟩, by simp [Value.oneCell']⟩
instance : Und Tryz.prog 3 (.int .i64) := ⟨Tryz.underlying3⟩
instance inf3 : Inf Tryz.prog 3 [Value.int .i64 0] false 8 := ⟨by kernel_rfl, (fun _ => rfl), ⟨_, Tryz.underlying3, rfl⟩, by simp [Value.oneCell']⟩
instance : Und Tryz.prog 4 (.bool) := ⟨Tryz.underlying4⟩
instance inf4 : Inf Tryz.prog 4 [Value.bool false] false 1 := ⟨by kernel_rfl, (fun _ => rfl), ⟨_, Tryz.underlying4, rfl⟩, by simp [Value.oneCell']⟩
instance : Und Tryz.prog 5 (.int .u8) := ⟨Tryz.underlying5⟩
instance inf5 : Inf Tryz.prog 5 [Value.int .u8 0] false 1 := ⟨by kernel_rfl, (fun _ => rfl), ⟨_, Tryz.underlying5, rfl⟩, by simp [Value.oneCell']⟩
instance : Und Tryz.prog 9 (.string) := ⟨Tryz.underlying9⟩
instance inf9 : Inf Tryz.prog 9 [Value.string ByteArray.empty] false 16 := ⟨by kernel_rfl, (fun _ => rfl), ⟨_, Tryz.underlying9, rfl⟩, by simp [Value.oneCell']⟩
instance : Und Tryz.prog 12 (.int .u64) := ⟨Tryz.underlying12⟩
instance inf12 : Inf Tryz.prog 12 [Value.int .u64 0] false 8 := ⟨by kernel_rfl, (fun _ => rfl), ⟨_, Tryz.underlying12, rfl⟩, by simp [Value.oneCell']⟩
instance inf13 : Inf Tryz.prog 13 [Value.string ByteArray.empty, Value.int .u64 0] true 24 := ⟨by kernel_rfl, (fun h => by cases h), ⟨_, Tryz.underlying13, rfl⟩, by simp [Value.oneCell']⟩
instance : Und Tryz.prog 21 (.int .i32) := ⟨Tryz.underlying21⟩
instance inf21 : Inf Tryz.prog 21 [Value.int .i32 0] false 4 := ⟨by kernel_rfl, (fun _ => rfl), ⟨_, Tryz.underlying21, rfl⟩, by simp [Value.oneCell']⟩
instance : Und Tryz.prog 22 (.int .i64) := ⟨Tryz.underlying22⟩
instance inf22 : Inf Tryz.prog 22 [Value.int .i64 0] false 8 := ⟨by kernel_rfl, (fun _ => rfl), ⟨_, Tryz.underlying22, rfl⟩, by simp [Value.oneCell']⟩
instance : Und Tryz.prog 23 (.slice 58) := ⟨Tryz.underlying23⟩
instance inf23 : Inf Tryz.prog 23 [Value.slice none 0 0] false 24 := ⟨by kernel_rfl, (fun _ => rfl), ⟨_, Tryz.underlying23, rfl⟩, by simp [Value.oneCell']⟩
instance inf24 : Inf Tryz.prog 24 [Value.int .i64 0, Value.int .i64 0, Value.slice none 0 0] true 40 := ⟨by kernel_rfl, (fun h => by cases h), ⟨_, Tryz.underlying24, rfl⟩, by simp [Value.oneCell']⟩
instance inf25 : Inf Tryz.prog 25 [Value.int .i64 0, Value.int .i64 0, Value.slice none 0 0] true 40 := ⟨by kernel_rfl, (fun h => by cases h), ⟨_, Tryz.underlying25, rfl⟩, by simp [Value.oneCell']⟩
instance : Und Tryz.prog 30 (.int .u64) := ⟨Tryz.underlying30⟩
instance inf30 : Inf Tryz.prog 30 [Value.int .u64 0] false 8 := ⟨by kernel_rfl, (fun _ => rfl), ⟨_, Tryz.underlying30, rfl⟩, by simp [Value.oneCell']⟩
instance inf31 : Inf Tryz.prog 31 [Value.int .i64 0, Value.int .i64 0, Value.int .i64 0, Value.int .i64 0, Value.int .u64 0, Value.int .i64 0, Value.int .i64 0, Value.int .i64 0] true 64 := ⟨by kernel_rfl, (fun h => by cases h), ⟨_, Tryz.underlying31, rfl⟩, by simp [Value.oneCell']⟩
instance inf32 : Inf Tryz.prog 32 [Value.int .i64 0, Value.int .i64 0, Value.int .i64 0, Value.int .i64 0, Value.int .u64 0, Value.int .i64 0, Value.int .i64 0, Value.int .i64 0] true 64 := ⟨by kernel_rfl, (fun h => by cases h), ⟨_, Tryz.underlying32, rfl⟩, by simp [Value.oneCell']⟩
instance : Und Tryz.prog 38 (.slice 5) := ⟨Tryz.underlying38⟩
instance inf38 : Inf Tryz.prog 38 [Value.slice none 0 0] false 24 := ⟨by kernel_rfl, (fun _ => rfl), ⟨_, Tryz.underlying38, rfl⟩, by simp [Value.oneCell']⟩
instance : Und Tryz.prog 40 (.slice 32) := ⟨Tryz.underlying40⟩
instance inf40 : Inf Tryz.prog 40 [Value.slice none 0 0] false 24 := ⟨by kernel_rfl, (fun _ => rfl), ⟨_, Tryz.underlying40, rfl⟩, by simp [Value.oneCell']⟩
instance : Und Tryz.prog 41 (.slice 38) := ⟨Tryz.underlying41⟩
instance inf41 : Inf Tryz.prog 41 [Value.slice none 0 0] false 24 := ⟨by kernel_rfl, (fun _ => rfl), ⟨_, Tryz.underlying41, rfl⟩, by simp [Value.oneCell']⟩
instance inf43 : Inf Tryz.prog 43 [Value.string ByteArray.empty, Value.bool false] true 24 := ⟨by kernel_rfl, (fun h => by cases h), ⟨_, Tryz.underlying43, rfl⟩, by simp [Value.oneCell']⟩
instance : Und Tryz.prog 46 (.slice 3) := ⟨Tryz.underlying46⟩
instance inf46 : Inf Tryz.prog 46 [Value.slice none 0 0] false 24 := ⟨by kernel_rfl, (fun _ => rfl), ⟨_, Tryz.underlying46, rfl⟩, by simp [Value.oneCell']⟩
instance : Und Tryz.prog 47 (.slice 30) := ⟨Tryz.underlying47⟩
instance inf47 : Inf Tryz.prog 47 [Value.slice none 0 0] false 24 := ⟨by kernel_rfl, (fun _ => rfl), ⟨_, Tryz.underlying47, rfl⟩, by simp [Value.oneCell']⟩
instance : Und Tryz.prog 51 (.pointer 115) := ⟨Tryz.underlying51⟩
instance inf51 : Inf Tryz.prog 51 [Value.pointer none] false 8 := ⟨by kernel_rfl, (fun _ => rfl), ⟨_, Tryz.underlying51, rfl⟩, by simp [Value.oneCell']⟩
instance : Und Tryz.prog 53 (.pointer 122) := ⟨Tryz.underlying53⟩
instance inf53 : Inf Tryz.prog 53 [Value.pointer none] false 8 := ⟨by kernel_rfl, (fun _ => rfl), ⟨_, Tryz.underlying53, rfl⟩, by simp [Value.oneCell']⟩
instance inf58 : Inf Tryz.prog 58 [Value.int .i64 0, Value.int .u64 0] true 16 := ⟨by kernel_rfl, (fun h => by cases h), ⟨_, Tryz.underlying58, rfl⟩, by simp [Value.oneCell']⟩
instance inf60 : Inf Tryz.prog 60 [Value.int .i64 0, Value.int .i64 0, Value.int .i64 0, Value.int .i64 0, Value.int .i64 0] true 40 := ⟨by kernel_rfl, (fun h => by cases h), ⟨_, Tryz.underlying60, rfl⟩, by simp [Value.oneCell']⟩
instance : Und Tryz.prog 62 (.slice 61) := ⟨Tryz.underlying62⟩
instance inf62 : Inf Tryz.prog 62 [Value.slice none 0 0] false 24 := ⟨by kernel_rfl, (fun _ => rfl), ⟨_, Tryz.underlying62, rfl⟩, by simp [Value.oneCell']⟩
instance : Und Tryz.prog 63 (.pointer 129) := ⟨Tryz.underlying63⟩
instance inf63 : Inf Tryz.prog 63 [Value.pointer none] false 8 := ⟨by kernel_rfl, (fun _ => rfl), ⟨_, Tryz.underlying63, rfl⟩, by simp [Value.oneCell']⟩
instance : Und Tryz.prog 70 (.int .u64) := ⟨Tryz.underlying70⟩
instance inf70 : Inf Tryz.prog 70 [Value.int .u64 0] false 8 := ⟨by kernel_rfl, (fun _ => rfl), ⟨_, Tryz.underlying70, rfl⟩, by simp [Value.oneCell']⟩
instance inf72 : Inf Tryz.prog 72 [Value.int .i64 0, Value.int .i64 0, Value.int .i64 0] true 24 := ⟨by kernel_rfl, (fun h => by cases h), ⟨_, Tryz.underlying72, rfl⟩, by simp [Value.oneCell']⟩
instance inf89 : Inf Tryz.prog 89 [Value.pointer none] false 8 := ⟨by kernel_rfl, (fun _ => rfl), ⟨_, Tryz.underlying89, rfl⟩, by simp [Value.oneCell']⟩
instance inf90 : Inf Tryz.prog 90 [Value.pointer none, Value.slice none 0 0] true 32 := ⟨by kernel_rfl, (fun h => by cases h), ⟨_, Tryz.underlying90, rfl⟩, by simp [Value.oneCell']⟩
instance inf93 : Inf Tryz.prog 93 [Value.nilIface] false 16 := ⟨by kernel_rfl, (fun _ => rfl), ⟨_, Tryz.underlying93, rfl⟩, by simp [Value.oneCell']⟩
instance : Und Tryz.prog 99 (.pointer 103) := ⟨Tryz.underlying99⟩
instance inf99 : Inf Tryz.prog 99 [Value.pointer none] false 8 := ⟨by kernel_rfl, (fun _ => rfl), ⟨_, Tryz.underlying99, rfl⟩, by simp [Value.oneCell']⟩
instance inf100 : Inf Tryz.prog 100 [Value.slice none 0 0] false 24 := ⟨by kernel_rfl, (fun _ => rfl), ⟨_, Tryz.underlying100, rfl⟩, by simp [Value.oneCell']⟩
instance inf103 : Inf Tryz.prog 103 [Value.slice none 0 0] true 24 := ⟨by kernel_rfl, (fun h => by cases h), ⟨_, Tryz.underlying103, rfl⟩, by simp [Value.oneCell']⟩
instance : Und Tryz.prog 106 (.slice 2) := ⟨Tryz.underlying106⟩
instance inf106 : Inf Tryz.prog 106 [Value.slice none 0 0] false 24 := ⟨by kernel_rfl, (fun _ => rfl), ⟨_, Tryz.underlying106, rfl⟩, by simp [Value.oneCell']⟩
instance : Und Tryz.prog 111 (.int .u32) := ⟨Tryz.underlying111⟩
instance inf111 : Inf Tryz.prog 111 [Value.int .u32 0] false 4 := ⟨by kernel_rfl, (fun _ => rfl), ⟨_, Tryz.underlying111, rfl⟩, by simp [Value.oneCell']⟩
instance : Und Tryz.prog 113 (.map 3 123) := ⟨Tryz.underlying113⟩
instance inf113 : Inf Tryz.prog 113 [Value.map none] false 8 := ⟨by kernel_rfl, (fun _ => rfl), ⟨_, Tryz.underlying113, rfl⟩, by simp [Value.oneCell']⟩
instance inf114 : Inf Tryz.prog 114 [Value.int .i64 0, Value.int .i64 0, Value.int .i64 0, Value.int .i64 0, Value.map none] true 40 := ⟨by kernel_rfl, (fun h => by cases h), ⟨_, Tryz.underlying114, rfl⟩, by simp [Value.oneCell']⟩
instance inf115 : Inf Tryz.prog 115 [Value.int .i64 0, Value.int .i64 0, Value.int .i64 0, Value.int .i64 0, Value.map none] true 40 := ⟨by kernel_rfl, (fun h => by cases h), ⟨_, Tryz.underlying115, rfl⟩, by simp [Value.oneCell']⟩
instance : Und Tryz.prog 116 (.slice 137) := ⟨Tryz.underlying116⟩
instance inf116 : Inf Tryz.prog 116 [Value.slice none 0 0] false 24 := ⟨by kernel_rfl, (fun _ => rfl), ⟨_, Tryz.underlying116, rfl⟩, by simp [Value.oneCell']⟩
instance inf117 : Inf Tryz.prog 117 [Value.int .i64 0, Value.int .i64 0, Value.slice none 0 0, Value.int .i64 0, Value.int .i64 0, Value.int .i64 0] true 64 := ⟨by kernel_rfl, (fun h => by cases h), ⟨_, Tryz.underlying117, rfl⟩, by simp [Value.oneCell']⟩
instance inf118 : Inf Tryz.prog 118 [Value.int .i64 0, Value.int .i64 0, Value.slice none 0 0, Value.int .i64 0, Value.int .i64 0, Value.int .i64 0] true 64 := ⟨by kernel_rfl, (fun h => by cases h), ⟨_, Tryz.underlying118, rfl⟩, by simp [Value.oneCell']⟩
instance : Und Tryz.prog 120 (.map 72 23) := ⟨Tryz.underlying120⟩
instance inf120 : Inf Tryz.prog 120 [Value.map none] false 8 := ⟨by kernel_rfl, (fun _ => rfl), ⟨_, Tryz.underlying120, rfl⟩, by simp [Value.oneCell']⟩
instance inf121 : Inf Tryz.prog 121 [Value.int .i64 0, Value.int .i64 0, Value.slice none 0 0, Value.int .i64 0, Value.int .i64 0, Value.int .i64 0, Value.map none] true 72 := ⟨by kernel_rfl, (fun h => by cases h), ⟨_, Tryz.underlying121, rfl⟩, by simp [Value.oneCell']⟩
instance inf122 : Inf Tryz.prog 122 [Value.int .i64 0, Value.int .i64 0, Value.slice none 0 0, Value.int .i64 0, Value.int .i64 0, Value.int .i64 0, Value.map none] true 72 := ⟨by kernel_rfl, (fun h => by cases h), ⟨_, Tryz.underlying122, rfl⟩, by simp [Value.oneCell']⟩
instance : Und Tryz.prog 123 (.pointer 126) := ⟨Tryz.underlying123⟩
instance inf123 : Inf Tryz.prog 123 [Value.pointer none] false 8 := ⟨by kernel_rfl, (fun _ => rfl), ⟨_, Tryz.underlying123, rfl⟩, by simp [Value.oneCell']⟩
instance inf126 : Inf Tryz.prog 126 [Value.slice none 0 0, Value.int .i64 0] true 32 := ⟨by kernel_rfl, (fun h => by cases h), ⟨_, Tryz.underlying126, rfl⟩, by simp [Value.oneCell']⟩
instance : Und Tryz.prog 127 (.pointer 201) := ⟨Tryz.underlying127⟩
instance inf127 : Inf Tryz.prog 127 [Value.pointer none] false 8 := ⟨by kernel_rfl, (fun _ => rfl), ⟨_, Tryz.underlying127, rfl⟩, by simp [Value.oneCell']⟩
instance inf128 : Inf Tryz.prog 128 [Value.int .i64 0, Value.int .i64 0, Value.int .i64 0, Value.int .i64 0, Value.int .i64 0, Value.pointer none, Value.bool false, Value.bool false, Value.bool false, Value.slice none 0 0, Value.slice none 0 0] true 104 := ⟨by kernel_rfl, (fun h => by cases h), ⟨_, Tryz.underlying128, rfl⟩, by simp [Value.oneCell']⟩
instance inf129 : Inf Tryz.prog 129 [Value.int .i64 0, Value.int .i64 0, Value.int .i64 0, Value.int .i64 0, Value.int .i64 0, Value.pointer none, Value.bool false, Value.bool false, Value.bool false, Value.slice none 0 0, Value.slice none 0 0] true 104 := ⟨by kernel_rfl, (fun h => by cases h), ⟨_, Tryz.underlying129, rfl⟩, by simp [Value.oneCell']⟩
instance : Und Tryz.prog 132 (.slice 72) := ⟨Tryz.underlying132⟩
instance inf132 : Inf Tryz.prog 132 [Value.slice none 0 0] false 24 := ⟨by kernel_rfl, (fun _ => rfl), ⟨_, Tryz.underlying132, rfl⟩, by simp [Value.oneCell']⟩
instance inf137 : Inf Tryz.prog 137 [Value.int .i64 0, Value.int .i64 0, Value.int .i64 0, Value.int .i64 0, Value.bool false, Value.bool false, Value.int .i64 0] true 48 := ⟨by kernel_rfl, (fun h => by cases h), ⟨_, Tryz.underlying137, rfl⟩, by simp [Value.oneCell']⟩
instance inf141 : Inf Tryz.prog 141 [Value.int .i64 0, Value.int .i64 0, Value.int .i64 0, Value.int .i64 0] true 32 := ⟨by kernel_rfl, (fun h => by cases h), ⟨_, Tryz.underlying141, rfl⟩, by simp [Value.oneCell']⟩
instance inf147 : Inf Tryz.prog 147 [Value.pointer none] false 8 := ⟨by kernel_rfl, (fun _ => rfl), ⟨_, Tryz.underlying147, rfl⟩, by simp [Value.oneCell']⟩
instance inf149 : Inf Tryz.prog 149 [Value.pointer none] false 8 := ⟨by kernel_rfl, (fun _ => rfl), ⟨_, Tryz.underlying149, rfl⟩, by simp [Value.oneCell']⟩
instance inf154 : Inf Tryz.prog 154 [Value.pointer none, Value.int .i64 0, Value.pointer none, Value.int .i64 0, Value.pointer none, Value.int .i64 0, Value.pointer none, Value.int .i64 0, Value.pointer none, Value.int .i64 0, Value.pointer none, Value.int .i64 0, Value.pointer none, Value.int .i64 0, Value.pointer none, Value.int .i64 0] true 128 := ⟨by kernel_rfl, (fun h => by cases h), ⟨_, Tryz.underlying154, rfl⟩, by simp [Value.oneCell']⟩
instance inf155 : Inf Tryz.prog 155 [Value.slice none 0 0] false 24 := ⟨by kernel_rfl, (fun _ => rfl), ⟨_, Tryz.underlying155, rfl⟩, by simp [Value.oneCell']⟩
instance inf156 : Inf Tryz.prog 156 [Value.slice none 0 0] false 24 := ⟨by kernel_rfl, (fun _ => rfl), ⟨_, Tryz.underlying156, rfl⟩, by simp [Value.oneCell']⟩
instance inf158 : Inf Tryz.prog 158 [Value.pointer none, Value.pointer none, Value.pointer none, Value.int .i64 0, Value.pointer none, Value.int .i64 0, Value.pointer none, Value.int .i64 0, Value.pointer none, Value.int .i64 0, Value.pointer none, Value.int .i64 0, Value.pointer none, Value.int .i64 0, Value.pointer none, Value.int .i64 0, Value.pointer none, Value.int .i64 0, Value.slice none 0 0, Value.slice none 0 0] true 192 := ⟨by kernel_rfl, (fun h => by cases h), ⟨_, Tryz.underlying158, rfl⟩, by simp [Value.oneCell']⟩
instance : Und Tryz.prog 160 (.pointer 274) := ⟨Tryz.underlying160⟩
instance inf160 : Inf Tryz.prog 160 [Value.pointer none] false 8 := ⟨by kernel_rfl, (fun _ => rfl), ⟨_, Tryz.underlying160, rfl⟩, by simp [Value.oneCell']⟩
instance : Und Tryz.prog 164 (.pointer 231) := ⟨Tryz.underlying164⟩
instance inf164 : Inf Tryz.prog 164 [Value.pointer none] false 8 := ⟨by kernel_rfl, (fun _ => rfl), ⟨_, Tryz.underlying164, rfl⟩, by simp [Value.oneCell']⟩
instance inf169 : Inf Tryz.prog 169 [Value.bool false, Value.int .i64 0, Value.slice none 0 0] true 40 := ⟨by kernel_rfl, (fun h => by cases h), ⟨_, Tryz.underlying169, rfl⟩, by simp [Value.oneCell']⟩
instance inf170 : Inf Tryz.prog 170 [Value.slice none 0 0] false 24 := ⟨by kernel_rfl, (fun _ => rfl), ⟨_, Tryz.underlying170, rfl⟩, by simp [Value.oneCell']⟩
instance inf172 : Inf Tryz.prog 172 [Value.bool false, Value.bool false, Value.int .i64 0, Value.int .i64 0, Value.bool false, Value.int .i64 0, Value.slice none 0 0, Value.slice none 0 0] true 88 := ⟨by kernel_rfl, (fun h => by cases h), ⟨_, Tryz.underlying172, rfl⟩, by simp [Value.oneCell']⟩
instance : Und Tryz.prog 178 (.pointer 5) := ⟨Tryz.underlying178⟩
instance inf178 : Inf Tryz.prog 178 [Value.pointer none] false 8 := ⟨by kernel_rfl, (fun _ => rfl), ⟨_, Tryz.underlying178, rfl⟩, by simp [Value.oneCell']⟩
instance : Und Tryz.prog 188 (.pointer 190) := ⟨Tryz.underlying188⟩
instance inf188 : Inf Tryz.prog 188 [Value.pointer none] false 8 := ⟨by kernel_rfl, (fun _ => rfl), ⟨_, Tryz.underlying188, rfl⟩, by simp [Value.oneCell']⟩
instance inf189 : Inf Tryz.prog 189 [Value.slice none 0 0] true 24 := ⟨by kernel_rfl, (fun h => by cases h), ⟨_, Tryz.underlying189, rfl⟩, by simp [Value.oneCell']⟩
instance inf190 : Inf Tryz.prog 190 [Value.slice none 0 0] true 24 := ⟨by kernel_rfl, (fun h => by cases h), ⟨_, Tryz.underlying190, rfl⟩, by simp [Value.oneCell']⟩
instance inf198 : Inf Tryz.prog 198 [Value.bool false, Value.bool false, Value.int .i64 0] true 16 := ⟨by kernel_rfl, (fun h => by cases h), ⟨_, Tryz.underlying198, rfl⟩, by simp [Value.oneCell']⟩
instance inf199 : Inf Tryz.prog 199 [Value.bool false, Value.bool false, Value.int .i64 0] true 16 := ⟨by kernel_rfl, (fun h => by cases h), ⟨_, Tryz.underlying199, rfl⟩, by simp [Value.oneCell']⟩
instance inf201 : Inf Tryz.prog 201 [Value.bool false, Value.bool false, Value.int .i64 0, Value.slice none 0 0, Value.slice none 0 0, Value.bool false] true 72 := ⟨by kernel_rfl, (fun h => by cases h), ⟨_, Tryz.underlying201, rfl⟩, by simp [Value.oneCell']⟩
instance : Und Tryz.prog 207 (.pointer 118) := ⟨Tryz.underlying207⟩
instance inf207 : Inf Tryz.prog 207 [Value.pointer none] false 8 := ⟨by kernel_rfl, (fun _ => rfl), ⟨_, Tryz.underlying207, rfl⟩, by simp [Value.oneCell']⟩
instance : Und Tryz.prog 217 (.pointer 219) := ⟨Tryz.underlying217⟩
instance inf217 : Inf Tryz.prog 217 [Value.pointer none] false 8 := ⟨by kernel_rfl, (fun _ => rfl), ⟨_, Tryz.underlying217, rfl⟩, by simp [Value.oneCell']⟩
instance inf219 : Inf Tryz.prog 219 [Value.slice none 0 0, Value.int .i64 0, Value.bool false] true 40 := ⟨by kernel_rfl, (fun h => by cases h), ⟨_, Tryz.underlying219, rfl⟩, by simp [Value.oneCell']⟩
instance inf224 : Inf Tryz.prog 224 [Value.map none] false 8 := ⟨by kernel_rfl, (fun _ => rfl), ⟨_, Tryz.underlying224, rfl⟩, by simp [Value.oneCell']⟩
instance inf225 : Inf Tryz.prog 225 [Value.int .i64 0] false 8 := ⟨by kernel_rfl, (fun _ => rfl), ⟨_, Tryz.underlying225, rfl⟩, by simp [Value.oneCell']⟩
instance inf226 : Inf Tryz.prog 226 [Value.pointer none] false 8 := ⟨by kernel_rfl, (fun _ => rfl), ⟨_, Tryz.underlying226, rfl⟩, by simp [Value.oneCell']⟩
instance inf227 : Inf Tryz.prog 227 [Value.int .i64 0, Value.map none, Value.int .i64 0, Value.int .i64 0, Value.int .i64 0, Value.int .i64 0, Value.int .i64 0, Value.int .i64 0, Value.int .i64 0, Value.int .i64 0, Value.pointer none, Value.pointer none, Value.slice none 0 0, Value.slice none 0 0, Value.bool false, Value.bool false, Value.int .i64 0, Value.int .i64 0, Value.bool false, Value.int .i64 0, Value.slice none 0 0, Value.slice none 0 0, Value.int .i64 0, Value.int .i64 0, Value.bool false] true 256 := ⟨by kernel_rfl, (fun h => by cases h), ⟨_, Tryz.underlying227, rfl⟩, by simp [Value.oneCell']⟩
instance inf235 : Inf Tryz.prog 235 [Value.bool false, Value.bool false, Value.int .i64 0, Value.int .i64 0, Value.bool false, Value.int .i64 0, Value.slice none 0 0, Value.slice none 0 0, Value.bool false, Value.int .i64 0] true 104 := ⟨by kernel_rfl, (fun h => by cases h), ⟨_, Tryz.underlying235, rfl⟩, by simp [Value.oneCell']⟩
instance : Und Tryz.prog 255 (.pointer 199) := ⟨Tryz.underlying255⟩
instance inf255 : Inf Tryz.prog 255 [Value.pointer none] false 8 := ⟨by kernel_rfl, (fun _ => rfl), ⟨_, Tryz.underlying255, rfl⟩, by simp [Value.oneCell']⟩
instance : Und Tryz.prog 259 (.slice 261) := ⟨Tryz.underlying259⟩
instance inf259 : Inf Tryz.prog 259 [Value.slice none 0 0] false 24 := ⟨by kernel_rfl, (fun _ => rfl), ⟨_, Tryz.underlying259, rfl⟩, by simp [Value.oneCell']⟩
instance : Und Tryz.prog 261 (.pointer 3) := ⟨Tryz.underlying261⟩
instance inf261 : Inf Tryz.prog 261 [Value.pointer none] false 8 := ⟨by kernel_rfl, (fun _ => rfl), ⟨_, Tryz.underlying261, rfl⟩, by simp [Value.oneCell']⟩
instance : Und Tryz.prog 262 (.pointer 137) := ⟨Tryz.underlying262⟩
instance inf262 : Inf Tryz.prog 262 [Value.pointer none] false 8 := ⟨by kernel_rfl, (fun _ => rfl), ⟨_, Tryz.underlying262, rfl⟩, by simp [Value.oneCell']⟩
instance inf296 : Inf Tryz.prog 296 [Value.int .u64 0, Value.int .u64 0, Value.int .u64 0] true 24 := ⟨by kernel_rfl, (fun h => by cases h), ⟨_, Tryz.underlying296, rfl⟩, by simp [Value.oneCell']⟩
instance : Und Tryz.prog 298 (.pointer 319) := ⟨Tryz.underlying298⟩
instance inf298 : Inf Tryz.prog 298 [Value.pointer none] false 8 := ⟨by kernel_rfl, (fun _ => rfl), ⟨_, Tryz.underlying298, rfl⟩, by simp [Value.oneCell']⟩
instance inf301 : Inf Tryz.prog 301 (List.replicate 256 (Value.int .u32 0)) true 1024 := ⟨by kernel_rfl, (fun h => by cases h), ⟨_, Tryz.underlying301, rfl⟩, by simp [Value.oneCell']⟩
instance inf305 : Inf Tryz.prog 305 [Value.int .i64 0, Value.int .i64 0, Value.int .i64 0, Value.int .i64 0, Value.int .i64 0] true 40 := ⟨by kernel_rfl, (fun h => by cases h), ⟨_, Tryz.underlying305, rfl⟩, by simp [Value.oneCell']⟩
instance inf309 : Inf Tryz.prog 309 (List.replicate 20 (Value.int .u64 0)) true 160 := ⟨by kernel_rfl, (fun h => by cases h), ⟨_, Tryz.underlying309, rfl⟩, by simp [Value.oneCell']⟩
instance inf316 : Inf Tryz.prog 316 (List.replicate 16 (Value.int .i64 0)) true 128 := ⟨by kernel_rfl, (fun h => by cases h), ⟨_, Tryz.underlying316, rfl⟩, by simp [Value.oneCell']⟩
instance inf319 : Inf Tryz.prog 319 [Value.slice none 0 0, Value.int .i64 0, Value.bool false] true 40 := ⟨by kernel_rfl, (fun h => by cases h), ⟨_, Tryz.underlying319, rfl⟩, by simp [Value.oneCell']⟩
instance : Und Tryz.prog 322 (.pointer 352) := ⟨Tryz.underlying322⟩
instance inf322 : Inf Tryz.prog 322 [Value.pointer none] false 8 := ⟨by kernel_rfl, (fun _ => rfl), ⟨_, Tryz.underlying322, rfl⟩, by simp [Value.oneCell']⟩
instance inf337 : Inf Tryz.prog 337 [Value.int .u64 0, Value.int .i64 0, Value.int .i64 0] true 24 := ⟨by kernel_rfl, (fun h => by cases h), ⟨_, Tryz.underlying337, rfl⟩, by simp [Value.oneCell']⟩
instance inf339 : Inf Tryz.prog 339 [Value.bool false, Value.int .i64 0, Value.int .i64 0] true 24 := ⟨by kernel_rfl, (fun h => by cases h), ⟨_, Tryz.underlying339, rfl⟩, by simp [Value.oneCell']⟩
instance inf340 : Inf Tryz.prog 340 [Value.bool false, Value.int .i64 0, Value.int .i64 0] true 24 := ⟨by kernel_rfl, (fun h => by cases h), ⟨_, Tryz.underlying340, rfl⟩, by simp [Value.oneCell']⟩
instance : Und Tryz.prog 343 (.pointer 340) := ⟨Tryz.underlying343⟩
instance inf343 : Inf Tryz.prog 343 [Value.pointer none] false 8 := ⟨by kernel_rfl, (fun _ => rfl), ⟨_, Tryz.underlying343, rfl⟩, by simp [Value.oneCell']⟩
instance : Und Tryz.prog 344 (.slice 347) := ⟨Tryz.underlying344⟩
instance inf344 : Inf Tryz.prog 344 [Value.slice none 0 0] false 24 := ⟨by kernel_rfl, (fun _ => rfl), ⟨_, Tryz.underlying344, rfl⟩, by simp [Value.oneCell']⟩
instance inf347 : Inf Tryz.prog 347 [Value.int .i64 0, Value.int .i64 0] true 16 := ⟨by kernel_rfl, (fun h => by cases h), ⟨_, Tryz.underlying347, rfl⟩, by simp [Value.oneCell']⟩
instance inf351 : Inf Tryz.prog 351 [Value.slice none 0 0, Value.int .i64 0] true 32 := ⟨by kernel_rfl, (fun h => by cases h), ⟨_, Tryz.underlying351, rfl⟩, by simp [Value.oneCell']⟩
instance inf352 : Inf Tryz.prog 352 [Value.slice none 0 0, Value.int .i64 0] true 32 := ⟨by kernel_rfl, (fun h => by cases h), ⟨_, Tryz.underlying352, rfl⟩, by simp [Value.oneCell']⟩
instance inf355 : Inf Tryz.prog 355 (List.replicate 64 (Value.int .u8 0)) true 64 := ⟨by kernel_rfl, (fun h => by cases h), ⟨_, Tryz.underlying355, rfl⟩, by simp [Value.oneCell']⟩
instance : Und Tryz.prog 360 (.map 30 3) := ⟨Tryz.underlying360⟩
instance inf360 : Inf Tryz.prog 360 [Value.map none] false 8 := ⟨by kernel_rfl, (fun _ => rfl), ⟨_, Tryz.underlying360, rfl⟩, by simp [Value.oneCell']⟩
instance : FA Tryz.prog 13 0 0 := FA.mk' Tryz.underlying13 rfl inf9 (List.cons_ne_nil _ _)
instance : FA Tryz.prog 13 1 1 := FA.mk' Tryz.underlying13 rfl inf12 (List.cons_ne_nil _ _)
instance : Pl Tryz.prog 13 [Value.string ByteArray.empty, Value.int .u64 0] [(0, 1), (1, 1)] := Pl.mk' Tryz.underlying13 inf13 O2
instance : FA Tryz.prog 24 0 0 := FA.mk' Tryz.underlying24 rfl inf22 (List.cons_ne_nil _ _)
instance : FA Tryz.prog 24 1 1 := FA.mk' Tryz.underlying24 rfl inf3 (List.cons_ne_nil _ _)
instance : FA Tryz.prog 24 2 2 := FA.mk' Tryz.underlying24 rfl inf23 (List.cons_ne_nil _ _)
instance : Pl Tryz.prog 24 [Value.int .i64 0, Value.int .i64 0, Value.slice none 0 0] [(0, 1), (1, 1), (2, 1)] := Pl.mk' Tryz.underlying24 inf24 O2
instance : FA Tryz.prog 25 0 0 := FA.mk' Tryz.underlying25 rfl inf22 (List.cons_ne_nil _ _)
instance : FA Tryz.prog 25 1 1 := FA.mk' Tryz.underlying25 rfl inf3 (List.cons_ne_nil _ _)
instance : FA Tryz.prog 25 2 2 := FA.mk' Tryz.underlying25 rfl inf23 (List.cons_ne_nil _ _)
instance : Pl Tryz.prog 25 [Value.int .i64 0, Value.int .i64 0, Value.slice none 0 0] [(0, 1), (1, 1), (2, 1)] := Pl.mk' Tryz.underlying25 inf25 O2
instance : FA Tryz.prog 31 0 0 := FA.mk' Tryz.underlying31 rfl inf3 (List.cons_ne_nil _ _)
instance : FA Tryz.prog 31 1 1 := FA.mk' Tryz.underlying31 rfl inf3 (List.cons_ne_nil _ _)
instance : FA Tryz.prog 31 2 2 := FA.mk' Tryz.underlying31 rfl inf3 (List.cons_ne_nil _ _)
instance : FA Tryz.prog 31 3 3 := FA.mk' Tryz.underlying31 rfl inf2 (List.cons_ne_nil _ _)
instance : FA Tryz.prog 31 4 4 := FA.mk' Tryz.underlying31 rfl inf30 (List.cons_ne_nil _ _)
instance : FA Tryz.prog 31 5 5 := FA.mk' Tryz.underlying31 rfl inf2 (List.cons_ne_nil _ _)
instance : FA Tryz.prog 31 6 6 := FA.mk' Tryz.underlying31 rfl inf2 (List.cons_ne_nil _ _)
instance : FA Tryz.prog 31 7 7 := FA.mk' Tryz.underlying31 rfl inf3 (List.cons_ne_nil _ _)
instance : Pl Tryz.prog 31 [Value.int .i64 0, Value.int .i64 0, Value.int .i64 0, Value.int .i64 0, Value.int .u64 0, Value.int .i64 0, Value.int .i64 0, Value.int .i64 0] [(0, 1), (1, 1), (2, 1), (3, 1), (4, 1), (5, 1), (6, 1), (7, 1)] := Pl.mk' Tryz.underlying31 inf31 O2
instance : FA Tryz.prog 32 0 0 := FA.mk' Tryz.underlying32 rfl inf3 (List.cons_ne_nil _ _)
instance : FA Tryz.prog 32 1 1 := FA.mk' Tryz.underlying32 rfl inf3 (List.cons_ne_nil _ _)
instance : FA Tryz.prog 32 2 2 := FA.mk' Tryz.underlying32 rfl inf3 (List.cons_ne_nil _ _)
instance : FA Tryz.prog 32 3 3 := FA.mk' Tryz.underlying32 rfl inf2 (List.cons_ne_nil _ _)
instance : FA Tryz.prog 32 4 4 := FA.mk' Tryz.underlying32 rfl inf30 (List.cons_ne_nil _ _)
instance : FA Tryz.prog 32 5 5 := FA.mk' Tryz.underlying32 rfl inf2 (List.cons_ne_nil _ _)
instance : FA Tryz.prog 32 6 6 := FA.mk' Tryz.underlying32 rfl inf2 (List.cons_ne_nil _ _)
instance : FA Tryz.prog 32 7 7 := FA.mk' Tryz.underlying32 rfl inf3 (List.cons_ne_nil _ _)
instance : Pl Tryz.prog 32 [Value.int .i64 0, Value.int .i64 0, Value.int .i64 0, Value.int .i64 0, Value.int .u64 0, Value.int .i64 0, Value.int .i64 0, Value.int .i64 0] [(0, 1), (1, 1), (2, 1), (3, 1), (4, 1), (5, 1), (6, 1), (7, 1)] := Pl.mk' Tryz.underlying32 inf32 O2
instance : FA Tryz.prog 43 0 0 := FA.mk' Tryz.underlying43 rfl inf9 (List.cons_ne_nil _ _)
instance : FA Tryz.prog 43 1 1 := FA.mk' Tryz.underlying43 rfl inf4 (List.cons_ne_nil _ _)
instance : Pl Tryz.prog 43 [Value.string ByteArray.empty, Value.bool false] [(0, 1), (1, 1)] := Pl.mk' Tryz.underlying43 inf43 O2
instance : FA Tryz.prog 58 0 0 := FA.mk' Tryz.underlying58 rfl inf2 (List.cons_ne_nil _ _)
instance : FA Tryz.prog 58 1 1 := FA.mk' Tryz.underlying58 rfl inf30 (List.cons_ne_nil _ _)
instance : Pl Tryz.prog 58 [Value.int .i64 0, Value.int .u64 0] [(0, 1), (1, 1)] := Pl.mk' Tryz.underlying58 inf58 O2
instance : FA Tryz.prog 60 0 0 := FA.mk' Tryz.underlying60 rfl inf3 (List.cons_ne_nil _ _)
instance : FA Tryz.prog 60 1 1 := FA.mk' Tryz.underlying60 rfl inf3 (List.cons_ne_nil _ _)
instance : FA Tryz.prog 60 2 2 := FA.mk' Tryz.underlying60 rfl inf3 (List.cons_ne_nil _ _)
instance : FA Tryz.prog 60 3 3 := FA.mk' Tryz.underlying60 rfl inf2 (List.cons_ne_nil _ _)
instance : FA Tryz.prog 60 4 4 := FA.mk' Tryz.underlying60 rfl inf2 (List.cons_ne_nil _ _)
instance : Pl Tryz.prog 60 [Value.int .i64 0, Value.int .i64 0, Value.int .i64 0, Value.int .i64 0, Value.int .i64 0] [(0, 1), (1, 1), (2, 1), (3, 1), (4, 1)] := Pl.mk' Tryz.underlying60 inf60 O2
instance : FA Tryz.prog 72 0 0 := FA.mk' Tryz.underlying72 rfl inf3 (List.cons_ne_nil _ _)
instance : FA Tryz.prog 72 1 1 := FA.mk' Tryz.underlying72 rfl inf3 (List.cons_ne_nil _ _)
instance : FA Tryz.prog 72 2 2 := FA.mk' Tryz.underlying72 rfl inf3 (List.cons_ne_nil _ _)
instance : Pl Tryz.prog 72 [Value.int .i64 0, Value.int .i64 0, Value.int .i64 0] [(0, 1), (1, 1), (2, 1)] := Pl.mk' Tryz.underlying72 inf72 O2
instance : FA Tryz.prog 90 0 0 := FA.mk' Tryz.underlying90 rfl inf89 (List.cons_ne_nil _ _)
instance : FA Tryz.prog 90 1 1 := FA.mk' Tryz.underlying90 rfl inf38 (List.cons_ne_nil _ _)
instance : Pl Tryz.prog 90 [Value.pointer none, Value.slice none 0 0] [(0, 1), (1, 1)] := Pl.mk' Tryz.underlying90 inf90 O2
instance : FA Tryz.prog 103 0 0 := FA.mk' Tryz.underlying103 rfl inf100 (List.cons_ne_nil _ _)
instance : Pl Tryz.prog 103 [Value.slice none 0 0] [(0, 1)] := Pl.mk' Tryz.underlying103 inf103 O2
instance : FA Tryz.prog 114 0 0 := FA.mk' Tryz.underlying114 rfl inf3 (List.cons_ne_nil _ _)
instance : FA Tryz.prog 114 1 1 := FA.mk' Tryz.underlying114 rfl inf3 (List.cons_ne_nil _ _)
instance : FA Tryz.prog 114 2 2 := FA.mk' Tryz.underlying114 rfl inf3 (List.cons_ne_nil _ _)
instance : FA Tryz.prog 114 3 3 := FA.mk' Tryz.underlying114 rfl inf3 (List.cons_ne_nil _ _)
instance : FA Tryz.prog 114 4 4 := FA.mk' Tryz.underlying114 rfl inf113 (List.cons_ne_nil _ _)
instance : Pl Tryz.prog 114 [Value.int .i64 0, Value.int .i64 0, Value.int .i64 0, Value.int .i64 0, Value.map none] [(0, 1), (1, 1), (2, 1), (3, 1), (4, 1)] := Pl.mk' Tryz.underlying114 inf114 O2
instance : FA Tryz.prog 115 0 0 := FA.mk' Tryz.underlying115 rfl inf3 (List.cons_ne_nil _ _)
instance : FA Tryz.prog 115 1 1 := FA.mk' Tryz.underlying115 rfl inf3 (List.cons_ne_nil _ _)
instance : FA Tryz.prog 115 2 2 := FA.mk' Tryz.underlying115 rfl inf3 (List.cons_ne_nil _ _)
instance : FA Tryz.prog 115 3 3 := FA.mk' Tryz.underlying115 rfl inf3 (List.cons_ne_nil _ _)
instance : FA Tryz.prog 115 4 4 := FA.mk' Tryz.underlying115 rfl inf113 (List.cons_ne_nil _ _)
instance : Pl Tryz.prog 115 [Value.int .i64 0, Value.int .i64 0, Value.int .i64 0, Value.int .i64 0, Value.map none] [(0, 1), (1, 1), (2, 1), (3, 1), (4, 1)] := Pl.mk' Tryz.underlying115 inf115 O2
instance : FA Tryz.prog 117 0 0 := FA.mk' Tryz.underlying117 rfl inf3 (List.cons_ne_nil _ _)
instance : FA Tryz.prog 117 1 1 := FA.mk' Tryz.underlying117 rfl inf3 (List.cons_ne_nil _ _)
instance : FA Tryz.prog 117 2 2 := FA.mk' Tryz.underlying117 rfl inf116 (List.cons_ne_nil _ _)
instance : FA Tryz.prog 117 3 3 := FA.mk' Tryz.underlying117 rfl inf3 (List.cons_ne_nil _ _)
instance : FA Tryz.prog 117 4 4 := FA.mk' Tryz.underlying117 rfl inf3 (List.cons_ne_nil _ _)
instance : FA Tryz.prog 117 5 5 := FA.mk' Tryz.underlying117 rfl inf3 (List.cons_ne_nil _ _)
instance : Pl Tryz.prog 117 [Value.int .i64 0, Value.int .i64 0, Value.slice none 0 0, Value.int .i64 0, Value.int .i64 0, Value.int .i64 0] [(0, 1), (1, 1), (2, 1), (3, 1), (4, 1), (5, 1)] := Pl.mk' Tryz.underlying117 inf117 O2
instance : FA Tryz.prog 118 0 0 := FA.mk' Tryz.underlying118 rfl inf3 (List.cons_ne_nil _ _)
instance : FA Tryz.prog 118 1 1 := FA.mk' Tryz.underlying118 rfl inf3 (List.cons_ne_nil _ _)
instance : FA Tryz.prog 118 2 2 := FA.mk' Tryz.underlying118 rfl inf116 (List.cons_ne_nil _ _)
instance : FA Tryz.prog 118 3 3 := FA.mk' Tryz.underlying118 rfl inf3 (List.cons_ne_nil _ _)
instance : FA Tryz.prog 118 4 4 := FA.mk' Tryz.underlying118 rfl inf3 (List.cons_ne_nil _ _)
instance : FA Tryz.prog 118 5 5 := FA.mk' Tryz.underlying118 rfl inf3 (List.cons_ne_nil _ _)
instance : Pl Tryz.prog 118 [Value.int .i64 0, Value.int .i64 0, Value.slice none 0 0, Value.int .i64 0, Value.int .i64 0, Value.int .i64 0] [(0, 1), (1, 1), (2, 1), (3, 1), (4, 1), (5, 1)] := Pl.mk' Tryz.underlying118 inf118 O2
instance : FA Tryz.prog 121 0 0 := FA.mk' Tryz.underlying121 rfl inf118 (List.cons_ne_nil _ _)
instance : FA Tryz.prog 121 1 6 := FA.mk' Tryz.underlying121 rfl inf120 (List.cons_ne_nil _ _)
instance : Pl Tryz.prog 121 [Value.int .i64 0, Value.int .i64 0, Value.slice none 0 0, Value.int .i64 0, Value.int .i64 0, Value.int .i64 0, Value.map none] [(0, 6), (6, 1)] := Pl.mk' Tryz.underlying121 inf121 O2
instance : FA Tryz.prog 122 0 0 := FA.mk' Tryz.underlying122 rfl inf118 (List.cons_ne_nil _ _)
instance : FA Tryz.prog 122 1 6 := FA.mk' Tryz.underlying122 rfl inf120 (List.cons_ne_nil _ _)
instance : Pl Tryz.prog 122 [Value.int .i64 0, Value.int .i64 0, Value.slice none 0 0, Value.int .i64 0, Value.int .i64 0, Value.int .i64 0, Value.map none] [(0, 6), (6, 1)] := Pl.mk' Tryz.underlying122 inf122 O2
instance : FA Tryz.prog 126 0 0 := FA.mk' Tryz.underlying126 rfl inf38 (List.cons_ne_nil _ _)
instance : FA Tryz.prog 126 1 1 := FA.mk' Tryz.underlying126 rfl inf3 (List.cons_ne_nil _ _)
instance : Pl Tryz.prog 126 [Value.slice none 0 0, Value.int .i64 0] [(0, 1), (1, 1)] := Pl.mk' Tryz.underlying126 inf126 O2
instance : FA Tryz.prog 128 0 0 := FA.mk' Tryz.underlying128 rfl inf72 (List.cons_ne_nil _ _)
instance : FA Tryz.prog 128 1 3 := FA.mk' Tryz.underlying128 rfl inf2 (List.cons_ne_nil _ _)
instance : FA Tryz.prog 128 2 4 := FA.mk' Tryz.underlying128 rfl inf2 (List.cons_ne_nil _ _)
instance : FA Tryz.prog 128 3 5 := FA.mk' Tryz.underlying128 rfl inf127 (List.cons_ne_nil _ _)
instance : FA Tryz.prog 128 4 6 := FA.mk' Tryz.underlying128 rfl inf4 (List.cons_ne_nil _ _)
instance : FA Tryz.prog 128 5 7 := FA.mk' Tryz.underlying128 rfl inf4 (List.cons_ne_nil _ _)
instance : FA Tryz.prog 128 6 8 := FA.mk' Tryz.underlying128 rfl inf4 (List.cons_ne_nil _ _)
instance : FA Tryz.prog 128 7 9 := FA.mk' Tryz.underlying128 rfl inf23 (List.cons_ne_nil _ _)
instance : FA Tryz.prog 128 8 10 := FA.mk' Tryz.underlying128 rfl inf23 (List.cons_ne_nil _ _)
instance : Pl Tryz.prog 128 [Value.int .i64 0, Value.int .i64 0, Value.int .i64 0, Value.int .i64 0, Value.int .i64 0, Value.pointer none, Value.bool false, Value.bool false, Value.bool false, Value.slice none 0 0, Value.slice none 0 0] [(0, 3), (3, 1), (4, 1), (5, 1), (6, 1), (7, 1), (8, 1), (9, 1), (10, 1)] := Pl.mk' Tryz.underlying128 inf128 O2
instance : FA Tryz.prog 129 0 0 := FA.mk' Tryz.underlying129 rfl inf72 (List.cons_ne_nil _ _)
instance : FA Tryz.prog 129 1 3 := FA.mk' Tryz.underlying129 rfl inf2 (List.cons_ne_nil _ _)
instance : FA Tryz.prog 129 2 4 := FA.mk' Tryz.underlying129 rfl inf2 (List.cons_ne_nil _ _)
instance : FA Tryz.prog 129 3 5 := FA.mk' Tryz.underlying129 rfl inf127 (List.cons_ne_nil _ _)
instance : FA Tryz.prog 129 4 6 := FA.mk' Tryz.underlying129 rfl inf4 (List.cons_ne_nil _ _)
instance : FA Tryz.prog 129 5 7 := FA.mk' Tryz.underlying129 rfl inf4 (List.cons_ne_nil _ _)
instance : FA Tryz.prog 129 6 8 := FA.mk' Tryz.underlying129 rfl inf4 (List.cons_ne_nil _ _)
instance : FA Tryz.prog 129 7 9 := FA.mk' Tryz.underlying129 rfl inf23 (List.cons_ne_nil _ _)
instance : FA Tryz.prog 129 8 10 := FA.mk' Tryz.underlying129 rfl inf23 (List.cons_ne_nil _ _)
instance : Pl Tryz.prog 129 [Value.int .i64 0, Value.int .i64 0, Value.int .i64 0, Value.int .i64 0, Value.int .i64 0, Value.pointer none, Value.bool false, Value.bool false, Value.bool false, Value.slice none 0 0, Value.slice none 0 0] [(0, 3), (3, 1), (4, 1), (5, 1), (6, 1), (7, 1), (8, 1), (9, 1), (10, 1)] := Pl.mk' Tryz.underlying129 inf129 O2
instance : FA Tryz.prog 137 0 0 := FA.mk' Tryz.underlying137 rfl inf72 (List.cons_ne_nil _ _)
instance : FA Tryz.prog 137 1 3 := FA.mk' Tryz.underlying137 rfl inf3 (List.cons_ne_nil _ _)
instance : FA Tryz.prog 137 2 4 := FA.mk' Tryz.underlying137 rfl inf4 (List.cons_ne_nil _ _)
instance : FA Tryz.prog 137 3 5 := FA.mk' Tryz.underlying137 rfl inf4 (List.cons_ne_nil _ _)
instance : FA Tryz.prog 137 4 6 := FA.mk' Tryz.underlying137 rfl inf3 (List.cons_ne_nil _ _)
instance : Pl Tryz.prog 137 [Value.int .i64 0, Value.int .i64 0, Value.int .i64 0, Value.int .i64 0, Value.bool false, Value.bool false, Value.int .i64 0] [(0, 3), (3, 1), (4, 1), (5, 1), (6, 1)] := Pl.mk' Tryz.underlying137 inf137 O2
instance : FA Tryz.prog 141 0 0 := FA.mk' Tryz.underlying141 rfl inf3 (List.cons_ne_nil _ _)
instance : FA Tryz.prog 141 1 1 := FA.mk' Tryz.underlying141 rfl inf3 (List.cons_ne_nil _ _)
instance : FA Tryz.prog 141 2 2 := FA.mk' Tryz.underlying141 rfl inf2 (List.cons_ne_nil _ _)
instance : FA Tryz.prog 141 3 3 := FA.mk' Tryz.underlying141 rfl inf2 (List.cons_ne_nil _ _)
instance : Pl Tryz.prog 141 [Value.int .i64 0, Value.int .i64 0, Value.int .i64 0, Value.int .i64 0] [(0, 1), (1, 1), (2, 1), (3, 1)] := Pl.mk' Tryz.underlying141 inf141 O2
instance : FA Tryz.prog 158 0 0 := FA.mk' Tryz.underlying158 rfl inf147 (List.cons_ne_nil _ _)
instance : FA Tryz.prog 158 1 1 := FA.mk' Tryz.underlying158 rfl inf149 (List.cons_ne_nil _ _)
instance : FA Tryz.prog 158 2 2 := FA.mk' Tryz.underlying158 rfl inf154 (List.cons_ne_nil _ _)
instance : FA Tryz.prog 158 3 18 := FA.mk' Tryz.underlying158 rfl inf155 (List.cons_ne_nil _ _)
instance : FA Tryz.prog 158 4 19 := FA.mk' Tryz.underlying158 rfl inf156 (List.cons_ne_nil _ _)
instance : Pl Tryz.prog 158 [Value.pointer none, Value.pointer none, Value.pointer none, Value.int .i64 0, Value.pointer none, Value.int .i64 0, Value.pointer none, Value.int .i64 0, Value.pointer none, Value.int .i64 0, Value.pointer none, Value.int .i64 0, Value.pointer none, Value.int .i64 0, Value.pointer none, Value.int .i64 0, Value.pointer none, Value.int .i64 0, Value.slice none 0 0, Value.slice none 0 0] [(0, 1), (1, 1), (2, 16), (18, 1), (19, 1)] := Pl.mk' Tryz.underlying158 inf158 O2
instance : FA Tryz.prog 172 0 0 := FA.mk' Tryz.underlying172 rfl inf4 (List.cons_ne_nil _ _)
instance : FA Tryz.prog 172 1 1 := FA.mk' Tryz.underlying172 rfl inf4 (List.cons_ne_nil _ _)
instance : FA Tryz.prog 172 2 2 := FA.mk' Tryz.underlying172 rfl inf3 (List.cons_ne_nil _ _)
instance : FA Tryz.prog 172 3 3 := FA.mk' Tryz.underlying172 rfl inf3 (List.cons_ne_nil _ _)
instance : FA Tryz.prog 172 4 4 := FA.mk' Tryz.underlying172 rfl inf169 (List.cons_ne_nil _ _)
instance : FA Tryz.prog 172 5 7 := FA.mk' Tryz.underlying172 rfl inf170 (List.cons_ne_nil _ _)
instance : Pl Tryz.prog 172 [Value.bool false, Value.bool false, Value.int .i64 0, Value.int .i64 0, Value.bool false, Value.int .i64 0, Value.slice none 0 0, Value.slice none 0 0] [(0, 1), (1, 1), (2, 1), (3, 1), (4, 3), (7, 1)] := Pl.mk' Tryz.underlying172 inf172 O2
instance : FA Tryz.prog 189 0 0 := FA.mk' Tryz.underlying189 rfl inf38 (List.cons_ne_nil _ _)
instance : Pl Tryz.prog 189 [Value.slice none 0 0] [(0, 1)] := Pl.mk' Tryz.underlying189 inf189 O2
instance : FA Tryz.prog 190 0 0 := FA.mk' Tryz.underlying190 rfl inf38 (List.cons_ne_nil _ _)
instance : Pl Tryz.prog 190 [Value.slice none 0 0] [(0, 1)] := Pl.mk' Tryz.underlying190 inf190 O2
instance : FA Tryz.prog 198 0 0 := FA.mk' Tryz.underlying198 rfl inf4 (List.cons_ne_nil _ _)
instance : FA Tryz.prog 198 1 1 := FA.mk' Tryz.underlying198 rfl inf4 (List.cons_ne_nil _ _)
instance : FA Tryz.prog 198 2 2 := FA.mk' Tryz.underlying198 rfl inf3 (List.cons_ne_nil _ _)
instance : Pl Tryz.prog 198 [Value.bool false, Value.bool false, Value.int .i64 0] [(0, 1), (1, 1), (2, 1)] := Pl.mk' Tryz.underlying198 inf198 O2
instance : FA Tryz.prog 199 0 0 := FA.mk' Tryz.underlying199 rfl inf4 (List.cons_ne_nil _ _)
instance : FA Tryz.prog 199 1 1 := FA.mk' Tryz.underlying199 rfl inf4 (List.cons_ne_nil _ _)
instance : FA Tryz.prog 199 2 2 := FA.mk' Tryz.underlying199 rfl inf3 (List.cons_ne_nil _ _)
instance : Pl Tryz.prog 199 [Value.bool false, Value.bool false, Value.int .i64 0] [(0, 1), (1, 1), (2, 1)] := Pl.mk' Tryz.underlying199 inf199 O2
instance : FA Tryz.prog 201 0 0 := FA.mk' Tryz.underlying201 rfl inf199 (List.cons_ne_nil _ _)
instance : FA Tryz.prog 201 1 3 := FA.mk' Tryz.underlying201 rfl inf38 (List.cons_ne_nil _ _)
instance : FA Tryz.prog 201 2 4 := FA.mk' Tryz.underlying201 rfl inf23 (List.cons_ne_nil _ _)
instance : FA Tryz.prog 201 3 5 := FA.mk' Tryz.underlying201 rfl inf4 (List.cons_ne_nil _ _)
instance : Pl Tryz.prog 201 [Value.bool false, Value.bool false, Value.int .i64 0, Value.slice none 0 0, Value.slice none 0 0, Value.bool false] [(0, 3), (3, 1), (4, 1), (5, 1)] := Pl.mk' Tryz.underlying201 inf201 O2
instance : FA Tryz.prog 219 0 0 := FA.mk' Tryz.underlying219 rfl inf38 (List.cons_ne_nil _ _)
instance : FA Tryz.prog 219 1 1 := FA.mk' Tryz.underlying219 rfl inf3 (List.cons_ne_nil _ _)
instance : FA Tryz.prog 219 2 2 := FA.mk' Tryz.underlying219 rfl inf4 (List.cons_ne_nil _ _)
instance : Pl Tryz.prog 219 [Value.slice none 0 0, Value.int .i64 0, Value.bool false] [(0, 1), (1, 1), (2, 1)] := Pl.mk' Tryz.underlying219 inf219 O2
instance : FA Tryz.prog 227 0 0 := FA.mk' Tryz.underlying227 rfl inf225 (List.cons_ne_nil _ _)
instance : FA Tryz.prog 227 1 1 := FA.mk' Tryz.underlying227 rfl inf224 (List.cons_ne_nil _ _)
instance : FA Tryz.prog 227 2 2 := FA.mk' Tryz.underlying227 rfl inf3 (List.cons_ne_nil _ _)
instance : FA Tryz.prog 227 3 3 := FA.mk' Tryz.underlying227 rfl inf3 (List.cons_ne_nil _ _)
instance : FA Tryz.prog 227 4 4 := FA.mk' Tryz.underlying227 rfl inf60 (List.cons_ne_nil _ _)
instance : FA Tryz.prog 227 5 9 := FA.mk' Tryz.underlying227 rfl inf3 (List.cons_ne_nil _ _)
instance : FA Tryz.prog 227 6 10 := FA.mk' Tryz.underlying227 rfl inf127 (List.cons_ne_nil _ _)
instance : FA Tryz.prog 227 7 11 := FA.mk' Tryz.underlying227 rfl inf226 (List.cons_ne_nil _ _)
instance : FA Tryz.prog 227 8 12 := FA.mk' Tryz.underlying227 rfl inf23 (List.cons_ne_nil _ _)
instance : FA Tryz.prog 227 9 13 := FA.mk' Tryz.underlying227 rfl inf38 (List.cons_ne_nil _ _)
instance : FA Tryz.prog 227 10 14 := FA.mk' Tryz.underlying227 rfl inf172 (List.cons_ne_nil _ _)
instance : FA Tryz.prog 227 11 22 := FA.mk' Tryz.underlying227 rfl inf3 (List.cons_ne_nil _ _)
instance : FA Tryz.prog 227 12 23 := FA.mk' Tryz.underlying227 rfl inf3 (List.cons_ne_nil _ _)
instance : FA Tryz.prog 227 13 24 := FA.mk' Tryz.underlying227 rfl inf4 (List.cons_ne_nil _ _)
instance : Pl Tryz.prog 227 [Value.int .i64 0, Value.map none, Value.int .i64 0, Value.int .i64 0, Value.int .i64 0, Value.int .i64 0, Value.int .i64 0, Value.int .i64 0, Value.int .i64 0, Value.int .i64 0, Value.pointer none, Value.pointer none, Value.slice none 0 0, Value.slice none 0 0, Value.bool false, Value.bool false, Value.int .i64 0, Value.int .i64 0, Value.bool false, Value.int .i64 0, Value.slice none 0 0, Value.slice none 0 0, Value.int .i64 0, Value.int .i64 0, Value.bool false] [(0, 1), (1, 1), (2, 1), (3, 1), (4, 5), (9, 1), (10, 1), (11, 1), (12, 1), (13, 1), (14, 8), (22, 1), (23, 1), (24, 1)] := Pl.mk' Tryz.underlying227 inf227 O2
instance : FA Tryz.prog 235 0 0 := FA.mk' Tryz.underlying235 rfl inf172 (List.cons_ne_nil _ _)
instance : FA Tryz.prog 235 1 8 := FA.mk' Tryz.underlying235 rfl inf4 (List.cons_ne_nil _ _)
instance : FA Tryz.prog 235 2 9 := FA.mk' Tryz.underlying235 rfl inf3 (List.cons_ne_nil _ _)
instance : Pl Tryz.prog 235 [Value.bool false, Value.bool false, Value.int .i64 0, Value.int .i64 0, Value.bool false, Value.int .i64 0, Value.slice none 0 0, Value.slice none 0 0, Value.bool false, Value.int .i64 0] [(0, 8), (8, 1), (9, 1)] := Pl.mk' Tryz.underlying235 inf235 O2
instance : FA Tryz.prog 319 0 0 := FA.mk' Tryz.underlying319 rfl inf38 (List.cons_ne_nil _ _)
instance : FA Tryz.prog 319 1 1 := FA.mk' Tryz.underlying319 rfl inf3 (List.cons_ne_nil _ _)
instance : FA Tryz.prog 319 2 2 := FA.mk' Tryz.underlying319 rfl inf4 (List.cons_ne_nil _ _)
instance : Pl Tryz.prog 319 [Value.slice none 0 0, Value.int .i64 0, Value.bool false] [(0, 1), (1, 1), (2, 1)] := Pl.mk' Tryz.underlying319 inf319 O2
instance : FA Tryz.prog 337 0 0 := FA.mk' Tryz.underlying337 rfl inf30 (List.cons_ne_nil _ _)
instance : FA Tryz.prog 337 1 1 := FA.mk' Tryz.underlying337 rfl inf3 (List.cons_ne_nil _ _)
instance : FA Tryz.prog 337 2 2 := FA.mk' Tryz.underlying337 rfl inf3 (List.cons_ne_nil _ _)
instance : Pl Tryz.prog 337 [Value.int .u64 0, Value.int .i64 0, Value.int .i64 0] [(0, 1), (1, 1), (2, 1)] := Pl.mk' Tryz.underlying337 inf337 O2
instance : FA Tryz.prog 339 0 0 := FA.mk' Tryz.underlying339 rfl inf4 (List.cons_ne_nil _ _)
instance : FA Tryz.prog 339 1 1 := FA.mk' Tryz.underlying339 rfl inf3 (List.cons_ne_nil _ _)
instance : FA Tryz.prog 339 2 2 := FA.mk' Tryz.underlying339 rfl inf3 (List.cons_ne_nil _ _)
instance : Pl Tryz.prog 339 [Value.bool false, Value.int .i64 0, Value.int .i64 0] [(0, 1), (1, 1), (2, 1)] := Pl.mk' Tryz.underlying339 inf339 O2
instance : FA Tryz.prog 340 0 0 := FA.mk' Tryz.underlying340 rfl inf4 (List.cons_ne_nil _ _)
instance : FA Tryz.prog 340 1 1 := FA.mk' Tryz.underlying340 rfl inf3 (List.cons_ne_nil _ _)
instance : FA Tryz.prog 340 2 2 := FA.mk' Tryz.underlying340 rfl inf3 (List.cons_ne_nil _ _)
instance : Pl Tryz.prog 340 [Value.bool false, Value.int .i64 0, Value.int .i64 0] [(0, 1), (1, 1), (2, 1)] := Pl.mk' Tryz.underlying340 inf340 O2
instance : FA Tryz.prog 347 0 0 := FA.mk' Tryz.underlying347 rfl inf3 (List.cons_ne_nil _ _)
instance : FA Tryz.prog 347 1 1 := FA.mk' Tryz.underlying347 rfl inf3 (List.cons_ne_nil _ _)
instance : Pl Tryz.prog 347 [Value.int .i64 0, Value.int .i64 0] [(0, 1), (1, 1)] := Pl.mk' Tryz.underlying347 inf347 O2
instance : FA Tryz.prog 351 0 0 := FA.mk' Tryz.underlying351 rfl inf38 (List.cons_ne_nil _ _)
instance : FA Tryz.prog 351 1 1 := FA.mk' Tryz.underlying351 rfl inf3 (List.cons_ne_nil _ _)
instance : Pl Tryz.prog 351 [Value.slice none 0 0, Value.int .i64 0] [(0, 1), (1, 1)] := Pl.mk' Tryz.underlying351 inf351 O2
instance : FA Tryz.prog 352 0 0 := FA.mk' Tryz.underlying352 rfl inf38 (List.cons_ne_nil _ _)
instance : FA Tryz.prog 352 1 1 := FA.mk' Tryz.underlying352 rfl inf3 (List.cons_ne_nil _ _)
instance : Pl Tryz.prog 352 [Value.slice none 0 0, Value.int .i64 0] [(0, 1), (1, 1)] := Pl.mk' Tryz.underlying352 inf352 O2
instance : FnB Tryz.prog 9 := ⟨_, Tryz.func9, by kernel_rfl, by kernel_rfl⟩
instance : FnB Tryz.prog 20 := ⟨_, Tryz.func20, by kernel_rfl, by kernel_rfl⟩
instance : FnB Tryz.prog 21 := ⟨_, Tryz.func21, by kernel_rfl, by kernel_rfl⟩
instance : FnB Tryz.prog 22 := ⟨_, Tryz.func22, by kernel_rfl, by kernel_rfl⟩
instance : FnB Tryz.prog 23 := ⟨_, Tryz.func23, by kernel_rfl, by kernel_rfl⟩
instance : FnB Tryz.prog 24 := ⟨_, Tryz.func24, by kernel_rfl, by kernel_rfl⟩
instance : FnB Tryz.prog 25 := ⟨_, Tryz.func25, by kernel_rfl, by kernel_rfl⟩
instance : FnB Tryz.prog 26 := ⟨_, Tryz.func26, by kernel_rfl, by kernel_rfl⟩
instance : FnB Tryz.prog 27 := ⟨_, Tryz.func27, by kernel_rfl, by kernel_rfl⟩
instance : FnB Tryz.prog 28 := ⟨_, Tryz.func28, by kernel_rfl, by kernel_rfl⟩
instance : FnB Tryz.prog 29 := ⟨_, Tryz.func29, by kernel_rfl, by kernel_rfl⟩
instance : FnB Tryz.prog 30 := ⟨_, Tryz.func30, by kernel_rfl, by kernel_rfl⟩
instance : FnB Tryz.prog 31 := ⟨_, Tryz.func31, by kernel_rfl, by kernel_rfl⟩
instance : FnB Tryz.prog 32 := ⟨_, Tryz.func32, by kernel_rfl, by kernel_rfl⟩
instance : FnB Tryz.prog 33 := ⟨_, Tryz.func33, by kernel_rfl, by kernel_rfl⟩
instance : FnB Tryz.prog 34 := ⟨_, Tryz.func34, by kernel_rfl, by kernel_rfl⟩
instance : FnB Tryz.prog 35 := ⟨_, Tryz.func35, by kernel_rfl, by kernel_rfl⟩
instance : FnB Tryz.prog 52 := ⟨_, Tryz.func52, by kernel_rfl, by kernel_rfl⟩
instance : FnB Tryz.prog 53 := ⟨_, Tryz.func53, by kernel_rfl, by kernel_rfl⟩
instance : FnB Tryz.prog 54 := ⟨_, Tryz.func54, by kernel_rfl, by kernel_rfl⟩
instance : FnB Tryz.prog 55 := ⟨_, Tryz.func55, by kernel_rfl, by kernel_rfl⟩
instance : FnB Tryz.prog 56 := ⟨_, Tryz.func56, by kernel_rfl, by kernel_rfl⟩
instance : FnB Tryz.prog 57 := ⟨_, Tryz.func57, by kernel_rfl, by kernel_rfl⟩
instance : FnB Tryz.prog 58 := ⟨_, Tryz.func58, by kernel_rfl, by kernel_rfl⟩
instance : FnB Tryz.prog 59 := ⟨_, Tryz.func59, by kernel_rfl, by kernel_rfl⟩
instance : FnB Tryz.prog 60 := ⟨_, Tryz.func60, by kernel_rfl, by kernel_rfl⟩
instance : FnB Tryz.prog 61 := ⟨_, Tryz.func61, by kernel_rfl, by kernel_rfl⟩
instance : FnB Tryz.prog 62 := ⟨_, Tryz.func62, by kernel_rfl, by kernel_rfl⟩
instance : FnB Tryz.prog 63 := ⟨_, Tryz.func63, by kernel_rfl, by kernel_rfl⟩
instance : FnB Tryz.prog 64 := ⟨_, Tryz.func64, by kernel_rfl, by kernel_rfl⟩
instance : FnB Tryz.prog 65 := ⟨_, Tryz.func65, by kernel_rfl, by kernel_rfl⟩
instance : FnB Tryz.prog 66 := ⟨_, Tryz.func66, by kernel_rfl, by kernel_rfl⟩
instance : FnB Tryz.prog 67 := ⟨_, Tryz.func67, by kernel_rfl, by kernel_rfl⟩
instance : FnB Tryz.prog 68 := ⟨_, Tryz.func68, by kernel_rfl, by kernel_rfl⟩
instance : FnB Tryz.prog 69 := ⟨_, Tryz.func69, by kernel_rfl, by kernel_rfl⟩
instance : FnB Tryz.prog 91 := ⟨_, Tryz.func91, by kernel_rfl, by kernel_rfl⟩
instance : FnB Tryz.prog 92 := ⟨_, Tryz.func92, by kernel_rfl, by kernel_rfl⟩
instance : FnB Tryz.prog 93 := ⟨_, Tryz.func93, by kernel_rfl, by kernel_rfl⟩
instance : FnB Tryz.prog 94 := ⟨_, Tryz.func94, by kernel_rfl, by kernel_rfl⟩
instance : FnB Tryz.prog 95 := ⟨_, Tryz.func95, by kernel_rfl, by kernel_rfl⟩
instance : FnB Tryz.prog 96 := ⟨_, Tryz.func96, by kernel_rfl, by kernel_rfl⟩
instance : FnB Tryz.prog 97 := ⟨_, Tryz.func97, by kernel_rfl, by kernel_rfl⟩
instance : FnB Tryz.prog 98 := ⟨_, Tryz.func98, by kernel_rfl, by kernel_rfl⟩
instance : FnB Tryz.prog 99 := ⟨_, Tryz.func99, by kernel_rfl, by kernel_rfl⟩
instance : FnB Tryz.prog 100 := ⟨_, Tryz.func100, by kernel_rfl, by kernel_rfl⟩
instance : FnB Tryz.prog 101 := ⟨_, Tryz.func101, by kernel_rfl, by kernel_rfl⟩
instance : FnB Tryz.prog 102 := ⟨_, Tryz.func102, by kernel_rfl, by kernel_rfl⟩
instance : FnB Tryz.prog 103 := ⟨_, Tryz.func103, by kernel_rfl, by kernel_rfl⟩
instance : FnB Tryz.prog 104 := ⟨_, Tryz.func104, by kernel_rfl, by kernel_rfl⟩
instance : FnB Tryz.prog 105 := ⟨_, Tryz.func105, by kernel_rfl, by kernel_rfl⟩
instance : FnB Tryz.prog 106 := ⟨_, Tryz.func106, by kernel_rfl, by kernel_rfl⟩
instance : FnB Tryz.prog 107 := ⟨_, Tryz.func107, by kernel_rfl, by kernel_rfl⟩
instance : FnB Tryz.prog 108 := ⟨_, Tryz.func108, by kernel_rfl, by kernel_rfl⟩
instance : FnB Tryz.prog 109 := ⟨_, Tryz.func109, by kernel_rfl, by kernel_rfl⟩
instance : FnB Tryz.prog 110 := ⟨_, Tryz.func110, by kernel_rfl, by kernel_rfl⟩
instance : FnB Tryz.prog 111 := ⟨_, Tryz.func111, by kernel_rfl, by kernel_rfl⟩
instance : FnB Tryz.prog 112 := ⟨_, Tryz.func112, by kernel_rfl, by kernel_rfl⟩
instance : FnB Tryz.prog 113 := ⟨_, Tryz.func113, by kernel_rfl, by kernel_rfl⟩
instance : FnB Tryz.prog 114 := ⟨_, Tryz.func114, by kernel_rfl, by kernel_rfl⟩
instance : FnB Tryz.prog 115 := ⟨_, Tryz.func115, by kernel_rfl, by kernel_rfl⟩
instance : FnB Tryz.prog 116 := ⟨_, Tryz.func116, by kernel_rfl, by kernel_rfl⟩
instance : FnB Tryz.prog 117 := ⟨_, Tryz.func117, by kernel_rfl, by kernel_rfl⟩
instance : FnB Tryz.prog 118 := ⟨_, Tryz.func118, by kernel_rfl, by kernel_rfl⟩
instance : FnB Tryz.prog 119 := ⟨_, Tryz.func119, by kernel_rfl, by kernel_rfl⟩
instance : FnB Tryz.prog 134 := ⟨_, Tryz.func134, by kernel_rfl, by kernel_rfl⟩
instance : FnB Tryz.prog 135 := ⟨_, Tryz.func135, by kernel_rfl, by kernel_rfl⟩
instance : FnB Tryz.prog 136 := ⟨_, Tryz.func136, by kernel_rfl, by kernel_rfl⟩
instance : FnB Tryz.prog 137 := ⟨_, Tryz.func137, by kernel_rfl, by kernel_rfl⟩
instance : FnB Tryz.prog 138 := ⟨_, Tryz.func138, by kernel_rfl, by kernel_rfl⟩
instance : FnB Tryz.prog 139 := ⟨_, Tryz.func139, by kernel_rfl, by kernel_rfl⟩
instance : FnB Tryz.prog 140 := ⟨_, Tryz.func140, by kernel_rfl, by kernel_rfl⟩
instance : FnB Tryz.prog 141 := ⟨_, Tryz.func141, by kernel_rfl, by kernel_rfl⟩
instance : FnB Tryz.prog 142 := ⟨_, Tryz.func142, by kernel_rfl, by kernel_rfl⟩
instance : FnB Tryz.prog 143 := ⟨_, Tryz.func143, by kernel_rfl, by kernel_rfl⟩
instance : FnB Tryz.prog 144 := ⟨_, Tryz.func144, by kernel_rfl, by kernel_rfl⟩
instance : FnB Tryz.prog 145 := ⟨_, Tryz.func145, by kernel_rfl, by kernel_rfl⟩
instance : FnB Tryz.prog 146 := ⟨_, Tryz.func146, by kernel_rfl, by kernel_rfl⟩
instance : FnB Tryz.prog 147 := ⟨_, Tryz.func147, by kernel_rfl, by kernel_rfl⟩
instance : FnB Tryz.prog 148 := ⟨_, Tryz.func148, by kernel_rfl, by kernel_rfl⟩
instance : FnB Tryz.prog 149 := ⟨_, Tryz.func149, by kernel_rfl, by kernel_rfl⟩
instance : FnB Tryz.prog 150 := ⟨_, Tryz.func150, by kernel_rfl, by kernel_rfl⟩
instance : FnB Tryz.prog 151 := ⟨_, Tryz.func151, by kernel_rfl, by kernel_rfl⟩
instance : FnB Tryz.prog 152 := ⟨_, Tryz.func152, by kernel_rfl, by kernel_rfl⟩
instance : FnB Tryz.prog 153 := ⟨_, Tryz.func153, by kernel_rfl, by kernel_rfl⟩
instance : FnB Tryz.prog 154 := ⟨_, Tryz.func154, by kernel_rfl, by kernel_rfl⟩
instance : FnB Tryz.prog 155 := ⟨_, Tryz.func155, by kernel_rfl, by kernel_rfl⟩
instance : FnB Tryz.prog 156 := ⟨_, Tryz.func156, by kernel_rfl, by kernel_rfl⟩
instance : FnB Tryz.prog 157 := ⟨_, Tryz.func157, by kernel_rfl, by kernel_rfl⟩
instance : FnB Tryz.prog 158 := ⟨_, Tryz.func158, by kernel_rfl, by kernel_rfl⟩
instance : FnB Tryz.prog 159 := ⟨_, Tryz.func159, by kernel_rfl, by kernel_rfl⟩
instance : FnB Tryz.prog 160 := ⟨_, Tryz.func160, by kernel_rfl, by kernel_rfl⟩
instance : FnB Tryz.prog 161 := ⟨_, Tryz.func161, by kernel_rfl, by kernel_rfl⟩
instance : FnB Tryz.prog 162 := ⟨_, Tryz.func162, by kernel_rfl, by kernel_rfl⟩
instance : FnB Tryz.prog 163 := ⟨_, Tryz.func163, by kernel_rfl, by kernel_rfl⟩
instance : FnB Tryz.prog 164 := ⟨_, Tryz.func164, by kernel_rfl, by kernel_rfl⟩
instance : FnB Tryz.prog 165 := ⟨_, Tryz.func165, by kernel_rfl, by kernel_rfl⟩
instance : FnB Tryz.prog 166 := ⟨_, Tryz.func166, by kernel_rfl, by kernel_rfl⟩
instance : FnB Tryz.prog 184 := ⟨_, Tryz.func184, by kernel_rfl, by kernel_rfl⟩
instance : FnB Tryz.prog 185 := ⟨_, Tryz.func185, by kernel_rfl, by kernel_rfl⟩
instance : FnB Tryz.prog 186 := ⟨_, Tryz.func186, by kernel_rfl, by kernel_rfl⟩
instance : FnB Tryz.prog 187 := ⟨_, Tryz.func187, by kernel_rfl, by kernel_rfl⟩
instance : FnB Tryz.prog 188 := ⟨_, Tryz.func188, by kernel_rfl, by kernel_rfl⟩
instance : FnB Tryz.prog 189 := ⟨_, Tryz.func189, by kernel_rfl, by kernel_rfl⟩
instance : FnB Tryz.prog 190 := ⟨_, Tryz.func190, by kernel_rfl, by kernel_rfl⟩
instance : FnB Tryz.prog 191 := ⟨_, Tryz.func191, by kernel_rfl, by kernel_rfl⟩
instance : FnB Tryz.prog 192 := ⟨_, Tryz.func192, by kernel_rfl, by kernel_rfl⟩
instance : FnB Tryz.prog 193 := ⟨_, Tryz.func193, by kernel_rfl, by kernel_rfl⟩
instance : FnB Tryz.prog 194 := ⟨_, Tryz.func194, by kernel_rfl, by kernel_rfl⟩
instance : FnB Tryz.prog 195 := ⟨_, Tryz.func195, by kernel_rfl, by kernel_rfl⟩
instance : FnB Tryz.prog 196 := ⟨_, Tryz.func196, by kernel_rfl, by kernel_rfl⟩
instance : FnB Tryz.prog 197 := ⟨_, Tryz.func197, by kernel_rfl, by kernel_rfl⟩
instance : FnB Tryz.prog 198 := ⟨_, Tryz.func198, by kernel_rfl, by kernel_rfl⟩
instance : FnB Tryz.prog 199 := ⟨_, Tryz.func199, by kernel_rfl, by kernel_rfl⟩
instance : FnB Tryz.prog 200 := ⟨_, Tryz.func200, by kernel_rfl, by kernel_rfl⟩
instance : FnB Tryz.prog 201 := ⟨_, Tryz.func201, by kernel_rfl, by kernel_rfl⟩
instance : FnB Tryz.prog 202 := ⟨_, Tryz.func202, by kernel_rfl, by kernel_rfl⟩
instance : FnB Tryz.prog 203 := ⟨_, Tryz.func203, by kernel_rfl, by kernel_rfl⟩
instance : FnB Tryz.prog 204 := ⟨_, Tryz.func204, by kernel_rfl, by kernel_rfl⟩
instance : FnB Tryz.prog 205 := ⟨_, Tryz.func205, by kernel_rfl, by kernel_rfl⟩
instance : FnB Tryz.prog 207 := ⟨_, Tryz.func207, by kernel_rfl, by kernel_rfl⟩
instance : FnB Tryz.prog 208 := ⟨_, Tryz.func208, by kernel_rfl, by kernel_rfl⟩
instance : FnB Tryz.prog 209 := ⟨_, Tryz.func209, by kernel_rfl, by kernel_rfl⟩
instance : FnB Tryz.prog 210 := ⟨_, Tryz.func210, by kernel_rfl, by kernel_rfl⟩
instance : FnB Tryz.prog 212 := ⟨_, Tryz.func212, by kernel_rfl, by kernel_rfl⟩
instance : FnB Tryz.prog 223 := ⟨_, Tryz.func223, by kernel_rfl, by kernel_rfl⟩
instance : FnB Tryz.prog 224 := ⟨_, Tryz.func224, by kernel_rfl, by kernel_rfl⟩
instance : FnB Tryz.prog 225 := ⟨_, Tryz.func225, by kernel_rfl, by kernel_rfl⟩
instance : FnB Tryz.prog 226 := ⟨_, Tryz.func226, by kernel_rfl, by kernel_rfl⟩
instance : FnB Tryz.prog 227 := ⟨_, Tryz.func227, by kernel_rfl, by kernel_rfl⟩
instance : FnB Tryz.prog 228 := ⟨_, Tryz.func228, by kernel_rfl, by kernel_rfl⟩
instance : FnB Tryz.prog 229 := ⟨_, Tryz.func229, by kernel_rfl, by kernel_rfl⟩
instance : FnB Tryz.prog 230 := ⟨_, Tryz.func230, by kernel_rfl, by kernel_rfl⟩
instance : FnB Tryz.prog 231 := ⟨_, Tryz.func231, by kernel_rfl, by kernel_rfl⟩
instance : FnB Tryz.prog 232 := ⟨_, Tryz.func232, by kernel_rfl, by kernel_rfl⟩
instance : FnB Tryz.prog 233 := ⟨_, Tryz.func233, by kernel_rfl, by kernel_rfl⟩
instance : FnB Tryz.prog 234 := ⟨_, Tryz.func234, by kernel_rfl, by kernel_rfl⟩
instance : FnB Tryz.prog 235 := ⟨_, Tryz.func235, by kernel_rfl, by kernel_rfl⟩
instance : FnB Tryz.prog 236 := ⟨_, Tryz.func236, by kernel_rfl, by kernel_rfl⟩
instance : FnB Tryz.prog 237 := ⟨_, Tryz.func237, by kernel_rfl, by kernel_rfl⟩
instance : FnB Tryz.prog 238 := ⟨_, Tryz.func238, by kernel_rfl, by kernel_rfl⟩
instance : FnB Tryz.prog 241 := ⟨_, Tryz.func241, by kernel_rfl, by kernel_rfl⟩
instance : FnB Tryz.prog 244 := ⟨_, Tryz.func244, by kernel_rfl, by kernel_rfl⟩
instance : FnB Tryz.prog 245 := ⟨_, Tryz.func245, by kernel_rfl, by kernel_rfl⟩
instance : FnB Tryz.prog 246 := ⟨_, Tryz.func246, by kernel_rfl, by kernel_rfl⟩
instance : FnB Tryz.prog 247 := ⟨_, Tryz.func247, by kernel_rfl, by kernel_rfl⟩
instance : FnB Tryz.prog 248 := ⟨_, Tryz.func248, by kernel_rfl, by kernel_rfl⟩
instance : FnB Tryz.prog 249 := ⟨_, Tryz.func249, by kernel_rfl, by kernel_rfl⟩
instance : FnB Tryz.prog 250 := ⟨_, Tryz.func250, by kernel_rfl, by kernel_rfl⟩
instance : FnB Tryz.prog 251 := ⟨_, Tryz.func251, by kernel_rfl, by kernel_rfl⟩
instance : FnB Tryz.prog 252 := ⟨_, Tryz.func252, by kernel_rfl, by kernel_rfl⟩
instance : FnB Tryz.prog 253 := ⟨_, Tryz.func253, by kernel_rfl, by kernel_rfl⟩
instance : FnB Tryz.prog 254 := ⟨_, Tryz.func254, by kernel_rfl, by kernel_rfl⟩
instance : FnB Tryz.prog 255 := ⟨_, Tryz.func255, by kernel_rfl, by kernel_rfl⟩
instance : FnB Tryz.prog 256 := ⟨_, Tryz.func256, by kernel_rfl, by kernel_rfl⟩
instance : FnB Tryz.prog 257 := ⟨_, Tryz.func257, by kernel_rfl, by kernel_rfl⟩
instance : FnB Tryz.prog 258 := ⟨_, Tryz.func258, by kernel_rfl, by kernel_rfl⟩
instance : FnB Tryz.prog 259 := ⟨_, Tryz.func259, by kernel_rfl, by kernel_rfl⟩
instance : FnB Tryz.prog 260 := ⟨_, Tryz.func260, by kernel_rfl, by kernel_rfl⟩
instance : FnB Tryz.prog 261 := ⟨_, Tryz.func261, by kernel_rfl, by kernel_rfl⟩
instance : FnB Tryz.prog 263 := ⟨_, Tryz.func263, by kernel_rfl, by kernel_rfl⟩
instance : FnB Tryz.prog 264 := ⟨_, Tryz.func264, by kernel_rfl, by kernel_rfl⟩
instance : FnB Tryz.prog 265 := ⟨_, Tryz.func265, by kernel_rfl, by kernel_rfl⟩
instance : FnB Tryz.prog 266 := ⟨_, Tryz.func266, by kernel_rfl, by kernel_rfl⟩
instance : FnB Tryz.prog 267 := ⟨_, Tryz.func267, by kernel_rfl, by kernel_rfl⟩
instance : FnB Tryz.prog 268 := ⟨_, Tryz.func268, by kernel_rfl, by kernel_rfl⟩
instance : FnB Tryz.prog 269 := ⟨_, Tryz.func269, by kernel_rfl, by kernel_rfl⟩
instance : FnB Tryz.prog 270 := ⟨_, Tryz.func270, by kernel_rfl, by kernel_rfl⟩
instance : FnB Tryz.prog 271 := ⟨_, Tryz.func271, by kernel_rfl, by kernel_rfl⟩
instance : FnB Tryz.prog 272 := ⟨_, Tryz.func272, by kernel_rfl, by kernel_rfl⟩
instance : FnB Tryz.prog 273 := ⟨_, Tryz.func273, by kernel_rfl, by kernel_rfl⟩
end Go.Proofs.YtnnehiiblfmpnaaGreatDoor

namespace Go.Proofs.YtnnehiiblfmpnaaGreatDoor
open Go.Hw
set_option maxHeartbeats 4000000
abbrev BwPt (p : Nat) (a : Option Addr) (m c n : Nat) : HProp := pt p (.cells [.slice a m c, .int .i64 n].toArray 352 (0, 0))
def IsBW (p : Nat) (bs : List Bool) : HProp := ex fun q : Option Addr × Nat => all [BwPt p q.1 ((bs.length + 7) / 8) q.2 bs.length, Own 5 1 q.1 ((bs.length + 7) / 8) q.2 (bytesV (pack bs))]
section
variable {w0 w : World} {l : List HProp} {p : Nat} {bs : List Bool}
theorem St.bw : St w0 (IsBW p bs :: l) w ↔ ∃ a c, St w0 (BwPt p a ((bs.length + 7) / 8) c bs.length :: Own 5 1 a ((bs.length + 7) / 8) c (bytesV (pack bs)) :: l) w := by
 unfold IsBW
 rw [St.ex]
 exact ⟨fun ⟨q, h⟩ => ⟨q.1, q.2, h.join⟩, fun ⟨a, c, h⟩ => ⟨(a, c), St.fold [_, _] h⟩⟩
theorem vj (h : St w0 l w) : Ret Tryz.prog 235 [] w fun v w' => ∃ p, v = .pointer (some ⟨p, 0, none⟩) ∧ St w0 (IsBW p [] :: l) w' := by
 refine enter Tryz.func235 rfl Tryz.results235 Tryz.ntmps235 rfl ?_
 refine Y1 ?_; refine Y1d ?_; refine Y1 ?_
 refine qz (qe (r := [.slice none 0 0, .int .i64 0]) rfl) rfl ?_
 refine qw rfl (jy h (show _ = Value.agg [.slice none 0 0, .int .i64 0].toArray from rfl) fun p w h => ?_)
 refine Y1d ?_
 refine qv (bq1 ⟨p, rfl, St.bw.2 ⟨none, 0, ?_⟩⟩)
 exact (St.ownNil 5 1 h).f 1
theorem bits_held (n : Int) (h : St w0 l w) : Ret Tryz.prog 244 [.int .i64 n] w fun v w' => v = .int .i64 (heldN n) ∧ St w0 l w' := by
 refine enter Tryz.func244 rfl Tryz.results244 Tryz.ntmps244 rfl ?_
 refine Yf ?_; refine Y4 ?_; refine Y3g ?_
 refine qg (.int .i64 (heldN n)) (by unfold heldN; congr 1; omega) ?_
 refine Y6 ?_
 exact qv (bq1 ⟨rfl, h⟩)
theorem heldN_le (n : Int) : heldN n ≤ 64 := by unfold heldN; omega
theorem testBit_toNat (v k : Nat) : v / 2 ^ k % 2 = (v.testBit k).toNat := by
 rw [Nat.toNat_testBit]
theorem gj (v : Nat) (n : Int) (hv : v < 18446744073709551616) (hlen : bs.length ≤ 70368744177664) (h : St w0 (IsBW p bs :: l) w) :
  Ret Tryz.prog 261 [.pointer (some ⟨p, 0, none⟩), .int .u64 v, .int .i64 n] w fun v' w' => v' = .tuple #[] ∧ St w0 (IsBW p (bs ++ bitsOf v (heldN n)) :: l) w' := by
 refine enter Tryz.func261 rfl Tryz.results261 Tryz.ntmps261 rfl ?_
 have hle := heldN_le n
 refine Y4 ?_
 refine qw rfl (qj rfl (bits_held n h) ?_)
 rintro _ w ⟨rfl, h⟩
 refine Y1p ?_
 refine qg (.int .i64 ((heldN n : Int) - 1)) O13 ?_
 refine Y6 ?_; refine Ya ?_
 refine qc (Γ := Nat × List Bool) (fun k => [(0, .pointer (some ⟨p, 0, none⟩)), (1, .int .u64 v), (6, .int .i64 ((k.1 : Int) - 1))])
  (fun k w => k.1 ≤ 64 ∧ k.2 ++ bitsOf v k.1 = bs ++ bitsOf v (heldN n) ∧ St w0 (IsBW p k.2 :: l) w) (fun k => k.1) (heldN n, bs) ⟨rfl, rfl, rfl, trivial⟩ ⟨hle, rfl, h⟩ ?_
 clear h
 rintro ⟨k, cur⟩ w e ⟨hk, hcur, h⟩
 dsimp only at hk hcur h ⊢
 have hcl : cur.length + k = bs.length + heldN n := by
  have := congrArg List.length hcur
  simpa [bitsOf_len] using this
 refine Y1g ?_; refine Y1v ?_
 cases k with
 | zero =>
  refine qg (.bool false) O7 ?_
  refine Y11 ?_
  refine qd ?_
  rw [← hcur, bitsOf, List.append_nil]
  exact (show (packv [] : Value) = .tuple #[] ∧ _ from ⟨rfl, h⟩)
 | succ k =>
 refine qg (.bool true) (by simp <;> omega) ?_
 refine Y1z ?_
 obtain ⟨a, c, h⟩ := St.bw.1 h
 refine Y1y ?_
 refine qo (Γ := Option Addr × Nat) (fun q => [(0, .pointer (some ⟨p, 0, none⟩)), (1, .int .u64 v), (6, .int .i64 (((k + 1 : Nat) : Int) - 1))])
  (fun q w => St w0 (BwPt p q.1 (cur.length / 8 + 1) q.2 cur.length :: Own 5 1 q.1 (cur.length / 8 + 1) q.2 (bytesV (padz cur)) :: l) w) ?_ ?_
 ·refine Yu ?_; refine qz (qk rfl (h.b 0) rfl) rfl ?_
  refine qz (q_rem rfl rfl O4) rfl ?_
  refine qg (.int .i64 ((cur.length % 8 : Nat) : Int)) (by exact congrArg (Value.int .i64) (gz _ _)) ?_
  refine Yd ?_
  by_cases h8 : cur.length % 8 = 0
  ·refine qg (.bool true) (by simp [h8]) ?_
   refine Y46 ?_; refine Y2q ?_; refine qz (qk rfl (h.b 0) rfl) rfl ?_
   refine qw rfl (q5 (r := [.int .u8 0]) h rfl rfl rfl fun b w h => ?_)
   refine qw rfl (qa (ys := [.int .u8 0]) (zs := bytesV (padz cur)) (m3 := cur.length / 8 + 1) (h.f 2) rfl rfl ⟨rfl, .inr ⟨b, 0, rfl, qp (h.b 0 rfl) rfl⟩⟩ (fun u hu => by rw [List.mem_singleton.1 hu]; rfl) O0 (by rw [padz_even h8]; simp [bytesV]) O0 O0 rfl fun a' c' w _ h => ?_)
   refine Y12 ?_
   refine qw rfl (q8 2 h rfl (show _ = Value.slice _ _ _ from rfl) rfl rfl rfl rfl fun w h => ?_)
   refine qq ⟨(a', c'), ⟨rfl, rfl, rfl, trivial⟩, ?_⟩
   exact (h.f 1).drop.f 1
  ·refine qg (.bool false) O1 ?_
   refine qq (q6 rfl (qr ⟨(a, c), ⟨rfl, rfl, rfl, trivial⟩, ?_⟩))
   rw [padz_odd h8]
   have e : cur.length / 8 + 1 = (cur.length + 7) / 8 := by omega
   rw [e]
   exact h
 clear h
 rintro ⟨a, c⟩ w e h
 dsimp only at h
 obtain ⟨g, rfl⟩ := (h.f 1).own_some O0
 have hk64 : k < 64 := by omega
 have hb2 : (v.testBit k).toNat ≤ 1 := by cases v.testBit k <;> decide
 have hb3 : (v.testBit k).toNat * 2 ^ (7 - cur.length % 8) < 256 := by
  have : 2 ^ (7 - cur.length % 8) ≤ 2 ^ 7 := Nat.pow_le_pow_right O4 O0
  have := Nat.mul_le_mul hb2 this
  omega
 refine ql (jj (some 25) (fun w => St w0 _ w) O2 O2 h.drew fun w h => ?_)
 refine Yg ?_; refine qu rfl rfl rfl rfl h (fun _ h => qm rfl (qk rfl (h.b 0) rfl)) ?_; refine Yg ?_; refine qu rfl rfl rfl rfl h (fun _ h => qm rfl (qk rfl (h.b 0) rfl)) ?_
 refine cpv rfl rfl rfl rfl h rfl (qh (v' := .int .i64 ((cur.length / 8 : Nat) : Int)) (q_quo rfl rfl O4) (by rw [show ((cur.length : Nat) : Int).tdiv 8 = ((cur.length / 8 : Nat) : Int) from tdiv_nat _ 8, wrap64 O0 O0])) ?_
 refine cpv rfl rfl rfl rfl h rfl (qn (o' := cur.length / 8) rfl rfl rfl O0 O7) ?_
 refine qu rfl rfl rfl rfl h (fun w h => qm rfl (qx (v := .int .u8 (byteAt cur (cur.length / 8)).toNat) rfl (by have := (h.f 1).own_rd.cell (bytesV_get (padz_at cur)); simpa using this))) ?_
 refine Yj ?_; refine Yj ?_
 refine cpv rfl rfl rfl rfl h rfl (qh (v' := .int .u64 ((v / 2 ^ k : Nat) : Int)) (ju rfl rfl O0) (by rw [show (((k + 1 : Nat) : Int) - 1) = (k : Int) by omega]; exact congrArg (Value.int .u64) (q9 v k _ (Nat.le_of_lt hk64)))) ?_
 refine cpv rfl rfl rfl rfl h rfl (qh (v' := .int .u64 (((v.testBit k).toNat : Nat) : Int)) (q_and rfl rfl) (by
  rw [show bitOp .and .u64 ((v / 2 ^ k : Nat) : Int) 1 = ((v / 2 ^ k &&& 1 : Nat) : Int) from (jv (Nat.lt_of_le_of_lt (Nat.div_le_self _ _) hv) O4).1, Nat.and_one_is_mod, testBit_toNat])) ?_
 refine cpv rfl rfl rfl rfl h rfl (qh (v' := .int .u8 (((v.testBit k).toNat : Nat) : Int)) (jb rfl) (by rw [wrap_u8, Nat.mod_eq_of_lt O0])) ?_
 refine Yg ?_; refine qu rfl rfl rfl rfl h (fun _ h => qm rfl (qk rfl (h.b 0) rfl)) ?_
 refine cpv rfl rfl rfl rfl h rfl (qh (v' := .int .i64 ((cur.length % 8 : Nat) : Int)) (q_rem rfl rfl O4) (congrArg (Value.int .i64) (gz _ 8))) ?_
 refine cpv rfl rfl rfl rfl h rfl (qh (v' := .int .i64 ((7 - cur.length % 8 : Nat) : Int)) (jm rfl rfl) O6) ?_
 refine cpv rfl rfl rfl rfl h rfl (qh (v' := .int .u8 (((v.testBit k).toNat * 2 ^ (7 - cur.length % 8) : Nat) : Int)) (gk rfl rfl O0) (by rw [shl_u8 _ _ O0, Nat.mod_eq_of_lt hb3])) ?_
 refine cpv rfl rfl rfl rfl h rfl (qh (v' := .int .u8 ((byteAt cur (cur.length / 8) ||| UInt8.ofNat ((v.testBit k).toNat * 2 ^ (7 - cur.length % 8))).toNat : Int)) (q_or rfl rfl) (by
  rw [← or_bytes, UInt8.toNat_ofNat', Nat.mod_eq_of_lt hb3])) ?_
 refine cpv rfl rfl rfl rfl h rfl (qn (o' := cur.length / 8) rfl rfl rfl O0 O7) ?_
 refine Yl ?_
 refine jd 25 rfl rfl rfl ?_
 refine jn (v := .int .u8 ((byteAt cur (cur.length / 8) ||| UInt8.ofNat ((v.testBit k).toNat * 2 ^ (7 - cur.length % 8))).toNat : Int)) (h.f 1) rfl rfl O0 rfl fun w h => ?_
 rw [bytesV_set, ← pack_snoc] at h
 refine Y23 ?_; refine Y12 ?_
 refine qz (qk (v := .int .i64 cur.length) rfl (h.b 1 rfl) rfl) rfl ?_
 refine Y1n ?_
 refine qg (.int .i64 ((cur.length + 1 : Nat) : Int)) O5 ?_
 refine Y12 ?_
 refine qw rfl (q8 1 h rfl (show _ = Value.int _ _ from rfl) rfl rfl rfl rfl fun w h => ?_)
 refine Y3 ?_; refine Y1a ?_; refine Y1p ?_
 refine qg (.int .i64 ((k : Int) - 1)) O6 ?_
 refine Y2 ?_
 refine qq ⟨(k, cur ++ [v.testBit k]), ⟨rfl, rfl, rfl, trivial⟩, ⟨by dsimp only; omega, ?_, St.bw.2 ⟨some ⟨g, 0, none⟩, c, ?_⟩⟩, by dsimp only; omega⟩
 ·rw [← hcur, List.append_assoc]; rfl
 ·have e1 : ((cur ++ [v.testBit k]).length + 7) / 8 = cur.length / 8 + 1 := by simp; omega
  rw [e1, List.length_append]
  exact h.f 1
end
end Go.Proofs.YtnnehiiblfmpnaaGreatDoor

namespace Go.Hw
def len64 (x : Nat) : Nat := if x = 0 then 0 else Nat.log2 x + 1
theorem len64_le {x k : Nat} : len64 x ≤ k ↔ x < 2 ^ k := by
 unfold len64
 split
 ·rename_i h; subst h; simp [Nat.two_pow_pos]
 ·rename_i h
  rw [← Nat.log2_lt h]
  omega
theorem len64_lt (x : Nat) : x < 2 ^ len64 x := len64_le.1 (Nat.le_refl _)
theorem len64_64 {x : Nat} (h : x < 18446744073709551616) : len64 x ≤ 64 := len64_le.2 h
def tzA : Nat → Nat → Nat
 | 0, _ => 0
 | k + 1, x => if x % 2 = 1 then 0 else tzA k (x / 2) + 1
def tz (x : Nat) : Nat := tzA 64 x
theorem tzA_dvd : ∀ (k x : Nat), x / 2 ^ tzA k x * 2 ^ tzA k x = x
 | 0, x => by simp [tzA]
 | k + 1, x => by
  rw [tzA]
  split
  ·simp
  ·have ih := tzA_dvd k (x / 2)
   rw [Nat.pow_succ, Nat.mul_comm _ 2, ← Nat.div_div_eq_div_mul, Nat.mul_comm 2, ← Nat.mul_assoc, ih]
   omega
theorem tz_dvd {x t : Nat} (h : t ≤ tz x) : x / 2 ^ t * 2 ^ t = x := by
 have h1 := tzA_dvd 64 x
 have h2 : 2 ^ tz x = 2 ^ (tz x - t) * 2 ^ t := by rw [← Nat.pow_add]; congr 1; omega
 have h3 : x = (x / 2 ^ tz x * 2 ^ (tz x - t)) * 2 ^ t := by rw [Nat.mul_assoc, ← h2]; exact h1.symm
 have h4 : x / 2 ^ t = x / 2 ^ tz x * 2 ^ (tz x - t) := by
  conv => lhs; rw [h3]
  exact Nat.mul_div_cancel _ (Nat.two_pow_pos t)
 rw [h4]; exact h3.symm
theorem tz_lead {x : Nat} (h0 : x ≠ 0) : tz x + 1 ≤ len64 x := by
 have h1 := tz_dvd (Nat.le_refl (tz x))
 have h2 : 2 ^ tz x ≤ x := by
  conv => rhs; rw [← h1]
  have : x / 2 ^ tz x ≠ 0 := by
   intro h; rw [h] at h1; simp at h1; exact h0 h1.symm
  exact Nat.le_mul_of_pos_left _ (Nat.pos_of_ne_zero this)
 rcases Nat.lt_or_ge (tz x) (len64 x) with h3 | h3
 ·exact h3
 ·have := len64_le.1 h3; omega
structure Win where
 is : Bool
 lead : Nat
 trail : Nat
 deriving DecidableEq
def winOf (x : Nat) : Win := ⟨true, min (64 - len64 x) 31, tz x⟩
def Win.fits (w : Win) (x : Nat) : Bool := w.is && decide (w.lead ≤ (winOf x).lead) && decide (w.trail ≤ (winOf x).trail)
def Win.long (w : Win) : Nat := 64 - w.lead - w.trail
def xorRest (win : Win) (was : Nat) : List Nat → List Bool
 | [] => []
 | now :: r => if now ^^^ was = 0 then bitsOf 0 1 ++ xorRest win now r
  else if win.fits (now ^^^ was) = true then bitsOf 2 2 ++ (bitsOf ((now ^^^ was) / 2 ^ win.trail) win.long ++ xorRest win now r)
  else bitsOf 3 2 ++ (bitsOf (winOf (now ^^^ was)).lead 5 ++ (bitsOf ((winOf (now ^^^ was)).long - 1) 6 ++ (bitsOf ((now ^^^ was) / 2 ^ (winOf (now ^^^ was)).trail) (winOf (now ^^^ was)).long ++ xorRest (winOf (now ^^^ was)) now r)))
def xorBits : List Nat → List Bool
 | [] => []
 | v :: r => bitsOf v 64 ++ xorRest ⟨false, 0, 0⟩ v r
def turnR (s : RS) (win : Win) : Option (Nat × Win) × RS :=
 if (s.get 1).1 = 0 then (some (0, win), (s.get 1).2)
 else if ((s.get 1).2.get 1).1 = 0 then
  let g := ((s.get 1).2.get 1).2.get win.long
  let x := g.1 * 2 ^ win.trail % 18446744073709551616
  (if win.is = true ∧ x ≠ 0 then some (x, win) else none, g.2)
 else
  let a := ((s.get 1).2.get 1).2.get 5
  let b := a.2.get 6
  if 64 < a.1 + (b.1 + 1) then (none, b.2) else
  let g := b.2.get (b.1 + 1)
  let x := g.1 * 2 ^ (64 - a.1 - (b.1 + 1)) % 18446744073709551616
  (if x = 0 ∨ winOf x ≠ ⟨true, a.1, 64 - a.1 - (b.1 + 1)⟩ ∨ win.fits x = true then none else some (x, ⟨true, a.1, 64 - a.1 - (b.1 + 1)⟩), g.2)
theorem turnR_0 {s s1 : RS} {win : Win} (h : s.get 1 = (0, s1)) : turnR s win = (some (0, win), s1) := by
 unfold turnR; rw [h]; rfl
theorem turnR_2 {s s1 s2 s3 : RS} {win : Win} {a g : Nat} (h1 : s.get 1 = (a, s1)) (ha : a ≠ 0) (h2 : s1.get 1 = (0, s2)) (h3 : s2.get win.long = (g, s3)) :
  turnR s win = (if win.is = true ∧ g * 2 ^ win.trail % 18446744073709551616 ≠ 0 then some (g * 2 ^ win.trail % 18446744073709551616, win) else none, s3) := by
 unfold turnR
 simp only [h1, h2, h3]
 rw [if_neg ha, if_pos trivial]
theorem turnR_3x {s s1 s2 s3 s4 : RS} {win : Win} {a b lead long : Nat} (h1 : s.get 1 = (a, s1)) (ha : a ≠ 0) (h2 : s1.get 1 = (b, s2)) (hb : b ≠ 0) (h3 : s2.get 5 = (lead, s3)) (h4 : s3.get 6 = (long, s4)) (h5 : 64 < lead + (long + 1)) :
  turnR s win = (none, s4) := by
 unfold turnR
 simp only [h1, h2, h3, h4]
 rw [if_neg ha, if_neg hb, if_pos h5]
theorem turnR_3 {s s1 s2 s3 s4 s5 : RS} {win : Win} {a b lead long g : Nat} (h1 : s.get 1 = (a, s1)) (ha : a ≠ 0) (h2 : s1.get 1 = (b, s2)) (hb : b ≠ 0) (h3 : s2.get 5 = (lead, s3)) (h4 : s3.get 6 = (long, s4)) (h5 : ¬ 64 < lead + (long + 1)) (h6 : s4.get (long + 1) = (g, s5)) :
  turnR s win = (if g * 2 ^ (64 - lead - (long + 1)) % 18446744073709551616 = 0 ∨ winOf (g * 2 ^ (64 - lead - (long + 1)) % 18446744073709551616) ≠ ⟨true, lead, 64 - lead - (long + 1)⟩ ∨ win.fits (g * 2 ^ (64 - lead - (long + 1)) % 18446744073709551616) = true then none
   else some (g * 2 ^ (64 - lead - (long + 1)) % 18446744073709551616, ⟨true, lead, 64 - lead - (long + 1)⟩), s5) := by
 unfold turnR
 simp only [h1, h2, h3, h4, h6]
 rw [if_neg ha, if_neg hb, if_neg h5]
def xorDecA : Nat → Nat → Win → RS → Option (List Nat)
 | 0, _, _, _ => some []
 | k + 1, was, win, s => match turnR s win with
  | (none, _) => none
  | (some (x, win'), s') => if s'.bad = true then none else (xorDecA k (was ^^^ x) win' s').map fun r => (was ^^^ x) :: r
def xorDec (n : Nat) (s : RS) : Option (List Nat) := match n with
 | 0 => if s.bad = true then none else some []
 | k + 1 => if (s.get 64).2.bad = true then none else (xorDecA k (s.get 64).1 ⟨false, 0, 0⟩ (s.get 64).2).map fun r => (s.get 64).1 :: r
theorem winOf_long {x : Nat} (h0 : x ≠ 0) (h : x < 18446744073709551616) : (winOf x).lead + (winOf x).trail + (winOf x).long = 64 ∧ 1 ≤ (winOf x).long ∧ (winOf x).long ≤ 64 ∧ (winOf x).lead ≤ 31 := by
 have h1 := tz_lead h0
 have h2 := len64_64 h
 unfold Win.long winOf
 dsimp only
 omega
theorem shown {x : Nat} {w : Win} (h : x < 18446744073709551616) (h1 : w.lead ≤ (winOf x).lead) (h2 : w.trail ≤ (winOf x).trail) : x / 2 ^ w.trail % 2 ^ w.long * 2 ^ w.trail % 18446744073709551616 = x := by
 have h3 : x < 2 ^ (64 - w.lead) := by
  have := len64_lt x
  refine Nat.lt_of_lt_of_le this (Nat.pow_le_pow_right O4 ?_)
  have := len64_64 h
  unfold winOf at h1; dsimp only at h1
  omega
 have h5 : x / 2 ^ w.trail % 2 ^ w.long = x / 2 ^ w.trail := by
  apply Nat.mod_eq_of_lt
  rcases Nat.lt_or_ge (64 - w.lead) w.trail with h6 | h6
  ·have h7 : x < 2 ^ w.trail := Nat.lt_of_lt_of_le h3 (Nat.pow_le_pow_right O4 O0)
   rw [Nat.div_eq_of_lt h7]
   exact Nat.two_pow_pos _
  ·rw [Nat.div_lt_iff_lt_mul (Nat.two_pow_pos _), ← Nat.pow_add]
   unfold Win.long
   rwa [show 64 - w.lead - w.trail + w.trail = 64 - w.lead by omega]
 rw [h5, tz_dvd h2, Nat.mod_eq_of_lt h]
theorem fits_le {w : Win} {x : Nat} (h : w.fits x = true) : w.is = true ∧ w.lead ≤ (winOf x).lead ∧ w.trail ≤ (winOf x).trail := by
 unfold Win.fits at h
 simpa [Bool.and_eq_true, and_assoc] using h
theorem xor_back {a b : Nat} : b ^^^ (a ^^^ b) = a := by rw [Nat.xor_comm a b, ← Nat.xor_assoc, Nat.xor_self, Nat.zero_xor]
theorem xorDecA_told (r : List Bool) : ∀ (vs : List Nat) (was : Nat) (win : Win), was < 18446744073709551616 → (∀ v ∈ vs, v < 18446744073709551616) → xorDecA vs.length was win ⟨xorRest win was vs ++ r, false⟩ = some vs
 | [], _, _, _, _ => rfl
 | v :: vs, was, win, hw, hv => by
  have hx : v ^^^ was < 18446744073709551616 := Nat.xor_lt_two_pow (n := 64) (hv v (List.mem_cons_self ..)) hw
  have ih := fun w => xorDecA_told r vs v w (hv v (List.mem_cons_self ..)) fun x h => hv x (List.mem_cons_of_mem _ h)
  have hb : was ^^^ (v ^^^ was) = v := xor_back
  rw [xorRest, List.length_cons, xorDecA]
  generalize hxe : v ^^^ was = x at *
  by_cases h0 : x = 0
  ·rw [if_pos h0, List.append_assoc]
   have ht : turnR ⟨bitsOf 0 1 ++ (xorRest win v vs ++ r), false⟩ win = (some (0, win), ⟨xorRest win v vs ++ r, false⟩) := by
    unfold turnR
    rw [RS.get_put]; rfl
   rw [ht]
   dsimp only
   rw [h0] at hb
   rw [hb, ih win]; rfl
  ·rw [if_neg h0]
   by_cases hf : win.fits x = true
   ·rw [if_pos hf, List.append_assoc, List.append_assoc]
    obtain ⟨f1, f2, f3⟩ := fits_le hf
    have ht : turnR ⟨bitsOf 2 2 ++ (bitsOf (x / 2 ^ win.trail) win.long ++ (xorRest win v vs ++ r)), false⟩ win = (some (x, win), ⟨xorRest win v vs ++ r, false⟩) := by
     refine (turnR_2 (jl true _) O4 (jl false _) (RS.get_put _ _ _)).trans ?_
     rw [shown hx f2 f3, if_pos ⟨f1, h0⟩]
    rw [ht]
    dsimp only
    rw [hb, ih win]; rfl
   ·rw [if_neg hf, List.append_assoc, List.append_assoc, List.append_assoc, List.append_assoc]
    obtain ⟨l1, l2, l3, l4⟩ := winOf_long h0 hx
    have ht : turnR ⟨bitsOf 3 2 ++ (bitsOf (winOf x).lead 5 ++ (bitsOf ((winOf x).long - 1) 6 ++ (bitsOf (x / 2 ^ (winOf x).trail) (winOf x).long ++ (xorRest (winOf x) v vs ++ r)))), false⟩ win = (some (x, winOf x), ⟨xorRest (winOf x) v vs ++ r, false⟩) := by
     have e1 : (winOf x).long - 1 + 1 = (winOf x).long := by omega
     have e2 : 64 - (winOf x).lead - (winOf x).long = (winOf x).trail := by omega
     have g1 := RS.get_put (winOf x).lead 5 (bitsOf ((winOf x).long - 1) 6 ++ (bitsOf (x / 2 ^ (winOf x).trail) (winOf x).long ++ (xorRest (winOf x) v vs ++ r)))
     have g2 := RS.get_put ((winOf x).long - 1) 6 (bitsOf (x / 2 ^ (winOf x).trail) (winOf x).long ++ (xorRest (winOf x) v vs ++ r))
     rw [Nat.mod_eq_of_lt (show (winOf x).lead < 2 ^ 5 by omega)] at g1
     rw [Nat.mod_eq_of_lt (show (winOf x).long - 1 < 2 ^ 6 by omega)] at g2
     have g3 : RS.get ⟨bitsOf (x / 2 ^ (winOf x).trail) (winOf x).long ++ (xorRest (winOf x) v vs ++ r), false⟩ ((winOf x).long - 1 + 1) = (x / 2 ^ (winOf x).trail % 2 ^ (winOf x).long, ⟨xorRest (winOf x) v vs ++ r, false⟩) := by rw [e1]; exact RS.get_put _ _ _
     have := turnR_3 (win := win) (jl true _) O4 (jl true _) O4 g1 g2 O0 g3
     rw [e1, e2, shown hx (Nat.le_refl _) (Nat.le_refl _), if_neg] at this
     ·exact this
     ·rintro (h | h | h)
      ·exact h0 h
      ·exact h rfl
      ·exact hf h
    rw [ht]
    dsimp only
    rw [hb, ih (winOf x)]; rfl
theorem xorDec_told (vs : List Nat) (hv : ∀ v ∈ vs, v < 18446744073709551616) (r : List Bool) : xorDec vs.length ⟨xorBits vs ++ r, false⟩ = some vs := by
 cases vs with
 | nil => rfl
 | cons v vs =>
  have h := hv v (List.mem_cons_self ..)
  show xorDec (vs.length + 1) ⟨(bitsOf v 64 ++ xorRest ⟨false, 0, 0⟩ v vs) ++ r, false⟩ = _
  rw [List.append_assoc, xorDec, RS.get_put, Nat.mod_eq_of_lt (show v < 2 ^ 64 from h)]
  dsimp only
  rw [xorDecA_told r vs v ⟨false, 0, 0⟩ h fun x hx => hv x (List.mem_cons_of_mem _ hx)]
  rfl
def packW (b : Nat) : List Nat → Nat
 | [] => 0
 | x :: r => x + 2 ^ b * packW b r
def kindsL : List (Nat × Nat) := [(240, 0), (120, 0), (60, 1), (30, 2), (20, 3), (15, 4), (12, 5), (10, 6), (8, 7), (7, 8), (6, 10), (5, 12), (4, 15), (3, 20), (2, 30), (1, 60)]
def fitsK (k : Nat × Nat) (u : List Nat) : Option Nat := if k.2 = 0 ∧ u.length < k.1 then none else if (u.take k.1).all (fun x => decide (len64 x ≤ k.2)) = true then some (min u.length k.1) else none
def wordA : Nat → List (Nat × Nat) → List Nat → Option (Nat × Nat)
 | _, [], _ => none
 | i, k :: ks, u => match fitsK k u with
  | some n => some (i * 1152921504606846976 + packW k.2 (u.take n), n)
  | none => wordA (i + 1) ks u
def simpEncF : Nat → List Nat → Option (List Nat)
 | _, [] => some []
 | 0, _ :: _ => none
 | k + 1, a :: r => match wordA 0 kindsL (a :: r) with
  | none => none
  | some (w, n) => (simpEncF k ((a :: r).drop n)).map fun y => w :: y
def simpEnc (u : List Nat) : Option (List Nat) := simpEncF u.length u
def unpackW (x b m : Nat) : List Nat := (List.range m).map fun j => x / 2 ^ (j * b) % 2 ^ b
def simpDecA : List Nat → Nat → Option (List Nat)
 | [], _ => some []
 | x :: ws, room => if room = 0 then none else
  (simpDecA ws (room - min (kindsL.getD (x / 1152921504606846976) (0, 0)).1 room)).map fun r =>
   unpackW (x % 1152921504606846976) (kindsL.getD (x / 1152921504606846976) (0, 0)).2 (min (kindsL.getD (x / 1152921504606846976) (0, 0)).1 room) ++ r
def simpDec (ws : List Nat) (n : Nat) : Option (List Nat) := match simpDecA ws n with
 | none => none
 | some out => if out.length = n ∧ simpEnc out = some ws then some out else none
theorem packW_lt {b : Nat} : ∀ {l : List Nat}, (∀ x ∈ l, x < 2 ^ b) → packW b l < 2 ^ (b * l.length)
 | [], _ => by simp [packW]
 | x :: l, h => by
  have h1 := packW_lt (l := l) fun y hy => h y (List.mem_cons_of_mem _ hy)
  have h2 := h x (List.mem_cons_self ..)
  rw [packW, List.length_cons, Nat.mul_add, Nat.mul_one, Nat.pow_add, Nat.mul_comm (2 ^ (b * l.length))]
  have h3 : 2 ^ b * (packW b l + 1) ≤ 2 ^ b * 2 ^ (b * l.length) := Nat.mul_le_mul_left _ h1
  rw [Nat.mul_add] at h3
  omega
theorem unpackW_packW {b : Nat} : ∀ {l : List Nat}, (∀ x ∈ l, x < 2 ^ b) → ∀ m, m ≤ l.length → unpackW (packW b l) b m = l.take m
 | _, _, 0, _ => by simp [unpackW]
 | [], _, m + 1, hm => by simp at hm
 | x :: l, h, m + 1, hm => by
  have h2 := h x (List.mem_cons_self ..)
  have ih := unpackW_packW (l := l) (fun y hy => h y (List.mem_cons_of_mem _ hy)) m (by simpa using hm)
  unfold unpackW at ih ⊢
  rw [List.range_succ_eq_map, List.map_cons, List.map_map, List.take_succ_cons]
  congr 1
  ·rw [packW, Nat.zero_mul, Nat.pow_zero, Nat.div_one, Nat.add_mul_mod_self_left, Nat.mod_eq_of_lt h2]
  ·rw [← ih]
   apply List.map_congr_left
   intro j _
   show packW b (x :: l) / 2 ^ ((j + 1) * b) % 2 ^ b = _
   congr 1
   rw [packW, Nat.add_mul, Nat.one_mul, Nat.add_comm (j * b), Nat.pow_add, ← Nat.div_div_eq_div_mul, Nat.add_mul_div_left _ _ (Nat.two_pow_pos b), Nat.div_eq_of_lt h2, Nat.zero_add]
theorem fitsK_some {k : Nat × Nat} {u : List Nat} {n : Nat} (h : fitsK k u = some n) : n = min u.length k.1 ∧ (∀ x ∈ u.take n, x < 2 ^ k.2) ∧ (k.2 = 0 → n = k.1) := by
 unfold fitsK at h
 split at h
 ·cases h
 ·rename_i h0
  split at h
  ·rename_i h1
   cases h
   refine ⟨rfl, fun x hx => ?_, fun hk => by omega⟩
   have : x ∈ u.take k.1 := by
    rcases Nat.le_total u.length k.1 with h2 | h2
    ·rw [Nat.min_eq_left h2] at hx; rw [List.take_of_length_le h2]; exact List.mem_of_mem_take hx
    ·rw [Nat.min_eq_right h2] at hx; exact hx
   have := List.all_eq_true.1 h1 x this
   exact len64_le.1 (by simpa using this)
  ·cases h
theorem wordA_some : ∀ {i : Nat} {ks : List (Nat × Nat)} {u : List Nat} {w n : Nat}, wordA i ks u = some (w, n) → ∃ j k, ks[j]? = some k ∧ fitsK k u = some n ∧ w = (i + j) * 1152921504606846976 + packW k.2 (u.take n)
 | _, [], _, _, _, h => by cases h
 | i, k :: ks, u, w, n, h => by
  rw [wordA] at h
  cases hf : fitsK k u with
  | some m => rw [hf] at h; cases h; exact ⟨0, k, rfl, hf, by simp⟩
  | none =>
   rw [hf] at h
   obtain ⟨j, k', h1, h2, h3⟩ := wordA_some h
   exact ⟨j + 1, k', by simpa using h1, h2, by rw [h3]; congr 2; omega⟩
theorem kindsL_ok : ∀ (j : Nat) (k : Nat × Nat), kindsL[j]? = some k → j < 16 ∧ 0 < k.1 ∧ k.1 ≤ 240 ∧ k.2 * k.1 ≤ 60 := by
 intro j k h
 have hj : j < 16 := (List.getElem?_eq_some_iff.1 h).1
 refine ⟨hj, ?_⟩
 have hall : ∀ k ∈ kindsL, 0 < k.1 ∧ k.1 ≤ 240 ∧ k.2 * k.1 ≤ 60 := by decide
 exact hall k (List.mem_of_getElem? h)
theorem wordA_pos {u : List Nat} (hu : u ≠ []) {w n : Nat} (h : wordA 0 kindsL u = some (w, n)) : 0 < n ∧ n ≤ u.length := by
 obtain ⟨j, k, g1, g2, g3⟩ := wordA_some h
 obtain ⟨f1, f2, f3⟩ := fitsK_some g2
 obtain ⟨k1, k2, k3, k4⟩ := kindsL_ok j k g1
 have : 0 < u.length := List.length_pos_iff.2 hu
 omega
theorem simpEncF_fuel : ∀ (k m : Nat) (u : List Nat), u.length ≤ k → k ≤ m → simpEncF m u = simpEncF k u
 | k, m, [], _, _ => by rw [simpEncF, simpEncF]
 | 0, _, _ :: _, h, _ => by simp at h
 | _ + 1, 0, _ :: _, _, h => by omega
 | k + 1, m + 1, a :: r, h, hm => by
  rw [simpEncF, simpEncF]
  cases hw : wordA 0 kindsL (a :: r) with
  | none => rfl
  | some wn =>
   obtain ⟨w, n⟩ := wn
   have := wordA_pos O7 hw
   dsimp only
   rw [simpEncF_fuel k m _ (by rw [List.length_drop]; rw [List.length_cons] at h ⊢; omega) O0]
theorem simpEnc_nil : simpEnc [] = some [] := rfl
theorem simpEnc_none {u : List Nat} (hu : u ≠ []) (h : wordA 0 kindsL u = none) : simpEnc u = none := by
 cases u with
 | nil => exact absurd rfl hu
 | cons a r => unfold simpEnc; rw [List.length_cons, simpEncF, h]
theorem simpEnc_some {u : List Nat} (hu : u ≠ []) {w n : Nat} (h : wordA 0 kindsL u = some (w, n)) : simpEnc u = (simpEnc (u.drop n)).map fun y => w :: y := by
 have hp := wordA_pos hu h
 cases u with
 | nil => exact absurd rfl hu
 | cons a r =>
  unfold simpEnc
  rw [List.length_cons, simpEncF, h]
  dsimp only
  rw [simpEncF_fuel ((a :: r).drop n).length r.length _ (Nat.le_refl _) (by rw [List.length_drop, List.length_cons]; omega)]
theorem simpDecA_told : ∀ (m : Nat) (u ws : List Nat), u.length ≤ m → simpEnc u = some ws → simpDecA ws u.length = some u ∧ ∀ w ∈ ws, w < 18446744073709551616
 | m, [], ws, _, h => by
  rw [simpEnc_nil] at h
  cases h
  exact ⟨rfl, fun _ h => by cases h⟩
 | 0, _ :: _, _, hm, _ => by simp at hm
 | m + 1, a :: b, ws, hm, h => by
  have hne : a :: b ≠ [] := by simp
  generalize hu : a :: b = u at *
  have hpos : 0 < u.length := List.length_pos_iff.2 hne
  cases hw : wordA 0 kindsL u with
  | none => rw [simpEnc_none hne hw] at h; cases h
  | some wn =>
   obtain ⟨w, n⟩ := wn
   rw [simpEnc_some hne hw] at h
   obtain ⟨r, h1, rfl⟩ := Option.map_eq_some_iff.1 h
   have hn := wordA_pos hne hw
   obtain ⟨j, k, g1, g2, g3⟩ := wordA_some hw
   obtain ⟨f1, f2, f3⟩ := fitsK_some g2
   obtain ⟨k1, k2, k3, k4⟩ := kindsL_ok j k g1
   have hlt : packW k.2 (u.take n) < 1152921504606846976 := by
    refine Nat.lt_of_lt_of_le (packW_lt f2) ?_
    have : k.2 * (u.take n).length ≤ 60 := by
     rw [List.length_take]
     exact Nat.le_trans (Nat.mul_le_mul_left _ O0) k4
    exact Nat.pow_le_pow_right O4 this
   rw [Nat.zero_add] at g3
   have hdiv : w / 1152921504606846976 = j := by omega
   have hmod : w % 1152921504606846976 = packW k.2 (u.take n) := by omega
   obtain ⟨ih, ih2⟩ := simpDecA_told m (u.drop n) r O15 h1
   refine ⟨?_, ?_⟩
   ·rw [simpDecA, if_neg O0, hdiv, hmod]
    have hk : kindsL.getD j (0, 0) = k := by simp [List.getD, g1]
    rw [hk]
    have hmin : min k.1 u.length = n := by omega
    rw [hmin, show u.length - n = (u.drop n).length by simp, ih, unpackW_packW f2 n O1]
    simp [List.take_take]
   ·intro x hx
    rcases List.mem_cons.1 hx with rfl | hx
    ·omega
    ·exact ih2 x hx
theorem simpDec_told {u ws : List Nat} (h : simpEnc u = some ws) : simpDec ws u.length = some u := by
 unfold simpDec
 rw [(simpDecA_told _ u ws (Nat.le_refl _) h).1]
 dsimp only
 rw [if_pos ⟨rfl, h⟩]
end Go.Hw

namespace Go.Hw
class EqI (P : Program) (t : TypeId) (ks : outParam (List IntKind)) : Prop where
 u : ∃ fl : List Field, P.underlying t = some (.struct fl.toArray) ∧ fl.map (fun f => (f.name == "_", f.offset, P.underlying f.type)) = ks.zipIdx.map (fun p => (false, p.2, some (.int p.1)))
 s : P.stoodInHeld t = false
 g : P.eqGuardType P.depth t = false
def ints (ks : List IntKind) (aL : List Int) : List Value := List.zipWith Value.int ks aL
theorem run_part_int {P : Program} {w : World} {t : TypeId} {k : IntKind} (ht : P.underlying t = some (.int k)) {cs : List Value} {off : Nat} {v : Value} (hv : cs[off]? = some v) : (part t cs.toArray off).run P w = .ok v w := by
 have : (isAgg t).run P w = .ok false w := by
  unfold Go.isAgg
  rw [Sem.run_bind, run_underlying ht w]
  rfl
 simp [part, this, hv]
theorem run_eqFields {P : Program} {w : World} (d : Nat) : ∀ (fl : List Field) (ks : List IntKind) (aL bs : List Int) (p q : List Value), p.length = q.length → aL.length = ks.length → bs.length = ks.length →
  fl.map (fun f => (f.name == "_", f.offset, P.underlying f.type)) = (ks.zipIdx p.length).map (fun p => (false, p.2, some (.int p.1))) →
  (Op.eqFields (d + 1) (p ++ ints ks aL).toArray (q ++ ints ks bs).toArray fl).run P w = .ok (aL == bs) w
 | [], [], [], [], _, _, _, _, _, _ => by simp [Op.eqFields]
 | [], k :: ks, _, _, _, _, _, _, _, h => by simp at h
 | f :: fl, [], _, _, _, _, _, _, _, h => by simp at h
 | f :: fl, k :: ks, [], _, _, _, _, h, _, _ => by simp at h
 | f :: fl, k :: ks, a :: aL, [], _, _, _, _, h, _ => by simp at h
 | f :: fl, k :: ks, a :: aL, b :: bs, p, q, hpq, ha, hb, h => by
  simp only [List.map_cons, List.zipIdx_cons, List.cons.injEq, Prod.mk.injEq] at h
  obtain ⟨⟨h1, h2, h3⟩, h4⟩ := h
  have hn : f.name ≠ "_" := by simpa using h1
  have e1 : (p ++ ints (k :: ks) (a :: aL))[f.offset]? = some (.int k a) := by rw [h2]; simp [ints]
  have e2 : (q ++ ints (k :: ks) (b :: bs))[f.offset]? = some (.int k b) := by rw [h2, hpq]; simp [ints]
  unfold Op.eqFields
  rw [if_pos hn]
  simp only [Sem.run_bind, run_part_int h3 e1, run_part_int h3 e2, Result.andThen_ok, run_equalIn_int w d f.type k k a b h3]
  by_cases hab : a = b
  ·subst hab
   have ih := run_eqFields (P := P) (w := w) d fl ks aL bs (p ++ [.int k a]) (q ++ [.int k a]) (by simp [hpq]) (by simpa using ha) (by simpa using hb) (by simpa using h4)
   simp only [List.append_assoc, List.singleton_append] at ih
   have hi : ints (k :: ks) (a :: aL) = .int k a :: ints ks aL := rfl
   have hi2 : ints (k :: ks) (a :: bs) = .int k a :: ints ks bs := rfl
   rw [hi, hi2]
   simp [ih]
  ·have : (a == b) = false := by simp [hab]
   simp [this]
theorem run_eqI {P : Program} {w : World} {t : TypeId} {ks : List IntKind} (h : EqI P t ks) {aL bs : List Int} (ha : aL.length = ks.length) (hb : bs.length = ks.length) (d : Nat) :
  (Op.equalIn (d + 2) t (.agg (ints ks aL).toArray) (.agg (ints ks bs).toArray)).run P w = .ok (aL == bs) w := by
 obtain ⟨fl, hu, hf⟩ := h.u
 have hfo : P.fieldsOf t = fl.toArray := by unfold Program.fieldsOf; rw [hu]
 rw [run_equalIn_struct w (d + 1) t _ _ (by rw [hfo]; exact hu) h.s, hfo]
 have := run_eqFields (P := P) (w := w) d fl ks aL bs [] [] rfl ha hb (by simpa using hf)
 simpa using this
section
variable {P : Program} {e : Env} {w : World} {d : Option Nat} {ty : TypeId} {pos : String} {af : Array Edge} {g : Option (Nat × Bool)}
theorem q_eqI {t t2 : TypeId} {ks : List IntKind} [h : EqI P t ks] {x y : Operand} (aL bs : List Int) (hx : ev e x = .agg (ints ks aL).toArray) (hy : ev e y = .agg (ints ks bs).toArray) (ha : aL.length = ks.length) (hb : bs.length = ks.length) :
  Qv P e ⟨d, .binOp .eql t x y t2, ty, pos, af, g⟩ w (.bool (aL == bs)) := by
 unfold Qv
 have h1 := run_eqGuard_agg (P := P) w .eql t x y (ints ks aL).toArray (ints ks bs).toArray h.g
 have h2 := run_eql_struct (P := P) w t (ints ks aL).toArray (ints ks bs).toArray
 rw [run_eqI h ha hb 9998] at h2
 simp only [execOp, hx, hy, Sem.run_bind, h1, Result.andThen_ok, h2, Result.andThen]
 rfl
theorem q_neI {t t2 : TypeId} {ks : List IntKind} [h : EqI P t ks] {x y : Operand} (aL bs : List Int) (hx : ev e x = .agg (ints ks aL).toArray) (hy : ev e y = .agg (ints ks bs).toArray) (ha : aL.length = ks.length) (hb : bs.length = ks.length) :
  Qv P e ⟨d, .binOp .neq t x y t2, ty, pos, af, g⟩ w (.bool (!(aL == bs))) := by
 unfold Qv
 have h1 := run_eqGuard_agg (P := P) w .neq t x y (ints ks aL).toArray (ints ks bs).toArray h.g
 have h2 := run_neq_struct (P := P) w t (ints ks aL).toArray (ints ks bs).toArray
 rw [run_eqI h ha hb 9998] at h2
 simp only [execOp, hx, hy, Sem.run_bind, h1, Result.andThen_ok, h2, Result.andThen]
 rfl
end
theorem flat_get {α : Type} {f : α → List Value} {sz : Nat} (hf : ∀ x, (f x).length = sz) : ∀ (L : List α) (k : Nat) (x : α), L[k]? = some x → ∀ j v, (f x)[j]? = some v → (L.flatMap f)[k * sz + j]? = some v
 | [], k, x, h, _, _, _ => by simp at h
 | a :: L, 0, x, h, j, v, hj => by
  simp only [List.getElem?_cons_zero, Option.some.injEq] at h
  subst h
  rw [List.flatMap_cons, Nat.zero_mul, Nat.zero_add, List.getElem?_append_left (List.getElem?_eq_some_iff.1 hj).1]
  exact hj
 | a :: L, k + 1, x, h, j, v, hj => by
  have ih := flat_get hf L k x O19 j v hj
  rw [List.flatMap_cons, List.getElem?_append_right (by rw [hf, Nat.add_mul]; omega), hf]
  rw [show (k + 1) * sz + j - sz = k * sz + j by rw [Nat.add_mul]; omega]
  exact ih
theorem flat_len {α : Type} {f : α → List Value} {sz : Nat} (hf : ∀ x, (f x).length = sz) : ∀ (L : List α), (L.flatMap f).length = L.length * sz
 | [] => by simp
 | a :: L => by rw [List.flatMap_cons, List.length_append, hf, flat_len hf L, List.length_cons, Nat.add_mul]; omega
theorem flat_set {α : Type} {f : α → List Value} {sz : Nat} (hf : ∀ x, (f x).length = sz) : ∀ (L : List α) (k : Nat) (x y : α) (j : Nat) (v : Value), L[k]? = some x → j < sz → f y = (f x).set j v → (L.flatMap f).set (k * sz + j) v = (L.set k y).flatMap f
 | [], k, x, y, j, v, h, _, _ => by simp at h
 | a :: L, 0, x, y, j, v, h, hj, hy => by
  simp only [List.getElem?_cons_zero, Option.some.injEq] at h
  subst h
  rw [List.flatMap_cons, Nat.zero_mul, Nat.zero_add, List.set_cons_zero, List.flatMap_cons, hy, List.set_append, if_pos (by rw [hf]; exact hj)]
 | a :: L, k + 1, x, y, j, v, h, hj, hy => by
  have ih := flat_set hf L k x y j v O19 hj hy
  rw [List.flatMap_cons, List.set_cons_succ, List.flatMap_cons, List.set_append, if_neg (by rw [hf, Nat.add_mul]; omega), hf]
  rw [show (k + 1) * sz + j - sz = k * sz + j by rw [Nat.add_mul]; omega, ih]
theorem Rd.elem {w : World} {sz n b o : Nat} {α : Type} {f : α → List Value} {L : List α} (h : Rd w sz (Option.some ⟨b, o, none⟩) n (L.flatMap f)) (hf : ∀ x, (f x).length = sz) {k : Nat} {x : α} (hk : L[k]? = Option.some x) : At w b (o + k * sz) (f x) := by
 intro j v hj
 have := h.cell (flat_get hf L k x hk j v hj)
 rwa [← Nat.add_assoc] at this
theorem Rd.count {w : World} {sz n : Nat} {a : Option Addr} {α : Type} {f : α → List Value} {L : List α} (h : Rd w sz a n (L.flatMap f)) (hf : ∀ x, (f x).length = sz) (hs : 0 < sz) : L.length = n := by
 have := h.1
 rw [flat_len hf] at this
 exact Nat.eq_of_mul_eq_mul_right hs this
structure Smp where
 T : Int
 V : Int
 deriving DecidableEq
def Smp.cells (s : Smp) : List Value := [.int .i64 s.T, .int .u64 s.V]
abbrev smpsV (L : List Smp) : List Value := L.flatMap Smp.cells
theorem js (s : Smp) : s.cells.length = 2 := rfl
theorem smps_one (L : List Smp) : ∀ u ∈ smpsV L, u.oneCell' = true := by
 intro u hu
 simp only [List.mem_flatMap, Smp.cells, List.mem_cons, List.not_mem_nil, or_false] at hu
 obtain ⟨s, _, rfl | rfl⟩ := hu <;> rfl
structure Prt where
 blob : Int
 tag : Int
 count : Int
 frm : Int
 upto : Int
 deriving DecidableEq
def Prt.cells (p : Prt) : List Value := [.int .i64 p.blob, .int .i64 p.tag, .int .i64 p.count, .int .i64 p.frm, .int .i64 p.upto]
end Go.Hw

namespace Go.Hw
def runsA (x k : Nat) : List Nat → List UInt8
 | [] => vput k ++ vput x
 | y :: r => if y = x then runsA x (k + 1) r else vput k ++ (vput x ++ runsA y 1 r)
def runsEnc : List Nat → List UInt8
 | [] => []
 | x :: r => runsA x 1 r
def lead (x : Nat) : List Nat → Nat
 | [] => 0
 | y :: r => if y = x then lead x r + 1 else 0
theorem lead_le (x : Nat) : ∀ l : List Nat, lead x l ≤ l.length
 | [] => Nat.le_refl _
 | y :: r => by
  rw [lead]; split
  ·have := lead_le x r; rw [List.length_cons]; omega
  ·exact Nat.zero_le _
theorem runsA_eq (x : Nat) : ∀ (l : List Nat) (k : Nat), runsA x k l = vput (k + lead x l) ++ (vput x ++ runsEnc (l.drop (lead x l)))
 | [], k => by simp [runsA, lead, runsEnc]
 | y :: r, k => by
  rw [runsA, lead]
  split
  ·rename_i h
   rw [runsA_eq x r (k + 1), List.drop_succ_cons]
   congr 2
   omega
  ·rfl
theorem runsEnc_cons (x : Nat) (r : List Nat) : runsEnc (x :: r) = vput (1 + lead x r) ++ (vput x ++ runsEnc (r.drop (lead x r))) := runsA_eq x r 1
theorem lead_split (x : Nat) : ∀ l : List Nat, List.replicate (lead x l) x ++ l.drop (lead x l) = l
 | [] => rfl
 | y :: r => by
  rw [lead]; split
  ·rename_i h; rw [List.replicate_succ, List.drop_succ_cons, List.cons_append, lead_split x r, h]
  ·rfl
theorem lead_head (x : Nat) : ∀ l : List Nat, (l.drop (lead x l)).head? ≠ some x
 | [] => by simp [lead]
 | y :: r => by
  rw [lead]; split
  ·rw [List.drop_succ_cons]; exact lead_head x r
  ·rename_i h; simpa using h
def runsDecA : Nat → List UInt8 → Nat → Option Nat → Option (List Nat)
 | _, [], room, _ => if room = 0 then some [] else none
 | 0, _ :: _, _, _ => none
 | f + 1, c :: b, room, last =>
  if (vget (c :: b)).2 = 0 ∨ (vget ((c :: b).drop (vget (c :: b)).2)).2 = 0 ∨ (vget (c :: b)).1 = 0 ∨ room < (vget (c :: b)).1 ∨ last = some (vget ((c :: b).drop (vget (c :: b)).2)).1 then none
  else (runsDecA f ((c :: b).drop ((vget (c :: b)).2 + (vget ((c :: b).drop (vget (c :: b)).2)).2)) (room - (vget (c :: b)).1) (some (vget ((c :: b).drop (vget (c :: b)).2)).1)).map fun r => List.replicate (vget (c :: b)).1 (vget ((c :: b).drop (vget (c :: b)).2)).1 ++ r
def runsDec (b : List UInt8) (n : Nat) : Option (List Nat) := runsDecA b.length b n none
theorem runsDecA_told : ∀ (m : Nat) (v : List Nat) (last : Option Nat), v.length ≤ m → v.length < 18446744073709551616 → (∀ x ∈ v, x < 18446744073709551616) → (v.head? ≠ last ∨ last = none) → ∀ f, (runsEnc v).length ≤ f → runsDecA f (runsEnc v) v.length last = some v
 | m, [], last, _, _, _, _, f, _ => by cases f <;> rfl
 | 0, _ :: _, _, h, _, _, _, _, _ => by simp at h
 | m + 1, x :: r, last, hm, hl, hv, hh, f, hf => by
  have hx := hv x (List.mem_cons_self ..)
  have hle := lead_le x r
  rw [List.length_cons] at hl hm
  have hk : 1 + lead x r < 18446744073709551616 := by omega
  have e := runsEnc_cons x r
  have h1 : vget (runsEnc (x :: r)) = (1 + lead x r, (vput (1 + lead x r)).length) := by rw [e]; exact gb hk _
  have h2 : (runsEnc (x :: r)).drop (vput (1 + lead x r)).length = vput x ++ runsEnc (r.drop (lead x r)) := by rw [e]; simp
  have h3 : vget (vput x ++ runsEnc (r.drop (lead x r))) = (x, (vput x).length) := gb hx _
  have h4 : (runsEnc (x :: r)).drop ((vput (1 + lead x r)).length + (vput x).length) = runsEnc (r.drop (lead x r)) := by rw [← List.drop_drop, h2]; simp
  have p1 := jq (1 + lead x r)
  have p2 := jq x
  have hlen : (runsEnc (x :: r)).length = (vput (1 + lead x r)).length + ((vput x).length + (runsEnc (r.drop (lead x r))).length) := by rw [e]; simp
  generalize hE : runsEnc (x :: r) = E at *
  cases f with
  | zero => omega
  | succ f =>
   cases E with
   | nil => simp at hlen; omega
   | cons c b =>
    rw [runsDecA, h1]
    dsimp only
    rw [h2, h3]
    dsimp only
    rw [if_neg, h4, List.length_cons, show r.length + 1 - (1 + lead x r) = (r.drop (lead x r)).length by rw [List.length_drop]; omega,
     runsDecA_told m (r.drop (lead x r)) (some x) O15 O15 (fun y hy => hv y (List.mem_cons_of_mem _ (List.mem_of_mem_drop hy))) (.inl (lead_head x r)) f O0]
    ·show some (List.replicate (1 + lead x r) x ++ _) = _
     rw [Nat.add_comm, List.replicate_succ, List.cons_append, lead_split]
    ·rintro (h | h | h | h | h)
     ·omega
     ·omega
     ·omega
     ·rw [List.length_cons] at h; omega
     ·rcases hh with hh | hh
      ·exact hh (by rw [h]; rfl)
      ·rw [hh] at h; cases h
theorem runsDec_told {v : List Nat} (hl : v.length < 18446744073709551616) (hv : ∀ x ∈ v, x < 18446744073709551616) : runsDec (runsEnc v) v.length = some v :=
 runsDecA_told _ v none (Nat.le_refl _) hl hv (.inr rfl) _ (Nat.le_refl _)
def getAll : Nat → Nat → RS → Option (List Nat)
 | 0, _, _ => some []
 | k + 1, wide, s => if (s.get wide).2.bad = true then none else (getAll k wide (s.get wide).2).map fun r => (s.get wide).1 :: r
theorem getAll_told (wide : Nat) (r : List Bool) : ∀ vs : List Nat, (∀ v ∈ vs, v < 2 ^ wide) → getAll vs.length wide ⟨vs.flatMap (fun x => bitsOf x wide) ++ r, false⟩ = some vs
 | [], _ => rfl
 | v :: vs, h => by
  rw [List.flatMap_cons, List.append_assoc, List.length_cons, getAll, RS.get_put, Nat.mod_eq_of_lt (h v (List.mem_cons_self ..))]
  dsimp only
  rw [getAll_told wide r vs fun x hx => h x (List.mem_cons_of_mem _ hx)]
  rfl
theorem getAll_len : ∀ (k wide : Nat) (s : RS) (x : List Nat), getAll k wide s = some x → x.length = k
 | 0, _, _, x, h => by cases h; rfl
 | k + 1, wide, s, x, h => by
  rw [getAll] at h
  split at h
  ·cases h
  ·obtain ⟨y, h1, rfl⟩ := Option.map_eq_some_iff.1 h
   simp [getAll_len k _ _ y h1]
def leastA (m : Nat) : List Nat → Nat
 | [] => m
 | x :: r => leastA (min m x) r
def greatA (m : Nat) : List Nat → Nat
 | [] => m
 | x :: r => greatA (max m x) r
theorem leastA_le : ∀ (l : List Nat) (m : Nat), leastA m l ≤ m ∧ ∀ x ∈ l, leastA m l ≤ x
 | [], m => ⟨Nat.le_refl _, fun _ h => by cases h⟩
 | y :: r, m => by
  obtain ⟨h1, h2⟩ := leastA_le r (min m y)
  refine ⟨by rw [leastA]; omega, fun x hx => ?_⟩
  rw [leastA]
  rcases List.mem_cons.1 hx with rfl | hx
  ·omega
  ·exact h2 x hx
theorem greatA_ge : ∀ (l : List Nat) (m : Nat), m ≤ greatA m l ∧ ∀ x ∈ l, x ≤ greatA m l
 | [], m => ⟨Nat.le_refl _, fun _ h => by cases h⟩
 | y :: r, m => by
  obtain ⟨h1, h2⟩ := greatA_ge r (max m y)
  refine ⟨by rw [greatA]; omega, fun x hx => ?_⟩
  rw [greatA]
  rcases List.mem_cons.1 hx with rfl | hx
  ·omega
  ·exact h2 x hx
theorem leastA_lt : ∀ (l : List Nat) (m : Nat), m < 18446744073709551616 → leastA m l < 18446744073709551616
 | l, m, h => Nat.lt_of_le_of_lt (leastA_le l m).1 h
theorem greatA_lt : ∀ (l : List Nat) (m : Nat), m < 18446744073709551616 → (∀ x ∈ l, x < 18446744073709551616) → greatA m l < 18446744073709551616
 | [], m, h, _ => h
 | y :: r, m, h, hl => by
  rw [greatA]
  have := hl y (List.mem_cons_self ..)
  exact greatA_lt r _ O0 fun x hx => hl x (List.mem_cons_of_mem _ hx)
def frameEnc : List Nat → List UInt8
 | [] => []
 | x :: r => vput (leastA x r) ++ (UInt8.ofNat (len64 (greatA x r - leastA x r)) :: pack ((x :: r).flatMap fun y => bitsOf (y - leastA x r) (len64 (greatA x r - leastA x r))))
def frameDec (b : List UInt8) (n : Nat) : Option (List Nat) :=
 if n = 0 then (if b = [] then some [] else none)
 else if (vget b).2 = 0 then none else match b[(vget b).2]? with
  | none => none
  | some c => if 64 < c.toNat then none else
   match getAll n c.toNat ⟨bitsB (b.drop ((vget b).2 + 1)), false⟩ with
   | none => none
   | some l => if frameEnc (l.map fun x => summ (vget b).1 x) = b then some (l.map fun x => summ (vget b).1 x) else none
theorem frameDec_told {v : List Nat} (hv : ∀ x ∈ v, x < 18446744073709551616) : frameDec (frameEnc v) v.length = some v := by
 cases v with
 | nil => rfl
 | cons x r =>
  have hx := hv x (List.mem_cons_self ..)
  have hl := leastA_lt r x hx
  have hg := greatA_lt r x hx fun y hy => hv y (List.mem_cons_of_mem _ hy)
  have hw : len64 (greatA x r - leastA x r) ≤ 64 := len64_64 O0
  have hmem : ∀ y ∈ x :: r, leastA x r ≤ y ∧ y ≤ greatA x r := by
   intro y hy
   rcases List.mem_cons.1 hy with rfl | hy
   ·exact ⟨(leastA_le r y).1, (greatA_ge r y).1⟩
   ·exact ⟨(leastA_le r x).2 y hy, (greatA_ge r x).2 y hy⟩
  have hget := gb hl (UInt8.ofNat (len64 (greatA x r - leastA x r)) :: pack ((x :: r).flatMap fun y => bitsOf (y - leastA x r) (len64 (greatA x r - leastA x r))))
  have hp := jq (leastA x r)
  have hE : frameEnc (x :: r) = vput (leastA x r) ++ (UInt8.ofNat (len64 (greatA x r - leastA x r)) :: pack ((x :: r).flatMap fun y => bitsOf (y - leastA x r) (len64 (greatA x r - leastA x r)))) := rfl
  rw [← hE] at hget
  have h1 : (frameEnc (x :: r))[(vput (leastA x r)).length]? = some (UInt8.ofNat (len64 (greatA x r - leastA x r))) := by rw [hE, List.getElem?_append_right (Nat.le_refl _)]; simp
  have h2 : (frameEnc (x :: r)).drop ((vput (leastA x r)).length + 1) = pack ((x :: r).flatMap fun y => bitsOf (y - leastA x r) (len64 (greatA x r - leastA x r))) := by
   rw [hE, ← List.drop_drop, List.drop_left]; rfl
  have hc : (UInt8.ofNat (len64 (greatA x r - leastA x r))).toNat = len64 (greatA x r - leastA x r) := by rw [UInt8.toNat_ofNat', Nat.mod_eq_of_lt O0]
  unfold frameDec
  rw [if_neg O7, hget]
  dsimp only
  rw [if_neg O0, h1]
  dsimp only
  rw [hc, if_neg O0, h2, bitsB_pack]
  have hga : getAll (x :: r).length (len64 (greatA x r - leastA x r)) ⟨((x :: r).flatMap fun y => bitsOf (y - leastA x r) (len64 (greatA x r - leastA x r))) ++ List.replicate (8 * ((((x :: r).flatMap fun y => bitsOf (y - leastA x r) (len64 (greatA x r - leastA x r))).length + 7) / 8) - ((x :: r).flatMap fun y => bitsOf (y - leastA x r) (len64 (greatA x r - leastA x r))).length) false, false⟩ = some ((x :: r).map fun y => y - leastA x r) := by
   have := getAll_told (len64 (greatA x r - leastA x r)) (List.replicate (8 * ((((x :: r).flatMap fun y => bitsOf (y - leastA x r) (len64 (greatA x r - leastA x r))).length + 7) / 8) - ((x :: r).flatMap fun y => bitsOf (y - leastA x r) (len64 (greatA x r - leastA x r))).length) false) ((x :: r).map fun y => y - leastA x r) (by
    intro z hz
    obtain ⟨y, hy, rfl⟩ := List.mem_map.1 hz
    obtain ⟨m1, m2⟩ := hmem y hy
    exact Nat.lt_of_le_of_lt (by omega : y - leastA x r ≤ greatA x r - leastA x r) (len64_lt _))
   rw [List.flatMap_map, List.length_map] at this
   exact this
  rw [hga]
  dsimp only
  have hback : ((x :: r).map fun y => y - leastA x r).map (fun z => summ (leastA x r) z) = x :: r := by
   rw [List.map_map]
   conv => rhs; rw [← List.map_id (x :: r)]
   apply List.map_congr_left
   intro y hy
   obtain ⟨m1, m2⟩ := hmem y hy
   show summ (leastA x r) (y - leastA x r) = y
   unfold summ
   omega
  rw [hback, if_pos rfl]
def unlikeA (l : List Nat) : List Nat → Option (List Nat)
 | [] => some l
 | x :: r => if x ∈ l then unlikeA l r else if l.length = 256 then none else unlikeA (l ++ [x]) r
theorem unlikeA_some : ∀ (v l m : List Nat), unlikeA l v = some m → l.length ≤ 256 → (∃ t, m = l ++ t) ∧ (∀ x ∈ v, x ∈ m) ∧ m.length ≤ 256 ∧ (∀ x ∈ m, x ∈ l ∨ x ∈ v)
 | [], l, m, h, hl => by cases h; exact ⟨⟨[], by simp⟩, (fun _ h => by cases h), hl, fun _ h => .inl h⟩
 | y :: r, l, m, h, hl => by
  rw [unlikeA] at h
  split at h
  ·rename_i hy
   obtain ⟨⟨t, h1⟩, h2, h3, h4⟩ := unlikeA_some r l m h hl
   refine ⟨⟨t, h1⟩, fun x hx => ?_, h3, fun x hx => (h4 x hx).imp id (List.mem_cons_of_mem _)⟩
   rcases List.mem_cons.1 hx with rfl | hx
   ·rw [h1]; exact List.mem_append_left _ hy
   ·exact h2 x hx
  ·split at h
   ·cases h
   ·obtain ⟨⟨t, h1⟩, h2, h3, h4⟩ := unlikeA_some r (l ++ [y]) m h O1
    refine ⟨⟨y :: t, by rw [h1]; simp⟩, fun x hx => ?_, h3, fun x hx => ?_⟩
    ·rcases List.mem_cons.1 hx with rfl | hx
     ·rw [h1]; simp
     ·exact h2 x hx
    ·rcases h4 x hx with h | h
     ·rcases List.mem_append.1 h with h | h
      ·exact .inl h
      ·simp at h; subst h; exact .inr (List.mem_cons_self ..)
     ·exact .inr (List.mem_cons_of_mem _ h)
def dictBytes (l v : List Nat) : List UInt8 := vput l.length ++ (l.flatMap vput ++ pack (v.flatMap fun x => bitsOf (l.idxOf x) (len64 (l.length - 1))))
def dictEnc (v : List Nat) : Option (List UInt8) := match unlikeA [] v with
 | none => none
 | some l => if v = [] then some [] else some (dictBytes l v)
def getVs : Nat → List UInt8 → Option (List Nat × List UInt8)
 | 0, b => some ([], b)
 | k + 1, b => if (vget b).2 = 0 then none else (getVs k (b.drop (vget b).2)).map fun r => ((vget b).1 :: r.1, r.2)
theorem getVs_told (r : List UInt8) : ∀ l : List Nat, (∀ x ∈ l, x < 18446744073709551616) → getVs l.length (l.flatMap vput ++ r) = some (l, r)
 | [], _ => rfl
 | x :: l, h => by
  have hg := gb (h x (List.mem_cons_self ..)) (l.flatMap vput ++ r)
  have hp := jq x
  rw [List.flatMap_cons, List.append_assoc, List.length_cons, getVs, hg]
  dsimp only
  rw [if_neg O0, List.drop_left, getVs_told r l fun y hy => h y (List.mem_cons_of_mem _ hy)]
  rfl
def pickAll (l : List Nat) : List Nat → Option (List Nat)
 | [] => some []
 | a :: r => match l[a]? with
  | none => none
  | some x => (pickAll l r).map fun y => x :: y
def dictDec (b : List UInt8) (n : Nat) : Option (List Nat) :=
 if n = 0 then (if b = [] then some [] else none)
 else if (vget b).2 = 0 ∨ (vget b).1 = 0 ∨ 256 < (vget b).1 then none
 else match getVs (vget b).1 (b.drop (vget b).2) with
  | none => none
  | some (l, rest) => match getAll n (len64 (l.length - 1)) ⟨bitsB rest, false⟩ with
   | none => none
   | some at_ => match pickAll l at_ with
    | none => none
    | some out => if dictEnc out = some b then some out else none
theorem pickAll_told {l : List Nat} : ∀ v : List Nat, (∀ x ∈ v, x ∈ l) → pickAll l (v.map fun x => l.idxOf x) = some v
 | [], _ => rfl
 | x :: v, h => by
  have hx := h x (List.mem_cons_self ..)
  have h1 : l[l.idxOf x]? = some x := by
   rw [List.getElem?_eq_getElem (List.idxOf_lt_length_iff.2 hx), List.getElem_idxOf]
  rw [List.map_cons, pickAll, h1]
  dsimp only
  rw [pickAll_told v fun y hy => h y (List.mem_cons_of_mem _ hy)]
  rfl
theorem dictDec_told {v : List Nat} {b : List UInt8} (hv : ∀ x ∈ v, x < 18446744073709551616) (h : dictEnc v = some b) : dictDec b v.length = some v := by
 have h0 := h
 unfold dictEnc at h
 cases hu : unlikeA [] v with
 | none => rw [hu] at h; cases h
 | some l =>
  rw [hu] at h
  dsimp only at h
  by_cases hn : v = []
  ·rw [if_pos hn] at h; cases h; subst hn; rfl
  ·rw [if_neg hn] at h
   cases h
   obtain ⟨_, h2, h3, h4⟩ := unlikeA_some v [] l hu O7
   have hl : ∀ x ∈ l, x < 18446744073709551616 := fun x hx => by
    rcases h4 x hx with h | h
    ·cases h
    ·exact hv x h
   have hpos : 0 < v.length := List.length_pos_iff.2 hn
   have hlp : 0 < l.length := by
    cases v with
    | nil => exact absurd rfl hn
    | cons x r => exact List.length_pos_of_mem (h2 x (List.mem_cons_self ..))
   have hg := gb (show l.length < 18446744073709551616 by omega) (l.flatMap vput ++ pack (v.flatMap fun x => bitsOf (l.idxOf x) (len64 (l.length - 1))))
   have hp := jq l.length
   unfold dictDec
   rw [if_neg O0, show vget (dictBytes l v) = _ from hg]
   dsimp only
   rw [if_neg O0, show (dictBytes l v).drop (vput l.length).length = _ from List.drop_left, getVs_told _ l hl]
   dsimp only
   rw [bitsB_pack]
   have hga := getAll_told (len64 (l.length - 1)) (List.replicate (8 * (((v.flatMap fun x => bitsOf (l.idxOf x) (len64 (l.length - 1))).length + 7) / 8) - (v.flatMap fun x => bitsOf (l.idxOf x) (len64 (l.length - 1))).length) false) (v.map fun x => l.idxOf x) (by
    intro z hz
    obtain ⟨y, hy, rfl⟩ := List.mem_map.1 hz
    have := List.idxOf_lt_length_iff.2 (h2 y hy)
    exact Nat.lt_of_le_of_lt (by omega : l.idxOf y ≤ l.length - 1) (len64_lt _))
   rw [List.flatMap_map, List.length_map] at hga
   rw [hga]
   dsimp only
   rw [pickAll_told v h2]
   dsimp only
   rw [if_pos h0]
end Go.Hw

namespace Go.Hw
def zigU (u : Nat) : Nat := if u < 9223372036854775808 then 2 * u else 36893488147419103231 - 2 * u
def zagU (u : Nat) : Nat := if u % 2 = 0 then u / 2 else 18446744073709551615 - u / 2
theorem zigU_lt {u : Nat} (h : u < 18446744073709551616) : zigU u < 18446744073709551616 := by unfold zigU; split <;> omega
theorem zagU_lt {u : Nat} (h : u < 18446744073709551616) : zagU u < 18446744073709551616 := by unfold zagU; split <;> omega
theorem zag_zig {u : Nat} (h : u < 18446744073709551616) : zagU (zigU u) = u := by
 unfold zigU
 split
 ·unfold zagU; rw [if_pos O0]; omega
 ·unfold zagU; rw [if_neg O0]; omega
def stepsL (was : Nat) : List Nat → List Nat
 | [] => []
 | x :: r => zigU (diff x was) :: stepsL x r
def sumsL (was : Nat) : List Nat → List Nat
 | [] => []
 | x :: r => summ was (zagU x) :: sumsL (summ was (zagU x)) r
theorem sums_steps : ∀ (v : List Nat) (was : Nat), was < 18446744073709551616 → (∀ x ∈ v, x < 18446744073709551616) → sumsL was (stepsL was v) = v
 | [], _, _, _ => rfl
 | x :: r, was, hw, h => by
  have hx := h x (List.mem_cons_self ..)
  have e : summ was (zagU (zigU (diff x was))) = x := by
   rw [zag_zig (Nat.mod_lt _ O4)]; unfold summ; omega
  rw [stepsL, sumsL, e, sums_steps r x hx fun y hy => h y (List.mem_cons_of_mem _ hy)]
theorem stepsL_len : ∀ (v : List Nat) (was : Nat), (stepsL was v).length = v.length
 | [], _ => rfl
 | x :: r, was => by simp [stepsL, stepsL_len r x]
theorem sumsL_len : ∀ (v : List Nat) (was : Nat), (sumsL was v).length = v.length
 | [], _ => rfl
 | x :: r, was => by simp [sumsL, sumsL_len r]
theorem stepsL_lt : ∀ (v : List Nat) (was : Nat), ∀ x ∈ stepsL was v, x < 18446744073709551616
 | [], _, _, h => by cases h
 | y :: r, was, x, h => by
  rw [stepsL] at h
  rcases List.mem_cons.1 h with rfl | h
  ·exact zigU_lt (Nat.mod_lt _ O4)
  ·exact stepsL_lt r y x h
def be8 (x : Nat) : List UInt8 := [UInt8.ofNat (x / 2 ^ 56), UInt8.ofNat (x / 2 ^ 48), UInt8.ofNat (x / 2 ^ 40), UInt8.ofNat (x / 2 ^ 32), UInt8.ofNat (x / 2 ^ 24), UInt8.ofNat (x / 2 ^ 16), UInt8.ofNat (x / 2 ^ 8), UInt8.ofNat x]
def bigL (w : List Nat) : List UInt8 := w.flatMap be8
def wordsA (x k : Nat) : List UInt8 → List Nat
 | [] => if k = 0 then [] else [x]
 | c :: r => if k = 8 then x :: wordsA c.toNat 1 r else wordsA ((x * 256 + c.toNat) % 18446744073709551616) (k + 1) r
def wordsL : List UInt8 → List Nat
 | [] => []
 | c :: r => wordsA c.toNat 1 r
theorem wordsL_bigL : ∀ w : List Nat, (∀ x ∈ w, x < 18446744073709551616) → wordsL (bigL w) = w ∧ ∀ x, wordsA x 8 (bigL w) = x :: w
 | [], _ => ⟨rfl, fun _ => rfl⟩
 | x :: w, h => by
  have hx := h x (List.mem_cons_self ..)
  obtain ⟨_, ih⟩ := wordsL_bigL w fun y hy => h y (List.mem_cons_of_mem _ hy)
  have e : bigL (x :: w) = be8 x ++ bigL w := rfl
  have key : wordsA (UInt8.ofNat (x / 2 ^ 56)).toNat 1 (UInt8.ofNat (x / 2 ^ 48) :: UInt8.ofNat (x / 2 ^ 40) :: UInt8.ofNat (x / 2 ^ 32) :: UInt8.ofNat (x / 2 ^ 24) :: UInt8.ofNat (x / 2 ^ 16) :: UInt8.ofNat (x / 2 ^ 8) :: UInt8.ofNat x :: bigL w) = x :: w := by
   rw [wordsA, if_neg O4, wordsA, if_neg O4, wordsA, if_neg O4, wordsA, if_neg O4, wordsA, if_neg O4, wordsA, if_neg O4, wordsA, if_neg O4]
   rw [UInt8.toNat_ofNat', UInt8.toNat_ofNat', UInt8.toNat_ofNat', UInt8.toNat_ofNat', UInt8.toNat_ofNat', UInt8.toNat_ofNat', UInt8.toNat_ofNat', UInt8.toNat_ofNat']
   have e2 : (((((((x / 2 ^ 56 % 2 ^ 8 * 256 + x / 2 ^ 48 % 2 ^ 8) % 18446744073709551616 * 256 + x / 2 ^ 40 % 2 ^ 8) % 18446744073709551616 * 256 + x / 2 ^ 32 % 2 ^ 8) % 18446744073709551616 * 256 + x / 2 ^ 24 % 2 ^ 8) % 18446744073709551616 * 256 + x / 2 ^ 16 % 2 ^ 8) % 18446744073709551616 * 256 + x / 2 ^ 8 % 2 ^ 8) % 18446744073709551616 * 256 + x % 2 ^ 8) % 18446744073709551616 = x := by
    simp only [Nat.reducePow]
    omega
   rw [e2]
   exact ih x
  refine ⟨?_, fun y => ?_⟩
  ·rw [e]; exact key
  ·rw [e]
   show wordsA y 8 (UInt8.ofNat (x / 2 ^ 56) :: _) = _
   rw [wordsA, if_pos rfl]
   congr 1
theorem bigL_len (w : List Nat) : (bigL w).length = 8 * w.length := by
 induction w with
 | nil => rfl
 | cons x w ih =>
  show (be8 x ++ bigL w).length = _
  rw [List.length_append, ih, List.length_cons]
  show 8 + _ = _
  omega
def sameEnc : List Nat → Option (List UInt8)
 | [] => some []
 | x :: r => if r.all (fun y => decide (y = x)) = true then some (vput x) else none
def valuesEnc (tag : Int) (v : List Nat) : Option (List UInt8) :=
 if tag = 1 then some (pack (xorBits v)) else if tag = 2 then (simpEnc (stepsL 0 v)).map bigL else if tag = 3 then some (runsEnc v) else if tag = 4 then some (frameEnc v)
 else if tag = 5 then dictEnc v else if tag = 6 then sameEnc v else none
def valuesDec (tag : Int) (b : List UInt8) (n : Nat) : Option (List Nat) :=
 if tag = 1 then xorDec n ⟨bitsB b, false⟩ else if tag = 2 then (if b.length % 8 = 0 then (simpDec (wordsL b) n).map (sumsL 0) else none) else if tag = 3 then runsDec b n else if tag = 4 then frameDec b n
 else if tag = 5 then dictDec b n else if tag = 6 then some (List.replicate n (vget b).1) else none
def timesOf (l : List Smp) : List Int := l.map Smp.T
def valsOf (l : List Smp) : List Nat := l.map fun s => s.V.toNat
def Smp.Wf (s : Smp) : Prop := I64 s.T ∧ 0 ≤ s.V ∧ s.V < 18446744073709551616
def risesA (t : Int) : List Smp → Bool
 | [] => true
 | s :: r => decide (t < s.T) && risesA s.T r
def rises : List Smp → Bool
 | [] => true
 | s :: r => risesA s.T r
def rising (l : List Smp) : Bool := rises l && decide (l.length ≤ 65535)
def suitBytes (l : List Smp) (b : List UInt8) : List UInt8 := vput (pack (timesBits (timesOf l))).length ++ (pack (timesBits (timesOf l)) ++ b)
def suitEnc (tag : Int) (l : List Smp) : Option (List UInt8) := if rising l = true then (valuesEnc tag (valsOf l)).map (suitBytes l) else none
def zipS : List Int → List Nat → List Smp
 | t :: ts, v :: vs => ⟨t, v⟩ :: zipS ts vs
 | _, _ => []
def suitDec (tag : Int) (b : List UInt8) (n : Int) : Option (List Smp) :=
 if (vget b).2 = 0 ∨ n < 0 ∨ 65535 < n ∨ b.length - (vget b).2 < (vget b).1 then none
 else match timesDec n.toNat ⟨bitsB ((b.drop (vget b).2).take (vget b).1), false⟩, valuesDec tag (b.drop ((vget b).2 + (vget b).1)) n.toNat with
  | some x, some v => if suitEnc tag (zipS x.1 v) = some b then some (zipS x.1 v) else none
  | _, _ => none
theorem zipS_of : ∀ l : List Smp, (∀ s ∈ l, s.Wf) → zipS (timesOf l) (valsOf l) = l
 | [], _ => rfl
 | s :: l, h => by
  obtain ⟨_, h1, _⟩ := h s (List.mem_cons_self ..)
  have ih := zipS_of l fun x hx => h x (List.mem_cons_of_mem _ hx)
  show (⟨s.T, (s.V.toNat : Int)⟩ : Smp) :: zipS (timesOf l) (valsOf l) = _
  rw [ih, Int.toNat_of_nonneg h1]
theorem valuesDec_told {tag : Int} {v : List Nat} {b : List UInt8} (hl : v.length < 18446744073709551616) (hv : ∀ x ∈ v, x < 18446744073709551616) (h : valuesEnc tag v = some b) : valuesDec tag b v.length = some v := by
 unfold valuesEnc at h
 unfold valuesDec
 repeat' split at h
 ·cases h; rw [if_pos ‹_›, bitsB_pack]; exact xorDec_told v hv _
 ·rw [if_neg ‹_›, if_pos ‹_›]
  obtain ⟨ws, h1, rfl⟩ := Option.map_eq_some_iff.1 h
  obtain ⟨_, h3⟩ := simpDecA_told _ _ ws (Nat.le_refl _) h1
  rw [if_pos (by rw [bigL_len]; omega), (wordsL_bigL ws h3).1]
  have h4 := simpDec_told h1
  rw [stepsL_len] at h4
  rw [h4, Option.map_some, sums_steps v 0 O4 hv]
 ·cases h; rw [if_neg ‹_›, if_neg ‹_›, if_pos ‹_›]; exact runsDec_told hl hv
 ·cases h; rw [if_neg ‹_›, if_neg ‹_›, if_neg ‹_›, if_pos ‹_›]; exact frameDec_told hv
 ·rw [if_neg ‹_›, if_neg ‹_›, if_neg ‹_›, if_neg ‹_›, if_pos ‹_›]; exact dictDec_told hv h
 ·rw [if_neg ‹_›, if_neg ‹_›, if_neg ‹_›, if_neg ‹_›, if_neg ‹_›, if_pos ‹_›]
  cases v with
  | nil => rfl
  | cons x r =>
   rw [sameEnc] at h
   split at h
   ·rename_i hall
    cases h
    have := gb (hv x (List.mem_cons_self ..)) []
    rw [List.append_nil] at this
    rw [this]
    congr 1
    apply List.ext_getElem O7
    intro i h1 h2
    rw [List.getElem_replicate]
    cases i with
    | zero => rfl
    | succ i =>
     rw [List.getElem_cons_succ]
     have := List.all_eq_true.1 hall (r[i]'(by simpa using h2)) (List.getElem_mem _)
     exact (by simpa using this : r[i]'(by simpa using h2) = x).symm
   ·cases h
 ·cases h
theorem suitDec_told {tag : Int} {l : List Smp} {b : List UInt8} (hw : ∀ s ∈ l, s.Wf) (hb : b.length < 18446744073709551616) (h : suitEnc tag l = some b) : suitDec tag b l.length = some l := by
 have h0 := h
 unfold suitEnc at h
 split at h
 ·rename_i hr
  obtain ⟨x, h1, rfl⟩ := Option.map_eq_some_iff.1 h
  have hlen : l.length ≤ 65535 := by
   unfold rising at hr
   simp only [Bool.and_eq_true, decide_eq_true_eq] at hr
   exact hr.2
  have ht : ∀ t ∈ timesOf l, I64 t := by
   intro t ht
   obtain ⟨s, hs, rfl⟩ := List.mem_map.1 ht
   exact (hw s hs).1
  have hv : ∀ v ∈ valsOf l, v < 18446744073709551616 := by
   intro t ht
   obtain ⟨s, hs, rfl⟩ := List.mem_map.1 ht
   obtain ⟨_, h2, h3⟩ := hw s hs
   omega
  have hvl : (valsOf l).length = l.length := by simp [valsOf]
  have htl : (timesOf l).length = l.length := by simp [timesOf]
  have hpl : (suitBytes l x).length = (vput (pack (timesBits (timesOf l))).length).length + ((pack (timesBits (timesOf l))).length + x.length) := by simp [suitBytes]
  have hg : vget (suitBytes l x) = _ := gb (show (pack (timesBits (timesOf l))).length < 18446744073709551616 by omega) (pack (timesBits (timesOf l)) ++ x)
  have hp := jq (pack (timesBits (timesOf l))).length
  have hdr : (suitBytes l x).drop (vput (pack (timesBits (timesOf l))).length).length = pack (timesBits (timesOf l)) ++ x := List.drop_left
  have hd2 : (suitBytes l x).drop ((vput (pack (timesBits (timesOf l))).length).length + (pack (timesBits (timesOf l))).length) = x := by rw [← List.drop_drop, hdr, List.drop_left]
  unfold suitDec
  rw [hg]
  dsimp only
  rw [if_neg O0, hdr, List.take_left, hd2, Int.toNat_natCast, bitsB_pack]
  have e1 := timesDec_told (timesOf l) ht (List.replicate (8 * (((timesBits (timesOf l)).length + 7) / 8) - (timesBits (timesOf l)).length) false)
  rw [htl] at e1
  have e2 := valuesDec_told (by rw [hvl]; omega) hv h1
  rw [hvl] at e2
  rw [e1, e2]
  dsimp only
  rw [zipS_of l hw, if_pos h0]
 ·cases h
end Go.Hw

namespace Go.Proofs.YtnnehiiblfmpnaaGreatDoor
open Go.Hw
set_option maxHeartbeats 4000000
set_option maxRecDepth 100000
abbrev OwnB (a : Option Addr) (c : Nat) (bs : List UInt8) : HProp := Own 5 1 a bs.length c (bytesV bs)
section
variable {w0 w : World} {l : List HProp}
theorem bytes_Clone {sl : Option Addr} {c : Nat} {bs : List UInt8} (h : St w0 l w) (hr : ∀ w', St w0 l w' → Rd w' 1 sl bs.length (bytesV bs)) (hn : bs.length ≤ 140737488355328) : Ret Tryz.prog 60 [.slice sl bs.length c] w fun v w' => ∃ a c', v = .slice a bs.length c' ∧ St w0 (OwnB a c' bs :: l) w' := by
 refine enter Tryz.func60 rfl Tryz.results60 Tryz.ntmps60 rfl ?_
 refine Yn ?_; refine ql ?_; refine Y5 ?_
 refine qz (q_seqnil rfl rfl) rfl ?_
 refine qq (qy sl.isNone rfl (fun hs => ?_) (fun hs => ?_))
 ·refine Y2p ?_
  obtain rfl : sl = none := by simpa using hs
  have h2 := hr w h
  obtain ⟨h3, h4⟩ := h2
  have h5 : bs.length = 0 := by rcases h4 with h | ⟨b, o, h, _⟩; exact h; cases h
  obtain rfl : bs = [] := List.eq_nil_of_length_eq_zero h5
  exact qq (qv (bq1 ⟨none, 0, rfl, St.ownNil _ _ h⟩))
 ·refine Yh ?_; refine Y1 ?_
  refine qw rfl (q5 (r := []) h rfl rfl rfl fun b w h => ?_)
  refine Yp ?_
  have h1 : St w0 (Own 5 1 (some ⟨b, 0, none⟩) 0 0 [] :: l) w := St.own_mk (cur := []) h rfl rfl (Nat.le_refl _)
  refine qw rfl (qa (zs := bytesV bs) (m3 := bs.length) h1 rfl rfl (hr w h1.drop) (bytesV_one _) O0 (List.nil_append _) O0 O0 rfl fun a c' w hn h => ?_)
  refine Yx ?_
  exact qq (qv (bq1 ⟨a, c', rfl, h⟩))
theorem bytes_Clip {a : Option Addr} {c n : Nat} {xs : List Value} (h : St w0 (Own 5 1 a n c xs :: l) w) : Ret Tryz.prog 238 [.slice a n c] w fun v w' => v = .slice a n n ∧ St w0 (Own 5 1 a n n xs :: l) w' := by
 have hc := h.own_cases.2.1
 refine enter Tryz.func238 rfl Tryz.results238 Tryz.ntmps238 rfl ?_
 refine Yn ?_; refine Y5 ?_; refine Y1r ?_; refine Y1r ?_
 refine qz (q_clip rfl rfl rfl (Nat.le_refl _) hc) rfl ?_
 refine Ym ?_
 exact qv (bq1 ⟨rfl, h.own_clip⟩)
theorem bits_Bytes {p : Nat} {bs : List Bool} (h : St w0 (IsBW p bs :: l) w) (hn : bs.length ≤ 70368744177664) : Ret Tryz.prog 237 [.pointer (some ⟨p, 0, none⟩)] w fun v w' => ∃ a c, v = .slice a (pack bs).length c ∧ St w0 (OwnB a c (pack bs) :: IsBW p bs :: l) w' := by
 obtain ⟨a, c, h⟩ := St.bw.1 h
 rw [← jc] at h
 refine enter Tryz.func237 rfl Tryz.results237 Tryz.ntmps237 rfl ?_
 refine Yn ?_; refine Yu ?_; refine qz (qk rfl (h.b 0) rfl) rfl ?_
 refine qw rfl (qj rfl (bytes_Clone (bs := pack bs) h (fun w' h' => (h'.f 1).own_rd) (by rw [jc]; omega)) ?_)
 rintro _ w ⟨a', c', rfl, h⟩
 refine Ym ?_
 refine qv (bq1 ⟨a', c', rfl, ?_⟩)
 rw [jc] at h
 exact ((St.bw.2 ⟨a, c, (h.f 2).f 2⟩).f 1)
theorem or_more : ∀ x : Nat, x < 256 → x ||| 128 = x % 128 + 128 := by decide
theorem gi {sl : Option Addr} {c : Nat} {bs : List UInt8} (u : Nat) (hu : u < 18446744073709551616) (h : St w0 l w) (hr : ∀ w', St w0 l w' → Rd w' 1 sl bs.length (bytesV bs)) (hn : bs.length ≤ 70368744177664) :
  Ret Tryz.prog 200 [.slice sl bs.length c, .int .u64 u] w fun v w' => ∃ a c', v = .slice a (bs ++ vput u).length c' ∧ St w0 (OwnB a c' (bs ++ vput u) :: l) w' := by
 refine enter Tryz.func200 rfl Tryz.results200 Tryz.ntmps200 rfl ?_
 refine Yn ?_; refine Y5 ?_
 refine qw rfl (qj rfl (bytes_Clone h hr O0) ?_)
 rintro _ w ⟨a, c1, rfl, h⟩
 refine qw rfl (qj rfl (bytes_Clip h) ?_)
 rintro _ w ⟨rfl, h⟩
 refine Ym ?_
 refine qo (Γ := Nat × List UInt8 × Option Addr × Nat) (fun k => [(1, .int .u64 k.1), (5, .slice k.2.2.1 k.2.1.length k.2.2.2)])
  (fun k w => k.1 < 128 ∧ k.2.1 ++ vput k.1 = bs ++ vput u ∧ St w0 (OwnB k.2.2.1 k.2.2.2 k.2.1 :: l) w) ?_ ?_
 ·refine Ya ?_
  refine qc (Γ := Nat × List UInt8 × Option Addr × Nat) (fun k => [(1, .int .u64 k.1), (5, .slice k.2.2.1 k.2.1.length k.2.2.2)])
   (fun k w => k.1 < 18446744073709551616 ∧ k.2.1 ++ vput k.1 = bs ++ vput u ∧ St w0 (OwnB k.2.2.1 k.2.2.2 k.2.1 :: l) w) (fun k => k.1) (u, bs, a, bs.length) ⟨rfl, rfl, trivial⟩ ⟨hu, rfl, h⟩ ?_
  clear h hu
  rintro ⟨u', out, a, c⟩ w e ⟨hu, he, h⟩
  dsimp only at hu he h ⊢
  have hlen : out.length ≤ bs.length + 10 := by
   have h1 := congrArg List.length he
   have h2 := jq u
   have h3 := jq u'
   simp only [List.length_append] at h1
   omega
  refine Y1g ?_; refine Y1v ?_
  refine qq (qy (decide ((u' : Int) ≥ 128)) rfl (fun hc => ?_) (fun hc => ?_))
  ·
   have hge : 128 ≤ u' := by simp at hc; omega
   refine Yy ?_; refine Y29 ?_; refine Yb ?_
   refine qg (.int .u8 ((u' % 256 : Nat) : Int)) (by rw [wrap_u8]) ?_
   refine Y50 ?_
   refine qg (.int .u8 ((UInt8.ofNat (u' % 128 + 128)).toNat : Int)) (by
    rw [show bitOp .or .u8 ((u' % 256 : Nat) : Int) 128 = ((u' % 256 ||| 128 : Nat) : Int) from (bit_u8 (Nat.mod_lt _ O4) O4).2.1, or_more _ (Nat.mod_lt _ O4), UInt8.toNat_ofNat', show u' % 256 % 128 + 128 = (u' % 128 + 128) % 2 ^ 8 by simp only [Nat.reducePow]; omega]) ?_
   refine qw rfl (q5 (r := bytesV [UInt8.ofNat (u' % 128 + 128)]) h rfl rfl rfl fun b w h => ?_)
   refine qw rfl (qa (ys := bytesV [UInt8.ofNat (u' % 128 + 128)]) (zs := bytesV (out ++ [UInt8.ofNat (u' % 128 + 128)])) (m3 := (out ++ [UInt8.ofNat (u' % 128 + 128)]).length) (h.f 1) rfl rfl ⟨rfl, .inr ⟨b, 0, rfl, qp (h.b 0 rfl) rfl⟩⟩ (bytesV_one _) O7 O31 O1 O1 rfl fun a' c' w _ h => ?_)
   refine Y4k ?_
   refine qz (qh (v' := .int .u64 ((u' / 128 : Nat) : Int)) (ju rfl rfl O0) (congrArg (Value.int .u64) (q9 u' 7 64 O4))) rfl ?_
   refine Y2 ?_
   refine qq ⟨(u' / 128, out ++ [UInt8.ofNat (u' % 128 + 128)], a', c'), ⟨rfl, rfl, trivial⟩, ⟨by dsimp only; omega, ?_, (h.f 1).drop⟩, by dsimp only; omega⟩
   rw [← he, vput_ge O0 hu, List.append_assoc]; rfl
  exact qd ⟨(u', out, a, c), ⟨rfl, rfl, trivial⟩, by simp at hc; dsimp only; omega, he, h⟩
 clear h hu
 rintro ⟨u', out, a, c⟩ w e ⟨hu, he, h⟩
 dsimp only at hu he h ⊢
 rw [vput_lt hu] at he
 have hlen : out.length ≤ bs.length + 10 := by
  have h1 := congrArg List.length he
  have h2 := jq u
  simp only [List.length_append, List.length_singleton] at h1
  omega
 refine Yo ?_; refine Yb ?_
 refine qg (.int .u8 ((UInt8.ofNat u').toNat : Int)) O12 ?_
 refine qw rfl (q5 (r := bytesV [UInt8.ofNat u']) h rfl rfl rfl fun b w h => ?_)
 refine qw rfl (qa (ys := bytesV [UInt8.ofNat u']) (zs := bytesV (bs ++ vput u)) (m3 := (bs ++ vput u).length) (h.f 1) rfl rfl ⟨rfl, .inr ⟨b, 0, rfl, qp (h.b 0 rfl) rfl⟩⟩ (bytesV_one _) (by rw [← he]; simp) (by rw [← he]; simp [bytesV]) (by rw [← he]; simp; omega) (by rw [← he]; simp; omega) rfl fun a' c' w _ h => ?_)
 refine Ym ?_
 exact qv (bq1 ⟨a', c', rfl, (h.f 1).drop⟩)
theorem vint_Get {sl : Option Addr} {c : Nat} {bs : List UInt8} (h : St w0 l w) (hr : ∀ w', St w0 l w' → Rd w' 1 sl bs.length (bytesV bs)) (hn : bs.length ≤ 140737488355328) :
  Ret Tryz.prog 194 [.slice sl bs.length c] w fun v w' => v = .tuple [.int .u64 ((vget bs).1 : Nat), .int .i64 ((vget bs).2 : Nat)].toArray ∧ St w0 l w' := by
 refine enter Tryz.func194 rfl Tryz.results194 Tryz.ntmps194 rfl ?_
 refine Y1 ?_; refine Y22 ?_; refine Yf ?_; refine Y34 ?_
 refine qc (Γ := Nat × Nat) (fun k => [(4, .int .u64 k.2), (7, .slice sl bs.length c), (8, .int .i64 bs.length), (9, .int .i64 k.1)])
  (fun k w => k.1 ≤ bs.length ∧ k.1 ≤ 10 ∧ k.2 < 2 ^ (7 * k.1) ∧ vgetA (bs.drop k.1) k.1 k.2 = vget bs ∧ St w0 l w) (fun k => bs.length - k.1) (0, 0) ⟨rfl, rfl, rfl, rfl, trivial⟩ ⟨Nat.zero_le _, by decide, by decide, rfl, h⟩ ?_
 clear h
 rintro ⟨i, u⟩ w e ⟨hi, hi10, hu, hv, h⟩
 dsimp only at hi hi10 hu hv ⊢
 refine Y1e ?_
 refine ql (qy (decide ((i : Int) < (bs.length : Int))) rfl (fun hc => ?_) (fun hc => ?_))
 ·
  have hin : i < bs.length := by simp at hc; omega
  have hg := List.getElem?_eq_getElem hin
  have hdr := List.drop_eq_getElem_cons hin
  generalize bs[i] = x at hg hdr
  rw [hdr, vgetA] at hv
  obtain ⟨b, o, hsl⟩ := (hr w h).some O0
  have hx := x.toNat_lt
  refine Yy ?_; refine Y4 ?_
  refine qz (qn (b := b) (o := o) (m := bs.length) (c := c) (o' := o + i) O8 rfl rfl hin O7) rfl ?_
  refine qz (qx (v := .int .u8 x.toNat) rfl ((hsl ▸ hr w h).cell (bytesV_get hg))) rfl ?_
  refine Y22 ?_
  refine qo (Γ := Unit) (fun k => [(4, .int .u64 u), (5, .int .i64 i), (6, .int .u8 x.toNat), (7, .slice sl bs.length c), (8, .int .i64 bs.length), (9, .int .i64 i)])
   (fun k w => i ≤ 9 ∧ (i = 9 → x.toNat ≤ 1) ∧ vgetA (bs.drop (i + 1)) (i + 1) (u + x.toNat % 128 * 2 ^ (7 * i)) = vget bs ∧ St w0 l w) ?_ ?_
  ·refine Ya ?_
   refine qo (Γ := Bool) (fun k => [(4, .int .u64 u), (5, .int .i64 i), (6, .int .u8 x.toNat), (7, .slice sl bs.length c), (8, .int .i64 bs.length), (9, .int .i64 i), (14, .bool k)])
    (fun k w => (k = true ↔ (i = 10 ∨ (i = 9 ∧ 1 < x.toNat) ∨ (0 < i ∧ x.toNat = 0))) ∧ St w0 l w) ?_ ?_
   ·refine Y1a ?_; refine Yd ?_
    by_cases h10 : i = 10
    ·refine qg (.bool true) O1 ?_
     refine Y15 ?_; refine r_gn rfl rfl rfl ?_; refine Y52 ?_; refine Y2d ?_; refine Y15 ?_; refine r_gn rfl rfl rfl ?_; refine Y52 ?_; refine Y2d ?_; refine Ye ?_
     exact qq ⟨true, ⟨rfl, rfl, rfl, rfl, rfl, rfl, rfl, trivial⟩, ⟨fun _ => .inl h10, fun _ => rfl⟩, h⟩
    ·refine qg (.bool false) O1 ?_
     refine Y10 ?_; refine Yd ?_
     by_cases h9 : i = 9
     ·refine qg (.bool true) O1 ?_
      refine Y7 ?_; refine Y10 ?_; refine Y1q ?_
      by_cases h1 : 1 < x.toNat
      ·refine qg (.bool true) O1 ?_
       refine Y47 ?_; refine Y15 ?_; refine r_gn rfl rfl rfl ?_; refine Y52 ?_; refine Y2d ?_; refine Ye ?_
       exact qq ⟨true, ⟨rfl, rfl, rfl, rfl, rfl, rfl, rfl, trivial⟩, ⟨fun _ => .inr (.inl ⟨h9, h1⟩), fun _ => rfl⟩, h⟩
      ·refine qg (.bool false) O1 ?_
       refine Y5b ?_; refine Y2r ?_; refine Y1q ?_
       refine qg (.bool true) O1 ?_
       refine Y7 ?_; refine Y10 ?_; refine Yd ?_
       by_cases h0 : x.toNat = 0
       ·refine qg (.bool true) O36 ?_
        refine Y47 ?_; refine Ye ?_
        exact qq ⟨true, ⟨rfl, rfl, rfl, rfl, rfl, rfl, rfl, trivial⟩, ⟨fun _ => .inr (.inr ⟨by omega, h0⟩), fun _ => rfl⟩, h⟩
       ·refine qg (.bool false) O3 ?_
        refine Y47 ?_; refine Ye ?_
        exact qq ⟨false, ⟨rfl, rfl, rfl, rfl, rfl, rfl, rfl, trivial⟩, ⟨(fun h => by cases h), (fun h => by omega)⟩, h⟩
     ·refine qg (.bool false) O1 ?_
      refine Y7 ?_; refine Y15 ?_; refine Y7 ?_; refine Y8 ?_; refine Y2r ?_; refine Y1q ?_
      by_cases hp : 0 < i
      ·refine qg (.bool true) O1 ?_
       refine Y7 ?_; refine Y10 ?_; refine Yd ?_
       by_cases h0 : x.toNat = 0
       ·refine qg (.bool true) O36 ?_
        refine Y47 ?_; refine Ye ?_
        exact qq ⟨true, ⟨rfl, rfl, rfl, rfl, rfl, rfl, rfl, trivial⟩, ⟨fun _ => .inr (.inr ⟨by omega, h0⟩), fun _ => rfl⟩, h⟩
       ·refine qg (.bool false) O3 ?_
        refine Y47 ?_; refine Ye ?_
        exact qq ⟨false, ⟨rfl, rfl, rfl, rfl, rfl, rfl, rfl, trivial⟩, ⟨(fun h => by cases h), (fun h => by omega)⟩, h⟩
      ·refine qg (.bool false) O1 ?_
       refine Y7 ?_; refine Y15 ?_; refine Y7 ?_; refine Y8 ?_; refine Y8 ?_; refine Ye ?_
       exact qq ⟨false, ⟨rfl, rfl, rfl, rfl, rfl, rfl, rfl, trivial⟩, ⟨(fun h => by cases h), (fun h => by omega)⟩, h⟩
   clear h
   rintro k w e ⟨hk, h⟩
   refine qy k rfl (fun hc => ?_) (fun hc => ?_)
   ·
    rw [if_pos (hk.1 hc)] at hv
    refine Y1 ?_; refine Y22 ?_
    exact qv (bq2 ⟨by rw [← hv]; rfl, h⟩)
   ·
    have hnb : ¬ (i = 10 ∨ (i = 9 ∧ 1 < x.toNat) ∨ (0 < i ∧ x.toNat = 0)) := fun hb => by rw [hk.2 hb] at hc; cases hc
    rw [if_neg hnb] at hv
    have hi9 : i ≤ 9 := by omega
    have hb : x.toNat * 2 ^ (7 * i) < 18446744073709551616 := by
     rcases Nat.lt_or_ge i 9 with h2 | h2
     ·have h3 : (2 : Nat) ^ (7 * i) ≤ 2 ^ 56 := Nat.pow_le_pow_right O4 O0
      have h4 : x.toNat * 2 ^ (7 * i) ≤ 255 * 2 ^ 56 := Nat.mul_le_mul O0 h3
      omega
     ·obtain rfl : i = 9 := by omega
      have h4 : x.toNat * 2 ^ (7 * 9) ≤ 1 * 2 ^ (7 * 9) := Nat.mul_le_mul_right _ O0
      have h5 : (2 : Nat) ^ (7 * 9) = 9223372036854775808 := by decide
      omega
    have hu64 : u < 18446744073709551616 := Nat.lt_of_lt_of_le hu (by
     have : (2 : Nat) ^ (7 * i) ≤ 2 ^ 64 := Nat.pow_le_pow_right O4 O0
     exact this)
    refine Y4 ?_; refine Ys ?_; refine Yc ?_
    refine qy (decide ((x.toNat : Int) < 128)) rfl (fun hc => ?_) (fun hc => ?_)
    ·
     rw [if_pos (by simp at hc; omega)] at hv
     refine Y4 ?_; refine Y2k ?_
     refine qg (.int .u64 (x.toNat : Int)) O9 ?_
     refine Y0 ?_; refine Y43 ?_
     refine qg (.int .i64 ((7 * i : Nat) : Int)) O5 ?_
     refine qz (qh (v' := .int .u64 ((x.toNat * 2 ^ (7 * i) : Nat) : Int)) (gk rfl rfl O0) (by rw [ji _ _ O0, Nat.mod_eq_of_lt hb])) rfl ?_
     refine Y50 ?_
     refine qg (.int .u64 ((u + x.toNat * 2 ^ (7 * i) : Nat) : Int)) (by rw [(jv hu64 hb).2.1, or_shift hu]) ?_
     refine Y3h ?_
     refine qg (.int .i64 ((i + 1 : Nat) : Int)) O5 ?_
     refine Y22 ?_
     exact qv (bq2 ⟨by rw [← hv]; rfl, h⟩)
    ·
     rw [if_neg (by simp at hc; omega)] at hv
     exact qr ⟨(), ⟨rfl, rfl, rfl, rfl, rfl, rfl, trivial⟩, hi9, by omega, hv, h⟩
  clear h hv
  rintro ⟨⟩ w e ⟨hi9, hx1, hv, h⟩
  have hm : x.toNat % 128 * 2 ^ (7 * i) ≤ 127 * 2 ^ (7 * i) := Nat.mul_le_mul_right _ O0
  have h63 : (2 : Nat) ^ (7 * i) ≤ 2 ^ 63 := Nat.pow_le_pow_right O4 O0
  have hu64 : u < 18446744073709551616 := by omega
  have hb : x.toNat % 128 * 2 ^ (7 * i) < 18446744073709551616 := by
   rcases Nat.lt_or_ge i 9 with h2 | h2
   ·have h3 : (2 : Nat) ^ (7 * i) ≤ 2 ^ 56 := Nat.pow_le_pow_right O4 O0
    omega
   ·obtain rfl : i = 9 := by omega
    have h4 : x.toNat % 128 * 2 ^ (7 * 9) ≤ 1 * 2 ^ (7 * 9) := Nat.mul_le_mul_right _ (by have := hx1 rfl; omega)
    have h5 : (2 : Nat) ^ (7 * 9) = 9223372036854775808 := by decide
    omega
  refine Y1a ?_; refine Y0 ?_; refine Y33 ?_
  refine qg (.int .u8 ((x.toNat % 128 : Nat) : Int)) (by rw [show bitOp .and .u8 (x.toNat : Int) 127 = ((x.toNat &&& 127 : Nat) : Int) from (bit_u8 hx O4).1, show x.toNat &&& 127 = x.toNat % 128 from and_low x.toNat 7]) ?_
  refine Yb ?_
  refine qg (.int .u64 ((x.toNat % 128 : Nat) : Int)) O9 ?_
  refine Y0 ?_; refine Y43 ?_
  refine qg (.int .i64 ((7 * i : Nat) : Int)) O5 ?_
  refine qz (qh (v' := .int .u64 ((x.toNat % 128 * 2 ^ (7 * i) : Nat) : Int)) (gk rfl rfl O0) (by rw [ji _ _ O0, Nat.mod_eq_of_lt hb])) rfl ?_
  refine Y50 ?_
  refine qg (.int .u64 ((u + x.toNat % 128 * 2 ^ (7 * i) : Nat) : Int)) (by rw [(jv hu64 hb).2.1, or_shift hu]) ?_
  refine Y6 ?_; refine Yw ?_
  refine qg (.int .i64 ((i + 1 : Nat) : Int)) O5 ?_
  refine Y0 ?_
  refine qq ⟨(i + 1, u + x.toNat % 128 * 2 ^ (7 * i)), ⟨rfl, rfl, rfl, rfl, trivial⟩, ⟨by dsimp only; omega, by dsimp only; omega, ?_, hv, h⟩, by dsimp only; omega⟩
  have hp : (2 : Nat) ^ (7 * (i + 1)) = 128 * 2 ^ (7 * i) := by rw [Nat.mul_add, Nat.pow_add, Nat.mul_comm]
  dsimp only
  rw [hp]
  omega
 have hin : i = bs.length := by simp at hc; omega
 rw [hin, List.drop_length, vgetA] at hv
 refine qd ?_
 refine Y1 ?_; refine Y22 ?_
 exact qv (bq2 ⟨by rw [← hv]; rfl, h⟩)
end
end Go.Proofs.YtnnehiiblfmpnaaGreatDoor

namespace Go.Proofs.YtnnehiiblfmpnaaGreatDoor
open Go.Hw
set_option maxHeartbeats 4000000
set_option maxRecDepth 100000
section
variable {w0 w : World} {l : List HProp}
theorem vint_Zig {t : Int} (ht : I64 t) (h : St w0 l w) : Ret Tryz.prog 201 [.int .i64 t] w fun v w' => v = .int .u64 (zigU (us t) : Nat) ∧ St w0 l w' := by
 have hlt := us_lt t
 refine enter Tryz.func201 rfl Tryz.results201 Tryz.ntmps201 rfl ?_
 refine Yf ?_; refine Y4 ?_; refine Yb ?_
 refine qg (.int .u64 (us t : Nat)) (by rw [jt]) ?_
 refine qz (qh (v' := .int .u64 ((us t * 2 % 18446744073709551616 : Nat) : Int)) (gk rfl rfl O0) (congrArg (Value.int .u64) (ji (us t) 1 O4))) rfl ?_
 refine Y0 ?_
 refine qz (qh (v' := .int .i64 (if us t < 9223372036854775808 then 0 else -1)) (ju rfl rfl O0) (by
  congr 1
  rw [show (2 : Int) ^ (min (63 : Int).toNat IntKind.i64.bits) = 9223372036854775808 by decide, Int.fdiv_eq_ediv_of_nonneg _ O4]
  obtain ⟨h1, h2⟩ := ht
  unfold us
  split <;> omega)) rfl ?_
 refine Yb ?_
 refine qg (.int .u64 ((if us t < 9223372036854775808 then 0 else 18446744073709551615 : Nat) : Int)) (by
  rw [jt]; congr 2; split <;> rfl) ?_
 refine Y3b ?_
 refine qg (.int .u64 (zigU (us t) : Nat)) (by
  rw [(jv (Nat.mod_lt _ O4) (by split <;> decide)).2.2]
  congr 2
  unfold zigU
  split
  ·rw [Nat.xor_zero, Nat.mod_eq_of_lt O0, Nat.mul_comm]
  ·rw [xor_ones (Nat.mod_lt _ O4)]; omega) ?_
 refine Y6 ?_
 exact qv (bq1 ⟨rfl, h⟩)
theorem vint_Zag {u : Nat} (hu : u < 18446744073709551616) (h : St w0 l w) : Ret Tryz.prog 195 [.int .u64 u] w fun v w' => v = .int .i64 (sg (zagU u)) ∧ St w0 l w' := by
 refine enter Tryz.func195 rfl Tryz.results195 Tryz.ntmps195 rfl ?_
 refine Yf ?_; refine Y4 ?_
 refine qz (qh (v' := .int .u64 ((u / 2 : Nat) : Int)) (ju rfl rfl O0) (congrArg (Value.int .u64) (q9 u 1 64 O4))) rfl ?_
 refine Yb ?_
 refine qg (.int .i64 ((u / 2 : Nat) : Int)) O13 ?_
 refine Y0 ?_; refine Y33 ?_
 refine qg (.int .u64 ((u % 2 : Nat) : Int)) (by rw [show bitOp .and .u64 (u : Int) 1 = ((u &&& 1 : Nat) : Int) from (jv hu O4).1, Nat.and_one_is_mod]) ?_
 refine Yb ?_
 refine qg (.int .i64 ((u % 2 : Nat) : Int)) O13 ?_
 refine qz (q_neg rfl) rfl ?_
 refine qg (.int .i64 (0 - ((u % 2 : Nat) : Int))) O13 ?_
 refine Y3b ?_
 refine qg (.int .i64 (sg (zagU u))) (by
  rw [(bit_i64 _ _).2.2]
  congr 2
  have h1 : us ((u / 2 : Nat) : Int) = u / 2 := by unfold us; omega
  rw [h1]
  unfold zagU
  split
  ·rename_i h0
   rw [h0]
   exact Nat.xor_zero _
  ·rename_i h0
   have h2 : u % 2 = 1 := by omega
   rw [h2]
   exact xor_ones O0) ?_
 refine Y6 ?_
 exact qv (bq1 ⟨rfl, h⟩)
abbrev BrPt (p : Nat) (a : Option Addr) (m c at_ : Nat) (bad : Bool) : HProp := pt p (.cells [.slice a m c, .int .i64 at_, .bool bad].toArray 319 (0, 0))
def IsBR (p : Nat) (s : RS) : HProp := ex fun q : Option Addr × Nat × List UInt8 × Nat => all [BrPt p q.1 q.2.2.1.length q.2.1 q.2.2.2 s.bad, OwnB q.1 q.2.1 q.2.2.1, lift (s.rest = (bitsB q.2.2.1).drop q.2.2.2 ∧ q.2.2.2 ≤ 8 * q.2.2.1.length ∧ q.2.2.1.length ≤ 140737488355328)]
theorem St.br {p : Nat} {s : RS} : St w0 (IsBR p s :: l) w ↔ ∃ a c B at_, (s.rest = (bitsB B).drop at_ ∧ at_ ≤ 8 * B.length ∧ B.length ≤ 140737488355328) ∧ St w0 (BrPt p a B.length c at_ s.bad :: OwnB a c B :: l) w := by
 unfold IsBR
 rw [St.ex]
 constructor
 ·rintro ⟨⟨a, c, B, at_⟩, h⟩
  obtain ⟨h1, h2⟩ := St.lift.1 (h.join.f 2)
  exact ⟨a, c, B, at_, h1, h2⟩
 ·rintro ⟨a, c, B, at_, h1, h⟩
  refine ⟨(a, c, B, at_), St.fold [_, _, _] ?_⟩
  have h2 := St.lift.2 ⟨h1, h⟩
  exact h2.of_all (by simp only [List.cons_append, List.nil_append, j2]; ac_rfl)
theorem vg {sl : Option Addr} {c : Nat} {bs : List UInt8} (h : St w0 l w) (hr : ∀ w', St w0 l w' → Rd w' 1 sl bs.length (bytesV bs)) (hn : bs.length ≤ 140737488355328) : Ret Tryz.prog 197 [.slice sl bs.length c] w fun v w' => ∃ p, v = .pointer (some ⟨p, 0, none⟩) ∧ St w0 (IsBR p ⟨bitsB bs, false⟩ :: l) w' := by
 refine enter Tryz.func197 rfl Tryz.results197 Tryz.ntmps197 rfl ?_
 refine Y1 ?_; refine Y1d ?_; refine Y5 ?_
 refine qw rfl (qj rfl (bytes_Clone h hr hn) ?_)
 rintro _ w ⟨a, c1, rfl, h⟩
 refine qz (qe (r := [.slice a bs.length c1, .int .i64 0, .bool false]) rfl) rfl ?_
 refine qw rfl (jy h (show _ = Value.agg [.slice a bs.length c1, .int .i64 0, .bool false].toArray from rfl) fun p w h => ?_)
 refine Y1d ?_
 exact qv (bq1 ⟨p, rfl, St.br.2 ⟨a, c1, bs, 0, ⟨rfl, Nat.zero_le _, hn⟩, h⟩⟩)
theorem bits_Ok {p : Nat} {s : RS} (h : St w0 (IsBR p s :: l) w) : Ret Tryz.prog 225 [.pointer (some ⟨p, 0, none⟩)] w fun v w' => v = .bool (!s.bad) ∧ St w0 (IsBR p s :: l) w' := by
 obtain ⟨a, c, B, at_, h1, h⟩ := St.br.1 h
 refine enter Tryz.func225 rfl Tryz.results225 Tryz.ntmps225 rfl ?_
 refine Y2a ?_; refine Yu ?_; refine qz (qk rfl (h.b 0) rfl) rfl ?_; refine Y1j ?_; refine Yc ?_
 exact qv (bq1 ⟨rfl, St.br.2 ⟨a, c, B, at_, h1, h⟩⟩)
theorem bits_Left {p : Nat} {a : Option Addr} {c at_ : Nat} {bad : Bool} {B : List UInt8} (hat : at_ ≤ 8 * B.length) (hB : B.length ≤ 140737488355328) (h : St w0 (BrPt p a B.length c at_ bad :: OwnB a c B :: l) w) :
  Ret Tryz.prog 245 [.pointer (some ⟨p, 0, none⟩)] w fun v w' => v = .int .i64 (if bad = true then 0 else (8 * B.length - at_ : Nat) : Nat) ∧ St w0 (BrPt p a B.length c at_ bad :: OwnB a c B :: l) w' := by
 refine enter Tryz.func245 rfl Tryz.results245 Tryz.ntmps245 rfl ?_
 refine Yf ?_; refine Y3w ?_; refine qz (qk rfl (h.b 0) rfl) rfl ?_
 refine qq (qy bad rfl (fun hc => ?_) (fun hc => ?_))
 ·
  refine Yf ?_
  exact qv (bq1 ⟨by rw [if_pos hc]; rfl, h⟩)
 refine Yh ?_
 refine ql (jj none (fun w => St w0 _ w) O2 O2 h.drew fun w h => ?_)
 refine Yg ?_; refine qu rfl rfl rfl rfl h (fun _ h => qm rfl (qk rfl (h.b 0) rfl)) ?_; refine Y4y ?_
 refine cpv rfl rfl rfl rfl h rfl (qh (v' := .int .i64 ((8 * B.length : Nat) : Int)) (q_mul rfl rfl) O5) ?_
 refine Yg ?_
 refine qu rfl rfl rfl rfl h (fun _ h => qm rfl (qk (v := .int .i64 at_) rfl (h.b 0 rfl) rfl)) ?_
 refine cpv rfl rfl rfl rfl h rfl (qh (v' := .int .i64 ((8 * B.length - at_ : Nat) : Int)) (jm rfl rfl) O6) ?_
 refine Y2h ?_
 refine qi ?_
 exact qv (bq1 ⟨by rw [if_neg (by rw [hc]; decide)]; rfl, h⟩)
theorem take_succ_num {s : List Bool} {k : Nat} {b : Bool} (h : s[k]? = some b) : num (s.take (k + 1)) = 2 * num (s.take k) + b.toNat := by
 rw [List.take_add_one, h]
 exact num_snoc _ _
theorem heldN_nat {n : Nat} (h : n ≤ 64) : heldN (n : Int) = n := by unfold heldN; omega
theorem gg {p : Nat} {s : RS} (n : Int) (h : St w0 (IsBR p s :: l) w) : Ret Tryz.prog 223 [.pointer (some ⟨p, 0, none⟩), .int .i64 n] w fun v w' => v = .int .u64 ((s.get (heldN n)).1 : Nat) ∧ St w0 (IsBR p (s.get (heldN n)).2 :: l) w' := by
 obtain ⟨a, c, B, at_, ⟨hrest, hat, hB⟩, h⟩ := St.br.1 h
 obtain ⟨rest, bad⟩ := s
 dsimp only at hrest h
 have hm := heldN_le n
 have hrl : rest.length = 8 * B.length - at_ := by rw [hrest, List.length_drop, bitsB_len]
 refine enter Tryz.func223 rfl Tryz.results223 Tryz.ntmps223 rfl ?_
 refine Yf ?_; refine Y4 ?_
 refine qw rfl (qj rfl (bits_held n h) ?_)
 rintro _ w ⟨rfl, h⟩
 generalize heldN n = m at hm ⊢
 refine Y6 ?_
 refine qo (Γ := Bool) (fun _ => [(0, .pointer (some ⟨p, 0, none⟩)), (1, .int .i64 m)])
  (fun k w => (k = true ↔ (bad = true ∨ rest.length < m)) ∧ St w0 (BrPt p a B.length c at_ k :: OwnB a c B :: l) w) ?_ ?_
 ·refine Y4 ?_; refine Y1x ?_
  refine qw rfl (qj rfl (bits_Left hat hB h) ?_)
  rintro _ w ⟨rfl, h⟩
  refine Y1q ?_; refine Y3 ?_
  refine qy (decide ((m : Int) > ((if bad = true then 0 else (8 * B.length - at_ : Nat) : Nat) : Int))) rfl (fun hc => ?_) (fun hc => ?_)
  ·refine Y23 ?_; refine Y12 ?_
   refine qw rfl (q8 0 h rfl (show _ = Value.bool true from rfl) rfl rfl rfl rfl fun w h => ?_)
   refine qq ⟨true, ⟨rfl, rfl, trivial⟩, ⟨fun _ => ?_, fun _ => rfl⟩, h⟩
   rw [decide_eq_true_eq] at hc
   split at hc
   ·exact .inl ‹_›
   ·exact .inr O0
  ·refine qr ⟨bad, ⟨rfl, rfl, trivial⟩, ⟨fun hb => .inl hb, fun hb => ?_⟩, h⟩
   rw [decide_eq_false_iff_not] at hc
   rcases hb with hb | hb
   ·exact hb
   ·split at hc
    ·assumption
    ·omega
 clear h
 rintro k w e ⟨hk, h⟩
 refine Y3w ?_; refine qz (qk rfl (h.b 0) rfl) rfl ?_
 refine qq (qy k rfl (fun hc => ?_) (fun hc => ?_))
 ·
  subst hc
  have hbad := hk.1 rfl
  refine Yf ?_
  refine qv (bq1 ?_)
  have e1 : RS.get ⟨rest, bad⟩ m = (0, ⟨rest, true⟩) := by unfold RS.get; rw [if_pos hbad]
  rw [e1]
  exact ⟨rfl, St.br.2 ⟨a, c, B, at_, ⟨hrest, hat, hB⟩, h⟩⟩
 subst hc
 have hok : ¬ (bad = true ∨ rest.length < m) := fun hb => by cases hk.2 hb
 refine Yh ?_; refine Yf ?_; refine Y1g ?_; refine Y3f ?_
 refine qc (Γ := Nat) (fun k => [(0, .pointer (some ⟨p, 0, none⟩)), (5, .int .u64 (num (rest.take k))), (19, .int .i64 m), (20, .int .i64 k)]) (fun k w => k ≤ m ∧ St w0 (BrPt p a B.length c (at_ + k) false :: OwnB a c B :: l) w) (fun k => m - k) 0 ⟨rfl, rfl, rfl, rfl, trivial⟩ ⟨Nat.zero_le _, h⟩ ?_
 clear h
 rintro k w e ⟨hkm, h⟩
 refine Y1e ?_
 refine ql (qy (decide ((k : Int) < (m : Int))) rfl (fun hc => ?_) (fun hc => ?_))
 ·
  have hlt : k < m := by simp at hc; omega
  have hkr : k < rest.length := by omega
  have hbyte : (at_ + k) / 8 < B.length := by omega
  have hgB := List.getElem?_eq_getElem hbyte
  generalize B[(at_ + k) / 8] = x at hgB
  have hbit : rest[k]? = some (x.toNat.testBit (7 - (at_ + k) % 8)) := by rw [hrest, List.getElem?_drop, bitsB_get _ _ _ hgB]
  have hnum := take_succ_num hbit
  generalize hb : x.toNat.testBit (7 - (at_ + k) % 8) = b at hnum hbit
  have hn1 := num_lt (rest.take k)
  rw [List.length_take, Nat.min_eq_left O0] at hn1
  have hn2 : (2 : Nat) ^ k ≤ 2 ^ 63 := Nat.pow_le_pow_right O4 O0
  have hn3 : num (rest.take k) < 9223372036854775808 := by omega
  generalize num (rest.take k) = N at *
  have hb2 : b.toNat ≤ 1 := by cases b <;> decide
  have hx := x.toNat_lt
  obtain ⟨g, rfl⟩ := (h.f 1).own_some O0
  refine Yy ?_
  refine ql (jj none (fun w => St w0 _ w) O2 O2 h.drew fun w h => ?_)
  refine Yj ?_
  refine cpv rfl rfl rfl rfl h rfl (qh (v' := .int .u64 ((2 ^ 1 * N : Nat) : Int)) (gk rfl rfl O0) (by rw [show IntKind.u64.wrap ((N : Int) * 2 ^ (min (1 : Int).toNat IntKind.u64.bits)) = ((N * 2 ^ 1 % 18446744073709551616 : Nat) : Int) from ji N 1 O4, Nat.mod_eq_of_lt O0, Nat.mul_comm])) ?_
  refine Yg ?_; refine qu rfl rfl rfl rfl h (fun _ h => qm rfl (qk rfl (h.b 0) rfl)) ?_; refine Yg ?_
  refine qu rfl rfl rfl rfl h (fun _ h => qm rfl (qk (v := .int .i64 ((at_ + k : Nat) : Int)) rfl (h.b 0 rfl) rfl)) ?_
  refine cpv rfl rfl rfl rfl h rfl (qh (v' := .int .i64 (((at_ + k) / 8 : Nat) : Int)) (q_quo rfl rfl O4) (by rw [show ((at_ + k : Nat) : Int).tdiv 8 = (((at_ + k) / 8 : Nat) : Int) from tdiv_nat _ 8, wrap64 O0 O0])) ?_
  refine cpv rfl rfl rfl rfl h rfl (qn (o' := (at_ + k) / 8) rfl rfl rfl hbyte O7) ?_
  refine qu rfl rfl rfl rfl h (fun w h => qm rfl (qx (v := .int .u8 x.toNat) rfl (by have := (h.f 1).own_rd.cell (bytesV_get hgB); simpa using this))) ?_
  refine Yg ?_
  refine qu rfl rfl rfl rfl h (fun _ h => qm rfl (qk (v := .int .i64 ((at_ + k : Nat) : Int)) rfl (h.b 0 rfl) rfl)) ?_
  refine cpv rfl rfl rfl rfl h rfl (qh (v' := .int .i64 (((at_ + k) % 8 : Nat) : Int)) (q_rem rfl rfl O4) (congrArg (Value.int .i64) (gz _ 8))) ?_
  refine cpv rfl rfl rfl rfl h rfl (qh (v' := .int .i64 ((7 - (at_ + k) % 8 : Nat) : Int)) (jm rfl rfl) O6) ?_
  refine cpv rfl rfl rfl rfl h rfl (qh (v' := .int .u8 ((x.toNat / 2 ^ (7 - (at_ + k) % 8) : Nat) : Int)) (ju rfl rfl O0) (congrArg (Value.int .u8) (q9 x.toNat _ 8 O0))) ?_
  refine cpv rfl rfl rfl rfl h rfl (qh (v' := .int .u8 ((b.toNat : Nat) : Int)) (q_and rfl rfl) (by
   rw [show bitOp .and .u8 ((x.toNat / 2 ^ (7 - (at_ + k) % 8) : Nat) : Int) 1 = ((x.toNat / 2 ^ (7 - (at_ + k) % 8) &&& 1 : Nat) : Int) from (bit_u8 (Nat.lt_of_le_of_lt (Nat.div_le_self _ _) hx) O4).1, Nat.and_one_is_mod, testBit_toNat, hb])) ?_
  refine cpv rfl rfl rfl rfl h rfl (qh (v' := .int .u64 ((b.toNat : Nat) : Int)) (jb rfl) O9) ?_
  refine cpv rfl rfl rfl rfl h rfl (qh (v' := .int .u64 (num (rest.take (k + 1)) : Nat)) (q_or rfl rfl) (by
   rw [(jv O0 O0).2.1, hnum, ← Nat.two_pow_add_eq_or_of_lt (show b.toNat < 2 ^ 1 by omega)])) ?_
  refine Y2h ?_
  refine qi ?_
  refine Y23 ?_; refine Y12 ?_
  refine qz (qk (v := .int .i64 ((at_ + k : Nat) : Int)) rfl (h.b 0 rfl) rfl) rfl ?_
  refine Y1n ?_
  refine qg (.int .i64 ((at_ + (k + 1) : Nat) : Int)) O14 ?_
  refine Y12 ?_
  refine qw rfl (q8 0 h rfl (show _ = Value.int _ _ from rfl) rfl rfl rfl rfl fun w h => ?_)
  refine Y48 ?_
  refine qg (.int .i64 ((k + 1 : Nat) : Int)) O5 ?_
  refine Y0 ?_
  exact qq ⟨k + 1, ⟨rfl, rfl, rfl, rfl, trivial⟩, ⟨by omega, h⟩, by omega⟩
 obtain rfl : k = m := by simp at hc; omega
 refine qd ?_
 refine Y2z ?_
 refine qv (bq1 ?_)
 have e1 : RS.get ⟨rest, bad⟩ k = (num (rest.take k), ⟨rest.drop k, false⟩) := by unfold RS.get; rw [if_neg hok]
 rw [e1]
 exact ⟨rfl, St.br.2 ⟨a, c, B, at_ + k, ⟨by rw [hrest, List.drop_drop], by omega, hB⟩, h⟩⟩
end
end Go.Proofs.YtnnehiiblfmpnaaGreatDoor

namespace Go.Hw
section
variable {P : Program} {e : Env} {w : World} {d : Option Nat} {ty : TypeId} {pos : String} {af : Array Edge} {g : Option (Nat × Bool)}
theorem q_sidx {t : TypeId} [ht : Und P t .string] {x y : Operand} {s : ByteArray} {k : IntKind} {i : Nat} {b : UInt8} (hx : ev e x = .string s) (hy : ev e y = .int k (i : Int)) (hb : s.data.toList[i]? = some b) : Qv P e ⟨d, .index t x y, ty, pos, af, g⟩ w (.int .u8 b.toNat) := by
 unfold Qv
 obtain ⟨h1, h2⟩ := List.getElem?_eq_some_iff.1 hb
 have h3 : i < s.size := by simpa using h1
 have h4 := run_index_string (P := P) (w := w) t s k (i : Int) ht.h
 rw [dif_pos ⟨by omega, by omega⟩] at h4
 simp only [execOp, hx, hy, Sem.run_bind, h4, Result.andThen_ok]
 have h5 : (s[(i : Int).toNat]'O0) = b := by rw [← h2]; simp; rfl
 rw [h5]; rfl
theorem q_aidx {t T m : Nat} [ht : Und P t (.array m T)] {z : List Value} {agg : Bool} {bytes : Nat} [hi : Inf P T z agg bytes] {x y : Operand} {b o o' j : Nat} {k : IntKind} {i : Int}
  (hx : ev e x = .pointer (some ⟨b, o, none⟩)) (hy : ev e y = .int k i) (hij : i = (j : Int)) (hj : j < m) (ho : o + j * z.length = o') : Qv P e ⟨d, .indexAddr t x y, ty, pos, af, g⟩ w (.pointer (some ⟨b, o', none⟩)) := by
 unfold Qv
 subst hij ho
 have h1 := hi.sizeOf w
 simp [execOp, hx, hy, Instr.indexAt, asIntOf, Instr.sureAddr, run_underlying ht.h, h1, Addr.add_mid, hj]
end
theorem len64_shift {x k : Nat} (h : 2 ^ k ≤ x) : len64 (x / 2 ^ k) + k = len64 x := by
 have key : ∀ m, len64 (x / 2 ^ k) + k ≤ m ↔ len64 x ≤ m := by
  intro m
  rw [len64_le]
  constructor
  ·intro h1
   have h2 : len64 (x / 2 ^ k) ≤ m - k := by omega
   rw [len64_le, Nat.div_lt_iff_lt_mul (Nat.two_pow_pos k), ← Nat.pow_add] at h2
   rwa [show m - k + k = m by omega] at h2
  ·intro h1
   have h2 : k < m := by
    rcases Nat.lt_or_ge k m with h3 | h3
    ·exact h3
    ·have : 2 ^ m ≤ 2 ^ k := Nat.pow_le_pow_right O4 h3
     omega
   have h3 : len64 (x / 2 ^ k) ≤ m - k := by
    rw [len64_le, Nat.div_lt_iff_lt_mul (Nat.two_pow_pos k), ← Nat.pow_add]
    rwa [show m - k + k = m by omega]
   omega
 exact Nat.le_antisymm ((key _).2 (Nat.le_refl _)) ((key _).1 (Nat.le_refl _))
def lenTab : ByteArray := ⟨((List.range 256).map fun x => UInt8.ofNat (len64 x)).toArray⟩
theorem lenTab_get {x : Nat} (h : x < 256) : lenTab.data.toList[x]? = some (UInt8.ofNat (len64 x)) := by
 show ((List.range 256).map fun x => UInt8.ofNat (len64 x))[x]? = _
 rw [List.getElem?_map, List.getElem?_range h]; rfl
theorem tzA_odd : ∀ (k x : Nat), x ≠ 0 → x < 2 ^ k → x / 2 ^ tzA k x % 2 = 1 ∧ tzA k x < k
 | 0, x, h0, h => by simp at h; omega
 | k + 1, x, h0, h => by
  rw [tzA]
  split
  ·rename_i h1; simpa using h1
  ·rename_i h1
   obtain ⟨h2, h3⟩ := tzA_odd k (x / 2) O0 (by rw [Nat.pow_succ] at h; omega)
   rw [Nat.pow_succ, Nat.mul_comm, ← Nat.div_div_eq_div_mul]
   exact ⟨h2, by omega⟩
theorem low_bit {x : Nat} (h0 : x ≠ 0) (h : x < 18446744073709551616) : x &&& (18446744073709551616 - x) = 2 ^ tz x := by
 obtain ⟨h1, h2⟩ := tzA_odd 64 x h0 h
 have h3 := tzA_dvd 64 x
 have ht : tzA 64 x = tz x := rfl
 rw [ht] at h1 h2 h3
 generalize tz x = t at *
 generalize hm : x / 2 ^ t = m at *
 have hp := Nat.two_pow_pos t
 have hx1 : (x - 1) / 2 ^ t = m - 1 := by
  have e : x - 1 = (m - 1) * 2 ^ t + (2 ^ t - 1) := by
   rw [Nat.sub_mul, Nat.one_mul, h3]
   have : 2 ^ t ≤ x := by rw [← h3]; exact Nat.le_mul_of_pos_left _ O0
   omega
  rw [e, Nat.add_comm, Nat.add_mul_div_right _ _ hp, Nat.div_eq_of_lt O0, Nat.zero_add]
 apply Nat.eq_of_testBit_eq
 intro i
 rw [Nat.testBit_and, Nat.testBit_two_pow]
 have hs : (18446744073709551616 - x).testBit i = (decide (i < 64) && !(x - 1).testBit i) := by
  have := Nat.testBit_two_pow_sub_succ (n := 64) (x := x - 1) O0 i
  rw [show x - 1 + 1 = x by omega] at this
  exact this
 rw [hs]
 have hx : x.testBit i = (decide (i ≥ t) && m.testBit (i - t)) := by rw [← Nat.testBit_two_pow_mul, Nat.mul_comm, h3]
 by_cases hit : i < t
 ·rw [hx]; simp [show ¬ t ≤ i by omega, show ¬ t = i by omega]
 ·have hj : (x - 1).testBit i = (m - 1).testBit (i - t) := by rw [← hx1, Nat.testBit_div_two_pow]; congr 1; omega
  rw [hx, hj]
  cases hd : i - t with
  | zero =>
   have : i = t := by omega
   subst this
   simp [Nat.testBit_zero, h1, h2, show ¬ (m - 1) % 2 = 1 by omega]
  | succ j =>
   rw [Nat.testBit_succ, Nat.testBit_succ, show (m - 1) / 2 = m / 2 by omega]
   simp [show ¬ t = i by omega]
   intro _ h5 _
   exact h5
def deB : List Nat := [0, 1, 56, 2, 57, 49, 28, 3, 61, 58, 42, 50, 38, 29, 17, 4, 62, 47, 59, 36, 45, 43, 51, 22, 53, 39, 33, 30, 24, 18, 12, 5, 63, 55, 48, 27, 60, 41, 37, 16, 46, 35, 44, 21, 52, 32, 23, 11, 54, 26, 40, 15, 34, 20, 31, 10, 25, 14, 19, 9, 13, 8, 7, 6]
set_option maxRecDepth 100000
theorem deB_get : ∀ t, t < 64 → 2 ^ t * 285870213051353865 % 18446744073709551616 / 2 ^ 58 < 64 ∧ deB[2 ^ t * 285870213051353865 % 18446744073709551616 / 2 ^ 58]? = some t := by decide
end Go.Hw
namespace Go.Proofs.YtnnehiiblfmpnaaGreatDoor
open Go.Hw
set_option maxHeartbeats 4000000
structure Tz (W : World) : Prop where
 size : 7 < W.heap.size
 cell : ∀ (i v : Nat), deB[i]? = some v → W.cell? ⟨7, i, none⟩ = some (.int .u8 v)
section
variable {w0 w : World} {l : List HProp}
theorem mb_Len64 {x : Nat} (hx : x < 18446744073709551616) (h : St w0 l w) : Ret Tryz.prog 212 [.int .u64 x] w fun v w' => v = .int .i64 (len64 x) ∧ St w0 l w' := by
 have hl64 := len64_64 hx
 refine enter Tryz.func212 rfl Tryz.results212 Tryz.ntmps212 rfl ?_
 refine Yf ?_
 refine qo (Γ := Nat × Nat) (fun k => [(0, .int .u64 k.1), (2, .int .i64 k.2)]) (fun k w => k.1 < 4294967296 ∧ len64 k.1 + k.2 = len64 x ∧ St w0 l w) ?_ ?_
 ·refine Y4 ?_; refine Y1v ?_
  refine qq (qy (decide ((x : Int) ≥ 4294967296)) rfl (fun hc => ?_) (fun hc => ?_))
  ·have hge : 4294967296 ≤ x := by simp at hc; omega
   refine Y4 ?_
   refine qz (qh (v' := .int .u64 ((x / 2 ^ 32 : Nat) : Int)) (ju rfl rfl O0) (congrArg (Value.int .u64) (q9 x 32 64 O4))) rfl ?_
   refine Y6 ?_; refine j8 ?_; refine Y2 ?_
   exact qq ⟨(x / 2 ^ 32, 32), ⟨rfl, rfl, trivial⟩, by dsimp only; omega, len64_shift hge, h⟩
  ·exact qr ⟨(x, 0), ⟨rfl, rfl, trivial⟩, by simp at hc; dsimp only; omega, rfl, h⟩
 clear h
 rintro ⟨x1, n1⟩ w e ⟨hx1, hl1, h⟩
 dsimp only at hx1 hl1 ⊢
 refine qo (Γ := Nat × Nat) (fun k => [(0, .int .u64 k.1), (2, .int .i64 k.2)]) (fun k w => k.1 < 65536 ∧ len64 k.1 + k.2 = len64 x ∧ St w0 l w) ?_ ?_
 ·refine Y4 ?_; refine Y1v ?_
  refine qq (qy (decide ((x1 : Int) ≥ 65536)) rfl (fun hc => ?_) (fun hc => ?_))
  ·have hge : 65536 ≤ x1 := by simp at hc; omega
   have hsh := len64_shift (k := 16) (x := x1) hge
   refine Y4 ?_
   refine qz (qh (v' := .int .u64 ((x1 / 2 ^ 16 : Nat) : Int)) (ju rfl rfl O0) (congrArg (Value.int .u64) (q9 x1 16 64 O4))) rfl ?_
   refine Y49 ?_
   refine qg (.int .i64 ((n1 + 16 : Nat) : Int)) O5 ?_
   refine Y2 ?_
   exact qq ⟨(x1 / 2 ^ 16, n1 + 16), ⟨rfl, rfl, trivial⟩, by dsimp only; omega, by dsimp only; omega, h⟩
  ·exact qr ⟨(x1, n1), ⟨rfl, rfl, trivial⟩, by simp at hc; dsimp only; omega, hl1, h⟩
 clear h
 rintro ⟨x2, n2⟩ w e ⟨hx2, hl2, h⟩
 dsimp only at hx2 hl2 ⊢
 refine qo (Γ := Nat × Nat) (fun k => [(0, .int .u64 k.1), (2, .int .i64 k.2)]) (fun k w => k.1 < 256 ∧ len64 k.1 + k.2 = len64 x ∧ St w0 l w) ?_ ?_
 ·refine Y4 ?_; refine Y1v ?_
  refine qq (qy (decide ((x2 : Int) ≥ 256)) rfl (fun hc => ?_) (fun hc => ?_))
  ·have hge : 256 ≤ x2 := by simp at hc; omega
   have hsh := len64_shift (k := 8) (x := x2) hge
   refine Y4 ?_
   refine qz (qh (v' := .int .u64 ((x2 / 2 ^ 8 : Nat) : Int)) (ju rfl rfl O0) (congrArg (Value.int .u64) (q9 x2 8 64 O4))) rfl ?_
   refine Y49 ?_
   refine qg (.int .i64 ((n2 + 8 : Nat) : Int)) O5 ?_
   refine Y2 ?_
   exact qq ⟨(x2 / 2 ^ 8, n2 + 8), ⟨rfl, rfl, trivial⟩, by dsimp only; omega, by dsimp only; omega, h⟩
  ·exact qr ⟨(x2, n2), ⟨rfl, rfl, trivial⟩, by simp at hc; dsimp only; omega, hl2, h⟩
 clear h
 rintro ⟨x3, n3⟩ w e ⟨hx3, hl3, h⟩
 dsimp only at hx3 hl3 ⊢
 have hl8 : len64 x3 ≤ 8 := len64_le.2 hx3
 refine Y4 ?_; refine Y2k ?_
 refine qg (.int .u8 (x3 : Int)) (by rw [wrap_u8, Nat.mod_eq_of_lt hx3]) ?_
 refine qz (q_sidx (s := lenTab) O2 rfl (lenTab_get hx3)) rfl ?_
 refine qg (.int .u8 (len64 x3)) (by rw [UInt8.toNat_ofNat', Nat.mod_eq_of_lt O0]) ?_
 refine Yb ?_
 refine qg (.int .i64 (len64 x3)) O13 ?_
 refine Y1n ?_
 refine qg (.int .i64 (len64 x)) O6 ?_
 refine Y6 ?_
 exact qv (bq1 ⟨rfl, h⟩)
theorem mb_Len {x : Nat} (hx : x < 18446744073709551616) (h : St w0 l w) : Ret Tryz.prog 254 [.int .u64 x] w fun v w' => v = .int .i64 (len64 x) ∧ St w0 l w' := by
 refine enter Tryz.func254 rfl Tryz.results254 Tryz.ntmps254 rfl ?_
 refine Yf ?_; refine ql ?_; refine Y3o ?_; refine Y4 ?_
 refine qw rfl (qj rfl (mb_Len64 hx h) ?_)
 rintro _ w ⟨rfl, h⟩
 refine Y6 ?_
 exact qv (bq1 ⟨rfl, h⟩)
theorem mb_LeadingZeros64 {x : Nat} (hx : x < 18446744073709551616) (h : St w0 l w) : Ret Tryz.prog 272 [.int .u64 x] w fun v w' => v = .int .i64 (64 - len64 x : Nat) ∧ St w0 l w' := by
 have hl64 := len64_64 hx
 refine enter Tryz.func272 rfl Tryz.results272 Tryz.ntmps272 rfl ?_
 refine Yf ?_; refine Y4 ?_
 refine qw rfl (qj rfl (mb_Len64 hx h) ?_)
 rintro _ w ⟨rfl, h⟩
 refine Y1p ?_
 refine qg (.int .i64 (64 - len64 x : Nat)) O6 ?_
 refine Y6 ?_
 exact qv (bq1 ⟨rfl, h⟩)
instance undDeB : Und Tryz.prog 355 (.array 64 5) := ⟨Tryz.underlying355⟩
theorem mb_TrailingZeros64 (hT : Tz w0) {x : Nat} (hx : x < 18446744073709551616) (h : St w0 l w) : Ret Tryz.prog 241 [.int .u64 x] w fun v w' => v = .int .i64 (tz x) ∧ St w0 l w' := by
 refine enter Tryz.func241 rfl Tryz.results241 Tryz.ntmps241 rfl ?_
 refine Yf ?_; refine Y2s ?_
 by_cases h0 : x = 0
 ·refine qg (.bool true) (by subst h0; rfl) ?_
  refine Yk ?_; refine Yf ?_
  exact qv (bq1 ⟨by subst h0; rfl, h⟩)
 refine qg (.bool false) O3 ?_
 refine Y9 ?_
 have ht : tz x < 64 := (tzA_odd 64 x h0 hx).2
 obtain ⟨hd1, hd2⟩ := deB_get (tz x) ht
 have hc := hT.cell _ _ hd2
 refine Y4 ?_; refine Y0 ?_; refine qz (q_neg rfl) rfl ?_
 refine qg (.int .u64 ((18446744073709551616 - x : Nat) : Int)) O16 ?_
 refine Y33 ?_
 refine qg (.int .u64 ((2 ^ tz x : Nat) : Int)) (by rw [(jv hx O0).1, low_bit h0 hx]) ?_
 refine Y43 ?_
 refine qg (.int .u64 ((2 ^ tz x * 285870213051353865 % 18446744073709551616 : Nat) : Int)) (by rw [← g9]; rfl) ?_
 refine qz (qh (v' := .int .u64 ((2 ^ tz x * 285870213051353865 % 18446744073709551616 / 2 ^ 58 : Nat) : Int)) (ju rfl rfl O0) (congrArg (Value.int .u64) (q9 _ 58 64 O4))) rfl ?_
 generalize 2 ^ tz x * 285870213051353865 % 18446744073709551616 / 2 ^ 58 = j at hd1 hd2 hc ⊢
 refine qz (q_aidx (j := j) (o' := j) rfl rfl rfl hd1 O7) rfl ?_
 refine qz (qx (v := .int .u8 (tz x)) rfl ((h.cell_old hT.size).trans hc)) rfl ?_
 refine Yb ?_
 refine qg (.int .i64 (tz x)) O13 ?_
 refine Y6 ?_
 exact qv (bq1 ⟨rfl, h⟩)
end
end Go.Proofs.YtnnehiiblfmpnaaGreatDoor

namespace Go.Hw
theorem packW_snoc (b : Nat) : ∀ (l : List Nat) (x : Nat), packW b (l ++ [x]) = packW b l + 2 ^ (b * l.length) * x
 | [], x => by simp [packW]
 | y :: l, x => by
  have hp : 2 ^ (b * (l.length + 1)) = 2 ^ b * 2 ^ (b * l.length) := by rw [Nat.mul_add, Nat.mul_one, Nat.add_comm, Nat.pow_add]
  rw [List.cons_append, packW, packW, packW_snoc b l x, List.length_cons, hp, Nat.mul_add, Nat.mul_assoc, Nat.add_assoc]
theorem or_three {I p y s : Nat} (hp : p < 2 ^ s) (hy : p + y * 2 ^ s < 1152921504606846976) : (I * 1152921504606846976 + p) ||| (y * 2 ^ s) = I * 1152921504606846976 + (p + y * 2 ^ s) := by
 have h1 : I * 1152921504606846976 + p = 2 ^ 60 * I ||| p := by
  rw [← Nat.two_pow_add_eq_or_of_lt (i := 60) O0, Nat.mul_comm]
 have h2 : I * 1152921504606846976 + (p + y * 2 ^ s) = 2 ^ 60 * I ||| (p + y * 2 ^ s) := by
  rw [← Nat.two_pow_add_eq_or_of_lt (i := 60) hy, Nat.mul_comm]
 rw [h1, h2, ← or_shift hp, Nat.or_assoc]
end Go.Hw
namespace Go.Proofs.YtnnehiiblfmpnaaGreatDoor
open Go.Hw
set_option maxHeartbeats 4000000
set_option maxRecDepth 100000
def kindC (k : Nat × Nat) : List Value := [.int .i64 k.1, .int .i64 k.2]
theorem kindC_len (k : Nat × Nat) : (kindC k).length = 2 := rfl
section
variable {w0 w : World} {l : List HProp}
abbrev KindsPt (b : Nat) : HProp := pt b (.cells (kindsL.flatMap kindC).toArray 347 (0, 0))
theorem simp_kinds (h : St w0 l w) : Ret Tryz.prog 249 [] w fun v w' => ∃ b, v = .slice (some ⟨b, 0, none⟩) 16 16 ∧ St w0 (KindsPt b :: l) w' := by
 refine enter Tryz.func249 rfl Tryz.results249 Tryz.ntmps249 rfl ?_
 refine Yn ?_; refine Y1 ?_
 refine qz (qe rfl) rfl (qz (qe rfl) rfl (qz (qe rfl) rfl (qz (qe rfl) rfl (qz (qe rfl) rfl (qz (qe rfl) rfl ?_))))); refine qz (qe rfl) rfl (qz (qe rfl) rfl (qz (qe rfl) rfl (qz (qe rfl) rfl (qz (qe rfl) rfl (qz (qe rfl) rfl ?_))))); refine qz (qe rfl) rfl (qz (qe rfl) rfl (qz (qe rfl) rfl (qz (qe rfl) rfl ?_)))
 refine qw rfl (q5 (r := kindsL.flatMap kindC) h rfl rfl rfl fun b w h => ?_)
 refine Ym ?_
 exact qv (bq1 ⟨b, rfl, h⟩)
theorem all_take_succ {u : List Nat} {j x : Nat} (p : Nat → Bool) (h : u[j]? = some x) (ha : (u.take j).all p = true) (hx : p x = true) : (u.take (j + 1)).all p = true := by
 rw [List.take_add_one, h, List.all_append, ha]; simp [hx]
theorem simp_fits {k : Nat × Nat} {sl : Option Addr} {c : Nat} {u : List Nat} (hk : k.1 ≤ 1000) (hk2 : k.2 ≤ 1000) (hu : ∀ x ∈ u, x < 18446744073709551616) (hn : u.length ≤ 65535) (hc : u.length ≤ c) (hr : Reads w0 l 1 sl u.length (u64V u)) (h : St w0 l w) :
  Ret Tryz.prog 273 [.agg (kindC k).toArray, .slice sl u.length c] w fun v w' => v = .tuple [.int .i64 (((fitsK k u).getD 0 : Nat)), .bool (fitsK k u).isSome].toArray ∧ St w0 l w' := by
 obtain ⟨k1, k2⟩ := k
 dsimp only at hk hk2
 refine enter Tryz.func273 rfl Tryz.results273 Tryz.ntmps273 rfl ?_
 refine Y1 ?_
 refine qw rfl (jy h (show _ = Value.agg (kindC (k1, k2)).toArray from rfl) fun b w h => ?_)
 replace h : St w0 (pt b (.cells (kindC (k1, k2)).toArray 347 (0, 0)) :: l) w := h
 refine Yt ?_
 refine qo (Γ := Unit) (fun _ => [(1, .slice sl u.length c), (2, .pointer (some ⟨b, 0, none⟩))]) (fun _ w => ¬ (k2 = 0 ∧ u.length < k1) ∧ St w0 (pt b (.cells (kindC (k1, k2)).toArray 347 (0, 0)) :: l) w) ?_ ?_
 ·refine Y35 ?_; refine qz (qk rfl (h.b 0) rfl) rfl ?_; refine Yd ?_
  by_cases h0 : k2 = 0
  ·refine qg (.bool true) (by subst h0; rfl) ?_
   refine Y36 ?_; refine Y58 ?_; refine qz (qk rfl (h.b 0) rfl) rfl ?_; refine Y7 ?_; refine Ys ?_
   by_cases h1 : u.length < k1
   ·refine qg (.bool true) O1 ?_
    refine Yi ?_; refine Y28 ?_; refine Yt ?_
    have e1 : fitsK (k1, k2) u = none := by unfold fitsK; rw [if_pos ⟨h0, h1⟩]
    rw [e1]
    exact qv (bq2 ⟨rfl, h.drop⟩)
   ·refine qg (.bool false) O1 ?_
    refine Yi ?_
    exact qq (q6 rfl (qr ⟨(), ⟨rfl, rfl, trivial⟩, fun hh => h1 hh.2, h⟩))
  ·refine qg (.bool false) O3 ?_
   refine Y16 ?_; refine Y30 ?_
   exact qq (q6 rfl (qr ⟨(), ⟨rfl, rfl, trivial⟩, fun hh => h0 hh.1, h⟩))
 clear h
 rintro ⟨⟩ w e ⟨hno, h⟩
 refine Y21 ?_; refine Y1h ?_; refine qz (qk rfl (h.b 0) rfl) rfl ?_; refine Y51 ?_
 refine qg (.int .i64 ((min u.length k1 : Nat) : Int)) O20 ?_
 refine Y6 ?_; refine ql ?_; refine Yo ?_
 refine qz (q_head (h := min u.length k1) rfl rfl O0) rfl ?_
 refine Y3a ?_; refine Y3f ?_
 refine qc (Γ := Nat) (fun j => [(2, .pointer (some ⟨b, 0, none⟩)), (6, .int .i64 ((min u.length k1 : Nat) : Int)), (26, .slice sl (min u.length k1) c), (27, .int .i64 ((min u.length k1 : Nat) : Int)), (28, .int .i64 j)])
  (fun j w => j ≤ min u.length k1 ∧ (u.take j).all (fun x => decide (len64 x ≤ k2)) = true ∧ St w0 (pt b (.cells (kindC (k1, k2)).toArray 347 (0, 0)) :: l) w) (fun j => min u.length k1 - j) 0 ⟨rfl, rfl, rfl, rfl, rfl, trivial⟩ ⟨Nat.zero_le _, by simp, h⟩ ?_
 clear h
 rintro j w e ⟨hj, hall, h⟩
 refine Y1e ?_
 refine ql (qy (decide ((j : Int) < ((min u.length k1 : Nat) : Int))) rfl (fun hc => ?_) (fun hc => ?_))
 ·
  have hlt : j < min u.length k1 := by simp at hc; omega
  have hg := List.getElem?_eq_getElem (show j < u.length by omega)
  generalize u[j]'O0 = x at hg
  have hx := hu x (List.mem_of_getElem? hg)
  obtain ⟨bs, o, hsl⟩ := (hr.at_ h.drop).some O0
  refine Y4a ?_
  refine qz (qn (b := bs) (o := o) (m := min u.length k1) (c := c) (o' := o + j) O8 rfl rfl hlt O7) rfl ?_
  refine qz (qx (v := .int .u64 x) rfl ((hsl ▸ hr.at_ h.drop).cell (u64V_get hg))) rfl ?_
  refine Y6 ?_
  refine ql (jj none (fun w => St w0 _ w) O2 O2 h.drew fun w h => ?_)
  refine Yj ?_; refine Yl ?_; refine Y1c ?_
  refine qu rfl rfl rfl rfl h (fun _ h => qm rfl (qk (v := .int .i64 k2) rfl (h.b 0 rfl) rfl)) ?_
  refine Yl ?_
  refine qt 1 rfl rfl rfl rfl ?_
  refine (qj rfl (mb_Len64 hx h) ?_)
  rintro _ w ⟨rfl, h⟩
  refine ⟨fun _ => h, ?_⟩
  refine cpv rfl rfl rfl rfl h rfl (gn rfl rfl) ?_
  refine qi ?_
  refine qy (decide ((len64 x : Int) > (k2 : Int))) rfl (fun hc => ?_) (fun hc => ?_)
  ·
   have hgt : ¬ len64 x ≤ k2 := by rw [decide_eq_true_eq] at hc; omega
   refine Y1 ?_; refine Yt ?_
   have e1 : fitsK (k1, k2) u = none := by
    unfold fitsK
    rw [if_neg hno, if_neg]
    intro hh
    have := List.all_eq_true.1 hh x (by
     have : (u.take k1)[j]? = some x := by rw [List.getElem?_take, if_pos O0, hg]
     exact List.mem_of_getElem? this)
    exact hgt (by simpa using this)
   rw [e1]
   exact qv (bq2 ⟨rfl, h.drop⟩)
  ·have hle : len64 x ≤ k2 := by rw [decide_eq_false_iff_not] at hc; omega
   refine Yh ?_; refine Yw ?_
   refine qg (.int .i64 ((j + 1 : Nat) : Int)) O5 ?_
   refine Y0 ?_
   exact qq ⟨j + 1, ⟨rfl, rfl, rfl, rfl, rfl, trivial⟩, ⟨hlt, all_take_succ _ hg hall (by simpa using hle), h⟩, by omega⟩
 have hjn : j = min u.length k1 := by simp at hc; omega
 refine qd ?_
 refine Y4 ?_; refine Yt ?_
 have e1 : fitsK (k1, k2) u = some (min u.length k1) := by
  unfold fitsK
  rw [if_neg hno, if_pos]
  dsimp only
  rcases Nat.le_total u.length k1 with h1 | h1
  ·rw [List.take_of_length_le h1]
   rw [hjn, Nat.min_eq_left h1, List.take_length] at hall; exact hall
  ·rw [hjn, Nat.min_eq_right h1] at hall; exact hall
 rw [e1]
 exact qv (bq2 ⟨rfl, h.drop⟩)
theorem simp_word {b : Nat} {sl : Option Addr} {c : Nat} {u : List Nat} (hu : ∀ x ∈ u, x < 18446744073709551616) (hn : u.length ≤ 65535) (hc_ : u.length ≤ c) (hr : Reads w0 (KindsPt b :: l) 1 sl u.length (u64V u)) (h : St w0 (KindsPt b :: l) w) :
  Ret Tryz.prog 266 [.slice (some ⟨b, 0, none⟩) 16 16, .slice sl u.length c] w fun v w' => v = .tuple [.int .u64 (((wordA 0 kindsL u).getD (0, 0)).1 : Nat), .int .i64 (((wordA 0 kindsL u).getD (0, 0)).2 : Nat)].toArray ∧ St w0 (KindsPt b :: l) w' := by
 refine enter Tryz.func266 rfl Tryz.results266 Tryz.ntmps266 rfl ?_
 refine Y1 ?_; refine Y22 ?_; refine Y34 ?_
 refine qc (Γ := Nat) (fun i => [(1, .slice sl u.length c), (13, .slice (some ⟨b, 0, none⟩) 16 16), (14, .int .i64 16), (15, .int .i64 i)]) (fun i w => i ≤ 16 ∧ wordA i (kindsL.drop i) u = wordA 0 kindsL u ∧ St w0 (KindsPt b :: l) w) (fun i => 16 - i) 0 ⟨rfl, rfl, rfl, rfl, trivial⟩ ⟨Nat.zero_le _, rfl, h⟩ ?_
 clear h
 rintro i w e ⟨hi, hw, h⟩
 refine Y1e ?_
 refine ql (qy (decide ((i : Int) < 16)) rfl (fun hc => ?_) (fun hc => ?_))
 ·
  have hlt : i < 16 := by simp at hc; omega
  have hg := List.getElem?_eq_getElem (show i < kindsL.length from hlt)
  have hdr := List.drop_eq_getElem_cons (show i < kindsL.length from hlt)
  generalize kindsL[i]'hlt = k at hg hdr
  obtain ⟨_, k1, k2, k3⟩ := kindsL_ok i k hg
  have hk2 : k.2 ≤ 60 := Nat.le_trans (Nat.le_mul_of_pos_right _ k1) k3
  refine Yy ?_; refine Y4 ?_
  refine qz (qn (o' := i * 2) rfl rfl rfl hlt O7) rfl ?_
  refine qz (qf (l := kindC k) rfl rfl (fun j v hj => cell_of (h.b 0 rfl) (flat_get kindC_len kindsL i k hg j v hj))) rfl ?_
  refine qw rfl (q7 h fun b7 w h => ?_)
  refine Y2 ?_
  refine qw rfl (qb (vs := kindC k) 0 h rfl rfl rfl rfl rfl rfl rfl fun w h => ?_)
  replace h : St w0 (pt b7 (.cells (kindC k).toArray 347 (0, 0)) :: KindsPt b :: l) w := h
  refine Y4l ?_
  refine qz (qf (l := kindC k) rfl rfl (qp (h.b 0 rfl) rfl)) rfl ?_
  refine Yp ?_
  refine qw rfl (qj rfl (simp_fits (k := k) O0 O0 hu hn hc_ hr.cons h) ?_)
  rintro _ w ⟨rfl, h⟩
  refine Y2j ?_; refine Yt ?_
  rw [hdr, wordA] at hw
  refine Y1s ?_; refine Y3 ?_
  cases hf : fitsK k u with
  | none =>
   rw [hf] at hw
   refine Y1o ?_
   refine qd ?_
   refine Yw ?_
   refine qg (.int .i64 ((i + 1 : Nat) : Int)) O5 ?_
   refine Y0 ?_
   exact qq ⟨i + 1, ⟨rfl, rfl, rfl, rfl, trivial⟩, ⟨hlt, hw, h.drop⟩, by omega⟩
  | some m =>
   rw [hf] at hw
   obtain ⟨f1, f2, f3⟩ := fitsK_some hf
   refine Y3o ?_; refine Y4 ?_; refine Yb ?_
   refine qg (.int .u64 (i : Int)) O9 ?_
   refine qz (qh (v' := .int .u64 ((i * 1152921504606846976 + packW k.2 (u.take 0) : Nat) : Int)) (gk rfl rfl O0) (by rw [show IntKind.u64.wrap ((i : Int) * 2 ^ (min (60 : Int).toNat IntKind.u64.bits)) = ((i * 2 ^ 60 % 18446744073709551616 : Nat) : Int) from ji i 60 O4, Nat.mod_eq_of_lt O0]; simp [packW])) rfl ?_
   refine Y6 ?_; refine ql ?_; refine Yo ?_
   refine qz (q_head (h := m) rfl rfl O0) rfl ?_
   refine Y3a ?_; refine Y3f ?_
   refine qc (Γ := Nat) (fun j => [(7, .pointer (some ⟨b7, 0, none⟩)), (8, .int .i64 m), (10, .int .u64 ((i * 1152921504606846976 + packW k.2 (u.take j) : Nat) : Int)), (33, .slice sl m c), (34, .int .i64 m), (35, .int .i64 j)])
    (fun j w => j ≤ m ∧ St w0 (pt b7 (.cells (kindC k).toArray 347 (0, 0)) :: KindsPt b :: l) w) (fun j => m - j) 0 ⟨rfl, rfl, rfl, rfl, rfl, rfl, trivial⟩ ⟨Nat.zero_le _, h⟩ ?_
   clear h
   rintro j w e ⟨hj, h⟩
   refine Y1e ?_
   refine ql (qy (decide ((j : Int) < (m : Int))) rfl (fun hc => ?_) (fun hc => ?_))
   ·
    have hjm : j < m := by simp at hc; omega
    have hgu := List.getElem?_eq_getElem (show j < u.length by omega)
    generalize u[j]'O0 = x at hgu
    have hxb : x < 2 ^ k.2 := f2 x (by
     have : (u.take m)[j]? = some x := by rw [List.getElem?_take, if_pos hjm, hgu]
     exact List.mem_of_getElem? this)
    have hsum : packW k.2 (u.take (j + 1)) = packW k.2 (u.take j) + 2 ^ (k.2 * j) * x := by
     rw [List.take_add_one, hgu]
     show packW k.2 (u.take j ++ [x]) = _
     rw [packW_snoc, List.length_take, Nat.min_eq_left O0]
    have hjk : j * k.2 ≤ 60 := by
     have : j * k.2 ≤ k.1 * k.2 := Nat.mul_le_mul_right _ O0
     rw [Nat.mul_comm k.1] at this; omega
    have hlt60 : packW k.2 (u.take (j + 1)) < 1152921504606846976 := by
     refine Nat.lt_of_lt_of_le (packW_lt (fun y hy => f2 y (by
      have hp : u.take (j + 1) = (u.take m).take (j + 1) := by rw [List.take_take, Nat.min_eq_left O0]
      rw [hp] at hy; exact List.mem_of_mem_take hy))) ?_
     have : k.2 * (u.take (j + 1)).length ≤ 60 := by
      rw [List.length_take]
      exact Nat.le_trans (Nat.mul_le_mul_left _ O0) k3
     exact Nat.pow_le_pow_right O4 this
    have hpl : packW k.2 (u.take j) < 2 ^ (j * k.2) := by
     have := packW_lt (b := k.2) (l := u.take j) (fun y hy => f2 y (by
      have hp : u.take j = (u.take m).take j := by rw [List.take_take, Nat.min_eq_left O0]
      rw [hp] at hy; exact List.mem_of_mem_take hy))
     rwa [List.length_take, Nat.min_eq_left O0, Nat.mul_comm] at this
    rw [Nat.mul_comm k.2 j, Nat.mul_comm (2 ^ (j * k.2)) x] at hsum
    obtain ⟨bs, o, hsl⟩ := (hr.cons.at_ h).some O0
    refine Yy ?_; refine Y4 ?_
    refine qz (qn (b := bs) (o := o) (m := m) (c := c) (o' := o + j) O8 rfl rfl hjm O7) rfl ?_
    refine qz (qx (v := .int .u64 x) rfl ((hsl ▸ hr.cons.at_ h).cell (u64V_get hgu))) rfl ?_
    refine Y22 ?_; refine Y1a ?_; refine Y0 ?_; refine Y0 ?_; refine Y1h ?_
    refine qz (qk (v := .int .i64 k.2) rfl (h.b 0 rfl) rfl) rfl ?_
    refine Y43 ?_
    refine qg (.int .i64 ((j * k.2 : Nat) : Int)) O34 ?_
    refine qz (qh (v' := .int .u64 ((x * 2 ^ (j * k.2) : Nat) : Int)) (gk rfl rfl O0) (by rw [ji _ _ O0, Nat.mod_eq_of_lt O0])) rfl ?_
    refine Y50 ?_
    refine qg (.int .u64 ((i * 1152921504606846976 + packW k.2 (u.take (j + 1)) : Nat) : Int)) (by
     rw [(jv O0 O0).2.1, hsum, or_three hpl O0]) ?_
    refine Y6 ?_; refine Yw ?_
    refine qg (.int .i64 ((j + 1 : Nat) : Int)) O5 ?_
    refine Y0 ?_
    exact qq ⟨j + 1, ⟨rfl, rfl, rfl, rfl, rfl, rfl, trivial⟩, ⟨hjm, h⟩, by omega⟩
   obtain rfl : j = m := by simp at hc; omega
   refine qd ?_
   refine Y4 ?_; refine Y0 ?_; refine Y22 ?_
   rw [← hw]
   exact qv (bq2 ⟨rfl, h.drop⟩)
 have hin : i = 16 := by simp at hc; omega
 rw [hin] at hw
 refine qd ?_
 refine Y1 ?_; refine Y22 ?_
 rw [← hw]
 exact qv (bq2 ⟨rfl, h⟩)
end
end Go.Proofs.YtnnehiiblfmpnaaGreatDoor

namespace Go.Proofs.YtnnehiiblfmpnaaGreatDoor
open Go.Hw
set_option maxHeartbeats 4000000
set_option maxRecDepth 100000
section
variable {w0 w : World} {l : List HProp}
abbrev frmC (f : Frm) : List Value := [.int .u64 f.ahead, .int .i64 f.long, .int .i64 f.bits]
theorem time_which (d : Int) (h : St w0 l w) : Ret Tryz.prog 247 [.int .i64 d] w fun v w' => v = .agg (frmC (which d)).toArray ∧ St w0 l w' := by
 refine enter Tryz.func247 rfl Tryz.results247 Tryz.ntmps247 rfl ?_
 refine Y1 ?_
 refine qw rfl (q7 h fun b w h => ?_)
 refine Y3 ?_
 refine qo (Γ := Unit) (fun _ => [(2, .pointer (some ⟨b, 0, none⟩))]) (fun _ w => which d = ⟨15, 4, 64⟩ ∧ St w0 (pt b (.cells (frmC ⟨0, 0, 0⟩).toArray 337 (0, 0)) :: l) w) ?_ ?_
 ·refine Ya ?_; refine Y4 ?_; refine Yd ?_; refine Yc ?_
  refine qy (d == 0) rfl (fun hc => ?_) (fun h0 => ?_)
  ·
   have hw : which d = ⟨0, 1, 0⟩ := by unfold which; rw [if_pos O25]
   refine Y1 ?_
   refine qz (qe (r := frmC ⟨0, 1, 0⟩) rfl) rfl ?_
   refine qw rfl (qb (vs := frmC ⟨0, 1, 0⟩) 0 h rfl rfl rfl rfl rfl rfl rfl fun w h => ?_)
   refine Y3 ?_
   rw [hw]
   exact qv (bqS1 (l := frmC ⟨0, 1, 0⟩) rfl rfl (qp (h.b 0 rfl) rfl) ⟨rfl, h.drop⟩)
  have h0 : ¬ d = 0 := by simpa using h0
  refine qo (Γ := Bool) (fun k => [(0, .int .i64 d), (2, .pointer (some ⟨b, 0, none⟩)), (7, .bool k)]) (fun k w => (k = true ↔ -64 ≤ d ∧ d ≤ 63) ∧ St w0 (pt b (.cells (frmC ⟨0, 0, 0⟩).toArray 337 (0, 0)) :: l) w) ?_ ?_
  ·refine Y1a ?_; refine Y1v ?_
   by_cases h1 : -64 ≤ d
   ·refine qg (.bool true) (congrArg Value.bool (decide_eq_true h1)) ?_
    refine Y10 ?_; refine Y4x ?_; refine Y4m ?_
    exact qq ⟨decide (d ≤ 63), ⟨rfl, rfl, rfl, trivial⟩, by rw [decide_eq_true_eq]; exact ⟨fun h => ⟨h1, h⟩, fun h => h.2⟩, h⟩
   ·refine qg (.bool false) (congrArg Value.bool (decide_eq_false h1)) ?_
    refine Y15 ?_; refine Y8 ?_; refine Ye ?_
    exact qq ⟨false, ⟨rfl, rfl, rfl, trivial⟩, ⟨(fun h => by cases h), fun h => absurd h.1 h1⟩, h⟩
  clear h
  rintro k w e ⟨hk1, h⟩
  refine qy k rfl (fun hc => ?_) (fun hc1 => ?_)
  ·
   have hw : which d = ⟨2, 2, 7⟩ := by unfold which; rw [if_neg h0, if_pos (hk1.1 hc)]
   refine Y1 ?_
   refine qz (qe (r := frmC ⟨2, 2, 7⟩) rfl) rfl ?_
   refine qw rfl (qb (vs := frmC ⟨2, 2, 7⟩) 0 h rfl rfl rfl rfl rfl rfl rfl fun w h => ?_)
   refine Y3 ?_
   rw [hw]
   exact qv (bqS1 (l := frmC ⟨2, 2, 7⟩) rfl rfl (qp (h.b 0 rfl) rfl) ⟨rfl, h.drop⟩)
  refine qo (Γ := Bool) (fun k => [(0, .int .i64 d), (2, .pointer (some ⟨b, 0, none⟩)), (15, .bool k)]) (fun k w => (k = true ↔ -256 ≤ d ∧ d ≤ 255) ∧ St w0 (pt b (.cells (frmC ⟨0, 0, 0⟩).toArray 337 (0, 0)) :: l) w) ?_ ?_
  ·refine Y1a ?_; refine Y1v ?_
   by_cases h1 : -256 ≤ d
   ·refine qg (.bool true) (congrArg Value.bool (decide_eq_true h1)) ?_
    refine Y10 ?_; refine Y4x ?_; refine Y4m ?_
    exact qq ⟨decide (d ≤ 255), ⟨rfl, rfl, rfl, trivial⟩, by rw [decide_eq_true_eq]; exact ⟨fun h => ⟨h1, h⟩, fun h => h.2⟩, h⟩
   ·refine qg (.bool false) (congrArg Value.bool (decide_eq_false h1)) ?_
    refine Y15 ?_; refine Y8 ?_; refine Ye ?_
    exact qq ⟨false, ⟨rfl, rfl, rfl, trivial⟩, ⟨(fun h => by cases h), fun h => absurd h.1 h1⟩, h⟩
  clear h
  rintro k2 w e ⟨hk2, h⟩
  have n1 : ¬ (-64 ≤ d ∧ d ≤ 63) := fun hh => by rw [hk1.2 hh] at hc1; cases hc1
  refine qy k2 rfl (fun hc => ?_) (fun hc2 => ?_)
  ·
   have hw : which d = ⟨6, 3, 9⟩ := by unfold which; rw [if_neg h0, if_neg n1, if_pos (hk2.1 hc)]
   refine Y1 ?_
   refine qz (qe (r := frmC ⟨6, 3, 9⟩) rfl) rfl ?_
   refine qw rfl (qb (vs := frmC ⟨6, 3, 9⟩) 0 h rfl rfl rfl rfl rfl rfl rfl fun w h => ?_)
   refine Y3 ?_
   rw [hw]
   exact qv (bqS1 (l := frmC ⟨6, 3, 9⟩) rfl rfl (qp (h.b 0 rfl) rfl) ⟨rfl, h.drop⟩)
  refine qo (Γ := Bool) (fun k => [(0, .int .i64 d), (2, .pointer (some ⟨b, 0, none⟩)), (23, .bool k)]) (fun k w => (k = true ↔ -2048 ≤ d ∧ d ≤ 2047) ∧ St w0 (pt b (.cells (frmC ⟨0, 0, 0⟩).toArray 337 (0, 0)) :: l) w) ?_ ?_
  ·refine Y1a ?_; refine Y1v ?_
   by_cases h1 : -2048 ≤ d
   ·refine qg (.bool true) (congrArg Value.bool (decide_eq_true h1)) ?_
    refine Y10 ?_; refine Y4x ?_; refine Y4m ?_
    exact qq ⟨decide (d ≤ 2047), ⟨rfl, rfl, rfl, trivial⟩, by rw [decide_eq_true_eq]; exact ⟨fun h => ⟨h1, h⟩, fun h => h.2⟩, h⟩
   ·refine qg (.bool false) (congrArg Value.bool (decide_eq_false h1)) ?_
    refine Y15 ?_; refine Y8 ?_; refine Ye ?_
    exact qq ⟨false, ⟨rfl, rfl, rfl, trivial⟩, ⟨(fun h => by cases h), fun h => absurd h.1 h1⟩, h⟩
  clear h
  rintro k3 w e ⟨hk3, h⟩
  have n2 : ¬ (-256 ≤ d ∧ d ≤ 255) := fun hh => by rw [hk2.2 hh] at hc2; cases hc2
  refine qy k3 rfl (fun hc => ?_) (fun hc3 => ?_)
  ·
   have hw : which d = ⟨14, 4, 12⟩ := by unfold which; rw [if_neg h0, if_neg n1, if_neg n2, if_pos (hk3.1 hc)]
   refine Y1 ?_
   refine qz (qe (r := frmC ⟨14, 4, 12⟩) rfl) rfl ?_
   refine qw rfl (qb (vs := frmC ⟨14, 4, 12⟩) 0 h rfl rfl rfl rfl rfl rfl rfl fun w h => ?_)
   refine Y3 ?_
   rw [hw]
   exact qv (bqS1 (l := frmC ⟨14, 4, 12⟩) rfl rfl (qp (h.b 0 rfl) rfl) ⟨rfl, h.drop⟩)
  have n3 : ¬ (-2048 ≤ d ∧ d ≤ 2047) := fun hh => by rw [hk3.2 hh] at hc3; cases hc3
  exact qr ⟨(), ⟨rfl, trivial⟩, by unfold which; rw [if_neg h0, if_neg n1, if_neg n2, if_neg n3], h⟩
 clear h
 rintro ⟨⟩ w e ⟨hw, h⟩
 refine Y1 ?_
 refine qz (qe (r := frmC ⟨15, 4, 64⟩) rfl) rfl ?_
 refine qw rfl (qb (vs := frmC ⟨15, 4, 64⟩) 0 h rfl rfl rfl rfl rfl rfl rfl fun w h => ?_)
 refine Y3 ?_
 rw [hw]
 exact qv (bqS1 (l := frmC ⟨15, 4, 64⟩) rfl rfl (qp (h.b 0 rfl) rfl) ⟨rfl, h.drop⟩)
theorem which_le (d : Int) : (which d).ahead ≤ 15 ∧ (which d).long ≤ 4 ∧ (which d).bits ≤ 64 := by
 rcases which_cases d with ⟨h, _⟩ | ⟨h, _⟩ | ⟨h, _⟩ | ⟨h, _⟩ | h <;> rw [h] <;> decide
theorem timesRest_len : ∀ (ts : List Int) (was step : Nat), (timesRest was step ts).length ≤ 68 * ts.length
 | [], _, _ => Nat.le_refl _
 | t :: ts, was, step => by
  have h1 := timesRest_len ts (us t) (diff (us t) was)
  obtain ⟨_, h2, h3⟩ := which_le (sg (diff (diff (us t) was) step))
  rw [timesRest, List.length_append, List.length_append, bitsOf_len, bitsOf_len, List.length_cons]
  omega
theorem timesBits_len (ts : List Int) : (timesBits ts).length ≤ 68 * ts.length := by
 cases ts with
 | nil => exact Nat.le_refl _
 | cons t ts =>
  have := timesRest_len ts (us t) 0
  rw [timesBits, List.length_append, bitsOf_len, List.length_cons]
  omega
theorem wrap_diff {a b : Nat} (hb : b < 18446744073709551616) : IntKind.u64.wrap ((a : Int) - (b : Int)) = ((diff a b : Nat) : Int) := by
 rw [jt]; unfold us diff; omega
theorem gr (a b : Nat) : IntKind.u64.wrap ((a : Int) + (b : Int)) = ((summ a b : Nat) : Int) := by
 rw [jt]; unfold us summ; omega
theorem time_Encode {p : Nat} {bs : List Bool} {sl : Option Addr} {c : Nat} {ts : List Int} (hi : ∀ t ∈ ts, I64 t) (hn : ts.length ≤ 65535) (hb : bs.length ≤ 1073741824) (h : St w0 (IsBW p bs :: l) w) (hr : ∀ bs' w', St w0 (IsBW p bs' :: l) w' → Rd w' 1 sl ts.length (i64V ts)) :
  Ret Tryz.prog 236 [.pointer (some ⟨p, 0, none⟩), .slice sl ts.length c] w fun v w' => v = .tuple #[] ∧ St w0 (IsBW p (bs ++ timesBits ts) :: l) w' := by
 refine enter Tryz.func236 rfl Tryz.results236 Tryz.ntmps236 rfl ?_
 have htl := timesBits_len ts
 refine Y1 ?_; refine Y22 ?_; refine Y21 ?_; refine Y3f ?_
 refine qc (Γ := Nat × Nat × Nat × List Bool) (fun k => [(0, .pointer (some ⟨p, 0, none⟩)), (4, .int .u64 k.2.1), (5, .int .u64 k.2.2.1), (11, .slice sl ts.length c), (12, .int .i64 ts.length), (13, .int .i64 k.1)])
  (fun k w => k.1 ≤ ts.length ∧ k.2.1 < 18446744073709551616 ∧ k.2.2.1 < 18446744073709551616 ∧ (k.1 = 0 → k.2.2.1 = 0 ∧ k.2.2.2 = bs) ∧ (0 < k.1 → k.2.2.2 ++ timesRest k.2.1 k.2.2.1 (ts.drop k.1) = bs ++ timesBits ts) ∧ k.2.2.2.length ≤ bs.length + (timesBits ts).length ∧ St w0 (IsBW p k.2.2.2 :: l) w)
  (fun k => ts.length - k.1) (0, 0, 0, bs) ⟨rfl, rfl, rfl, rfl, rfl, rfl, trivial⟩ ⟨Nat.zero_le _, (by decide : (0 : Nat) < 18446744073709551616), (by decide : (0 : Nat) < 18446744073709551616), fun _ => ⟨rfl, rfl⟩, (fun h => absurd h (by decide : ¬ (0 : Nat) < 0)), Nat.le_add_right _ _, h⟩ ?_
 clear h
 rintro ⟨i, was, step, out⟩ w e ⟨hin, hwas, hstep, h00, hnz, hol, h⟩
 dsimp only at hin hwas hstep h00 hnz hol h ⊢
 refine Y1e ?_
 refine ql (qy (decide ((i : Int) < (ts.length : Int))) rfl (fun hc => ?_) (fun hc => ?_))
 ·
  have hlt : i < ts.length := by simp at hc; omega
  have hg := List.getElem?_eq_getElem hlt
  have hdr := List.drop_eq_getElem_cons hlt
  generalize ts[i] = t at hg hdr
  have ht := hi t (List.mem_of_getElem? hg)
  have hut := us_lt t
  obtain ⟨b, o, hsl⟩ := (hr _ w h).some O0
  refine Yh ?_
  refine qo (Γ := Nat × List Bool) (fun k => [(0, .pointer (some ⟨p, 0, none⟩)), (4, .int .u64 (us t)), (5, .int .u64 k.1), (11, .slice sl ts.length c), (12, .int .i64 ts.length), (13, .int .i64 i)])
   (fun k w => k.1 < 18446744073709551616 ∧ k.2 ++ timesRest (us t) k.1 (ts.drop (i + 1)) = bs ++ timesBits ts ∧ St w0 (IsBW p k.2 :: l) w) ?_ ?_
  ·refine Ya ?_; refine Y4 ?_
   refine qz (qn (b := b) (o := o) (m := ts.length) (c := c) (o' := o + i) O8 rfl rfl hlt O7) rfl ?_
   refine qz (qx (v := .int .i64 t) rfl ((hsl ▸ hr _ w h).cell (i64V_get hg))) rfl ?_
   refine Y22 ?_; refine Y4 ?_; refine Yb ?_
   refine qg (.int .u64 (us t : Nat)) (by rw [jt]) ?_
   refine Y6 ?_; refine Y2s ?_
   by_cases hi0 : i = 0
   ·refine qg (.bool true) O35 ?_
    refine Yk ?_
    obtain ⟨hs0, ho0⟩ := h00 hi0
    refine Yr ?_; refine Y0 ?_
    refine qw rfl (qj rfl (gj (us t) 64 hut O0 h) ?_)
    rintro _ w ⟨rfl, h⟩
    refine Y3 ?_; refine Y2z ?_
    refine qd ⟨(step, out ++ bitsOf (us t) (heldN 64)), ⟨rfl, rfl, rfl, rfl, rfl, rfl, trivial⟩, hstep, ?_, h⟩
    rw [hi0, List.drop_zero] at hdr
    rw [hdr, ho0, hs0, hi0, timesBits, List.append_assoc]
    rfl
   refine qg (.bool false) O1 ?_
   refine Y9 ?_
   have he := hnz O0
   rw [hdr, timesRest] at he
   refine Y4 ?_; refine Y1u ?_
   refine qg (.int .u64 (diff (us t) was : Nat)) (by rw [wrap_diff hwas]) ?_
   refine Y1u ?_
   refine qg (.int .u64 (diff (diff (us t) was) step : Nat)) (by rw [wrap_diff hstep]) ?_
   have hd : diff (diff (us t) was) step < 18446744073709551616 := Nat.mod_lt _ O4
   have hd1 : diff (us t) was < 18446744073709551616 := Nat.mod_lt _ O4
   generalize hde : diff (diff (us t) was) step = d at *
   obtain ⟨hf1, hf2, hf3⟩ := which_le (sg d)
   have hlen := congrArg List.length he
   simp only [List.length_append, bitsOf_len] at hlen
   refine Y3p ?_; refine Yb ?_
   refine qg (.int .i64 (sg d)) (by rw [gm hd]) ?_
   refine qw rfl (qj rfl (time_which (sg d) h) ?_)
   rintro _ w ⟨rfl, h⟩
   refine qw rfl (q7 h fun b2 w h => ?_)
   refine qw rfl (qb (vs := frmC (which (sg d))) 0 h rfl rfl rfl rfl rfl rfl rfl fun w h => ?_)
   replace h : St w0 (pt b2 (.cells (frmC (which (sg d))).toArray 337 (0, 0)) :: IsBW p out :: l) w := h
   refine Y2v ?_; refine Y1h ?_; refine qz (qk rfl (h.b 0) rfl) rfl ?_; refine Y1h ?_; refine qz (qk rfl (h.b 0) rfl) rfl ?_
   refine qw rfl (qj rfl (gj (which (sg d)).ahead (which (sg d)).long O0 O0 (h.f 1)) ?_)
   rintro _ w ⟨rfl, h⟩
   refine Y2v ?_; refine Y0 ?_; refine Y1h ?_; refine qz (qk rfl (h.b 1) rfl) rfl ?_
   refine qw rfl (qj rfl (gj d (which (sg d)).bits hd (by rw [heldN_nat O0, List.length_append, bitsOf_len]; omega) h) ?_)
   rintro _ w ⟨rfl, h⟩
   refine Y3 ?_; refine Y1a ?_; refine Y0 ?_; refine Y1u ?_
   refine qg (.int .u64 (diff (us t) was : Nat)) (by rw [wrap_diff hwas]) ?_
   refine Y2 ?_; refine Y2 ?_
   refine qq ⟨(diff (us t) was, _), ⟨rfl, rfl, rfl, rfl, rfl, rfl, trivial⟩, hd1, ?_, (h.f 1).drop⟩
   rw [heldN_nat O0, heldN_nat O0, List.append_assoc, List.append_assoc, ← he]
  clear h
  rintro ⟨step', out'⟩ w e ⟨hs', he', h⟩
  dsimp only at hs' he' h ⊢
  refine Yw ?_
  refine qg (.int .i64 ((i + 1 : Nat) : Int)) O5 ?_
  refine Y0 ?_
  refine qq ⟨(i + 1, us t, step', out'), ⟨rfl, rfl, rfl, rfl, rfl, rfl, trivial⟩, ⟨hlt, hut, hs', (fun h => by cases h), fun _ => he', ?_, h⟩, by dsimp only; omega⟩
  have := congrArg List.length he'
  simp only [List.length_append] at this
  dsimp only
  omega
 have hin' : i = ts.length := by simp at hc; omega
 refine qd ?_
 have : out = bs ++ timesBits ts := by
  rcases Nat.eq_zero_or_pos i with h0 | h0
  ·rw [(h00 h0).2]
   have : ts = [] := List.eq_nil_of_length_eq_zero O0
   rw [this]; simp [timesBits]
  ·have := hnz h0
   rw [hin', List.drop_length, timesRest, List.append_nil] at this
   exact this
 rw [← this]
 exact (show (packv [] : Value) = .tuple #[] ∧ _ from ⟨rfl, h⟩)
end
end Go.Proofs.YtnnehiiblfmpnaaGreatDoor

namespace Go.Proofs.YtnnehiiblfmpnaaGreatDoor
open Go.Hw
set_option maxHeartbeats 4000000
set_option maxRecDepth 100000
abbrev winC (w : Win) : List Value := [.bool w.is, .int .i64 w.lead, .int .i64 w.trail]
def WinOk (w : Win) : Prop := w.lead + w.trail ≤ 63
theorem winOk_of {x : Nat} (h0 : x ≠ 0) (h : x < 18446744073709551616) : WinOk (winOf x) := by
 obtain ⟨h1, h2, _, _⟩ := winOf_long h0 h
 unfold WinOk; omega
theorem win_long_le (w : Win) : w.long ≤ 64 := by unfold Win.long; omega
section
variable {w0 w : World} {l : List HProp}
abbrev WinPt (b : Nat) (win : Win) : HProp := pt b (.cells (winC win).toArray 340 (0, 0))
theorem xorv_of (hT : Tz w0) {x : Nat} (hx : x < 18446744073709551616) (h : St w0 l w) : Ret Tryz.prog 264 [.int .u64 x] w fun v w' => v = .agg (winC (winOf x)).toArray ∧ St w0 l w' := by
 refine enter Tryz.func264 rfl Tryz.results264 Tryz.ntmps264 rfl ?_
 refine Y1 ?_
 refine qw rfl (q7 h fun b w h => ?_)
 refine Y3 ?_; refine Y4 ?_
 refine qw rfl (qj rfl (mb_LeadingZeros64 hx h) ?_)
 rintro _ w ⟨rfl, h⟩
 refine Y51 ?_
 refine qg (.int .i64 (winOf x).lead) (by unfold winOf; congr 1; dsimp only; omega) ?_
 refine Y0 ?_
 refine qw rfl (qj rfl (mb_TrailingZeros64 hT hx h) ?_)
 rintro _ w ⟨rfl, h⟩
 refine qz (qe (r := winC (winOf x)) rfl) rfl ?_
 refine qw rfl (qb (vs := winC (winOf x)) 0 h rfl rfl rfl rfl rfl rfl rfl fun w h => ?_)
 refine Y3 ?_
 exact qv (bqS1 (l := winC (winOf x)) rfl rfl (qp (h.b 0 rfl) rfl) ⟨rfl, h.drop⟩)
theorem xorv_long {win : Win} (ho : WinOk win) (h : St w0 l w) : Ret Tryz.prog 263 [.agg (winC win).toArray] w fun v w' => v = .int .i64 win.long ∧ St w0 l w' := by
 unfold WinOk at ho
 refine enter Tryz.func263 rfl Tryz.results263 Tryz.ntmps263 rfl ?_
 refine Y1 ?_
 refine qw rfl (jy h (show _ = Value.agg (winC win).toArray from rfl) fun b w h => ?_)
 refine Y6 ?_; refine Y35 ?_; refine qz (qk rfl (h.b 0) rfl) rfl ?_; refine Y1p ?_
 refine qg (.int .i64 ((64 - win.lead : Nat) : Int)) O6 ?_
 refine Y1h ?_; refine qz (qk rfl (h.b 0) rfl) rfl ?_; refine Y1p ?_
 refine qg (.int .i64 win.long) (by rw [wrap64 O0 O0]; unfold Win.long; congr 1; omega) ?_
 refine Y6 ?_
 exact qv (bq1 ⟨rfl, h.drop⟩)
theorem xorv_fits (hT : Tz w0) {win : Win} {x : Nat} (hx : x < 18446744073709551616) (h : St w0 l w) : Ret Tryz.prog 265 [.agg (winC win).toArray, .int .u64 x] w fun v w' => v = .bool (win.fits x) ∧ St w0 l w' := by
 refine enter Tryz.func265 rfl Tryz.results265 Tryz.ntmps265 rfl ?_
 refine Y1 ?_
 refine qw rfl (jy h (show _ = Value.agg (winC win).toArray from rfl) fun b w h => ?_)
 replace h : St w0 (WinPt b win :: l) w := h
 refine Yc ?_; refine Y4 ?_
 refine qw rfl (qj rfl (xorv_of hT hx h) ?_)
 rintro _ w ⟨rfl, h⟩
 refine qw rfl (q7 h fun b5 w h => ?_)
 refine qw rfl (qb (vs := winC (winOf x)) 0 h rfl rfl rfl rfl rfl rfl rfl fun w h => ?_)
 replace h : St w0 (WinPt b5 (winOf x) :: WinPt b win :: l) w := h
 refine Y3 ?_
 have hfit : win.fits x = (win.is && decide (win.lead ≤ (winOf x).lead) && decide (win.trail ≤ (winOf x).trail)) := rfl
 refine Y35 ?_
 refine qz (qk (v := .bool win.is) rfl (h.b 1 rfl) rfl) rfl ?_
 cases hi : win.is with
 | false =>
  refine Y16 ?_; refine Y30 ?_; refine Y16 ?_; refine Y30 ?_; refine Yc ?_
  refine qv (bq1 ⟨?_, h.drop.drop⟩)
  rw [hfit, hi]; rfl
 | true =>
  refine Y3i ?_
  refine qz (qk (v := .int .i64 (winOf x).lead) rfl (h.b 0 rfl) rfl) rfl ?_
  refine Y4b ?_
  refine qz (qk (v := .int .i64 win.lead) rfl (h.b 1 rfl) rfl) rfl ?_
  refine Y7 ?_; refine Y1v ?_
  by_cases h1 : win.lead ≤ (winOf x).lead
  ·refine qg (.bool true) O1 ?_
   refine Yi ?_; refine Y3i ?_
   refine qz (qk (v := .int .i64 (winOf x).trail) rfl (h.b 0 rfl) rfl) rfl ?_
   refine Y4b ?_
   refine qz (qk (v := .int .i64 win.trail) rfl (h.b 1 rfl) rfl) rfl ?_
   refine Y7 ?_; refine Y1v ?_; refine Yi ?_; refine Yc ?_
   refine qv (bq1 ⟨?_, h.drop.drop⟩)
   rw [hfit, hi, decide_eq_true h1]
   show Value.bool (decide _) = _
   congr 1
   simp only [Bool.true_and, decide_eq_decide]
   omega
  ·refine qg (.bool false) O1 ?_
   refine Yi ?_; refine Y16 ?_; refine Y30 ?_; refine Yc ?_
   refine qv (bq1 ⟨?_, h.drop.drop⟩)
   rw [hfit, hi, decide_eq_false h1]; rfl
theorem xorRest_len : ∀ (vs : List Nat) (win : Win) (was : Nat), (xorRest win was vs).length ≤ 77 * vs.length
 | [], _, _ => Nat.le_refl _
 | v :: vs, win, was => by
  have h1 := xorRest_len vs win v
  have h2 := xorRest_len vs (winOf (v ^^^ was)) v
  have h3 := win_long_le win
  have h4 := win_long_le (winOf (v ^^^ was))
  rw [xorRest, List.length_cons]
  split
  ·rw [List.length_append, bitsOf_len]; omega
  ·split
   ·rw [List.length_append, List.length_append, bitsOf_len, bitsOf_len]; omega
   ·rw [List.length_append, List.length_append, List.length_append, List.length_append, bitsOf_len, bitsOf_len, bitsOf_len, bitsOf_len]; omega
theorem xorBits_len (vs : List Nat) : (xorBits vs).length ≤ 77 * vs.length := by
 cases vs with
 | nil => exact Nat.le_refl _
 | cons v vs =>
  have := xorRest_len vs ⟨false, 0, 0⟩ v
  rw [xorBits, List.length_append, bitsOf_len, List.length_cons]; omega
theorem xorv_Encode (hT : Tz w0) {p : Nat} {bs : List Bool} {sl : Option Addr} {c : Nat} {vs : List Nat} (hv : ∀ v ∈ vs, v < 18446744073709551616) (hn : vs.length ≤ 65535) (hb : bs.length ≤ 1073741824) (h : St w0 (IsBW p bs :: l) w) (hr : Reads w0 l 1 sl vs.length (u64V vs)) :
  Ret Tryz.prog 256 [.pointer (some ⟨p, 0, none⟩), .slice sl vs.length c] w fun v w' => v = .tuple #[] ∧ St w0 (IsBW p (bs ++ xorBits vs) :: l) w' := by
 have htl := xorBits_len vs
 have hrd : ∀ {Q R : HProp} {w' : World}, St w0 (Q :: R :: l) w' → Rd w' 1 sl vs.length (u64V vs) := fun {Q R w'} h' => hr [Q, R] w' h'
 refine enter Tryz.func256 rfl Tryz.results256 Tryz.ntmps256 rfl ?_
 refine Y1 ?_
 refine qw rfl (q7 h fun b w h => ?_)
 replace h : St w0 (WinPt b ⟨false, 0, 0⟩ :: IsBW p bs :: l) w := h
 refine Y3 ?_; refine Y21 ?_; refine Y3f ?_
 refine qc (Γ := Nat × Win × List Bool) (fun k => [(0, .pointer (some ⟨p, 0, none⟩)), (1, .slice sl vs.length c), (4, .pointer (some ⟨b, 0, none⟩)), (8, .slice sl vs.length c), (9, .int .i64 vs.length), (10, .int .i64 k.1)])
  (fun k w => k.1 ≤ vs.length ∧ WinOk k.2.1 ∧ (k.1 = 0 → k.2.1 = ⟨false, 0, 0⟩ ∧ k.2.2 = bs) ∧ (0 < k.1 → k.2.2 ++ xorRest k.2.1 (vs.getD (k.1 - 1) 0) (vs.drop k.1) = bs ++ xorBits vs) ∧ St w0 (WinPt b k.2.1 :: IsBW p k.2.2 :: l) w)
  (fun k => vs.length - k.1) (0, ⟨false, 0, 0⟩, bs) ⟨rfl, rfl, rfl, rfl, rfl, rfl, trivial⟩ ⟨Nat.zero_le _, (show (0 : Nat) + 0 ≤ 63 by decide), fun _ => ⟨rfl, rfl⟩, (fun h => absurd h (by decide : ¬ (0 : Nat) < 0)), h⟩ ?_
 clear h
 rintro ⟨i, win, out⟩ w e ⟨hin, hwo, h00, hnz, h⟩
 dsimp only at hin hwo h00 hnz h ⊢
 refine Y1e ?_
 refine ql (qy (decide ((i : Int) < (vs.length : Int))) rfl (fun hc => ?_) (fun hc => ?_))
 ·
  have hlt : i < vs.length := by simp at hc; omega
  have hg := List.getElem?_eq_getElem hlt
  have hdr := List.drop_eq_getElem_cons hlt
  generalize vs[i] = now at hg hdr
  have hnow := hv now (List.mem_of_getElem? hg)
  obtain ⟨bs_, o, hsl⟩ := (hrd h).some O0
  have hol : out.length ≤ bs.length + (xorBits vs).length := by
   rcases Nat.eq_zero_or_pos i with h0 | h0
   ·rw [(h00 h0).2]; omega
   ·have := congrArg List.length (hnz h0)
    simp only [List.length_append] at this
    omega
  refine Yh ?_
  refine qo (Γ := Win × List Bool) (fun _ => [(0, .pointer (some ⟨p, 0, none⟩)), (1, .slice sl vs.length c), (4, .pointer (some ⟨b, 0, none⟩)), (8, .slice sl vs.length c), (9, .int .i64 vs.length), (10, .int .i64 i)])
   (fun k w => WinOk k.1 ∧ k.2 ++ xorRest k.1 now (vs.drop (i + 1)) = bs ++ xorBits vs ∧ St w0 (WinPt b k.1 :: IsBW p k.2 :: l) w) ?_ ?_
  ·refine Ya ?_; refine Y4 ?_
   refine qz (qn (b := bs_) (o := o) (m := vs.length) (c := c) (o' := o + i) O8 rfl rfl hlt O7) rfl ?_
   refine qz (qx (v := .int .u64 now) rfl ((hsl ▸ hrd h).cell (u64V_get hg))) rfl ?_
   refine Y22 ?_; refine Y2s ?_
   by_cases hi0 : i = 0
   ·refine qg (.bool true) O35 ?_
    refine Yk ?_
    obtain ⟨hw0, ho0⟩ := h00 hi0
    refine Yr ?_; refine Y0 ?_
    refine qw rfl (qj rfl (gj now 64 hnow O0 (h.f 1)) ?_)
    rintro _ w ⟨rfl, h⟩
    refine Y3 ?_
    refine qd ⟨(win, out ++ bitsOf now (heldN 64)), ⟨rfl, rfl, rfl, rfl, rfl, rfl, trivial⟩, hwo, ?_, h.f 1⟩
    rw [hi0, List.drop_zero] at hdr
    rw [ho0, hw0, hi0, List.append_assoc]
    conv => rhs; rw [hdr, xorBits]
    rfl
   refine qg (.bool false) O1 ?_
   refine Y9 ?_
   have he := hnz O0
   have hg1 : vs[i - 1]? = some (vs.getD (i - 1) 0) := by
    rw [List.getD, List.getElem?_eq_getElem (show i - 1 < vs.length by omega)]; rfl
   generalize vs.getD (i - 1) 0 = was at hg1 he
   have hwas := hv was (List.mem_of_getElem? hg1)
   have hx : now ^^^ was < 18446744073709551616 := Nat.xor_lt_two_pow (n := 64) hnow hwas
   rw [hdr, xorRest] at he
   refine Y4 ?_; refine Y27 ?_; refine Y1p ?_
   refine qg (.int .i64 ((i - 1 : Nat) : Int)) O6 ?_
   refine qz (qn (b := bs_) (o := o) (m := vs.length) (c := c) (o' := o + (i - 1)) O8 rfl rfl O0 O7) rfl ?_
   refine qz (qx (v := .int .u64 was) rfl ((hsl ▸ hrd h).cell (u64V_get hg1))) rfl ?_
   refine Y3b ?_
   refine qg (.int .u64 ((now ^^^ was : Nat) : Int)) (by rw [(jv hnow hwas).2.2]) ?_
   generalize now ^^^ was = x at hx he
   refine Y6 ?_
   refine qo (Γ := Win × List Bool) (fun _ => [(0, .pointer (some ⟨p, 0, none⟩)), (1, .slice sl vs.length c), (4, .pointer (some ⟨b, 0, none⟩)), (7, .int .u64 x), (8, .slice sl vs.length c), (9, .int .i64 vs.length), (10, .int .i64 i)])
    (fun k w => WinOk k.1 ∧ k.2 ++ (bitsOf (x / 2 ^ k.1.trail) k.1.long ++ xorRest k.1 now (vs.drop (i + 1))) = bs ++ xorBits vs ∧ St w0 (WinPt b k.1 :: IsBW p k.2 :: l) w) ?_ ?_
   ·refine Ya ?_; refine Y4 ?_; refine Yd ?_; refine Yc ?_
    refine qy ((x : Int) == 0) rfl (fun hc => ?_) (fun hc => ?_)
    ·
     have hx0 : x = 0 := by rw [beq_iff_eq] at hc; omega
     rw [if_pos hx0] at he
     refine Yr ?_
     refine qw rfl (qj rfl (gj 0 1 O4 O0 (h.f 1)) ?_)
     rintro _ w ⟨rfl, h⟩
     refine Y3 ?_
     refine qd ⟨(win, out ++ bitsOf 0 (heldN 1)), ⟨rfl, rfl, rfl, rfl, rfl, rfl, trivial⟩, hwo, ?_, h.f 1⟩
     rw [← he, List.append_assoc]; rfl
    have hx0 : x ≠ 0 := by rw [beq_eq_false_iff_ne] at hc; omega
    rw [if_neg hx0] at he
    refine Y1 ?_
    refine qz (qf (l := winC win) rfl rfl (qp (h.b 0 rfl) rfl)) rfl ?_
    refine Y0 ?_
    refine qw rfl (qj rfl (xorv_fits hT hx h) ?_)
    rintro _ w ⟨rfl, h⟩
    refine Yc ?_
    refine qy (win.fits x) rfl (fun hc => ?_) (fun hc => ?_)
    ·
     rw [if_pos hc] at he
     refine Y23 ?_
     refine qw rfl (qj rfl (gj 2 2 O4 O0 (h.f 1)) ?_)
     rintro _ w ⟨rfl, h⟩
     refine qq ⟨(win, out ++ bitsOf 2 (heldN 2)), ⟨rfl, rfl, rfl, rfl, rfl, rfl, rfl, trivial⟩, hwo, ?_, h.f 1⟩
     rw [← he, List.append_assoc]; rfl
    ·
     rw [if_neg (by rw [hc]; simp)] at he
     obtain ⟨l1, l2, l3, l4⟩ := winOf_long hx0 hx
     have hlen := congrArg List.length he
     simp only [List.length_append, bitsOf_len] at hlen
     refine Y4 ?_
     refine qw rfl (qj rfl (xorv_of hT hx h) ?_)
     rintro _ w ⟨rfl, h⟩
     refine qw rfl (qb (vs := winC (winOf x)) 0 h rfl rfl rfl rfl rfl rfl rfl fun w h => ?_)
     replace h : St w0 (WinPt b (winOf x) :: IsBW p out :: l) w := h
     refine Y2v ?_
     refine qw rfl (qj rfl (gj 3 2 O4 O0 (h.f 1)) ?_)
     rintro _ w ⟨rfl, h⟩
     refine Y2v ?_; refine Y1h ?_
     refine qz (qk (v := .int .i64 (winOf x).lead) rfl (h.b 1 rfl) rfl) rfl ?_
     refine Yb ?_
     refine qg (.int .u64 ((winOf x).lead : Int)) O9 ?_
     refine qw rfl (qj rfl (gj (winOf x).lead 5 O0 (by rw [List.length_append, bitsOf_len, show heldN 2 = 2 from rfl]; omega) h) ?_)
     rintro _ w ⟨rfl, h⟩
     refine Y4n ?_
     refine qz (qf (l := winC (winOf x)) rfl rfl (qp (h.b 1 rfl) rfl)) rfl ?_
     refine qw rfl (qj rfl (xorv_long (winOk_of hx0 hx) h) ?_)
     rintro _ w ⟨rfl, h⟩
     refine Y1p ?_
     refine qg (.int .i64 (((winOf x).long - 1 : Nat) : Int)) O6 ?_
     refine Yb ?_
     refine qg (.int .u64 (((winOf x).long - 1 : Nat) : Int)) O9 ?_
     refine qw rfl (qj rfl (gj ((winOf x).long - 1) 6 O0 (by rw [List.length_append, List.length_append, bitsOf_len, bitsOf_len, show heldN 2 = 2 from rfl, show heldN 5 = 5 from rfl]; omega) h) ?_)
     rintro _ w ⟨rfl, h⟩
     refine qq ⟨(winOf x, _), ⟨rfl, rfl, rfl, rfl, rfl, rfl, rfl, trivial⟩, winOk_of hx0 hx, ?_, h.f 1⟩
     dsimp only
     rw [← he, List.append_assoc, List.append_assoc, List.append_assoc]; rfl
   clear h he hwo h00 hnz hol
   rintro ⟨win, out⟩ w e ⟨hwo, he, h⟩
   dsimp only at hwo he h ⊢
   have hlen := congrArg List.length he
   simp only [List.length_append, bitsOf_len] at hlen
   have hll := win_long_le win
   refine j7 [0, 1, 2, 3, 4, 5, 6, 7] none (fun w => w.heap[b]? = some (.cells (winC win).toArray 340 (0, 0))) O2 O2 ?_
   replace h := h.drew
   generalize w.drew = w at h
   have hs := h
   replace h := hs.b 0 rfl
   refine Y25 ?_; refine Yj ?_; refine Y1c ?_
   refine qu rfl rfl rfl rfl h (fun _ h => qm rfl (qk (v := .int .i64 win.trail) rfl h rfl)) ?_
   refine cpv rfl rfl rfl rfl h rfl (qh (v' := .int .u64 ((x / 2 ^ win.trail : Nat) : Int)) (ju rfl rfl O0) (congrArg (Value.int .u64) (q9 x win.trail 64 (by unfold WinOk at hwo; omega)))) ?_
   refine qu rfl rfl rfl rfl h (fun w h => qm rfl (qf (l := winC win) rfl rfl (qp h rfl))) ?_
   refine Yz ?_
   refine qt 6 rfl rfl rfl rfl ?_
   refine (qj rfl (xorv_long hwo hs) ?_)
   rintro _ w ⟨rfl, hs⟩
   replace h := hs.b 0 rfl
   refine ⟨fun _ => h, ?_⟩
   refine Yl ?_
   refine qt 7 rfl rfl rfl rfl ?_
   refine (qj rfl (gj (x / 2 ^ win.trail) win.long (Nat.lt_of_le_of_lt (Nat.div_le_self _ _) hx) O0 (hs.f 1)) ?_)
   rintro _ w ⟨rfl, hs⟩
   replace h := hs.b 1 rfl
   refine ⟨fun _ => h, ?_⟩
   refine qi ⟨(win, out ++ bitsOf (x / 2 ^ win.trail) (heldN win.long)), ⟨rfl, rfl, rfl, rfl, rfl, rfl, trivial⟩, hwo, ?_, hs.f 1⟩
   rw [heldN_nat hll, List.append_assoc]; exact he
  clear h
  rintro ⟨win, out⟩ w e ⟨hwo, he, h⟩
  dsimp only at hwo he h ⊢
  refine Yw ?_
  refine qg (.int .i64 ((i + 1 : Nat) : Int)) O5 ?_
  refine Y0 ?_
  refine qq ⟨(i + 1, win, out), ⟨rfl, rfl, rfl, rfl, rfl, rfl, trivial⟩, ⟨hlt, hwo, (fun h => by cases h), fun _ => ?_, h⟩, by dsimp only; omega⟩
  dsimp only
  rw [Nat.add_sub_cancel, show vs.getD i 0 = now by rw [List.getD, hg]; rfl]
  exact he
 have hin' : i = vs.length := by simp at hc; omega
 refine qd ?_
 have : out = bs ++ xorBits vs := by
  rcases Nat.eq_zero_or_pos i with h0 | h0
  ·rw [(h00 h0).2]
   have : vs = [] := List.eq_nil_of_length_eq_zero O0
   rw [this]; simp [xorBits]
  ·have := hnz h0
   rw [hin', List.drop_length, xorRest, List.append_nil] at this
   exact this
 rw [← this]
 exact (show (packv [] : Value) = .tuple #[] ∧ _ from ⟨rfl, h.drop⟩)
end
end Go.Proofs.YtnnehiiblfmpnaaGreatDoor

namespace Go.Hw
theorem runsA_len : ∀ (l : List Nat) (x k : Nat), (runsA x k l).length ≤ 20 * (l.length + 1)
 | [], x, k => by
  have h1 := jq k; have h2 := jq x
  simp [runsA]; omega
 | y :: r, x, k => by
  have h1 := jq k; have h2 := jq x
  rw [runsA, List.length_cons]
  split
  ·have := runsA_len r x (k + 1); omega
  ·have := runsA_len r y 1
   rw [List.length_append, List.length_append]; omega
theorem runsEnc_len (l : List Nat) : (runsEnc l).length ≤ 20 * l.length := by
 cases l with
 | nil => exact Nat.le_refl _
 | cons x r => exact runsA_len r x 1
end Go.Hw
namespace Go.Proofs.YtnnehiiblfmpnaaGreatDoor
open Go.Hw
set_option maxHeartbeats 4000000
set_option maxRecDepth 100000
abbrev OwnU (a : Option Addr) (c : Nat) (l : List Nat) : HProp := Own 30 1 a l.length c (u64V l)
section
variable {w0 w : World} {l : List HProp}
theorem reads_drop {a : Option Addr} {c : Nat} {u : List Nat} (hr : Reads w0 l 1 a u.length (u64V u)) {n : Nat} (hn : n ≤ u.length) (hc : u.length ≤ c) : Reads w0 l 1 (adv a (n * 1) (Nat.beq c n)) (u.drop n).length (u64V (u.drop n)) := by
 have := hr.tail hn hc
 rw [Nat.mul_one] at this ⊢
 rw [List.length_drop]
 simpa [List.map_drop] using this
theorem simp_Encode {sl : Option Addr} {c : Nat} {u : List Nat} (hu : ∀ x ∈ u, x < 18446744073709551616) (hn : u.length ≤ 65535) (hc : u.length ≤ c) (hr : Reads w0 l 1 sl u.length (u64V u)) (h : St w0 l w) :
  Ret Tryz.prog 250 [.slice sl u.length c] w fun v w' => ∃ a c', v = .tuple [.slice a ((simpEnc u).getD []).length c', .bool (simpEnc u).isSome].toArray ∧ St w0 (OwnU a c' ((simpEnc u).getD []) :: l) w' := by
 refine enter Tryz.func250 rfl Tryz.results250 Tryz.ntmps250 rfl ?_
 refine Y18 ?_; refine Y1 ?_
 refine qw rfl (qj rfl (simp_kinds h) ?_)
 rintro _ w ⟨b, rfl, h⟩
 refine Ym ?_; refine Yn ?_; refine Y1y ?_
 refine qc (Γ := List Nat × Option Addr × Nat × List Nat × Option Addr × Nat) (fun k => [(0, .slice k.2.1 k.1.length k.2.2.1), (4, .slice (some ⟨b, 0, none⟩) 16 16), (5, .slice k.2.2.2.2.1 k.2.2.2.1.length k.2.2.2.2.2)])
  (fun k w => (simpEnc k.1).map (fun r => k.2.2.2.1 ++ r) = simpEnc u ∧ (∀ x ∈ k.1, x < 18446744073709551616) ∧ k.2.2.2.1.length + k.1.length ≤ u.length ∧ k.1.length ≤ k.2.2.1 ∧ Reads w0 l 1 k.2.1 k.1.length (u64V k.1) ∧ St w0 (KindsPt b :: OwnU k.2.2.2.2.1 k.2.2.2.2.2 k.2.2.2.1 :: l) w)
  (fun k => k.1.length) (u, sl, c, [], none, 0) ⟨rfl, rfl, rfl, trivial⟩ ⟨by simp, hu, by simp, hc, hr, (St.ownNil 30 1 h).f 1⟩ ?_
 clear h hr hc hu
 rintro ⟨u', a', c', out, oa, oc⟩ w e ⟨he, hu, hlen, hc, hr, h⟩
 dsimp only at he hu hlen hc hr h ⊢
 refine Y1w ?_; refine Y1q ?_; refine Y3 ?_
 refine qy (decide ((u'.length : Int) > 0)) rfl (fun hcc => ?_) (fun hcc => ?_)
 ·
  have hpos : 0 < u'.length := by simp at hcc; omega
  have hne : u' ≠ [] := List.length_pos_iff.1 hpos
  refine Y3x ?_; refine Y5 ?_; refine Yp ?_
  refine qw rfl (qj rfl (simp_word hu O0 hc (hr.more [_, _]) h) ?_)
  rintro _ w ⟨rfl, h⟩
  refine Y2l ?_; refine Y2s ?_
  cases hw : wordA 0 kindsL u' with
  | none =>
   refine qg (.bool true) rfl ?_
   refine Y2t ?_
   rw [simpEnc_none hne hw] at he
   rw [← he]
   exact qv (bq2 ⟨none, 0, rfl, St.ownNil _ _ h.drop.drop⟩)
  | some wn =>
   obtain ⟨x, n⟩ := wn
   have hp := wordA_pos hne hw
   rw [simpEnc_some hne hw, Option.map_map] at he
   refine qg (.bool false) (by show Value.bool ((n : Int) == 0) = _; congr 1; rw [beq_eq_false_iff_ne]; omega) ?_
   refine Y9 ?_; refine Yo ?_
   refine qw rfl (q5 (r := u64V [x]) h rfl rfl rfl fun b2 w h => ?_)
   refine qw rfl (qa (ys := u64V [x]) (zs := u64V (out ++ [x])) (m3 := (out ++ [x]).length) (h.f 2) rfl rfl ⟨rfl, .inr ⟨b2, 0, rfl, qp (h.b 0 rfl) rfl⟩⟩ (u64V_one _) O7 O26 O1 O1 rfl fun a2 c2 w _ h => ?_)
   refine Ym ?_; refine Y29 ?_
   refine qz (jh (i := n) rfl rfl hp.2) rfl ?_
   refine qg (.slice (adv a' (n * 1) (Nat.beq c' n)) (u'.drop n).length (c' - n)) O38 ?_
   refine Yx ?_
   refine qq ⟨(u'.drop n, adv a' (n * 1) (Nat.beq c' n), c' - n, out ++ [x], a2, c2), ⟨rfl, rfl, rfl, trivial⟩, ⟨?_, fun y hy => hu y (List.mem_of_mem_drop hy), by simp; omega, by simp; omega, reads_drop hr hp.2 hc, ?_⟩, by simp; omega⟩
   ·rw [← he]
    congr 1
    funext r
    simp
   ·exact ((h.f 1).drop.f 1)
 have hnil : u' = [] := by
  simp at hcc; exact hcc
 subst hnil
 rw [simpEnc_nil, Option.map_some, List.append_nil] at he
 refine qd ?_
 refine Y4c ?_
 rw [← he]
 exact qv (bq2 ⟨oa, oc, rfl, h.drop⟩)
theorem runl_run {sl : Option Addr} {c : Nat} {x : Nat} {r : List Nat} (hn : r.length ≤ 65535) (hr : Reads w0 l 1 sl (x :: r).length (u64V (x :: r))) (h : St w0 l w) :
  Ret Tryz.prog 271 [.slice sl (x :: r).length c] w fun v w' => v = .int .i64 ((1 + lead x r : Nat)) ∧ St w0 l w' := by
 have hll : 1 + lead x r = lead x (x :: r) := by rw [lead, if_pos rfl, Nat.add_comm]
 rw [hll]
 have hg0 : (x :: r)[0]? = some x := rfl
 have hne : 0 < (x :: r).length := by simp
 have hn' : (x :: r).length ≤ 65536 := by simp; omega
 generalize x :: r = u at *
 clear hll
 refine enter Tryz.func271 rfl Tryz.results271 Tryz.ntmps271 rfl ?_
 refine Yf ?_; refine Yf ?_
 refine qo (Γ := Unit) (fun _ => [(0, .slice sl u.length c), (3, .int .i64 (lead x u))]) (fun _ w => St w0 l w) ?_ ?_
 ·refine Ya ?_
  refine qc (Γ := Nat) (fun n => [(0, .slice sl u.length c), (3, .int .i64 n)]) (fun n w => n ≤ u.length ∧ n + lead x (u.drop n) = lead x u ∧ St w0 l w) (fun n => u.length - n) 0 ⟨rfl, rfl, trivial⟩ ⟨Nat.zero_le _, by simp, h⟩ ?_
  clear h
  rintro n w e ⟨hnl, he, h⟩
  obtain ⟨b, o, hsl⟩ := (hr.at_ h).some hne
  by_cases hlt : n < u.length
  ·have hg := List.getElem?_eq_getElem hlt
   have hdr := List.drop_eq_getElem_cons hlt
   generalize u[n] = y at hg hdr
   rw [hdr, lead] at he
   refine ql (ql (jj none (fun w => St w0 _ w) O2 O2 h.drew fun w h => ?_))
   refine Yj ?_; refine Y37 ?_
   refine cpv rfl rfl rfl rfl h rfl (qh (v' := .bool true) (gt rfl rfl) O1) ?_
   refine Y3c ?_; refine qs rfl rfl rfl rfl (fun _ => h) (fun _ => jz rfl rfl (q_moveS rfl)) (qs rfl rfl rfl rfl (fun _ => h) (fun _ => jz rfl rfl (q_moveI rfl)) ?_)
   refine qs rfl rfl rfl rfl (fun _ => h) (fun _ => jz rfl rfl (qn (b := b) (o := o) (m := u.length) (c := c) (o' := o + n) O8 rfl rfl hlt O7)) ?_
   refine qu rfl rfl rfl rfl h (fun w h => jz rfl rfl (qx (v := .int .u64 y) rfl ((hsl ▸ hr.at_ h).cell (u64V_get hg)))) ?_
   refine qs rfl rfl rfl rfl (fun _ => h) (fun _ => jz rfl rfl (q_moveS rfl)) ?_
   refine qs rfl rfl rfl rfl (fun _ => h) (fun _ => jz rfl rfl (qn (b := b) (o := o) (m := u.length) (c := c) (o' := o) O8 rfl (j := 0) rfl hne O7)) ?_
   refine qu rfl rfl rfl rfl h (fun w h => jz rfl rfl (qx (v := .int .u64 x) rfl ((hsl ▸ hr.at_ h).cell (u64V_get hg0)))) ?_
   by_cases hyx : y = x
   ·rw [if_pos hyx] at he
    refine qs rfl rfl rfl rfl (fun _ => h) (fun _ => jz rfl rfl (qh (v' := .bool true) (jg rfl rfl) (by rw [hyx]; simp))) ?_
    refine cpv rfl rfl rfl rfl h rfl (q_pick1 rfl rfl rfl) ?_
    refine qi (gf rfl (qr ?_))
    refine Ya ?_; refine Y1b ?_
    refine qg (.int .i64 ((n + 1 : Nat) : Int)) O5 ?_
    refine Y2 ?_
    exact qq ⟨n + 1, ⟨rfl, rfl, trivial⟩, ⟨hlt, by omega, h⟩, by omega⟩
   ·rw [if_neg hyx] at he
    refine qs rfl rfl rfl rfl (fun _ => h) (fun _ => jz rfl rfl (qh (v' := .bool false) (jg rfl rfl) O3)) ?_
    refine cpv rfl rfl rfl rfl h rfl (q_pick1 rfl rfl rfl) ?_
    refine qi (q6 rfl ?_)
    refine qd ⟨(), ⟨rfl, ?_, trivial⟩, h⟩
    rw [← he]; rfl
  ·have hnn : n = u.length := by omega
   rw [hnn, List.drop_length, lead] at he
   refine ql (ql (jj none (fun w => St w0 _ w) O2 O2 h.drew fun w h => ?_))
   refine Yj ?_; refine Y37 ?_
   refine cpv rfl rfl rfl rfl h rfl (qh (v' := .bool false) (gt rfl rfl) O1) ?_
   refine Y3c ?_; refine qs rfl rfl rfl rfl (fun _ => h) (fun _ => jk rfl rfl) (qs rfl rfl rfl rfl (fun _ => h) (fun _ => jk rfl rfl) (qs rfl rfl rfl rfl (fun _ => h) (fun _ => jk rfl rfl) (qs rfl rfl rfl rfl (fun _ => h) (fun _ => jk rfl rfl) (qs rfl rfl rfl rfl (fun _ => h) (fun _ => jk rfl rfl) (qs rfl rfl rfl rfl (fun _ => h) (fun _ => jk rfl rfl) ?_))))); refine qs rfl rfl rfl rfl (fun _ => h) (fun _ => jk rfl rfl) (qs rfl rfl rfl rfl (fun _ => h) (fun _ => jk rfl rfl) (cpv rfl rfl rfl rfl h rfl (q_pick0 rfl rfl rfl) ?_))
   refine qi (q6 rfl ?_)
   refine qd ⟨(), ⟨rfl, ?_, trivial⟩, h⟩
   rw [← he, hnn]; rfl
 clear h
 rintro ⟨⟩ w e h
 refine Y2z ?_
 exact qv (bq1 ⟨rfl, h⟩)
theorem runl_Encode {sl : Option Addr} {c : Nat} {u : List Nat} (hu : ∀ x ∈ u, x < 18446744073709551616) (hn : u.length ≤ 65535) (hc : u.length ≤ c) (hr : Reads w0 l 1 sl u.length (u64V u)) (h : St w0 l w) :
  Ret Tryz.prog 259 [.slice sl u.length c] w fun v w' => ∃ a c', v = .slice a (runsEnc u).length c' ∧ St w0 (OwnB a c' (runsEnc u) :: l) w' := by
 have hrl := runsEnc_len u
 refine enter Tryz.func259 rfl Tryz.results259 Tryz.ntmps259 rfl ?_
 refine Y3j ?_; refine Y1y ?_
 refine qc (Γ := List Nat × Option Addr × Nat × List UInt8 × Option Addr × Nat) (fun k => [(0, .slice k.2.1 k.1.length k.2.2.1), (3, .slice k.2.2.2.2.1 k.2.2.2.1.length k.2.2.2.2.2)])
  (fun k w => k.2.2.2.1 ++ runsEnc k.1 = runsEnc u ∧ (∀ x ∈ k.1, x < 18446744073709551616) ∧ k.1.length ≤ u.length ∧ k.1.length ≤ k.2.2.1 ∧ Reads w0 l 1 k.2.1 k.1.length (u64V k.1) ∧ St w0 (OwnB k.2.2.2.2.1 k.2.2.2.2.2 k.2.2.2.1 :: l) w)
  (fun k => k.1.length) (u, sl, c, [], none, 0) ⟨rfl, rfl, trivial⟩ ⟨rfl, hu, Nat.le_refl _, hc, hr, St.ownNil _ _ h⟩ ?_
 clear h hr hc hu
 rintro ⟨u', a', c', out, oa, oc⟩ w e ⟨he, hu, hlen, hc, hr, h⟩
 dsimp only at he hu hlen hc hr h ⊢
 refine Y1w ?_; refine Y1q ?_; refine Y3 ?_
 refine qy (decide ((u'.length : Int) > 0)) rfl (fun hcc => ?_) (fun hcc => ?_)
 ·
  cases u' with
  | nil => simp at hcc
  | cons x r =>
  have hx := hu x (List.mem_cons_self ..)
  have hle := lead_le x r
  have hlr : r.length + 1 ≤ u.length := hlen
  rw [runsEnc_cons] at he
  have hol := congrArg List.length he
  simp only [List.length_append] at hol
  refine Y3x ?_; refine Y5 ?_
  refine qw rfl (qj rfl (runl_run O0 hr.cons h) ?_)
  rintro _ w ⟨rfl, h⟩
  refine Y6 ?_
  obtain ⟨b, o, hsl⟩ := (hr.at_ h.drop).some O7
  refine ql (j7 [0, 1, 2, 3, 4, 5, 6, 7, 8] none (fun w => ∃ L, St w0 (L ++ l) w) O2 O2 ?_)
  replace h := h.drew
  generalize w.drew = w at h
  have hs := h
  replace h : ∃ L, St w0 (L ++ l) w := ⟨[_], hs⟩
  refine Yq ?_
  refine cpv rfl rfl rfl rfl h rfl (qh (v' := .int .u64 ((1 + lead x r : Nat) : Int)) (jb rfl) O9) ?_
  refine Yl ?_; refine Y1i ?_
  refine cpv rfl rfl rfl rfl h rfl (qn (b := b) (o := o) (m := (x :: r).length) (c := c') (o' := o) O8 rfl (j := 0) rfl O7 O7) ?_
  refine qu rfl rfl rfl rfl h (fun w h => qm rfl (qx (v := .int .u64 x) rfl (by obtain ⟨L, h⟩ := h; exact (hsl ▸ hr L w h).cell (u64V_get (j := 0) rfl)))) ?_
  refine Yz ?_
  refine qt 3 rfl rfl rfl rfl ?_
  refine (qj rfl (gi (1 + lead x r) O0 hs (fun w' h' => h'.own_rd) O0) ?_)
  rintro _ w ⟨a1, c1, rfl, hs⟩
  replace h : ∃ L, St w0 (L ++ l) w := ⟨[_, _], hs⟩
  refine ⟨fun _ => h, ?_⟩
  refine Yz ?_
  refine qt 7 rfl rfl rfl rfl ?_
  refine (qj rfl (gi x hx hs (fun w' h' => h'.own_rd) O1) ?_)
  rintro _ w ⟨a2, c2, rfl, hs⟩
  replace h : ∃ L, St w0 (L ++ l) w := ⟨[_, _, _], hs⟩
  refine ⟨fun _ => h, ?_⟩
  refine Y1t ?_
  refine qi ?_
  refine Y29 ?_
  refine qz (jh (i := 1 + lead x r) rfl rfl O1) rfl ?_
  refine qg (.slice (adv a' ((1 + lead x r) * 1) (Nat.beq c' (1 + lead x r))) ((x :: r).drop (1 + lead x r)).length (c' - (1 + lead x r))) O38 ?_
  refine Yx ?_
  have hd : (x :: r).drop (1 + lead x r) = r.drop (lead x r) := by rw [Nat.add_comm, List.drop_succ_cons]
  refine qq ⟨((x :: r).drop (1 + lead x r), adv a' ((1 + lead x r) * 1) (Nat.beq c' (1 + lead x r)), c' - (1 + lead x r), out ++ vput (1 + lead x r) ++ vput x, a2, c2), ⟨rfl, rfl, trivial⟩, ⟨?_, fun y hy => hu y (List.mem_of_mem_drop hy), by simp; omega, by simp at hc ⊢; omega, reads_drop hr O1 hc, (hs.f 1).drop.f 1 |>.drop⟩, by simp; omega⟩
  dsimp only
  rw [hd, ← he, List.append_assoc, List.append_assoc]
 have hnil : u' = [] := by
  simp at hcc; exact hcc
 subst hnil
 rw [runsEnc, List.append_nil] at he
 refine qd ?_
 refine Y4d ?_
 rw [← he]
 exact qv (bq1 ⟨oa, oc, rfl, h⟩)
theorem slices_Min {sl : Option Addr} {c : Nat} {x : Nat} {r : List Nat} (hn : r.length ≤ 65535) (hr : Reads w0 l 1 sl (x :: r).length (u64V (x :: r))) (h : St w0 l w) :
  Ret Tryz.prog 267 [.slice sl (x :: r).length c] w fun v w' => v = .int .u64 (leastA x r) ∧ St w0 l w' := by
 obtain ⟨b, o, hsl⟩ := (hr.at_ h).some O7
 refine enter Tryz.func267 rfl Tryz.results267 Tryz.ntmps267 rfl ?_
 refine Yf ?_; refine Y1w ?_; refine Ys ?_
 refine qg (.bool false) O1 ?_
 refine Y9 ?_; refine Y5 ?_
 refine qz (qn (b := b) (o := o) (m := (x :: r).length) (c := c) (o' := o) O8 rfl (j := 0) rfl O7 O7) rfl ?_
 refine qz (qx (v := .int .u64 x) rfl ((hsl ▸ hr.at_ h).cell (u64V_get (j := 0) rfl))) rfl ?_
 refine Y6 ?_; refine Y2w ?_
 refine qc (Γ := Nat × Nat) (fun k => [(0, .slice sl (x :: r).length c), (3, .int .u64 k.2), (4, .int .i64 ((k.1 + 1 : Nat) : Int))]) (fun k w => k.1 ≤ r.length ∧ leastA k.2 (r.drop k.1) = leastA x r ∧ St w0 l w) (fun k => r.length - k.1) (0, x) ⟨rfl, rfl, rfl, trivial⟩ ⟨Nat.zero_le _, rfl, h⟩ ?_
 clear h
 rintro ⟨i, m⟩ w e ⟨hi, he, h⟩
 dsimp only at hi he h ⊢
 refine Y4z ?_; refine Ys ?_
 by_cases hlt : i < r.length
 ·have hg := List.getElem?_eq_getElem hlt
  have hdr := List.drop_eq_getElem_cons hlt
  generalize r[i] = y at hg hdr
  rw [hdr, leastA] at he
  refine qg (.bool true) O1 ?_
  refine Y4o ?_; refine Y1a ?_; refine Y27 ?_
  refine qz (qn (b := b) (o := o) (m := (x :: r).length) (c := c) (o' := o + (i + 1)) O8 rfl rfl O1 O7) rfl ?_
  refine qz (qx (v := .int .u64 y) rfl ((hsl ▸ hr.at_ h).cell (u64V_get (j := i + 1) (by rw [List.getElem?_cons_succ]; exact hg)))) rfl ?_
  refine Y51 ?_
  refine qg (.int .u64 ((min m y : Nat) : Int)) O20 ?_
  refine Y49 ?_
  refine qg (.int .i64 ((i + 1 + 1 : Nat) : Int)) O5 ?_
  refine Y2 ?_
  exact qq ⟨(i + 1, min m y), ⟨rfl, rfl, rfl, trivial⟩, ⟨hlt, he, h⟩, by dsimp only; omega⟩
 refine qg (.bool false) O1 ?_
 refine Y11 ?_
 have hin : i = r.length := by omega
 rw [hin, List.drop_length, leastA] at he
 refine qd ?_
 refine Y2z ?_
 rw [← he]
 exact qv (bq1 ⟨rfl, h⟩)
theorem slices_Max {sl : Option Addr} {c : Nat} {x : Nat} {r : List Nat} (hn : r.length ≤ 65535) (hr : Reads w0 l 1 sl (x :: r).length (u64V (x :: r))) (h : St w0 l w) :
  Ret Tryz.prog 268 [.slice sl (x :: r).length c] w fun v w' => v = .int .u64 (greatA x r) ∧ St w0 l w' := by
 obtain ⟨b, o, hsl⟩ := (hr.at_ h).some O7
 refine enter Tryz.func268 rfl Tryz.results268 Tryz.ntmps268 rfl ?_
 refine Yf ?_; refine Y1w ?_; refine Ys ?_
 refine qg (.bool false) O1 ?_
 refine Y9 ?_; refine Y5 ?_
 refine qz (qn (b := b) (o := o) (m := (x :: r).length) (c := c) (o' := o) O8 rfl (j := 0) rfl O7 O7) rfl ?_
 refine qz (qx (v := .int .u64 x) rfl ((hsl ▸ hr.at_ h).cell (u64V_get (j := 0) rfl))) rfl ?_
 refine Y6 ?_; refine Y2w ?_
 refine qc (Γ := Nat × Nat) (fun k => [(0, .slice sl (x :: r).length c), (3, .int .u64 k.2), (4, .int .i64 ((k.1 + 1 : Nat) : Int))]) (fun k w => k.1 ≤ r.length ∧ greatA k.2 (r.drop k.1) = greatA x r ∧ St w0 l w) (fun k => r.length - k.1) (0, x) ⟨rfl, rfl, rfl, trivial⟩ ⟨Nat.zero_le _, rfl, h⟩ ?_
 clear h
 rintro ⟨i, m⟩ w e ⟨hi, he, h⟩
 dsimp only at hi he h ⊢
 refine Y4z ?_; refine Ys ?_
 by_cases hlt : i < r.length
 ·have hg := List.getElem?_eq_getElem hlt
  have hdr := List.drop_eq_getElem_cons hlt
  generalize r[i] = y at hg hdr
  rw [hdr, greatA] at he
  refine qg (.bool true) O1 ?_
  refine Y4o ?_; refine Y1a ?_; refine Y27 ?_
  refine qz (qn (b := b) (o := o) (m := (x :: r).length) (c := c) (o' := o + (i + 1)) O8 rfl rfl O1 O7) rfl ?_
  refine qz (qx (v := .int .u64 y) rfl ((hsl ▸ hr.at_ h).cell (u64V_get (j := i + 1) (by rw [List.getElem?_cons_succ]; exact hg)))) rfl ?_
  refine qz (q_max rfl rfl) rfl ?_
  refine qg (.int .u64 ((max m y : Nat) : Int)) O20 ?_
  refine Y49 ?_
  refine qg (.int .i64 ((i + 1 + 1 : Nat) : Int)) O5 ?_
  refine Y2 ?_
  exact qq ⟨(i + 1, max m y), ⟨rfl, rfl, rfl, trivial⟩, ⟨hlt, he, h⟩, by dsimp only; omega⟩
 refine qg (.bool false) O1 ?_
 refine Y11 ?_
 have hin : i = r.length := by omega
 rw [hin, List.drop_length, greatA] at he
 refine qd ?_
 refine Y2z ?_
 rw [← he]
 exact qv (bq1 ⟨rfl, h⟩)
theorem flat_bits_len (f : Nat → Nat) (wide : Nat) : ∀ v : List Nat, (v.flatMap fun y => bitsOf (f y) wide).length = wide * v.length
 | [] => rfl
 | x :: v => by rw [List.flatMap_cons, List.length_append, bitsOf_len, flat_bits_len f wide v, List.length_cons, Nat.mul_add]; omega
theorem forp_Encode {sl : Option Addr} {c : Nat} {u : List Nat} (hu : ∀ x ∈ u, x < 18446744073709551616) (hn : u.length ≤ 65535) (hr : Reads w0 l 1 sl u.length (u64V u)) (h : St w0 l w) :
  Ret Tryz.prog 252 [.slice sl u.length c] w fun v w' => ∃ a c', v = .slice a (frameEnc u).length c' ∧ St w0 (OwnB a c' (frameEnc u) :: l) w' := by
 refine enter Tryz.func252 rfl Tryz.results252 Tryz.ntmps252 rfl ?_
 refine Yn ?_; refine Y1w ?_; refine Yd ?_
 cases u with
 | nil =>
  refine qg (.bool true) rfl ?_
  refine Yk ?_; refine Yn ?_
  exact qv (bq1 ⟨none, 0, rfl, St.ownNil _ _ h⟩)
 | cons x r =>
 have hx := hu x (List.mem_cons_self ..)
 have hlst := leastA_lt r x hx
 have hgt := greatA_lt r x hx fun y hy => hu y (List.mem_cons_of_mem _ hy)
 have hlg : leastA x r ≤ greatA x r := Nat.le_trans (leastA_le r x).1 (greatA_ge r x).1
 have hw64 : len64 (greatA x r - leastA x r) ≤ 64 := len64_64 O0
 have hnr : r.length ≤ 65534 := by simpa using hn
 refine qg (.bool false) O1 ?_
 refine Y9 ?_; refine Y5 ?_
 refine qw rfl (qj rfl (slices_Min O0 hr h) ?_)
 rintro _ w ⟨rfl, h⟩
 refine Y6 ?_; refine Y5 ?_
 refine qw rfl (qj rfl (slices_Max O0 hr h) ?_)
 rintro _ w ⟨rfl, h⟩
 refine Y1u ?_
 refine qg (.int .u64 ((greatA x r - leastA x r : Nat) : Int)) O16 ?_
 refine qw rfl (qj rfl (mb_Len64 O0 h) ?_)
 rintro _ w ⟨rfl, h⟩
 have hfe : frameEnc (x :: r) = vput (leastA x r) ++ (UInt8.ofNat (len64 (greatA x r - leastA x r)) :: pack ((x :: r).flatMap fun y => bitsOf (y - leastA x r) (len64 (greatA x r - leastA x r)))) := rfl
 have hmem : ∀ y ∈ x :: r, leastA x r ≤ y := by
  intro y hy
  rcases List.mem_cons.1 hy with rfl | hy
  ·exact (leastA_le r y).1
  ·exact (leastA_le r x).2 y hy
 rw [hfe]
 generalize len64 (greatA x r - leastA x r) = wide at hw64 ⊢
 generalize leastA x r = least at hlst hmem ⊢
 have hflat := flat_bits_len (fun y => y - least) wide (x :: r)
 generalize hU : x :: r = u at *
 clear hfe hlg hgt hU
 refine Y6 ?_; refine Y1 ?_
 refine qw rfl (qj rfl (vj h) ?_)
 rintro _ w ⟨p, rfl, h⟩
 refine Y1d ?_; refine Y1w ?_; refine Y4j ?_
 have hwl : wide * u.length ≤ 64 * 65535 := Nat.mul_le_mul hw64 hn
 refine Ya ?_
 refine qc (Γ := Nat) (fun k => [(3, .int .u64 least), (4, .int .i64 wide), (5, .pointer (some ⟨p, 0, none⟩)), (19, .slice sl u.length c), (20, .int .i64 u.length), (21, .int .i64 k)])
  (fun k w => k ≤ u.length ∧ St w0 (IsBW p ((u.take k).flatMap fun y => bitsOf (y - least) wide) :: l) w) (fun k => u.length - k) 0 ⟨rfl, rfl, rfl, rfl, rfl, rfl, trivial⟩ ⟨Nat.zero_le _, h⟩ ?_
 clear h
 rintro k w e ⟨hk, h⟩
 refine Y1e ?_
 refine ql (qy (decide ((k : Int) < (u.length : Int))) rfl (fun hc => ?_) (fun hc => ?_))
 ·
  have hlt : k < u.length := by simp at hc; omega
  have hg := List.getElem?_eq_getElem hlt
  generalize u[k] = y at hg
  have hyl := hmem y (List.mem_of_getElem? hg)
  have hyu := hu y (List.mem_of_getElem? hg)
  have htl := flat_bits_len (fun y => y - least) wide (u.take k)
  rw [List.length_take, Nat.min_eq_left (Nat.le_of_lt hlt)] at htl
  have hwk : wide * k ≤ wide * u.length := Nat.mul_le_mul_left _ hk
  obtain ⟨b, o, hsl⟩ := (hr.at_ h.drop).some O0
  refine Y4a ?_
  refine qz (qn (b := b) (o := o) (m := u.length) (c := c) (o' := o + k) O8 rfl rfl hlt O7) rfl ?_
  refine qz (qx (v := .int .u64 y) rfl ((hsl ▸ hr.at_ h.drop).cell (u64V_get hg))) rfl ?_
  refine Y6 ?_; refine Y23 ?_; refine Y0 ?_; refine Y1u ?_
  refine qg (.int .u64 ((y - least : Nat) : Int)) O16 ?_
  refine Y0 ?_
  refine qw rfl (qj rfl (gj (y - least) wide O0 (by rw [htl]; omega) h) ?_)
  rintro _ w ⟨rfl, h⟩
  refine Y48 ?_
  refine qg (.int .i64 ((k + 1 : Nat) : Int)) O5 ?_
  refine Y0 ?_
  refine qq ⟨k + 1, ⟨rfl, rfl, rfl, rfl, rfl, rfl, trivial⟩, ⟨hlt, ?_⟩, by omega⟩
  rw [heldN_nat hw64] at h
  rw [List.take_add_one, hg, List.flatMap_append]
  simpa using h
 have hkn : k = u.length := by simp at hc; omega
 rw [hkn, List.take_length] at h
 refine qd ?_
 have hv := jq least
 have hpl := jc (u.flatMap fun y => bitsOf (y - least) wide)
 refine Y4 ?_
 refine qw rfl (qj rfl (gi (bs := []) least hlst h (fun w' h' => Reads.nil.at_ h') O7) ?_)
 rintro _ w ⟨a1, c1, rfl, h⟩
 rw [List.nil_append] at h ⊢
 refine Y2k ?_
 refine qg (.int .u8 ((UInt8.ofNat wide).toNat : Int)) O12 ?_
 refine qw rfl (q5 (r := bytesV [UInt8.ofNat wide]) h rfl rfl rfl fun b w h => ?_)
 refine qw rfl (qa (ys := bytesV [UInt8.ofNat wide]) (zs := bytesV (vput least ++ [UInt8.ofNat wide])) (m3 := (vput least ++ [UInt8.ofNat wide]).length) (h.f 1) rfl rfl ⟨rfl, .inr ⟨b, 0, rfl, qp (h.b 0 rfl) rfl⟩⟩ (bytesV_one _) O7 O31 O1 O1 rfl fun a2 c2 w _ h => ?_)
 replace h := (h.f 1).drop
 refine Y1x ?_
 refine qw rfl (qj rfl (bits_Bytes (h.f 1) O0) ?_)
 rintro _ w ⟨a3, c3, rfl, h⟩
 refine qw rfl (qa (ys := bytesV (pack (u.flatMap fun y => bitsOf (y - least) wide))) (zs := bytesV (vput least ++ (UInt8.ofNat wide :: pack (u.flatMap fun y => bitsOf (y - least) wide)))) (m3 := (vput least ++ (UInt8.ofNat wide :: pack (u.flatMap fun y => bitsOf (y - least) wide))).length) (h.f 2) rfl rfl h.own_rd (bytesV_one _) O1 O31 O1 O1 rfl fun a4 c4 w _ h => ?_)
 refine Ym ?_
 exact qv (bq1 ⟨a4, c4, rfl, ((h.f 1).drop.f 1).drop⟩)
end
end Go.Proofs.YtnnehiiblfmpnaaGreatDoor

namespace Go.Hw
def atM (n : Nat) : List Nat → List (Int × Value)
 | [] => []
 | x :: r => ((x : Int), .int .i64 (n : Int)) :: atM (n + 1) r
theorem mget_atM (x : Nat) : ∀ (l : List Nat) (n : Nat), mget (x : Int) (atM n l) = if x ∈ l then some (.int .i64 ((n + l.idxOf x : Nat) : Int)) else none
 | [], n => by simp [atM, mget]
 | y :: r, n => by
  rw [atM, mget]
  by_cases h : y = x
  ·subst h; simp
  ·have h1 : ¬ ((y : Int) = (x : Int)) := by omega
   rw [if_neg h1, mget_atM x r (n + 1)]
   by_cases h2 : x ∈ r
   ·rw [if_pos h2, if_pos (List.mem_cons_of_mem _ h2), List.idxOf_cons, show (y == x) = false by simpa using h]
    congr 2
    simp only [cond_false]
    omega
   ·rw [if_neg h2, if_neg (by simp only [List.mem_cons, not_or]; exact ⟨fun h3 => h h3.symm, h2⟩)]
theorem atM_snoc (x : Nat) : ∀ (l : List Nat) (n : Nat), atM n (l ++ [x]) = atM n l ++ [((x : Int), .int .i64 ((n + l.length : Nat) : Int))]
 | [], n => by simp [atM]
 | y :: r, n => by
  rw [List.cons_append, atM, atM, atM_snoc x r (n + 1), List.cons_append, List.length_cons, show n + 1 + r.length = n + (r.length + 1) by omega]
theorem mset_none {k : Int} {v : Value} {m : List (Int × Value)} (h : mget k m = none) : mset k v m = m ++ [(k, v)] := by
 have h1 := mfind_some k m 0
 rw [h] at h1
 exact mset_new (Option.map_eq_none_iff.1 h1)
theorem atM_set {x : Nat} {l : List Nat} (h : x ∉ l) : mset (x : Int) (.int .i64 (l.length : Int)) (atM 0 l) = atM 0 (l ++ [x]) := by
 rw [mset_none (by rw [mget_atM, if_neg h]), atM_snoc, Nat.zero_add]
end Go.Hw
namespace Go.Proofs.YtnnehiiblfmpnaaGreatDoor
open Go.Hw
set_option maxHeartbeats 4000000
set_option maxRecDepth 100000
section
variable {w0 w : World} {l : List HProp}
theorem dict_unlike {sl : Option Addr} {c : Nat} {u : List Nat} (hu : ∀ x ∈ u, x < 18446744073709551616) (hn : u.length ≤ 65535) (hr : Reads w0 l 1 sl u.length (u64V u)) (h : St w0 l w) :
  Ret Tryz.prog 270 [.slice sl u.length c] w fun v w' => (unlikeA [] u = none ∧ v = .tuple [.slice none 0 0, .map none, .bool false].toArray ∧ St w0 l w') ∨
   (∃ m q a c', unlikeA [] u = some m ∧ v = .tuple [.slice a m.length c', .map (some q), .bool true].toArray ∧ St w0 (OwnU a c' m :: MapOf (Value.int .u64) q (atM 0 m) :: l) w') := by
 refine enter Tryz.func270 rfl Tryz.results270 Tryz.ntmps270 rfl ?_
 refine Y2p ?_; refine qz (q_assignM rfl) rfl ?_; refine Yc ?_; refine Yn ?_; refine Y1 ?_
 refine qw rfl (x_mkmap (Value.int .u64) h fun q w h => ?_)
 refine qz (q_assignM rfl) rfl ?_
 refine Y3 ?_; refine Y34 ?_
 refine qc (Γ := Nat × List Nat × Option Addr × Nat) (fun k => [(5, .slice k.2.2.1 k.2.1.length k.2.2.2), (6, .map (some q)), (12, .slice sl u.length c), (13, .int .i64 u.length), (14, .int .i64 k.1)])
  (fun k w => k.1 ≤ u.length ∧ unlikeA k.2.1 (u.drop k.1) = unlikeA [] u ∧ k.2.1.length ≤ 256 ∧ St w0 (OwnU k.2.2.1 k.2.2.2 k.2.1 :: MapOf (Value.int .u64) q (atM 0 k.2.1) :: l) w)
  (fun k => u.length - k.1) (0, [], none, 0) ⟨rfl, rfl, rfl, rfl, rfl, trivial⟩ ⟨Nat.zero_le _, rfl, by decide, St.ownNil _ _ h⟩ ?_
 clear h
 rintro ⟨i, m, a, c1⟩ w e ⟨hi, he, hm, h⟩
 dsimp only at hi he hm h ⊢
 refine Y1e ?_
 refine ql (qy (decide ((i : Int) < (u.length : Int))) rfl (fun hc => ?_) (fun hc => ?_))
 ·
  have hlt : i < u.length := by simp at hc; omega
  have hg := List.getElem?_eq_getElem hlt
  have hdr := List.drop_eq_getElem_cons hlt
  generalize u[i] = x at hg hdr
  rw [hdr, unlikeA] at he
  obtain ⟨b, o, hsl⟩ := ((hr.more [_, _]).at_ h).some O0
  refine Yh ?_
  refine qo (Γ := List Nat × Option Addr × Nat) (fun k => [(5, .slice k.2.1 k.1.length k.2.2), (6, .map (some q)), (12, .slice sl u.length c), (13, .int .i64 u.length), (14, .int .i64 i)])
   (fun k w => unlikeA k.1 (u.drop (i + 1)) = unlikeA [] u ∧ k.1.length ≤ 256 ∧ St w0 (OwnU k.2.1 k.2.2 k.1 :: MapOf (Value.int .u64) q (atM 0 k.1) :: l) w) ?_ ?_
  ·refine Ya ?_; refine Y1 ?_
   refine qz (qn (b := b) (o := o) (m := u.length) (c := c) (o' := o + i) O8 rfl rfl hlt O7) rfl ?_
   refine qz (qx (v := .int .u64 x) rfl ((hsl ▸ (hr.more [_, _]).at_ h).cell (u64V_get hg))) rfl ?_
   refine Y6 ?_; refine Y44 ?_
   refine qz (q_moveM rfl) rfl ?_; refine Y0 ?_
   refine qz (q_lookup (k := (x : Int)) rfl rfl (h.f 1).isMap) rfl ?_
   rw [mget_atM]
   by_cases hx : x ∈ m
   ·rw [if_pos hx] at he ⊢
    refine Y2j ?_; refine Yt ?_; refine Y2x ?_; refine Yk ?_
    exact qd ⟨(m, a, c1), ⟨rfl, rfl, rfl, rfl, rfl, trivial⟩, he, hm, h⟩
   ·rw [if_neg hx] at he ⊢
    refine Y2j ?_; refine Yt ?_; refine Y2x ?_; refine Y9 ?_; refine Y1w ?_; refine Yd ?_
    by_cases h256 : m.length = 256
    ·rw [if_pos h256] at he
     refine qg (.bool true) (by rw [h256]; rfl) ?_
     refine Y3n ?_; refine qz (q_assignM rfl) rfl ?_; refine Yc ?_
     exact qv (bq3 (.inl ⟨he.symm, rfl, h.drop.drop⟩))
    ·rw [if_neg h256] at he
     refine qg (.bool false) O3 ?_
     refine Y9 ?_; refine Y1 ?_
     refine qz (q_moveM rfl) rfl ?_; refine Y0 ?_; refine Y1r ?_
     refine qw rfl (x_mapset (k := (x : Int)) (v := .int .i64 m.length) (h.f 1) rfl rfl rfl fun w h => ?_)
     rw [atM_set hx] at h
     refine Y3 ?_; refine Y29 ?_
     refine qw rfl (q5 (r := u64V [x]) h rfl rfl rfl fun b2 w h => ?_)
     refine qw rfl (qa (ys := u64V [x]) (zs := u64V (m ++ [x])) (m3 := (m ++ [x]).length) (h.f 2) rfl rfl ⟨rfl, .inr ⟨b2, 0, rfl, qp (h.b 0 rfl) rfl⟩⟩ (u64V_one _) O7 O26 O1 O1 rfl fun a2 c2 w _ h => ?_)
     refine Yx ?_
     refine qq ⟨(m ++ [x], a2, c2), ⟨rfl, rfl, rfl, rfl, rfl, trivial⟩, he, by simp; omega, ?_⟩
     exact (h.f 1).drop
  clear h he hm
  rintro ⟨m, a, c1⟩ w e ⟨he, hm, h⟩
  dsimp only at he hm h ⊢
  refine Yw ?_
  refine qg (.int .i64 ((i + 1 : Nat) : Int)) O5 ?_
  refine Y0 ?_
  exact qq ⟨(i + 1, m, a, c1), ⟨rfl, rfl, rfl, rfl, rfl, trivial⟩, ⟨hlt, he, hm, h⟩, by dsimp only; omega⟩
 have hin : i = u.length := by simp at hc; omega
 rw [hin, List.drop_length, unlikeA] at he
 refine qd ?_
 refine Y5 ?_; refine qz (q_moveM rfl) rfl ?_; refine Yx ?_; refine qz (q_assignM rfl) rfl ?_; refine Yc ?_
 exact qv (bq3 (.inr ⟨m, q, a, c1, he.symm, rfl, h⟩))
theorem vputs_len : ∀ m : List Nat, (m.flatMap vput).length ≤ 10 * m.length
 | [] => Nat.le_refl _
 | x :: m => by
  have h1 := jq x
  have h2 := vputs_len m
  rw [List.flatMap_cons, List.length_append, List.length_cons]; omega
theorem dict_Encode {sl : Option Addr} {c : Nat} {u : List Nat} (hu : ∀ x ∈ u, x < 18446744073709551616) (hn : u.length ≤ 65535) (hr : Reads w0 l 1 sl u.length (u64V u)) (h : St w0 l w) :
  Ret Tryz.prog 255 [.slice sl u.length c] w fun v w' => ∃ a c', v = .tuple [.slice a ((dictEnc u).getD []).length c', .bool (dictEnc u).isSome].toArray ∧ St w0 (OwnB a c' ((dictEnc u).getD []) :: l) w' := by
 refine enter Tryz.func255 rfl Tryz.results255 Tryz.ntmps255 rfl ?_
 refine Y18 ?_; refine Y5 ?_
 refine qw rfl (qj rfl (dict_unlike hu hn hr h) ?_)
 rintro _ w (⟨hno, rfl, h⟩ | ⟨m, q, am, cm, hso, rfl, h⟩)
 ·refine Y3k ?_; refine Yx ?_; refine qz (q_assignM rfl) rfl ?_; refine Yc ?_; refine Y1s ?_; refine Y15 ?_; refine Y3q ?_; refine Y2u ?_; refine Yv ?_
  have e1 : dictEnc u = none := by unfold dictEnc; rw [hno]
  rw [e1]
  exact qv (bq2 ⟨none, 0, rfl, St.ownNil _ _ h⟩)
 obtain ⟨_, hmem, hm256, hfrom⟩ := unlikeA_some u [] m hso O7
 have hm64 : ∀ x ∈ m, x < 18446744073709551616 := fun x hx => by
  rcases hfrom x hx with h | h
  ·cases h
  ·exact hu x h
 refine Y3k ?_; refine Yx ?_; refine qz (q_assignM rfl) rfl ?_; refine Yc ?_; refine Y1s ?_; refine Y36 ?_; refine Yd ?_
 by_cases h0 : u = []
 ·refine qg (.bool true) O36 ?_
  refine Y8 ?_; refine Y28 ?_; refine Y2u ?_; refine Yv ?_
  have e1 : dictEnc u = some [] := by unfold dictEnc; rw [hso]; dsimp only; rw [if_pos h0]
  rw [e1]
  exact qv (bq2 ⟨none, 0, rfl, St.ownNil _ _ h.drop.drop⟩)
 have hpos : 0 < u.length := List.length_pos_iff.2 h0
 have hmp : 0 < m.length := by
  cases u with
  | nil => exact absurd rfl h0
  | cons x r => exact List.length_pos_of_mem (hmem x (List.mem_cons_self ..))
 have e1 : dictEnc u = some (dictBytes m u) := by unfold dictEnc; rw [hso]; dsimp only; rw [if_neg h0]
 rw [e1]
 refine qg (.bool false) O3 ?_
 refine Y4p ?_
 have hvm := jq m.length
 refine Y21 ?_; refine Yb ?_
 refine qg (.int .u64 (m.length : Int)) O9 ?_
 refine qw rfl (qj rfl (gi (bs := []) m.length O0 h (fun w' h' => Reads.nil.at_ h') O7) ?_)
 rintro _ w ⟨a1, c1, rfl, h⟩
 rw [List.nil_append] at h ⊢
 refine Ym ?_; refine Y34 ?_
 refine qc (Γ := Nat × Option Addr × Nat) (fun k => [(0, .slice sl u.length c), (4, .slice am m.length cm), (5, .map (some q)), (7, .slice k.2.1 (vput m.length ++ (m.take k.1).flatMap vput).length k.2.2), (31, .slice am m.length cm), (32, .int .i64 m.length), (33, .int .i64 k.1)])
  (fun k w => k.1 ≤ m.length ∧ St w0 (OwnB k.2.1 k.2.2 (vput m.length ++ (m.take k.1).flatMap vput) :: OwnU am cm m :: MapOf (Value.int .u64) q (atM 0 m) :: l) w) (fun k => m.length - k.1) (0, a1, c1) ⟨rfl, rfl, rfl, (by show Value.slice _ _ _ = Value.slice _ _ _; simp), rfl, rfl, rfl, trivial⟩ ⟨Nat.zero_le _, by simpa using h⟩ ?_
 clear h a1 c1
 rintro ⟨k, a1, c1⟩ w e ⟨hk, h⟩
 dsimp only at hk h ⊢
 have htl := vputs_len (m.take k)
 have htl2 : (m.take k).length ≤ m.length := by rw [List.length_take]; omega
 refine Y1e ?_
 refine ql (qy (decide ((k : Int) < (m.length : Int))) rfl (fun hc => ?_) (fun hc => ?_))
 ·
  have hlt : k < m.length := by simp at hc; omega
  have hg := List.getElem?_eq_getElem hlt
  generalize m[k] = x at hg
  obtain ⟨b, hsl⟩ := (h.f 1).own_some O0
  refine Y4a ?_
  refine qz (qn (b := b) (o := 0) (m := m.length) (c := cm) (o' := k) O8 rfl rfl hlt O7) rfl ?_
  refine qz (qx (v := .int .u64 x) rfl (by have := (hsl ▸ (h.f 1).own_rd).cell (u64V_get hg); simpa using this)) rfl ?_
  refine Y6 ?_; refine Y29 ?_
  refine qw rfl (qj rfl (gi x (hm64 x (List.mem_of_getElem? hg)) h (fun w' h' => h'.own_rd) O28) ?_)
  rintro _ w ⟨a2, c2, rfl, h⟩
  refine Ym ?_; refine Yw ?_
  refine qg (.int .i64 ((k + 1 : Nat) : Int)) O5 ?_
  refine Y0 ?_
  have hstep : vput m.length ++ (m.take (k + 1)).flatMap vput = (vput m.length ++ (m.take k).flatMap vput) ++ vput x := by
   rw [List.take_add_one, hg, List.flatMap_append, List.append_assoc]; simp
  refine qq ⟨(k + 1, a2, c2), ⟨rfl, rfl, rfl, ?_, rfl, rfl, rfl, trivial⟩, ⟨hlt, ?_⟩, by dsimp only; omega⟩
  ·show Value.slice _ _ _ = Value.slice _ _ _
   rw [hstep]
  ·dsimp only
   rw [hstep]
   exact (h.f 1).drop
 have hkm : k = m.length := by simp at hc; omega
 subst hkm
 rw [List.take_length] at h ⊢
 rw [List.take_length] at htl
 refine qd ?_
 refine Y1 ?_
 refine qw rfl (qj rfl (vj h) ?_)
 rintro _ w ⟨p, rfl, h⟩
 refine Y1d ?_; refine Y1w ?_; refine Y4j ?_
 have hw64 : len64 (m.length - 1) ≤ 64 := len64_64 O0
 have hdb : dictBytes m u = vput m.length ++ (m.flatMap vput ++ pack (u.flatMap fun x => bitsOf (m.idxOf x) (len64 (m.length - 1)))) := rfl
 have hflat := flat_bits_len (fun y => m.idxOf y) (len64 (m.length - 1)) u
 have hwl : len64 (m.length - 1) * u.length ≤ 64 * 65535 := Nat.mul_le_mul hw64 hn
 refine Ya ?_
 refine qc (Γ := Nat) (fun k => [(4, .slice am m.length cm), (5, .map (some q)), (7, .slice a1 (vput m.length ++ m.flatMap vput).length c1), (10, .pointer (some ⟨p, 0, none⟩)), (42, .slice sl u.length c), (43, .int .i64 u.length), (44, .int .i64 k)])
  (fun k w => k ≤ u.length ∧ St w0 (IsBW p ((u.take k).flatMap fun x => bitsOf (m.idxOf x) (len64 (m.length - 1))) :: OwnB a1 c1 (vput m.length ++ m.flatMap vput) :: OwnU am cm m :: MapOf (Value.int .u64) q (atM 0 m) :: l) w) (fun k => u.length - k) 0 ⟨rfl, rfl, rfl, rfl, rfl, rfl, rfl, trivial⟩ ⟨Nat.zero_le _, h⟩ ?_
 clear h
 rintro k w e ⟨hk, h⟩
 refine Y1e ?_
 refine ql (qy (decide ((k : Int) < (u.length : Int))) rfl (fun hc => ?_) (fun hc => ?_))
 ·
  have hlt : k < u.length := by simp at hc; omega
  have hg := List.getElem?_eq_getElem hlt
  generalize u[k] = x at hg
  have hxm := hmem x (List.mem_of_getElem? hg)
  have hidx := List.idxOf_lt_length_iff.2 hxm
  have htk := flat_bits_len (fun y => m.idxOf y) (len64 (m.length - 1)) (u.take k)
  rw [List.length_take, Nat.min_eq_left (Nat.le_of_lt hlt)] at htk
  have hwk : len64 (m.length - 1) * k ≤ len64 (m.length - 1) * u.length := Nat.mul_le_mul_left _ hk
  obtain ⟨b, o, hsl⟩ := ((hr.more [_, _, _, _]).at_ h).some O0
  refine Y4a ?_
  refine qz (qn (b := b) (o := o) (m := u.length) (c := c) (o' := o + k) O8 rfl rfl hlt O7) rfl ?_
  refine qz (qx (v := .int .u64 x) rfl ((hsl ▸ (hr.more [_, _, _, _]).at_ h).cell (u64V_get hg))) rfl ?_
  refine Y6 ?_
  refine j7 [0, 1, 2, 3, 4, 5, 6, 7, 8, 9, 10] none (fun w => IsMap (Value.int .u64) w q (atM 0 m)) O2 O2 ?_
  replace h := h.drew
  generalize w.drew = w at h
  have hs := h
  replace h := (hs.f 3).isMap
  refine Y25 ?_; refine cpv rfl rfl rfl rfl h rfl (q_moveM rfl) ?_; refine Yj ?_
  refine qu rfl rfl rfl rfl h (fun w h => qm rfl (qh (v' := .int .i64 ((m.idxOf x : Nat) : Int)) (q_lookup1 (k := (x : Int)) rfl rfl h) (by rw [mget_atM, if_pos hxm, Nat.zero_add]; rfl))) ?_
  refine cpv rfl rfl rfl rfl h rfl (qh (v' := .int .u64 ((m.idxOf x : Nat) : Int)) (jb rfl) O9) ?_
  refine Y37 ?_
  refine cpv rfl rfl rfl rfl h rfl (qh (v' := .int .i64 ((m.length - 1 : Nat) : Int)) (jm rfl rfl) O6) ?_
  refine cpv rfl rfl rfl rfl h rfl (qh (v' := .int .u64 ((m.length - 1 : Nat) : Int)) (jb rfl) O9) ?_
  refine Yz ?_
  refine qt 9 rfl rfl rfl rfl ?_
  refine (qj rfl (mb_Len O0 hs) ?_)
  rintro _ w ⟨rfl, hs⟩
  replace h := (hs.f 3).isMap
  refine ⟨fun _ => h, ?_⟩
  refine Yl ?_
  refine qt 10 rfl rfl rfl rfl ?_
  refine (qj rfl (gj (m.idxOf x) (len64 (m.length - 1)) O0 (by rw [htk]; omega) hs) ?_)
  rintro _ w ⟨rfl, hs⟩
  replace h := (hs.f 3).isMap
  refine ⟨fun _ => h, ?_⟩
  refine qi ?_
  refine Yw ?_
  refine qg (.int .i64 ((k + 1 : Nat) : Int)) O5 ?_
  refine Y0 ?_
  refine qq ⟨k + 1, ⟨rfl, rfl, rfl, rfl, rfl, rfl, rfl, trivial⟩, ⟨hlt, ?_⟩, by omega⟩
  rw [heldN_nat hw64] at hs
  rw [List.take_add_one, hg, List.flatMap_append]
  simpa using hs
 have hkn : k = u.length := by simp at hc; omega
 rw [hkn, List.take_length] at h
 refine qd ?_
 have hpl := jc (u.flatMap fun x => bitsOf (m.idxOf x) (len64 (m.length - 1)))
 refine Y5 ?_; refine Y1x ?_
 refine qw rfl (qj rfl (bits_Bytes h O0) ?_)
 rintro _ w ⟨a3, c3, rfl, h⟩
 refine qw rfl (qa (ys := bytesV (pack (u.flatMap fun x => bitsOf (m.idxOf x) (len64 (m.length - 1))))) (zs := bytesV (dictBytes m u)) (m3 := (dictBytes m u).length) (h.f 2) rfl rfl h.own_rd (bytesV_one _) (by rw [hdb]; simp; omega) (by rw [hdb]; simp [bytesV]) (by rw [hdb, List.length_append, List.length_append, hpl]; omega) (by rw [hdb, List.length_append, List.length_append, hpl]; omega) rfl fun a4 c4 w _ h => ?_)
 refine Yv ?_
 refine qv (bq2 ⟨a4, c4, rfl, ?_⟩)
 exact ((((h.f 1).drop.f 1).drop.f 1).drop.f 1).drop
theorem suit_steps {sl : Option Addr} {c : Nat} {u : List Nat} (hu : ∀ x ∈ u, x < 18446744073709551616) (hn : u.length ≤ 65535) (hr : Reads w0 l 1 sl u.length (u64V u)) (h : St w0 l w) :
  Ret Tryz.prog 257 [.slice sl u.length c] w fun v w' => ∃ a c', v = .slice a (stepsL 0 u).length c' ∧ St w0 (OwnU a c' (stepsL 0 u) :: l) w' := by
 refine enter Tryz.func257 rfl Tryz.results257 Tryz.ntmps257 rfl ?_
 refine Y3j ?_; refine Yf ?_; refine Y34 ?_
 refine qc (Γ := Nat × Nat × List Nat × Option Addr × Nat) (fun k => [(3, .slice k.2.2.2.1 k.2.2.1.length k.2.2.2.2), (4, .int .u64 k.2.1), (7, .slice sl u.length c), (8, .int .i64 u.length), (9, .int .i64 k.1)])
  (fun k w => k.1 ≤ u.length ∧ k.2.1 < 18446744073709551616 ∧ k.2.2.1.length = k.1 ∧ k.2.2.1 ++ stepsL k.2.1 (u.drop k.1) = stepsL 0 u ∧ St w0 (OwnU k.2.2.2.1 k.2.2.2.2 k.2.2.1 :: l) w) (fun k => u.length - k.1) (0, 0, [], none, 0) ⟨rfl, rfl, rfl, rfl, rfl, trivial⟩ ⟨Nat.zero_le _, (by decide : (0 : Nat) < 18446744073709551616), rfl, rfl, St.ownNil _ _ h⟩ ?_
 clear h
 rintro ⟨i, was, out, a, c1⟩ w e ⟨hi, hw, hol, he, h⟩
 dsimp only at hi hw hol he h ⊢
 refine Y1e ?_
 refine ql (qy (decide ((i : Int) < (u.length : Int))) rfl (fun hc => ?_) (fun hc => ?_))
 ·
  have hlt : i < u.length := by simp at hc; omega
  have hg := List.getElem?_eq_getElem hlt
  have hdr := List.drop_eq_getElem_cons hlt
  generalize u[i] = x at hg hdr
  have hx := hu x (List.mem_of_getElem? hg)
  have hd : diff x was < 18446744073709551616 := Nat.mod_lt _ O4
  rw [hdr, stepsL] at he
  obtain ⟨b, o, hsl⟩ := (hr.cons.at_ h).some O0
  refine Y4a ?_
  refine qz (qn (b := b) (o := o) (m := u.length) (c := c) (o' := o + i) O8 rfl rfl hlt O7) rfl ?_
  refine qz (qx (v := .int .u64 x) rfl ((hsl ▸ hr.cons.at_ h).cell (u64V_get hg))) rfl ?_
  refine Y6 ?_; refine Yo ?_; refine Y1u ?_
  refine qg (.int .u64 (diff x was : Nat)) (by rw [wrap_diff hw]) ?_
  refine Yb ?_
  refine qg (.int .i64 (sg (diff x was))) (by rw [gm hd]) ?_
  refine qw rfl (qj rfl (vint_Zig (sg_wf hd) h) ?_)
  rintro _ w ⟨rfl, h⟩
  rw [us_sg hd]
  refine qw rfl (q5 (r := u64V [zigU (diff x was)]) h rfl rfl rfl fun b2 w h => ?_)
  refine qw rfl (qa (ys := u64V [zigU (diff x was)]) (zs := u64V (out ++ [zigU (diff x was)])) (m3 := (out ++ [zigU (diff x was)]).length) (h.f 1) rfl rfl ⟨rfl, .inr ⟨b2, 0, rfl, qp (h.b 0 rfl) rfl⟩⟩ (u64V_one _) O7 O26 O1 O1 rfl fun a2 c2 w _ h => ?_)
  refine Y4k ?_; refine Y6 ?_; refine Yw ?_
  refine qg (.int .i64 ((i + 1 : Nat) : Int)) O5 ?_
  refine Y0 ?_
  refine qq ⟨(i + 1, x, out ++ [zigU (diff x was)], a2, c2), ⟨rfl, rfl, rfl, rfl, rfl, trivial⟩, ⟨hlt, hx, by simp; omega, ?_, (h.f 1).drop⟩, by dsimp only; omega⟩
  rw [← he]; simp
 have hin : i = u.length := by simp at hc; omega
 rw [hin, List.drop_length, stepsL, List.append_nil] at he
 refine qd ?_
 refine Y4d ?_
 rw [← he]
 exact qv (bq1 ⟨a, c1, rfl, h⟩)
theorem be8_get (x j : Nat) (h : j < 8) : (be8 x)[j]? = some (UInt8.ofNat (x / 2 ^ (8 * (7 - j)))) := by
 rcases (by omega : j = 0 ∨ j = 1 ∨ j = 2 ∨ j = 3 ∨ j = 4 ∨ j = 5 ∨ j = 6 ∨ j = 7) with rfl | rfl | rfl | rfl | rfl | rfl | rfl | rfl <;> simp [be8]
theorem suit_big {sl : Option Addr} {c : Nat} {u : List Nat} (hu : ∀ x ∈ u, x < 18446744073709551616) (hn : u.length ≤ 65535) (hr : Reads w0 l 1 sl u.length (u64V u)) (h : St w0 l w) :
  Ret Tryz.prog 258 [.slice sl u.length c] w fun v w' => ∃ a c', v = .slice a (bigL u).length c' ∧ St w0 (OwnB a c' (bigL u) :: l) w' := by
 refine enter Tryz.func258 rfl Tryz.results258 Tryz.ntmps258 rfl ?_
 refine Y3j ?_; refine Y34 ?_
 refine qc (Γ := Nat × Option Addr × Nat) (fun k => [(3, .slice k.2.1 (bigL (u.take k.1)).length k.2.2), (7, .slice sl u.length c), (8, .int .i64 u.length), (9, .int .i64 k.1)])
  (fun k w => k.1 ≤ u.length ∧ St w0 (OwnB k.2.1 k.2.2 (bigL (u.take k.1)) :: l) w) (fun k => u.length - k.1) (0, none, 0) ⟨rfl, rfl, rfl, rfl, trivial⟩ ⟨Nat.zero_le _, St.ownNil _ _ h⟩ ?_
 clear h
 rintro ⟨i, a, c1⟩ w e ⟨hi, h⟩
 dsimp only at hi h ⊢
 have hbl := bigL_len (u.take i)
 rw [List.length_take, Nat.min_eq_left hi] at hbl
 refine Y1e ?_
 refine ql (qy (decide ((i : Int) < (u.length : Int))) rfl (fun hc => ?_) (fun hc => ?_))
 ·
  have hlt : i < u.length := by simp at hc; omega
  have hg := List.getElem?_eq_getElem hlt
  generalize u[i] = x at hg
  have hx := hu x (List.mem_of_getElem? hg)
  obtain ⟨b, o, hsl⟩ := (hr.cons.at_ h).some O0
  have hstep : bigL (u.take (i + 1)) = bigL (u.take i) ++ be8 x := by
   unfold bigL
   rw [List.take_add_one, hg, List.flatMap_append]; simp
  rw [show Value.slice a (bigL (u.take i)).length c1 = Value.slice a (bigL (u.take i) ++ (be8 x).take 0).length c1 by simp]
  replace h : St w0 (OwnB a c1 (bigL (u.take i) ++ (be8 x).take 0) :: l) w := by simpa using h
  generalize bigL (u.take i) = base at hbl hstep h ⊢
  refine Y4a ?_
  refine qz (qn (b := b) (o := o) (m := u.length) (c := c) (o' := o + i) O8 rfl rfl hlt O7) rfl ?_
  refine qz (qx (v := .int .u64 x) rfl ((hsl ▸ hr.cons.at_ h).cell (u64V_get hg))) rfl ?_
  refine Y6 ?_; refine Y17 ?_
  refine qc (Γ := Nat × Option Addr × Nat) (fun k => [(3, .slice k.2.1 (base ++ (be8 x).take k.1).length k.2.2), (5, .int .u64 x), (6, .int .i64 (7 - (k.1 : Int))), (7, .slice sl u.length c), (8, .int .i64 u.length), (9, .int .i64 i)])
   (fun k w => k.1 ≤ 8 ∧ St w0 (OwnB k.2.1 k.2.2 (base ++ (be8 x).take k.1) :: l) w) (fun k => 8 - k.1) (0, a, c1) ⟨rfl, rfl, rfl, rfl, rfl, rfl, trivial⟩ ⟨Nat.zero_le _, h⟩ ?_
  clear h
  rintro ⟨j, a, c1⟩ w e ⟨hj, h⟩
  dsimp only at hj h ⊢
  have hb8 : (be8 x).length = 8 := rfl
  refine Y1g ?_; refine Y1v ?_
  by_cases hj8 : j < 8
  ·refine qg (.bool true) O1 ?_
   refine Y1z ?_
   have hgj := be8_get x j hj8
   have htk : (be8 x).take (j + 1) = (be8 x).take j ++ [UInt8.ofNat (x / 2 ^ (8 * (7 - j)))] := by rw [List.take_add_one, hgj]; rfl
   have htl : ((be8 x).take j).length = j := by rw [List.length_take, hb8]; omega
   refine Y1y ?_; refine Y29 ?_; refine Y0 ?_; refine Y43 ?_
   refine qg (.int .i64 ((8 * (7 - j) : Nat) : Int)) O6 ?_
   refine qz (qh (v' := .int .u64 ((x / 2 ^ (8 * (7 - j)) : Nat) : Int)) (ju rfl rfl O0) (congrArg (Value.int .u64) (q9 x (8 * (7 - j)) 64 O0))) rfl ?_
   refine Yb ?_
   refine qg (.int .u8 ((UInt8.ofNat (x / 2 ^ (8 * (7 - j)))).toNat : Int)) O12 ?_
   refine qw rfl (q5 (r := bytesV [UInt8.ofNat (x / 2 ^ (8 * (7 - j)))]) h rfl rfl rfl fun b2 w h => ?_)
   refine qw rfl (qa (ys := bytesV [UInt8.ofNat (x / 2 ^ (8 * (7 - j)))]) (zs := bytesV (base ++ (be8 x).take (j + 1))) (m3 := (base ++ (be8 x).take (j + 1)).length) (h.f 1) rfl rfl ⟨rfl, .inr ⟨b2, 0, rfl, qp (h.b 0 rfl) rfl⟩⟩ (bytesV_one _) O33 (by rw [htk]; simp [bytesV]) O33 O33 rfl fun a2 c2 w _ h => ?_)
   refine Y4k ?_; refine Y1p ?_
   refine qg (.int .i64 (7 - ((j + 1 : Nat) : Int))) O6 ?_
   refine Y2 ?_
   exact qq ⟨(j + 1, a2, c2), ⟨rfl, rfl, rfl, rfl, rfl, rfl, trivial⟩, ⟨hj8, (h.f 1).drop⟩, by dsimp only; omega⟩
  refine qg (.bool false) O1 ?_
  refine Y11 ?_
  have hjj : j = 8 := by omega
  subst hjj
  rw [show (be8 x).take 8 = be8 x from rfl, ← hstep] at h
  refine qd ?_
  refine Yw ?_
  refine qg (.int .i64 ((i + 1 : Nat) : Int)) O5 ?_
  refine Y0 ?_
  refine qq ⟨(i + 1, a, c1), ⟨?_, rfl, rfl, rfl, trivial⟩, ⟨hlt, h⟩, by dsimp only; omega⟩
  show Value.slice _ _ _ = Value.slice _ _ _
  rw [hstep]; rfl
 have hin : i = u.length := by simp at hc; omega
 rw [hin, List.take_length] at h
 refine qd ?_
 refine Y4d ?_
 refine qv (bq1 ⟨a, c1, ?_, h⟩)
 show Value.slice a (bigL (u.take i)).length c1 = _
 rw [hin, List.take_length]
theorem suit_same {sl : Option Addr} {c : Nat} {u : List Nat} (hu : ∀ x ∈ u, x < 18446744073709551616) (hn : u.length ≤ 65535) (hr : Reads w0 l 1 sl u.length (u64V u)) (h : St w0 l w) :
  Ret Tryz.prog 260 [.slice sl u.length c] w fun v w' => ∃ a c', v = .tuple [.slice a ((sameEnc u).getD []).length c', .bool (sameEnc u).isSome].toArray ∧ St w0 (OwnB a c' ((sameEnc u).getD []) :: l) w' := by
 refine enter Tryz.func260 rfl Tryz.results260 Tryz.ntmps260 rfl ?_
 refine Y18 ?_; refine Y34 ?_
 refine qc (Γ := Nat) (fun k => [(0, .slice sl u.length c), (6, .slice sl u.length c), (7, .int .i64 u.length), (8, .int .i64 k)]) (fun k w => k ≤ u.length ∧ (∀ y ∈ u.take k, some y = u[0]?) ∧ St w0 l w) (fun k => u.length - k) 0 ⟨rfl, rfl, rfl, rfl, trivial⟩ ⟨Nat.zero_le _, by simp, h⟩ ?_
 clear h
 rintro k w e ⟨hk, hall, h⟩
 refine Y1e ?_
 refine ql (qy (decide ((k : Int) < (u.length : Int))) rfl (fun hc => ?_) (fun hc => ?_))
 ·
  have hlt : k < u.length := by simp at hc; omega
  have hg := List.getElem?_eq_getElem hlt
  have hgm : u[k] ∈ u := List.getElem_mem _
  generalize u[k] = y at hg hgm
  have hg0 := List.getElem?_eq_getElem (show 0 < u.length by omega)
  generalize u[0]'O0 = x at hg0
  obtain ⟨b, o, hsl⟩ := (hr.at_ h).some O0
  refine Y4a ?_
  refine qz (qn (b := b) (o := o) (m := u.length) (c := c) (o' := o + k) O8 rfl rfl hlt O7) rfl ?_
  refine qz (qx (v := .int .u64 y) rfl ((hsl ▸ hr.at_ h).cell (u64V_get hg))) rfl ?_
  refine Y3p ?_; refine Yp ?_
  refine qz (qn (b := b) (o := o) (m := u.length) (c := c) (o' := o) O8 rfl (j := 0) rfl O0 O7) rfl ?_
  refine qz (qx (v := .int .u64 x) rfl ((hsl ▸ hr.at_ h).cell (u64V_get (j := 0) hg0))) rfl ?_
  refine Y2y ?_
  by_cases hyx : y = x
  ·refine qg (.bool false) (by rw [hyx]; simp) ?_
   refine Y9 ?_; refine Yw ?_
   refine qg (.int .i64 ((k + 1 : Nat) : Int)) O5 ?_
   refine Y0 ?_
   refine qq ⟨k + 1, ⟨rfl, rfl, rfl, rfl, trivial⟩, ⟨hlt, fun z hz => ?_, h⟩, by omega⟩
   rw [List.take_add_one, hg] at hz
   rcases List.mem_append.1 hz with hz | hz
   ·exact hall z hz
   ·simp at hz; subst hz; rw [hg0, hyx]
  ·refine qg (.bool true) O18 ?_
   refine Y2t ?_
   have e1 : sameEnc u = none := by
    cases u with
    | nil => cases hgm
    | cons z r =>
     simp at hg0
     subst hg0
     rw [sameEnc, if_neg]
     intro hh
     rcases List.mem_cons.1 hgm with h1 | h1
     ·exact hyx h1
     ·exact hyx (by simpa using List.all_eq_true.1 hh y h1)
   rw [e1]
   exact qv (bq2 ⟨none, 0, rfl, St.ownNil _ _ h⟩)
 have hkn : k = u.length := by simp at hc; omega
 rw [hkn, List.take_length] at hall
 refine qd ?_
 refine Y1w ?_; refine Yd ?_
 cases u with
 | nil =>
  refine qg (.bool true) rfl ?_
  refine Y2t ?_
  exact qv (bq2 ⟨none, 0, rfl, St.ownNil _ _ h⟩)
 | cons x r =>
  obtain ⟨b, o, hsl⟩ := (hr.at_ h).some O7
  refine qg (.bool false) O1 ?_
  refine Y9 ?_; refine Y5 ?_
  refine qz (qn (b := b) (o := o) (m := (x :: r).length) (c := c) (o' := o) O8 rfl (j := 0) rfl O7 O7) rfl ?_
  refine qz (qx (v := .int .u64 x) rfl ((hsl ▸ hr.at_ h).cell (u64V_get (j := 0) rfl))) rfl ?_
  refine qw rfl (qj rfl (gi (bs := []) x (hu x (List.mem_cons_self ..)) h (fun w' h' => Reads.nil.at_ h') O7) ?_)
  rintro _ w ⟨a1, c1, rfl, h⟩
  rw [List.nil_append] at h ⊢
  refine Yv ?_
  have e1 : sameEnc (x :: r) = some (vput x) := by
   rw [sameEnc, if_pos]
   refine List.all_eq_true.2 fun y hy => ?_
   have := hall y (List.mem_cons_of_mem _ hy)
   simp at this
   simpa using this
  rw [e1]
  exact qv (bq2 ⟨a1, c1, rfl, h⟩)
end
end Go.Proofs.YtnnehiiblfmpnaaGreatDoor

namespace Go.Hw
theorem simp_big (o : Option (List Nat)) : (o.map bigL).getD [] = bigL (o.getD []) ∧ (o.map bigL).isSome = o.isSome := by cases o <;> exact ⟨rfl, rfl⟩
theorem simpEncF_len : ∀ (k : Nat) (u ws : List Nat), simpEncF k u = some ws → ws.length ≤ u.length ∧ ∀ w ∈ ws, w < 18446744073709551616
 | _, [], ws, h => by rw [simpEncF] at h; cases h; exact ⟨Nat.le_refl _, fun _ h => by cases h⟩
 | 0, _ :: _, _, h => by rw [simpEncF] at h; cases h
 | k + 1, a :: r, ws, h => by
  rw [simpEncF] at h
  cases hw : wordA 0 kindsL (a :: r) with
  | none => rw [hw] at h; cases h
  | some wn =>
   obtain ⟨w, n⟩ := wn
   rw [hw] at h
   obtain ⟨y, h1, rfl⟩ := Option.map_eq_some_iff.1 h
   have hp := wordA_pos O7 hw
   obtain ⟨h2, h3⟩ := simpEncF_len k _ y h1
   rw [List.length_drop] at h2
   obtain ⟨j, kk, g1, g2, g3⟩ := wordA_some hw
   obtain ⟨f1, f2, f3⟩ := fitsK_some g2
   obtain ⟨k1, k2, k3, k4⟩ := kindsL_ok j kk g1
   have hlt : packW kk.2 ((a :: r).take n) < 1152921504606846976 := by
    refine Nat.lt_of_lt_of_le (packW_lt f2) ?_
    have : kk.2 * ((a :: r).take n).length ≤ 60 := by
     rw [List.length_take]
     exact Nat.le_trans (Nat.mul_le_mul_left _ O0) k4
    exact Nat.pow_le_pow_right O4 this
   refine ⟨by rw [List.length_cons]; omega, fun z hz => ?_⟩
   rcases List.mem_cons.1 hz with rfl | hz
   ·omega
   ·exact h3 z hz
theorem simpEnc_len {u : List Nat} : ((simpEnc u).getD []).length ≤ u.length ∧ ∀ w ∈ (simpEnc u).getD [], w < 18446744073709551616 := by
 cases h : simpEnc u with
 | none => exact ⟨Nat.zero_le _, fun _ h => by cases h⟩
 | some ws => exact simpEncF_len _ u ws h
theorem valsOf_lt {L : List Smp} (hw : ∀ s ∈ L, s.Wf) : ∀ v ∈ valsOf L, v < 18446744073709551616 := by
 intro v hv
 obtain ⟨s, hs, rfl⟩ := List.mem_map.1 hv
 obtain ⟨_, h2, h3⟩ := hw s hs
 omega
theorem timesOf_wf {L : List Smp} (hw : ∀ s ∈ L, s.Wf) : ∀ t ∈ timesOf L, I64 t := by
 intro t ht
 obtain ⟨s, hs, rfl⟩ := List.mem_map.1 ht
 exact (hw s hs).1
theorem flat_len_le (f : Nat → Nat) (wide : Nat) (v : List Nat) : (v.flatMap fun y => bitsOf (f y) wide).length = wide * v.length := by
 induction v with
 | nil => rfl
 | cons x v ih => rw [List.flatMap_cons, List.length_append, bitsOf_len, ih, List.length_cons, Nat.mul_add]; omega
end Go.Hw
namespace Go.Proofs.YtnnehiiblfmpnaaGreatDoor
open Go.Hw
set_option maxHeartbeats 4000000
set_option maxRecDepth 100000
section
variable {w0 w : World} {l : List HProp}
theorem frameEnc_len {u : List Nat} (hn : u.length ≤ 65535) (hu : ∀ x ∈ u, x < 18446744073709551616) : (frameEnc u).length ≤ 600000 := by
 cases u with
 | nil => exact Nat.zero_le _
 | cons x r =>
  have h1 := jq (leastA x r)
  have hg := greatA_lt r x (hu x (List.mem_cons_self ..)) fun y hy => hu y (List.mem_cons_of_mem _ hy)
  have hw : len64 (greatA x r - leastA x r) ≤ 64 := len64_64 O0
  have h2 := flat_len_le (fun y => y - leastA x r) (len64 (greatA x r - leastA x r)) (x :: r)
  have h3 := jc ((x :: r).flatMap fun y => bitsOf (y - leastA x r) (len64 (greatA x r - leastA x r)))
  have h4 : len64 (greatA x r - leastA x r) * (x :: r).length ≤ 64 * 65535 := Nat.mul_le_mul hw hn
  rw [frameEnc, List.length_append, List.length_cons, h3]
  omega
theorem dictEnc_len {u : List Nat} (hn : u.length ≤ 65535) : ((dictEnc u).getD []).length ≤ 600000 := by
 unfold dictEnc
 cases hm : unlikeA [] u with
 | none => exact Nat.zero_le _
 | some m =>
  dsimp only
  split
  ·exact Nat.zero_le _
  ·obtain ⟨_, _, hm2, _⟩ := unlikeA_some u [] m hm O7
   have h1 := jq m.length
   have hw : len64 (m.length - 1) ≤ 64 := len64_64 O0
   have h2 := flat_len_le (fun y => m.idxOf y) (len64 (m.length - 1)) u
   have h3 := jc (u.flatMap fun x => bitsOf (m.idxOf x) (len64 (m.length - 1)))
   have h4 : len64 (m.length - 1) * u.length ≤ 64 * 65535 := Nat.mul_le_mul hw hn
   have h5 := vputs_len m
   show (dictBytes m u).length ≤ _
   unfold dictBytes
   rw [List.length_append, List.length_append, h3]
   omega
theorem valuesEnc_len {tag : Int} {u : List Nat} (hn : u.length ≤ 65535) (hu : ∀ x ∈ u, x < 18446744073709551616) : ((valuesEnc tag u).getD []).length ≤ 2000000 := by
 unfold valuesEnc
 repeat' split
 ·have h1 := xorBits_len u
  have h2 := jc (xorBits u)
  show (pack (xorBits u)).length ≤ _
  omega
 ·rw [(simp_big _).1, bigL_len]
  have := (simpEnc_len (u := stepsL 0 u)).1
  rw [stepsL_len] at this
  omega
 ·have := runsEnc_len u; show (runsEnc u).length ≤ _; omega
 ·have := frameEnc_len hn hu; show (frameEnc u).length ≤ _; omega
 ·have := dictEnc_len (u := u) hn; omega
 ·cases u with
  | nil => exact Nat.zero_le _
  | cons x r =>
   have := jq x
   rw [sameEnc]; split
   ·show (vput x).length ≤ _; omega
   ·exact Nat.zero_le _
 ·exact Nat.zero_le _
theorem suit_values (hT : Tz w0) (tag : Int) {sl : Option Addr} {c : Nat} {u : List Nat} (hu : ∀ x ∈ u, x < 18446744073709551616) (hn : u.length ≤ 65535) (hc : u.length ≤ c) (hr : Reads w0 l 1 sl u.length (u64V u)) (h : St w0 l w) :
  Ret Tryz.prog 234 [.int .i64 tag, .slice sl u.length c] w fun v w' => ∃ a c', v = .tuple [.slice a ((valuesEnc tag u).getD []).length c', .bool (valuesEnc tag u).isSome].toArray ∧ St w0 (OwnB a c' ((valuesEnc tag u).getD []) :: l) w' := by
 refine enter Tryz.func234 rfl Tryz.results234 Tryz.ntmps234 rfl ?_
 refine Y18 ?_; refine Y1g ?_; refine Y3 ?_; refine Ya ?_; refine Y20 ?_
 refine qy (tag == 1) rfl (fun hc1 => ?_) (fun hc1 => ?_)
 ·
  have ht : tag = 1 := by simpa using hc1
  have e1 : valuesEnc tag u = some (pack (xorBits u)) := by unfold valuesEnc; rw [if_pos ht]
  rw [e1]
  have hxl := xorBits_len u
  refine Y1 ?_
  refine qw rfl (qj rfl (vj h) ?_)
  rintro _ w ⟨p, rfl, h⟩
  refine Y1d ?_; refine Y3y ?_
  refine qw rfl (qj rfl (xorv_Encode hT hu hn O7 h hr) ?_)
  rintro _ w ⟨rfl, h⟩
  rw [List.nil_append] at h
  refine Y2v ?_
  refine qw rfl (qj rfl (bits_Bytes h O0) ?_)
  rintro _ w ⟨a, c1, rfl, h⟩
  refine Yv ?_
  exact qv (bq2 ⟨a, c1, rfl, (h.f 1).drop⟩)
 have n1 : ¬ tag = 1 := by simpa using hc1
 refine Y20 ?_
 refine qy (tag == 2) rfl (fun hc1 => ?_) (fun hc2 => ?_)
 ·
  have ht : tag = 2 := by simpa using hc1
  have e1 : valuesEnc tag u = (simpEnc (stepsL 0 u)).map bigL := by unfold valuesEnc; rw [if_neg n1, if_pos ht]
  rw [e1, (simp_big _).1, (simp_big _).2]
  have hsl := stepsL_len u 0
  refine Y5 ?_
  refine qw rfl (qj rfl (suit_steps hu hn hr h) ?_)
  rintro _ w ⟨a, c1, rfl, h⟩
  refine qw rfl (qj rfl (simp_Encode (stepsL_lt u 0) O0 h.own_cases.2.1 Reads.own h) ?_)
  rintro _ w ⟨a2, c2, rfl, h⟩
  refine Y14 ?_
  obtain ⟨hl1, hl2⟩ := simpEnc_len (u := stepsL 0 u)
  refine Y5 ?_
  refine qw rfl (qj rfl (suit_big hl2 O0 Reads.own h) ?_)
  rintro _ w ⟨a3, c3, rfl, h⟩
  refine Y2u ?_; refine Yv ?_
  exact qv (bq2 ⟨a3, c3, rfl, ((h.f 1).drop.f 1).drop⟩)
 have n2 : ¬ tag = 2 := by simpa using hc2
 refine Y20 ?_
 refine qy (tag == 3) rfl (fun hc1 => ?_) (fun hc3 => ?_)
 ·
  have ht : tag = 3 := by simpa using hc1
  have e1 : valuesEnc tag u = some (runsEnc u) := by unfold valuesEnc; rw [if_neg n1, if_neg n2, if_pos ht]
  rw [e1]
  refine Y5 ?_
  refine qw rfl (qj rfl (runl_Encode hu hn hc hr h) ?_)
  rintro _ w ⟨a, c1, rfl, h⟩
  refine Yv ?_
  exact qv (bq2 ⟨a, c1, rfl, h⟩)
 have n3 : ¬ tag = 3 := by simpa using hc3
 refine Y20 ?_
 refine qy (tag == 4) rfl (fun hc1 => ?_) (fun hc4 => ?_)
 ·
  have ht : tag = 4 := by simpa using hc1
  have e1 : valuesEnc tag u = some (frameEnc u) := by unfold valuesEnc; rw [if_neg n1, if_neg n2, if_neg n3, if_pos ht]
  rw [e1]
  refine Y5 ?_
  refine qw rfl (qj rfl (forp_Encode hu hn hr h) ?_)
  rintro _ w ⟨a, c1, rfl, h⟩
  refine Yv ?_
  exact qv (bq2 ⟨a, c1, rfl, h⟩)
 have n4 : ¬ tag = 4 := by simpa using hc4
 refine Y20 ?_
 refine qy (tag == 5) rfl (fun hc1 => ?_) (fun hc5 => ?_)
 ·
  have ht : tag = 5 := by simpa using hc1
  have e1 : valuesEnc tag u = dictEnc u := by unfold valuesEnc; rw [if_neg n1, if_neg n2, if_neg n3, if_neg n4, if_pos ht]
  rw [e1]
  refine Y5 ?_
  refine qw rfl (qj rfl (dict_Encode hu hn hr h) ?_)
  rintro _ w ⟨a, c1, rfl, h⟩
  refine Y3m ?_; refine Yv ?_
  exact qv (bq2 ⟨a, c1, rfl, h⟩)
 have n5 : ¬ tag = 5 := by simpa using hc5
 refine Y20 ?_
 refine qy (tag == 6) rfl (fun hc1 => ?_) (fun hc6 => ?_)
 ·
  have ht : tag = 6 := by simpa using hc1
  have e1 : valuesEnc tag u = sameEnc u := by unfold valuesEnc; rw [if_neg n1, if_neg n2, if_neg n3, if_neg n4, if_neg n5, if_pos ht]
  rw [e1]
  refine Y5 ?_
  refine qw rfl (qj rfl (suit_same hu hn hr h) ?_)
  rintro _ w ⟨a, c1, rfl, h⟩
  refine Y3m ?_; refine Yv ?_
  exact qv (bq2 ⟨a, c1, rfl, h⟩)
 have n6 : ¬ tag = 6 := by simpa using hc6
 have e1 : valuesEnc tag u = none := by unfold valuesEnc; rw [if_neg n1, if_neg n2, if_neg n3, if_neg n4, if_neg n5, if_neg n6]
 rw [e1]
 refine Yh ?_; refine Y18 ?_
 exact qv (bq2 ⟨none, 0, rfl, St.ownNil _ _ h⟩)
theorem suit_Rising {sl : Option Addr} {c : Nat} {L : List Smp} (hn : L.length ≤ 1073741824) (hr : Reads w0 l 2 sl L.length (smpsV L)) (h : St w0 l w) :
  Ret Tryz.prog 233 [.slice sl L.length c] w fun v w' => v = .bool (rising L) ∧ St w0 l w' := by
 refine enter Tryz.func233 rfl Tryz.results233 Tryz.ntmps233 rfl ?_
 refine Y2a ?_; refine Y2w ?_
 refine qc (Γ := Nat) (fun k => [(0, .slice sl L.length c), (3, .int .i64 ((k + 1 : Nat) : Int))]) (fun k w => (L = [] ∨ (k < L.length ∧ ∀ s, L[k]? = some s → rises L = risesA s.T (L.drop (k + 1)))) ∧ St w0 l w) (fun k => L.length - k) 0 ⟨rfl, rfl, trivial⟩ ⟨by
  cases L with
  | nil => exact .inl rfl
  | cons s r => exact .inr ⟨by simp, fun x hx => by simp at hx; subst hx; rfl⟩, h⟩ ?_
 clear h
 rintro k w e ⟨inv, h⟩
 refine Y4z ?_; refine Ys ?_
 by_cases hlt : k + 1 < L.length
 ·refine qg (.bool true) O1 ?_
  refine Y1z ?_
  rcases inv with inv | ⟨hk, inv⟩
  ·rw [inv] at hlt; simp at hlt
  have hg0 := List.getElem?_eq_getElem hk
  have hg := List.getElem?_eq_getElem hlt
  have hdr := List.drop_eq_getElem_cons hlt
  generalize L[k + 1] = s1 at hg hdr
  have he := inv _ hg0
  generalize L[k] = s0 at hg0 he
  rw [hdr, risesA] at he
  obtain ⟨b, o, hsl⟩ := (hr.at_ h).some O0
  have hat1 : ∀ {w'}, St w0 l w' → w'.cell? ⟨b, o + (k + 1) * 2 + 0, none⟩ = some (.int .i64 s1.T) := fun h' => (hsl ▸ hr.at_ h').elem js hg 0 _ rfl
  have hat0 : ∀ {w'}, St w0 l w' → w'.cell? ⟨b, o + k * 2 + 0, none⟩ = some (.int .i64 s0.T) := fun h' => (hsl ▸ hr.at_ h').elem js hg0 0 _ rfl
  refine Y1y ?_
  refine ql (jj none (fun w => St w0 _ w) O2 O2 h.drew fun w h => ?_)
  refine Yq ?_
  refine cpv rfl rfl rfl rfl h rfl (qn (b := b) (o := o) (m := L.length) (c := c) (o' := o + (k + 1) * 2) O8 rfl rfl hlt rfl) ?_
  refine Y1c ?_
  refine qu rfl rfl rfl rfl h (fun w h => qm rfl (qx (v := .int .i64 s1.T) rfl (hat1 h))) ?_
  refine Yq ?_
  refine cpv rfl rfl rfl rfl h rfl (qh (v' := .int .i64 (k : Int)) (jm rfl rfl) O6) ?_
  refine cpv rfl rfl rfl rfl h rfl (qn (b := b) (o := o) (m := L.length) (c := c) (o' := o + k * 2) O8 rfl rfl hk rfl) ?_
  refine Y1c ?_
  refine qu rfl rfl rfl rfl h (fun w h => qm rfl (qx (v := .int .i64 s0.T) rfl (hat0 h))) ?_
  refine cpv rfl rfl rfl rfl h rfl (q_leq rfl rfl) ?_
  refine qi ?_
  refine qy (decide (s1.T ≤ s0.T)) rfl (fun hc => ?_) (fun hc => ?_)
  ·
   refine Y2a ?_
   refine qv (bq1 ⟨?_, h⟩)
   have : rising L = false := by
    unfold rising
    rw [he, show decide (s0.T < s1.T) = false by rw [decide_eq_true_eq] at hc; rw [decide_eq_false_iff_not]; omega]
    rfl
   rw [this]; rfl
  ·rw [show decide (s0.T < s1.T) = true by rw [decide_eq_false_iff_not] at hc; rw [decide_eq_true_eq]; omega, Bool.true_and] at he
   refine Y4q ?_
   refine qg (.int .i64 ((k + 1 + 1 : Nat) : Int)) O5 ?_
   refine Y2 ?_
   refine qq ⟨k + 1, ⟨rfl, rfl, trivial⟩, ⟨.inr ⟨hlt, fun s hs => ?_⟩, h⟩, by omega⟩
   rw [hg] at hs; cases hs
   exact he
 refine qg (.bool false) O1 ?_
 refine Y11 ?_
 have hrise : rises L = true := by
  rcases inv with inv | ⟨hk, inv⟩
  ·rw [inv]; rfl
  ·have := inv _ (List.getElem?_eq_getElem hk)
   rw [this, show k + 1 = L.length by omega, List.drop_length]; rfl
 refine qd ?_
 refine Y21 ?_; refine Y4x ?_; refine Yc ?_
 refine qv (bq1 ⟨?_, h⟩)
 show Value.bool (decide ((L.length : Int) ≤ 65535)) = _
 unfold rising
 rw [hrise, Bool.true_and]
 congr 1
 rw [decide_eq_decide]
 omega
theorem suit_Encode (hT : Tz w0) (tag : Int) {sl : Option Addr} {c : Nat} {L : List Smp} (hw : ∀ s ∈ L, s.Wf) (hn : L.length ≤ 1073741824) (hr : Reads w0 l 2 sl L.length (smpsV L)) (h : St w0 l w) :
  Ret Tryz.prog 199 [.int .i64 tag, .slice sl L.length c] w fun v w' => ∃ a c', v = .tuple [.slice a ((suitEnc tag L).getD []).length c', .bool (suitEnc tag L).isSome].toArray ∧ St w0 (OwnB a c' ((suitEnc tag L).getD []) :: l) w' := by
 refine enter Tryz.func199 rfl Tryz.results199 Tryz.ntmps199 rfl ?_
 refine Y18 ?_; refine ql ?_; refine Y5 ?_
 refine qw rfl (qj rfl (suit_Rising hn hr h) ?_)
 rintro _ w ⟨rfl, h⟩
 refine Y1j ?_; refine Y3 ?_
 cases hrise : rising L with
 | false =>
  refine Y1o ?_; refine Y18 ?_
  have e1 : suitEnc tag L = none := by unfold suitEnc; rw [hrise]; rfl
  rw [e1]
  exact qv (bq2 ⟨none, 0, rfl, St.ownNil _ _ h⟩)
 | true =>
 have hn16 : L.length ≤ 65535 := by
  unfold rising at hrise
  simp only [Bool.and_eq_true, decide_eq_true_eq] at hrise
  exact hrise.2
 have e1 : suitEnc tag L = (valuesEnc tag (valsOf L)).map (suitBytes L) := by unfold suitEnc; rw [hrise, if_pos rfl]
 rw [e1]
 refine Y3o ?_; refine Y3j ?_; refine Y34 ?_
 refine qc (Γ := Nat × (Option Addr × Nat) × (Option Addr × Nat)) (fun k => [(0, .int .i64 tag), (6, .slice k.2.1.1 (timesOf (L.take k.1)).length k.2.1.2), (7, .slice k.2.2.1 (valsOf (L.take k.1)).length k.2.2.2), (17, .slice sl L.length c), (18, .int .i64 L.length), (19, .int .i64 k.1)])
  (fun k w => k.1 ≤ L.length ∧ St w0 (Own 2 1 k.2.1.1 (timesOf (L.take k.1)).length k.2.1.2 (i64V (timesOf (L.take k.1))) :: OwnU k.2.2.1 k.2.2.2 (valsOf (L.take k.1)) :: l) w) (fun k => L.length - k.1) (0, (none, 0), (none, 0)) ⟨rfl, rfl, rfl, rfl, rfl, rfl, trivial⟩ ⟨Nat.zero_le _, St.ownNil _ _ (St.ownNil _ _ h)⟩ ?_
 clear h
 rintro ⟨k, ⟨ta, tc⟩, va, vc⟩ w e ⟨hk, h⟩
 dsimp only at hk h ⊢
 refine Y1e ?_
 refine ql (qy (decide ((k : Int) < (L.length : Int))) rfl (fun hc => ?_) (fun hc => ?_))
 ·
  have hlt : k < L.length := by simp at hc; omega
  have hg := List.getElem?_eq_getElem hlt
  have hmem : L[k] ∈ L := List.getElem_mem _
  generalize L[k] = s at hg hmem
  obtain ⟨hs1, hs2, hs3⟩ := hw s hmem
  have ht1 : timesOf (L.take (k + 1)) = timesOf (L.take k) ++ [s.T] := by unfold timesOf; rw [List.take_add_one, hg, List.map_append]; rfl
  have hv1 : valsOf (L.take (k + 1)) = valsOf (L.take k) ++ [s.V.toNat] := by unfold valsOf; rw [List.take_add_one, hg, List.map_append]; rfl
  have htl : (timesOf (L.take k)).length = k := by simp [timesOf]; omega
  have hvl : (valsOf (L.take k)).length = k := by simp [valsOf]; omega
  have hsv : Value.int .u64 s.V = .int .u64 (s.V.toNat : Int) := by rw [Int.toNat_of_nonneg hs2]
  obtain ⟨b, o, hsl⟩ := ((hr.more [_, _]).at_ h).some O0
  refine Yh ?_
  refine qo (Γ := (Option Addr × Nat) × (Option Addr × Nat)) (fun q => [(0, .int .i64 tag), (6, .slice q.1.1 (timesOf (L.take k) ++ [s.T]).length q.1.2), (7, .slice q.2.1 (valsOf (L.take k) ++ [s.V.toNat]).length q.2.2), (17, .slice sl L.length c), (18, .int .i64 L.length), (19, .int .i64 k)])
   (fun q w => St w0 (Own 2 1 q.1.1 (timesOf (L.take k) ++ [s.T]).length q.1.2 (i64V (timesOf (L.take k) ++ [s.T])) :: OwnU q.2.1 q.2.2 (valsOf (L.take k) ++ [s.V.toNat]) :: l) w) ?_ ?_
  ·refine Ya ?_; refine Y1 ?_
   refine qz (qn (b := b) (o := o) (m := L.length) (c := c) (o' := o + k * 2) O8 rfl rfl hlt rfl) rfl ?_
   refine qz (qf (l := s.cells) rfl rfl ((hsl ▸ (hr.more [_, _]).at_ h).elem js hg)) rfl ?_
   refine qw rfl (q7 h fun b9 w h => ?_)
   refine qw rfl (qb (vs := s.cells) 0 h rfl rfl rfl rfl rfl rfl rfl fun w h => ?_)
   replace h : St w0 (pt b9 (.cells s.cells.toArray 58 (0, 0)) :: Own 2 1 ta (timesOf (L.take k)).length tc (i64V (timesOf (L.take k))) :: OwnU va vc (valsOf (L.take k)) :: l) w := h
   refine Y3 ?_
   refine j7 [0, 1, 2, 3, 4, 5, 6, 7, 8, 9, 10, 11] none (fun w => w.heap[b9]? = some (.cells s.cells.toArray 58 (0, 0))) O2 O2 ?_
   replace h := h.drew
   generalize w.drew = w at h
   have hs := h
   replace h := hs.b 0 rfl
   refine Y1i ?_; refine Y1c ?_
   refine qu rfl rfl rfl rfl h (fun _ h => qm rfl (qk (v := .int .i64 s.T) rfl h rfl)) ?_
   refine Yz ?_; refine Y1i ?_; refine Y1c ?_
   refine qu rfl rfl rfl rfl h (fun _ h => qm rfl (qh (qk (v := .int .u64 s.V) rfl h rfl) hsv)) ?_
   refine Y13 ?_
   refine cur_two 3 8 rfl rfl rfl rfl rfl rfl ?_ ?_
   ·refine q5 (r := i64V [s.T]) hs rfl rfl rfl fun b1 w hs => ?_
    replace h := hs.b 1 rfl
    refine ⟨fun _ => h, ?_⟩
    refine Y13 ?_; refine Yl ?_
    refine cur_two 4 8 rfl rfl rfl rfl rfl rfl ?_ ?_
    ·refine qa (ys := i64V [s.T]) (zs := i64V (timesOf (L.take k) ++ [s.T])) (m3 := (timesOf (L.take k) ++ [s.T]).length) (hs.f 2) rfl rfl ⟨rfl, .inr ⟨b1, 0, rfl, qp (hs.b 0 rfl) rfl⟩⟩ (i64V_one _) O7 (by simp [i64V]) O1 O1 rfl fun ta' tc' w _ hs => ?_
     replace h := hs.b 2 rfl
     refine ⟨fun _ => h, ?_⟩
     refine Y13 ?_
     refine qt 8 rfl rfl rfl rfl ?_
     refine q5 (r := u64V [s.V.toNat]) hs rfl rfl rfl fun b2 w hs => ?_
     replace h := hs.b 3 rfl
     refine ⟨fun _ => h, ?_⟩
     refine Y1m ?_
     refine qt 9 rfl rfl rfl rfl ?_
     refine qa (ys := u64V [s.V.toNat]) (zs := u64V (valsOf (L.take k) ++ [s.V.toNat])) (m3 := (valsOf (L.take k) ++ [s.V.toNat]).length) (hs.f 4) rfl rfl ⟨rfl, .inr ⟨b2, 0, rfl, qp (hs.b 0 rfl) rfl⟩⟩ (u64V_one _) O7 O26 O1 O1 rfl fun va' vc' w _ hs => ?_
     replace h := hs.b 4 rfl
     refine ⟨fun _ => h, ?_⟩
     refine Y1t ?_; refine Y1t ?_
     exact qi ⟨((ta', tc'), (va', vc')), ⟨rfl, rfl, rfl, rfl, rfl, rfl, trivial⟩, ((((hs.f 2).f 2).drop.f 2).drop.f 2).drop⟩
    ·refine q5 (r := u64V [s.V.toNat]) hs rfl rfl rfl fun b2 w hs => ?_
     replace h := hs.b 2 rfl
     refine ⟨fun _ => h, ?_⟩
     refine Y13 ?_
     refine qt 4 rfl rfl rfl rfl ?_
     refine qa (ys := i64V [s.T]) (zs := i64V (timesOf (L.take k) ++ [s.T])) (m3 := (timesOf (L.take k) ++ [s.T]).length) (hs.f 3) rfl rfl ⟨rfl, .inr ⟨b1, 0, rfl, qp (hs.b 1 rfl) rfl⟩⟩ (i64V_one _) O7 (by simp [i64V]) O1 O1 rfl fun ta' tc' w _ hs => ?_
     replace h := hs.b 3 rfl
     refine ⟨fun _ => h, ?_⟩
     refine Y1m ?_
     refine qt 9 rfl rfl rfl rfl ?_
     refine qa (ys := u64V [s.V.toNat]) (zs := u64V (valsOf (L.take k) ++ [s.V.toNat])) (m3 := (valsOf (L.take k) ++ [s.V.toNat]).length) (hs.f 4) rfl rfl ⟨rfl, .inr ⟨b2, 0, rfl, qp (hs.b 1 rfl) rfl⟩⟩ (u64V_one _) O7 O26 O1 O1 rfl fun va' vc' w _ hs => ?_
     replace h := hs.b 4 rfl
     refine ⟨fun _ => h, ?_⟩
     refine Y1t ?_; refine Y1t ?_
     exact qi ⟨((ta', tc'), (va', vc')), ⟨rfl, rfl, rfl, rfl, rfl, rfl, trivial⟩, ((((hs.f 1).f 2).drop.f 2).drop.f 2).drop⟩
   ·refine q5 (r := u64V [s.V.toNat]) hs rfl rfl rfl fun b2 w hs => ?_
    replace h := hs.b 1 rfl
    refine ⟨fun _ => h, ?_⟩
    refine Y13 ?_; refine Yl ?_
    refine qt 3 rfl rfl rfl rfl ?_
    refine q5 (r := i64V [s.T]) hs rfl rfl rfl fun b1 w hs => ?_
    replace h := hs.b 2 rfl
    refine ⟨fun _ => h, ?_⟩
    refine Y13 ?_
    refine qt 4 rfl rfl rfl rfl ?_
    refine qa (ys := i64V [s.T]) (zs := i64V (timesOf (L.take k) ++ [s.T])) (m3 := (timesOf (L.take k) ++ [s.T]).length) (hs.f 3) rfl rfl ⟨rfl, .inr ⟨b1, 0, rfl, qp (hs.b 0 rfl) rfl⟩⟩ (i64V_one _) O7 (by simp [i64V]) O1 O1 rfl fun ta' tc' w _ hs => ?_
    replace h := hs.b 3 rfl
    refine ⟨fun _ => h, ?_⟩
    refine Y1m ?_
    refine qt 9 rfl rfl rfl rfl ?_
    refine qa (ys := u64V [s.V.toNat]) (zs := u64V (valsOf (L.take k) ++ [s.V.toNat])) (m3 := (valsOf (L.take k) ++ [s.V.toNat]).length) (hs.f 4) rfl rfl ⟨rfl, .inr ⟨b2, 0, rfl, qp (hs.b 2 rfl) rfl⟩⟩ (u64V_one _) O7 O26 O1 O1 rfl fun va' vc' w _ hs => ?_
    replace h := hs.b 4 rfl
    refine ⟨fun _ => h, ?_⟩
    refine Y1t ?_; refine Y1t ?_
    exact qi ⟨((ta', tc'), (va', vc')), ⟨rfl, rfl, rfl, rfl, rfl, rfl, trivial⟩, ((((hs.f 1).f 2).drop.f 2).drop.f 2).drop⟩
  clear h
  rintro ⟨⟨ta, tc⟩, va, vc⟩ w e h
  dsimp only at h ⊢
  refine Yw ?_
  refine qg (.int .i64 ((k + 1 : Nat) : Int)) O5 ?_
  refine Y0 ?_
  refine qq ⟨(k + 1, (ta, tc), (va, vc)), ⟨rfl, ?_, ?_, rfl, rfl, rfl, trivial⟩, ⟨hlt, ?_⟩, by dsimp only; omega⟩
  ·show Value.slice _ _ _ = Value.slice _ _ _
   rw [ht1]
  ·show Value.slice _ _ _ = Value.slice _ _ _
   rw [hv1]
  ·dsimp only
   rw [ht1, hv1]
   exact h
 have hkn : k = L.length := by simp at hc; omega
 rw [hkn, List.take_length] at h ⊢
 refine qd ?_
 have hvl : (valsOf L).length = L.length := by simp [valsOf]
 have htl : (timesOf L).length = L.length := by simp [timesOf]
 have htb := timesBits_len (timesOf L)
 have hvel := valuesEnc_len (tag := tag) (u := valsOf L) O0 (valsOf_lt hw)
 refine Y4 ?_; refine Yp ?_
 refine qw rfl (qj rfl (suit_values hT tag (u := valsOf L) (valsOf_lt hw) O0 (h.f 1).own_cases.2.1 Reads.own.cons h) ?_)
 rintro _ w ⟨a1, c1, rfl, h⟩
 refine Y14 ?_; refine Y1s ?_; refine Y3 ?_
 cases hve : valuesEnc tag (valsOf L) with
 | none =>
  refine Y1o ?_; refine Y18 ?_
  exact qv (bq2 ⟨none, 0, rfl, St.ownNil _ _ h.drop.drop.drop⟩)
 | some vb =>
 rw [hve] at h hvel
 dsimp only [Option.getD_some] at h hvel
 refine Y3o ?_; refine Y1 ?_
 refine qw rfl (qj rfl (vj h) ?_)
 rintro _ w ⟨p, rfl, h⟩
 refine Y1d ?_; refine Y3y ?_
 refine qw rfl (qj rfl (time_Encode (ts := timesOf L) (timesOf_wf hw) O0 O7 h (fun bs' w' h' => (h'.f 2).own_rd)) ?_)
 rintro _ w ⟨rfl, h⟩
 rw [List.nil_append] at h
 refine Y2v ?_
 refine qw rfl (qj rfl (bits_Bytes h O0) ?_)
 rintro _ w ⟨a2, c2, rfl, h⟩
 refine Ym ?_
 have hpl := jc (timesBits (timesOf L))
 generalize hX : pack (timesBits (timesOf L)) = X at *
 have hvx := jq X.length
 have hsb : suitBytes L vb = vput X.length ++ (X ++ vb) := by unfold suitBytes; rw [hX]
 refine Y21 ?_; refine Yb ?_
 refine qg (.int .u64 (X.length : Int)) O9 ?_
 refine qw rfl (qj rfl (gi (bs := []) X.length O0 h (fun w' h' => Reads.nil.at_ h') O7) ?_)
 rintro _ w ⟨a3, c3, rfl, h⟩
 rw [List.nil_append] at h ⊢
 refine Yp ?_
 refine qw rfl (qa (ys := bytesV X) (zs := bytesV (vput X.length ++ X)) (m3 := (vput X.length ++ X).length) h rfl rfl (h.f 1).own_rd (bytesV_one _) O7 O31 O28 O28 rfl fun a4 c4 w _ h => ?_)
 refine Yp ?_
 refine qw rfl (qa (ys := bytesV vb) (zs := bytesV (suitBytes L vb)) (m3 := (suitBytes L vb).length) h rfl rfl (h.f 3).own_rd (bytesV_one _) (by rw [hsb]; simp; omega) (by rw [hsb]; simp [bytesV]) (by rw [hsb, List.length_append, List.length_append]; omega) (by rw [hsb, List.length_append, List.length_append]; omega) rfl fun a5 c5 w _ h => ?_)
 refine Yv ?_
 refine qv (bq2 ⟨a5, c5, rfl, ?_⟩)
 exact (((((h.f 1).drop.f 1).drop.f 1).drop.f 1).drop.f 1).drop
end
end Go.Proofs.YtnnehiiblfmpnaaGreatDoor

namespace Go.Hw
theorem risesA_iff : ∀ (l : List Smp) (t : Int), risesA t l = true ↔ (∀ s ∈ l, t < s.T) ∧ rises l = true
 | [], t => by simp [risesA, rises]
 | s :: r, t => by
  rw [risesA, Bool.and_eq_true, decide_eq_true_eq]
  have ih := risesA_iff r s.T
  rw [rises, ih]
  constructor
  ·rintro ⟨h1, h2, h3⟩
   refine ⟨fun x hx => ?_, h2, h3⟩
   rcases List.mem_cons.1 hx with rfl | hx
   ·exact h1
   ·have := h2 x hx; omega
  ·rintro ⟨h1, h2, h3⟩
   exact ⟨h1 s (List.mem_cons_self ..), h2, h3⟩
theorem rises_iff : ∀ l : List Smp, rises l = true ↔ ∀ (i j : Nat) (x y : Smp), l[i]? = some x → l[j]? = some y → i < j → x.T < y.T
 | [] => by simp [rises]
 | s :: r => by
  rw [rises, risesA_iff, rises_iff r]
  constructor
  ·rintro ⟨h1, h2⟩ i j x y hi hj hij
   cases j with
   | zero => omega
   | succ j =>
    rw [List.getElem?_cons_succ] at hj
    cases i with
    | zero => simp at hi; subst hi; exact h1 y (List.mem_of_getElem? hj)
    | succ i => rw [List.getElem?_cons_succ] at hi; exact h2 i j x y hi hj O0
  ·intro h
   refine ⟨fun x hx => ?_, fun i j x y hi hj hij => h (i + 1) (j + 1) x y (by simpa using hi) (by simpa using hj) O0⟩
   obtain ⟨k, hk⟩ := List.getElem?_of_mem hx
   exact h 0 (k + 1) s x rfl (by simpa using hk) O0
theorem rises_snoc {l : List Smp} {s : Smp} (h : rises l = true) (hs : ∀ x, l.getLast? = some x → x.T < s.T) : rises (l ++ [s]) = true := by
 rw [rises_iff] at h ⊢
 intro i j x y hi hj hij
 have hjl := (List.getElem?_eq_some_iff.1 hj).1
 rw [List.length_append, List.length_singleton] at hjl
 rw [List.getElem?_append_left (show i < l.length by omega)] at hi
 rcases Nat.lt_or_ge j l.length with h1 | h1
 ·rw [List.getElem?_append_left h1] at hj
  exact h i j x y hi hj hij
 ·obtain rfl : j = l.length := by omega
  rw [List.getElem?_append_right (Nat.le_refl _), Nat.sub_self] at hj
  simp at hj
  subst hj
  have hpos : 0 < l.length := by omega
  have hlast : l.getLast? = some (l[l.length - 1]'O0) := by rw [List.getLast?_eq_getElem?, List.getElem?_eq_getElem]
  have h2 := hs _ hlast
  rcases Nat.lt_or_ge i (l.length - 1) with h3 | h3
  ·have := h i (l.length - 1) x _ hi (List.getElem?_eq_getElem O0) h3
   omega
  ·obtain rfl : i = l.length - 1 := by omega
   rw [List.getElem?_eq_getElem O0] at hi
   simp at hi
   rw [← hi]; exact h2
end Go.Hw
