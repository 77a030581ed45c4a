/- What the program's tables say of its types and functions, one instance each. -/
import Derived.Test.YtjjacchnalemaaaDoorProg
import Derived.Test.YtjjacchnalemaaaDoorHs
import Derived.KernelRfl
set_option maxRecDepth 100000
namespace Go.Proofs.YtjjacchnalemaaaDoor
open Go.Hw
instance {P : Program} {kt : TypeId} {ik : IntKind} [h : Und P kt (.int ik)] : MK P kt Int (Value.int ik) := MK.int h.h
instance : Und Tryd.prog 2 (.int .i64) := ⟨Tryd.underlying2⟩
instance inf2 : Inf Tryd.prog 2 [Value.int .i64 0] false 8 := ⟨by kernel_rfl, (fun _ => rfl), ⟨_, Tryd.underlying2, rfl⟩, by simp [Value.oneCell']⟩
instance : Und Tryd.prog 3 (.int .i64) := ⟨Tryd.underlying3⟩
instance inf3 : Inf Tryd.prog 3 [Value.int .i64 0] false 8 := ⟨by kernel_rfl, (fun _ => rfl), ⟨_, Tryd.underlying3, rfl⟩, by simp [Value.oneCell']⟩
instance : Und Tryd.prog 4 (.bool) := ⟨Tryd.underlying4⟩
instance inf4 : Inf Tryd.prog 4 [Value.bool false] false 1 := ⟨by kernel_rfl, (fun _ => rfl), ⟨_, Tryd.underlying4, rfl⟩, by simp [Value.oneCell']⟩
instance : Und Tryd.prog 5 (.int .u8) := ⟨Tryd.underlying5⟩
instance inf5 : Inf Tryd.prog 5 [Value.int .u8 0] false 1 := ⟨by kernel_rfl, (fun _ => rfl), ⟨_, Tryd.underlying5, rfl⟩, by simp [Value.oneCell']⟩
instance : Und Tryd.prog 9 (.string) := ⟨Tryd.underlying9⟩
instance inf9 : Inf Tryd.prog 9 [Value.string ByteArray.empty] false 16 := ⟨by kernel_rfl, (fun _ => rfl), ⟨_, Tryd.underlying9, rfl⟩, by simp [Value.oneCell']⟩
instance : Und Tryd.prog 12 (.int .u64) := ⟨Tryd.underlying12⟩
instance inf12 : Inf Tryd.prog 12 [Value.int .u64 0] false 8 := ⟨by kernel_rfl, (fun _ => rfl), ⟨_, Tryd.underlying12, rfl⟩, by simp [Value.oneCell']⟩
instance inf13 : Inf Tryd.prog 13 [Value.string ByteArray.empty, Value.int .u64 0] true 24 := ⟨by kernel_rfl, (fun h => by cases h), ⟨_, Tryd.underlying13, rfl⟩, by simp [Value.oneCell']⟩
instance inf19 : Inf Tryd.prog 19 [Value.pointer none] true 8 := ⟨by kernel_rfl, (fun h => by cases h), ⟨_, Tryd.underlying19, rfl⟩, by simp [Value.oneCell']⟩
instance : Und Tryd.prog 21 (.int .i32) := ⟨Tryd.underlying21⟩
instance inf21 : Inf Tryd.prog 21 [Value.int .i32 0] false 4 := ⟨by kernel_rfl, (fun _ => rfl), ⟨_, Tryd.underlying21, rfl⟩, by simp [Value.oneCell']⟩
instance : Und Tryd.prog 22 (.int .u64) := ⟨Tryd.underlying22⟩
instance inf22 : Inf Tryd.prog 22 [Value.int .u64 0] false 8 := ⟨by kernel_rfl, (fun _ => rfl), ⟨_, Tryd.underlying22, rfl⟩, by simp [Value.oneCell']⟩
instance : Und Tryd.prog 23 (.slice 25) := ⟨Tryd.underlying23⟩
instance inf23 : Inf Tryd.prog 23 [Value.slice none 0 0] false 24 := ⟨by kernel_rfl, (fun _ => rfl), ⟨_, Tryd.underlying23, rfl⟩, by simp [Value.oneCell']⟩
instance inf24 : Inf Tryd.prog 24 [Value.int .i64 0, Value.int .u64 0] true 16 := ⟨by kernel_rfl, (fun h => by cases h), ⟨_, Tryd.underlying24, rfl⟩, by simp [Value.oneCell']⟩
instance inf25 : Inf Tryd.prog 25 [Value.int .i64 0, Value.int .u64 0] true 16 := ⟨by kernel_rfl, (fun h => by cases h), ⟨_, Tryd.underlying25, rfl⟩, by simp [Value.oneCell']⟩
instance inf27 : Inf Tryd.prog 27 [Value.slice none 0 0, Value.int .i64 0] true 32 := ⟨by kernel_rfl, (fun h => by cases h), ⟨_, Tryd.underlying27, rfl⟩, by simp [Value.oneCell']⟩
instance : Und Tryd.prog 28 (.slice 27) := ⟨Tryd.underlying28⟩
instance inf28 : Inf Tryd.prog 28 [Value.slice none 0 0] false 24 := ⟨by kernel_rfl, (fun _ => rfl), ⟨_, Tryd.underlying28, rfl⟩, by simp [Value.oneCell']⟩
instance : Und Tryd.prog 29 (.slice 5) := ⟨Tryd.underlying29⟩
instance inf29 : Inf Tryd.prog 29 [Value.slice none 0 0] false 24 := ⟨by kernel_rfl, (fun _ => rfl), ⟨_, Tryd.underlying29, rfl⟩, by simp [Value.oneCell']⟩
instance : Und Tryd.prog 36 (.slice 3) := ⟨Tryd.underlying36⟩
instance inf36 : Inf Tryd.prog 36 [Value.slice none 0 0] false 24 := ⟨by kernel_rfl, (fun _ => rfl), ⟨_, Tryd.underlying36, rfl⟩, by simp [Value.oneCell']⟩
instance : Und Tryd.prog 37 (.slice 22) := ⟨Tryd.underlying37⟩
instance inf37 : Inf Tryd.prog 37 [Value.slice none 0 0] false 24 := ⟨by kernel_rfl, (fun _ => rfl), ⟨_, Tryd.underlying37, rfl⟩, by simp [Value.oneCell']⟩
instance inf45 : Inf Tryd.prog 45 [Value.int .i64 0, Value.int .i64 0, Value.int .i64 0, Value.int .i64 0] true 32 := ⟨by kernel_rfl, (fun h => by cases h), ⟨_, Tryd.underlying45, rfl⟩, by simp [Value.oneCell']⟩
instance inf46 : Inf Tryd.prog 46 [Value.int .i64 0, Value.int .i64 0, Value.int .i64 0, Value.int .i64 0] true 32 := ⟨by kernel_rfl, (fun h => by cases h), ⟨_, Tryd.underlying46, rfl⟩, by simp [Value.oneCell']⟩
instance : Und Tryd.prog 49 (.map 9 4) := ⟨Tryd.underlying49⟩
instance inf49 : Inf Tryd.prog 49 [Value.map none] false 8 := ⟨by kernel_rfl, (fun _ => rfl), ⟨_, Tryd.underlying49, rfl⟩, by simp [Value.oneCell']⟩
instance : Und Tryd.prog 53 (.int .u64) := ⟨Tryd.underlying53⟩
instance inf53 : Inf Tryd.prog 53 [Value.int .u64 0] false 8 := ⟨by kernel_rfl, (fun _ => rfl), ⟨_, Tryd.underlying53, rfl⟩, by simp [Value.oneCell']⟩
instance : Und Tryd.prog 54 (.pointer 95) := ⟨Tryd.underlying54⟩
instance inf54 : Inf Tryd.prog 54 [Value.pointer none] false 8 := ⟨by kernel_rfl, (fun _ => rfl), ⟨_, Tryd.underlying54, rfl⟩, by simp [Value.oneCell']⟩
instance : Und Tryd.prog 57 (.pointer 98) := ⟨Tryd.underlying57⟩
instance inf57 : Inf Tryd.prog 57 [Value.pointer none] false 8 := ⟨by kernel_rfl, (fun _ => rfl), ⟨_, Tryd.underlying57, rfl⟩, by simp [Value.oneCell']⟩
instance : Und Tryd.prog 63 (.pointer 65) := ⟨Tryd.underlying63⟩
instance inf63 : Inf Tryd.prog 63 [Value.pointer none] false 8 := ⟨by kernel_rfl, (fun _ => rfl), ⟨_, Tryd.underlying63, rfl⟩, by simp [Value.oneCell']⟩
instance inf64 : Inf Tryd.prog 64 [Value.slice none 0 0] true 24 := ⟨by kernel_rfl, (fun h => by cases h), ⟨_, Tryd.underlying64, rfl⟩, by simp [Value.oneCell']⟩
instance inf65 : Inf Tryd.prog 65 [Value.slice none 0 0] true 24 := ⟨by kernel_rfl, (fun h => by cases h), ⟨_, Tryd.underlying65, rfl⟩, by simp [Value.oneCell']⟩
instance : Und Tryd.prog 66 (.slice 2) := ⟨Tryd.underlying66⟩
instance inf66 : Inf Tryd.prog 66 [Value.slice none 0 0] false 24 := ⟨by kernel_rfl, (fun _ => rfl), ⟨_, Tryd.underlying66, rfl⟩, by simp [Value.oneCell']⟩
instance : Und Tryd.prog 72 (.pointer 109) := ⟨Tryd.underlying72⟩
instance inf72 : Inf Tryd.prog 72 [Value.pointer none] false 8 := ⟨by kernel_rfl, (fun _ => rfl), ⟨_, Tryd.underlying72, rfl⟩, by simp [Value.oneCell']⟩
instance : Und Tryd.prog 79 (.pointer 117) := ⟨Tryd.underlying79⟩
instance inf79 : Inf Tryd.prog 79 [Value.pointer none] false 8 := ⟨by kernel_rfl, (fun _ => rfl), ⟨_, Tryd.underlying79, rfl⟩, by simp [Value.oneCell']⟩
instance : Und Tryd.prog 85 (.int .u32) := ⟨Tryd.underlying85⟩
instance inf85 : Inf Tryd.prog 85 [Value.int .u32 0] false 4 := ⟨by kernel_rfl, (fun _ => rfl), ⟨_, Tryd.underlying85, rfl⟩, by simp [Value.oneCell']⟩
instance inf87 : Inf Tryd.prog 87 (List.replicate 256 (Value.int .u32 0)) true 1024 := ⟨by kernel_rfl, (fun h => by cases h), ⟨_, Tryd.underlying87, rfl⟩, by simp [Value.oneCell']⟩
instance inf92 : Inf Tryd.prog 92 [Value.bool false, Value.bool false, Value.int .i64 0] true 16 := ⟨by kernel_rfl, (fun h => by cases h), ⟨_, Tryd.underlying92, rfl⟩, by simp [Value.oneCell']⟩
instance inf93 : Inf Tryd.prog 93 [Value.bool false, Value.bool false, Value.int .i64 0] true 16 := ⟨by kernel_rfl, (fun h => by cases h), ⟨_, Tryd.underlying93, rfl⟩, by simp [Value.oneCell']⟩
instance inf94 : Inf Tryd.prog 94 [Value.bool false, Value.bool false, Value.int .i64 0, Value.int .i64 0, Value.slice none 0 0, Value.slice none 0 0, Value.bool false] true 80 := ⟨by kernel_rfl, (fun h => by cases h), ⟨_, Tryd.underlying94, rfl⟩, by simp [Value.oneCell']⟩
instance inf95 : Inf Tryd.prog 95 [Value.bool false, Value.bool false, Value.int .i64 0, Value.int .i64 0, Value.slice none 0 0, Value.slice none 0 0, Value.bool false] true 80 := ⟨by kernel_rfl, (fun h => by cases h), ⟨_, Tryd.underlying95, rfl⟩, by simp [Value.oneCell']⟩
instance inf97 : Inf Tryd.prog 97 [Value.bool false, Value.bool false, Value.int .i64 0, Value.slice none 0 0, Value.slice none 0 0, Value.bool false] true 72 := ⟨by kernel_rfl, (fun h => by cases h), ⟨_, Tryd.underlying97, rfl⟩, by simp [Value.oneCell']⟩
instance inf98 : Inf Tryd.prog 98 [Value.bool false, Value.bool false, Value.int .i64 0, Value.slice none 0 0, Value.slice none 0 0, Value.bool false] true 72 := ⟨by kernel_rfl, (fun h => by cases h), ⟨_, Tryd.underlying98, rfl⟩, by simp [Value.oneCell']⟩
instance inf108 : Inf Tryd.prog 108 [Value.slice none 0 0, Value.int .i64 0] true 32 := ⟨by kernel_rfl, (fun h => by cases h), ⟨_, Tryd.underlying108, rfl⟩, by simp [Value.oneCell']⟩
instance inf109 : Inf Tryd.prog 109 [Value.slice none 0 0, Value.int .i64 0] true 32 := ⟨by kernel_rfl, (fun h => by cases h), ⟨_, Tryd.underlying109, rfl⟩, by simp [Value.oneCell']⟩
instance inf110 : Inf Tryd.prog 110 [Value.int .u64 0, Value.int .i64 0, Value.int .i64 0] true 24 := ⟨by kernel_rfl, (fun h => by cases h), ⟨_, Tryd.underlying110, rfl⟩, by simp [Value.oneCell']⟩
instance inf111 : Inf Tryd.prog 111 [Value.int .u64 0, Value.int .i64 0, Value.int .i64 0] true 24 := ⟨by kernel_rfl, (fun h => by cases h), ⟨_, Tryd.underlying111, rfl⟩, by simp [Value.oneCell']⟩
instance inf116 : Inf Tryd.prog 116 [Value.slice none 0 0, Value.int .i64 0, Value.bool false] true 40 := ⟨by kernel_rfl, (fun h => by cases h), ⟨_, Tryd.underlying116, rfl⟩, by simp [Value.oneCell']⟩
instance inf117 : Inf Tryd.prog 117 [Value.slice none 0 0, Value.int .i64 0, Value.bool false] true 40 := ⟨by kernel_rfl, (fun h => by cases h), ⟨_, Tryd.underlying117, rfl⟩, by simp [Value.oneCell']⟩
instance inf122 : Inf Tryd.prog 122 [Value.int .u64 0, Value.int .u64 0, Value.int .u64 0] true 24 := ⟨by kernel_rfl, (fun h => by cases h), ⟨_, Tryd.underlying122, rfl⟩, by simp [Value.oneCell']⟩
instance : Und Tryd.prog 124 (.pointer 93) := ⟨Tryd.underlying124⟩
instance inf124 : Inf Tryd.prog 124 [Value.pointer none] false 8 := ⟨by kernel_rfl, (fun _ => rfl), ⟨_, Tryd.underlying124, rfl⟩, by simp [Value.oneCell']⟩
instance inf131 : Inf Tryd.prog 131 [Value.bool false, Value.int .i64 0, Value.int .i64 0] true 24 := ⟨by kernel_rfl, (fun h => by cases h), ⟨_, Tryd.underlying131, rfl⟩, by simp [Value.oneCell']⟩
instance inf132 : Inf Tryd.prog 132 [Value.bool false, Value.int .i64 0, Value.int .i64 0] true 24 := ⟨by kernel_rfl, (fun h => by cases h), ⟨_, Tryd.underlying132, rfl⟩, by simp [Value.oneCell']⟩
instance : Und Tryd.prog 136 (.slice 150) := ⟨Tryd.underlying136⟩
instance inf136 : Inf Tryd.prog 136 [Value.slice none 0 0] false 24 := ⟨by kernel_rfl, (fun _ => rfl), ⟨_, Tryd.underlying136, rfl⟩, by simp [Value.oneCell']⟩
instance : Und Tryd.prog 141 (.map 22 3) := ⟨Tryd.underlying141⟩
instance inf141 : Inf Tryd.prog 141 [Value.map none] false 8 := ⟨by kernel_rfl, (fun _ => rfl), ⟨_, Tryd.underlying141, rfl⟩, by simp [Value.oneCell']⟩
instance : Und Tryd.prog 148 (.pointer 132) := ⟨Tryd.underlying148⟩
instance inf148 : Inf Tryd.prog 148 [Value.pointer none] false 8 := ⟨by kernel_rfl, (fun _ => rfl), ⟨_, Tryd.underlying148, rfl⟩, by simp [Value.oneCell']⟩
instance inf149 : Inf Tryd.prog 149 [Value.int .i64 0, Value.int .i64 0] true 16 := ⟨by kernel_rfl, (fun h => by cases h), ⟨_, Tryd.underlying149, rfl⟩, by simp [Value.oneCell']⟩
instance inf150 : Inf Tryd.prog 150 [Value.int .i64 0, Value.int .i64 0] true 16 := ⟨by kernel_rfl, (fun h => by cases h), ⟨_, Tryd.underlying150, rfl⟩, by simp [Value.oneCell']⟩
instance inf154 : Inf Tryd.prog 154 (List.replicate 16 (Value.int .i64 0)) true 128 := ⟨by kernel_rfl, (fun h => by cases h), ⟨_, Tryd.underlying154, rfl⟩, by simp [Value.oneCell']⟩
instance inf158 : Inf Tryd.prog 158 (List.replicate 64 (Value.int .u8 0)) true 64 := ⟨by kernel_rfl, (fun h => by cases h), ⟨_, Tryd.underlying158, rfl⟩, by simp [Value.oneCell']⟩
instance : Und Tryd.prog 168 (.pointer 5) := ⟨Tryd.underlying168⟩
instance inf168 : Inf Tryd.prog 168 [Value.pointer none] false 8 := ⟨by kernel_rfl, (fun _ => rfl), ⟨_, Tryd.underlying168, rfl⟩, by simp [Value.oneCell']⟩
instance : FA Tryd.prog 13 0 0 := FA.mk' Tryd.underlying13 rfl inf9 (List.cons_ne_nil _ _)
instance : FA Tryd.prog 13 1 1 := FA.mk' Tryd.underlying13 rfl inf12 (List.cons_ne_nil _ _)
instance : Pl Tryd.prog 13 [Value.string ByteArray.empty, Value.int .u64 0] [(0, 1), (1, 1)] := Pl.mk' Tryd.underlying13 inf13 (by kernel_rfl)
instance : FA Tryd.prog 24 0 0 := FA.mk' Tryd.underlying24 rfl inf2 (List.cons_ne_nil _ _)
instance : FA Tryd.prog 24 1 1 := FA.mk' Tryd.underlying24 rfl inf22 (List.cons_ne_nil _ _)
instance : Pl Tryd.prog 24 [Value.int .i64 0, Value.int .u64 0] [(0, 1), (1, 1)] := Pl.mk' Tryd.underlying24 inf24 (by kernel_rfl)
instance : FA Tryd.prog 25 0 0 := FA.mk' Tryd.underlying25 rfl inf2 (List.cons_ne_nil _ _)
instance : FA Tryd.prog 25 1 1 := FA.mk' Tryd.underlying25 rfl inf22 (List.cons_ne_nil _ _)
instance : Pl Tryd.prog 25 [Value.int .i64 0, Value.int .u64 0] [(0, 1), (1, 1)] := Pl.mk' Tryd.underlying25 inf25 (by kernel_rfl)
instance : FA Tryd.prog 27 0 0 := FA.mk' Tryd.underlying27 rfl inf23 (List.cons_ne_nil _ _)
instance : FA Tryd.prog 27 1 1 := FA.mk' Tryd.underlying27 rfl inf3 (List.cons_ne_nil _ _)
instance : Pl Tryd.prog 27 [Value.slice none 0 0, Value.int .i64 0] [(0, 1), (1, 1)] := Pl.mk' Tryd.underlying27 inf27 (by kernel_rfl)
instance : FA Tryd.prog 45 0 0 := FA.mk' Tryd.underlying45 rfl inf3 (List.cons_ne_nil _ _)
instance : FA Tryd.prog 45 1 1 := FA.mk' Tryd.underlying45 rfl inf3 (List.cons_ne_nil _ _)
instance : FA Tryd.prog 45 2 2 := FA.mk' Tryd.underlying45 rfl inf2 (List.cons_ne_nil _ _)
instance : FA Tryd.prog 45 3 3 := FA.mk' Tryd.underlying45 rfl inf2 (List.cons_ne_nil _ _)
instance : Pl Tryd.prog 45 [Value.int .i64 0, Value.int .i64 0, Value.int .i64 0, Value.int .i64 0] [(0, 1), (1, 1), (2, 1), (3, 1)] := Pl.mk' Tryd.underlying45 inf45 (by kernel_rfl)
instance : FA Tryd.prog 46 0 0 := FA.mk' Tryd.underlying46 rfl inf3 (List.cons_ne_nil _ _)
instance : FA Tryd.prog 46 1 1 := FA.mk' Tryd.underlying46 rfl inf3 (List.cons_ne_nil _ _)
instance : FA Tryd.prog 46 2 2 := FA.mk' Tryd.underlying46 rfl inf2 (List.cons_ne_nil _ _)
instance : FA Tryd.prog 46 3 3 := FA.mk' Tryd.underlying46 rfl inf2 (List.cons_ne_nil _ _)
instance : Pl Tryd.prog 46 [Value.int .i64 0, Value.int .i64 0, Value.int .i64 0, Value.int .i64 0] [(0, 1), (1, 1), (2, 1), (3, 1)] := Pl.mk' Tryd.underlying46 inf46 (by kernel_rfl)
instance : FA Tryd.prog 64 0 0 := FA.mk' Tryd.underlying64 rfl inf29 (List.cons_ne_nil _ _)
instance : Pl Tryd.prog 64 [Value.slice none 0 0] [(0, 1)] := Pl.mk' Tryd.underlying64 inf64 (by kernel_rfl)
instance : FA Tryd.prog 65 0 0 := FA.mk' Tryd.underlying65 rfl inf29 (List.cons_ne_nil _ _)
instance : Pl Tryd.prog 65 [Value.slice none 0 0] [(0, 1)] := Pl.mk' Tryd.underlying65 inf65 (by kernel_rfl)
instance : FA Tryd.prog 92 0 0 := FA.mk' Tryd.underlying92 rfl inf4 (List.cons_ne_nil _ _)
instance : FA Tryd.prog 92 1 1 := FA.mk' Tryd.underlying92 rfl inf4 (List.cons_ne_nil _ _)
instance : FA Tryd.prog 92 2 2 := FA.mk' Tryd.underlying92 rfl inf3 (List.cons_ne_nil _ _)
instance : Pl Tryd.prog 92 [Value.bool false, Value.bool false, Value.int .i64 0] [(0, 1), (1, 1), (2, 1)] := Pl.mk' Tryd.underlying92 inf92 (by kernel_rfl)
instance : FA Tryd.prog 93 0 0 := FA.mk' Tryd.underlying93 rfl inf4 (List.cons_ne_nil _ _)
instance : FA Tryd.prog 93 1 1 := FA.mk' Tryd.underlying93 rfl inf4 (List.cons_ne_nil _ _)
instance : FA Tryd.prog 93 2 2 := FA.mk' Tryd.underlying93 rfl inf3 (List.cons_ne_nil _ _)
instance : Pl Tryd.prog 93 [Value.bool false, Value.bool false, Value.int .i64 0] [(0, 1), (1, 1), (2, 1)] := Pl.mk' Tryd.underlying93 inf93 (by kernel_rfl)
instance : FA Tryd.prog 94 0 0 := FA.mk' Tryd.underlying94 rfl inf93 (List.cons_ne_nil _ _)
instance : FA Tryd.prog 94 1 3 := FA.mk' Tryd.underlying94 rfl inf3 (List.cons_ne_nil _ _)
instance : FA Tryd.prog 94 2 4 := FA.mk' Tryd.underlying94 rfl inf23 (List.cons_ne_nil _ _)
instance : FA Tryd.prog 94 3 5 := FA.mk' Tryd.underlying94 rfl inf29 (List.cons_ne_nil _ _)
instance : FA Tryd.prog 94 4 6 := FA.mk' Tryd.underlying94 rfl inf4 (List.cons_ne_nil _ _)
instance : Pl Tryd.prog 94 [Value.bool false, Value.bool false, Value.int .i64 0, Value.int .i64 0, Value.slice none 0 0, Value.slice none 0 0, Value.bool false] [(0, 3), (3, 1), (4, 1), (5, 1), (6, 1)] := Pl.mk' Tryd.underlying94 inf94 (by kernel_rfl)
instance : FA Tryd.prog 95 0 0 := FA.mk' Tryd.underlying95 rfl inf93 (List.cons_ne_nil _ _)
instance : FA Tryd.prog 95 1 3 := FA.mk' Tryd.underlying95 rfl inf3 (List.cons_ne_nil _ _)
instance : FA Tryd.prog 95 2 4 := FA.mk' Tryd.underlying95 rfl inf23 (List.cons_ne_nil _ _)
instance : FA Tryd.prog 95 3 5 := FA.mk' Tryd.underlying95 rfl inf29 (List.cons_ne_nil _ _)
instance : FA Tryd.prog 95 4 6 := FA.mk' Tryd.underlying95 rfl inf4 (List.cons_ne_nil _ _)
instance : Pl Tryd.prog 95 [Value.bool false, Value.bool false, Value.int .i64 0, Value.int .i64 0, Value.slice none 0 0, Value.slice none 0 0, Value.bool false] [(0, 3), (3, 1), (4, 1), (5, 1), (6, 1)] := Pl.mk' Tryd.underlying95 inf95 (by kernel_rfl)
instance : FA Tryd.prog 97 0 0 := FA.mk' Tryd.underlying97 rfl inf93 (List.cons_ne_nil _ _)
instance : FA Tryd.prog 97 1 3 := FA.mk' Tryd.underlying97 rfl inf29 (List.cons_ne_nil _ _)
instance : FA Tryd.prog 97 2 4 := FA.mk' Tryd.underlying97 rfl inf23 (List.cons_ne_nil _ _)
instance : FA Tryd.prog 97 3 5 := FA.mk' Tryd.underlying97 rfl inf4 (List.cons_ne_nil _ _)
instance : Pl Tryd.prog 97 [Value.bool false, Value.bool false, Value.int .i64 0, Value.slice none 0 0, Value.slice none 0 0, Value.bool false] [(0, 3), (3, 1), (4, 1), (5, 1)] := Pl.mk' Tryd.underlying97 inf97 (by kernel_rfl)
instance : FA Tryd.prog 98 0 0 := FA.mk' Tryd.underlying98 rfl inf93 (List.cons_ne_nil _ _)
instance : FA Tryd.prog 98 1 3 := FA.mk' Tryd.underlying98 rfl inf29 (List.cons_ne_nil _ _)
instance : FA Tryd.prog 98 2 4 := FA.mk' Tryd.underlying98 rfl inf23 (List.cons_ne_nil _ _)
instance : FA Tryd.prog 98 3 5 := FA.mk' Tryd.underlying98 rfl inf4 (List.cons_ne_nil _ _)
instance : Pl Tryd.prog 98 [Value.bool false, Value.bool false, Value.int .i64 0, Value.slice none 0 0, Value.slice none 0 0, Value.bool false] [(0, 3), (3, 1), (4, 1), (5, 1)] := Pl.mk' Tryd.underlying98 inf98 (by kernel_rfl)
instance : FA Tryd.prog 108 0 0 := FA.mk' Tryd.underlying108 rfl inf29 (List.cons_ne_nil _ _)
instance : FA Tryd.prog 108 1 1 := FA.mk' Tryd.underlying108 rfl inf3 (List.cons_ne_nil _ _)
instance : Pl Tryd.prog 108 [Value.slice none 0 0, Value.int .i64 0] [(0, 1), (1, 1)] := Pl.mk' Tryd.underlying108 inf108 (by kernel_rfl)
instance : FA Tryd.prog 109 0 0 := FA.mk' Tryd.underlying109 rfl inf29 (List.cons_ne_nil _ _)
instance : FA Tryd.prog 109 1 1 := FA.mk' Tryd.underlying109 rfl inf3 (List.cons_ne_nil _ _)
instance : Pl Tryd.prog 109 [Value.slice none 0 0, Value.int .i64 0] [(0, 1), (1, 1)] := Pl.mk' Tryd.underlying109 inf109 (by kernel_rfl)
instance : FA Tryd.prog 110 0 0 := FA.mk' Tryd.underlying110 rfl inf22 (List.cons_ne_nil _ _)
instance : FA Tryd.prog 110 1 1 := FA.mk' Tryd.underlying110 rfl inf3 (List.cons_ne_nil _ _)
instance : FA Tryd.prog 110 2 2 := FA.mk' Tryd.underlying110 rfl inf3 (List.cons_ne_nil _ _)
instance : Pl Tryd.prog 110 [Value.int .u64 0, Value.int .i64 0, Value.int .i64 0] [(0, 1), (1, 1), (2, 1)] := Pl.mk' Tryd.underlying110 inf110 (by kernel_rfl)
instance : FA Tryd.prog 111 0 0 := FA.mk' Tryd.underlying111 rfl inf22 (List.cons_ne_nil _ _)
instance : FA Tryd.prog 111 1 1 := FA.mk' Tryd.underlying111 rfl inf3 (List.cons_ne_nil _ _)
instance : FA Tryd.prog 111 2 2 := FA.mk' Tryd.underlying111 rfl inf3 (List.cons_ne_nil _ _)
instance : Pl Tryd.prog 111 [Value.int .u64 0, Value.int .i64 0, Value.int .i64 0] [(0, 1), (1, 1), (2, 1)] := Pl.mk' Tryd.underlying111 inf111 (by kernel_rfl)
instance : FA Tryd.prog 116 0 0 := FA.mk' Tryd.underlying116 rfl inf29 (List.cons_ne_nil _ _)
instance : FA Tryd.prog 116 1 1 := FA.mk' Tryd.underlying116 rfl inf3 (List.cons_ne_nil _ _)
instance : FA Tryd.prog 116 2 2 := FA.mk' Tryd.underlying116 rfl inf4 (List.cons_ne_nil _ _)
instance : Pl Tryd.prog 116 [Value.slice none 0 0, Value.int .i64 0, Value.bool false] [(0, 1), (1, 1), (2, 1)] := Pl.mk' Tryd.underlying116 inf116 (by kernel_rfl)
instance : FA Tryd.prog 117 0 0 := FA.mk' Tryd.underlying117 rfl inf29 (List.cons_ne_nil _ _)
instance : FA Tryd.prog 117 1 1 := FA.mk' Tryd.underlying117 rfl inf3 (List.cons_ne_nil _ _)
instance : FA Tryd.prog 117 2 2 := FA.mk' Tryd.underlying117 rfl inf4 (List.cons_ne_nil _ _)
instance : Pl Tryd.prog 117 [Value.slice none 0 0, Value.int .i64 0, Value.bool false] [(0, 1), (1, 1), (2, 1)] := Pl.mk' Tryd.underlying117 inf117 (by kernel_rfl)
instance : FA Tryd.prog 131 0 0 := FA.mk' Tryd.underlying131 rfl inf4 (List.cons_ne_nil _ _)
instance : FA Tryd.prog 131 1 1 := FA.mk' Tryd.underlying131 rfl inf3 (List.cons_ne_nil _ _)
instance : FA Tryd.prog 131 2 2 := FA.mk' Tryd.underlying131 rfl inf3 (List.cons_ne_nil _ _)
instance : Pl Tryd.prog 131 [Value.bool false, Value.int .i64 0, Value.int .i64 0] [(0, 1), (1, 1), (2, 1)] := Pl.mk' Tryd.underlying131 inf131 (by kernel_rfl)
instance : FA Tryd.prog 132 0 0 := FA.mk' Tryd.underlying132 rfl inf4 (List.cons_ne_nil _ _)
instance : FA Tryd.prog 132 1 1 := FA.mk' Tryd.underlying132 rfl inf3 (List.cons_ne_nil _ _)
instance : FA Tryd.prog 132 2 2 := FA.mk' Tryd.underlying132 rfl inf3 (List.cons_ne_nil _ _)
instance : Pl Tryd.prog 132 [Value.bool false, Value.int .i64 0, Value.int .i64 0] [(0, 1), (1, 1), (2, 1)] := Pl.mk' Tryd.underlying132 inf132 (by kernel_rfl)
instance : FA Tryd.prog 149 0 0 := FA.mk' Tryd.underlying149 rfl inf3 (List.cons_ne_nil _ _)
instance : FA Tryd.prog 149 1 1 := FA.mk' Tryd.underlying149 rfl inf3 (List.cons_ne_nil _ _)
instance : Pl Tryd.prog 149 [Value.int .i64 0, Value.int .i64 0] [(0, 1), (1, 1)] := Pl.mk' Tryd.underlying149 inf149 (by kernel_rfl)
instance : FA Tryd.prog 150 0 0 := FA.mk' Tryd.underlying150 rfl inf3 (List.cons_ne_nil _ _)
instance : FA Tryd.prog 150 1 1 := FA.mk' Tryd.underlying150 rfl inf3 (List.cons_ne_nil _ _)
instance : Pl Tryd.prog 150 [Value.int .i64 0, Value.int .i64 0] [(0, 1), (1, 1)] := Pl.mk' Tryd.underlying150 inf150 (by kernel_rfl)
instance : FnB Tryd.prog 3 := ⟨_, Tryd.func3, by kernel_rfl, by kernel_rfl⟩
instance : FnB Tryd.prog 4 := ⟨_, Tryd.func4, by kernel_rfl, by kernel_rfl⟩
instance : FnB Tryd.prog 5 := ⟨_, Tryd.func5, by kernel_rfl, by kernel_rfl⟩
instance : FnB Tryd.prog 6 := ⟨_, Tryd.func6, by kernel_rfl, by kernel_rfl⟩
instance : FnB Tryd.prog 7 := ⟨_, Tryd.func7, by kernel_rfl, by kernel_rfl⟩
instance : FnB Tryd.prog 8 := ⟨_, Tryd.func8, by kernel_rfl, by kernel_rfl⟩
instance : FnB Tryd.prog 9 := ⟨_, Tryd.func9, by kernel_rfl, by kernel_rfl⟩
instance : FnB Tryd.prog 10 := ⟨_, Tryd.func10, by kernel_rfl, by kernel_rfl⟩
instance : FnB Tryd.prog 11 := ⟨_, Tryd.func11, by kernel_rfl, by kernel_rfl⟩
instance : FnB Tryd.prog 12 := ⟨_, Tryd.func12, by kernel_rfl, by kernel_rfl⟩
instance : FnB Tryd.prog 13 := ⟨_, Tryd.func13, by kernel_rfl, by kernel_rfl⟩
instance : FnB Tryd.prog 14 := ⟨_, Tryd.func14, by kernel_rfl, by kernel_rfl⟩
instance : FnB Tryd.prog 15 := ⟨_, Tryd.func15, by kernel_rfl, by kernel_rfl⟩
instance : FnB Tryd.prog 16 := ⟨_, Tryd.func16, by kernel_rfl, by kernel_rfl⟩
instance : FnB Tryd.prog 17 := ⟨_, Tryd.func17, by kernel_rfl, by kernel_rfl⟩
instance : FnB Tryd.prog 18 := ⟨_, Tryd.func18, by kernel_rfl, by kernel_rfl⟩
instance : FnB Tryd.prog 19 := ⟨_, Tryd.func19, by kernel_rfl, by kernel_rfl⟩
instance : FnB Tryd.prog 20 := ⟨_, Tryd.func20, by kernel_rfl, by kernel_rfl⟩
instance : FnB Tryd.prog 21 := ⟨_, Tryd.func21, by kernel_rfl, by kernel_rfl⟩
instance : FnB Tryd.prog 22 := ⟨_, Tryd.func22, by kernel_rfl, by kernel_rfl⟩
instance : FnB Tryd.prog 23 := ⟨_, Tryd.func23, by kernel_rfl, by kernel_rfl⟩
instance : FnB Tryd.prog 24 := ⟨_, Tryd.func24, by kernel_rfl, by kernel_rfl⟩
instance : FnB Tryd.prog 25 := ⟨_, Tryd.func25, by kernel_rfl, by kernel_rfl⟩
instance : FnB Tryd.prog 26 := ⟨_, Tryd.func26, by kernel_rfl, by kernel_rfl⟩
instance : FnB Tryd.prog 27 := ⟨_, Tryd.func27, by kernel_rfl, by kernel_rfl⟩
instance : FnB Tryd.prog 28 := ⟨_, Tryd.func28, by kernel_rfl, by kernel_rfl⟩
instance : FnB Tryd.prog 29 := ⟨_, Tryd.func29, by kernel_rfl, by kernel_rfl⟩
instance : FnB Tryd.prog 30 := ⟨_, Tryd.func30, by kernel_rfl, by kernel_rfl⟩
instance : FnB Tryd.prog 31 := ⟨_, Tryd.func31, by kernel_rfl, by kernel_rfl⟩
instance : FnB Tryd.prog 32 := ⟨_, Tryd.func32, by kernel_rfl, by kernel_rfl⟩
instance : FnB Tryd.prog 33 := ⟨_, Tryd.func33, by kernel_rfl, by kernel_rfl⟩
instance : FnB Tryd.prog 34 := ⟨_, Tryd.func34, by kernel_rfl, by kernel_rfl⟩
instance : FnB Tryd.prog 35 := ⟨_, Tryd.func35, by kernel_rfl, by kernel_rfl⟩
instance : FnB Tryd.prog 36 := ⟨_, Tryd.func36, by kernel_rfl, by kernel_rfl⟩
instance : FnB Tryd.prog 37 := ⟨_, Tryd.func37, by kernel_rfl, by kernel_rfl⟩
instance : FnB Tryd.prog 38 := ⟨_, Tryd.func38, by kernel_rfl, by kernel_rfl⟩
instance : FnB Tryd.prog 39 := ⟨_, Tryd.func39, by kernel_rfl, by kernel_rfl⟩
instance : FnB Tryd.prog 40 := ⟨_, Tryd.func40, by kernel_rfl, by kernel_rfl⟩
instance : FnB Tryd.prog 41 := ⟨_, Tryd.func41, by kernel_rfl, by kernel_rfl⟩
instance : FnB Tryd.prog 42 := ⟨_, Tryd.func42, by kernel_rfl, by kernel_rfl⟩
instance : FnB Tryd.prog 43 := ⟨_, Tryd.func43, by kernel_rfl, by kernel_rfl⟩
instance : FnB Tryd.prog 44 := ⟨_, Tryd.func44, by kernel_rfl, by kernel_rfl⟩
instance : FnB Tryd.prog 45 := ⟨_, Tryd.func45, by kernel_rfl, by kernel_rfl⟩
instance : FnB Tryd.prog 46 := ⟨_, Tryd.func46, by kernel_rfl, by kernel_rfl⟩
instance : FnB Tryd.prog 47 := ⟨_, Tryd.func47, by kernel_rfl, by kernel_rfl⟩
instance : FnB Tryd.prog 48 := ⟨_, Tryd.func48, by kernel_rfl, by kernel_rfl⟩
instance : FnB Tryd.prog 49 := ⟨_, Tryd.func49, by kernel_rfl, by kernel_rfl⟩
instance : FnB Tryd.prog 50 := ⟨_, Tryd.func50, by kernel_rfl, by kernel_rfl⟩
instance : FnB Tryd.prog 51 := ⟨_, Tryd.func51, by kernel_rfl, by kernel_rfl⟩
instance : FnB Tryd.prog 52 := ⟨_, Tryd.func52, by kernel_rfl, by kernel_rfl⟩
instance : FnB Tryd.prog 53 := ⟨_, Tryd.func53, by kernel_rfl, by kernel_rfl⟩
instance : FnB Tryd.prog 54 := ⟨_, Tryd.func54, by kernel_rfl, by kernel_rfl⟩
instance : FnB Tryd.prog 55 := ⟨_, Tryd.func55, by kernel_rfl, by kernel_rfl⟩
instance : FnB Tryd.prog 56 := ⟨_, Tryd.func56, by kernel_rfl, by kernel_rfl⟩
instance : FnB Tryd.prog 57 := ⟨_, Tryd.func57, by kernel_rfl, by kernel_rfl⟩
instance : FnB Tryd.prog 58 := ⟨_, Tryd.func58, by kernel_rfl, by kernel_rfl⟩
instance : FnB Tryd.prog 59 := ⟨_, Tryd.func59, by kernel_rfl, by kernel_rfl⟩
instance : FnB Tryd.prog 60 := ⟨_, Tryd.func60, by kernel_rfl, by kernel_rfl⟩
instance : FnB Tryd.prog 61 := ⟨_, Tryd.func61, by kernel_rfl, by kernel_rfl⟩
instance : FnB Tryd.prog 62 := ⟨_, Tryd.func62, by kernel_rfl, by kernel_rfl⟩
instance : FnB Tryd.prog 63 := ⟨_, Tryd.func63, by kernel_rfl, by kernel_rfl⟩
instance : FnB Tryd.prog 64 := ⟨_, Tryd.func64, by kernel_rfl, by kernel_rfl⟩
instance : FnB Tryd.prog 65 := ⟨_, Tryd.func65, by kernel_rfl, by kernel_rfl⟩
instance : FnB Tryd.prog 66 := ⟨_, Tryd.func66, by kernel_rfl, by kernel_rfl⟩
instance : FnB Tryd.prog 67 := ⟨_, Tryd.func67, by kernel_rfl, by kernel_rfl⟩
instance : FnB Tryd.prog 68 := ⟨_, Tryd.func68, by kernel_rfl, by kernel_rfl⟩
instance : FnB Tryd.prog 69 := ⟨_, Tryd.func69, by kernel_rfl, by kernel_rfl⟩
instance : FnB Tryd.prog 70 := ⟨_, Tryd.func70, by kernel_rfl, by kernel_rfl⟩
instance : FnB Tryd.prog 71 := ⟨_, Tryd.func71, by kernel_rfl, by kernel_rfl⟩
instance : FnB Tryd.prog 72 := ⟨_, Tryd.func72, by kernel_rfl, by kernel_rfl⟩
instance : FnB Tryd.prog 73 := ⟨_, Tryd.func73, by kernel_rfl, by kernel_rfl⟩
instance : FnB Tryd.prog 74 := ⟨_, Tryd.func74, by kernel_rfl, by kernel_rfl⟩
instance : FnB Tryd.prog 75 := ⟨_, Tryd.func75, by kernel_rfl, by kernel_rfl⟩
instance : FnB Tryd.prog 76 := ⟨_, Tryd.func76, by kernel_rfl, by kernel_rfl⟩
instance : FnB Tryd.prog 77 := ⟨_, Tryd.func77, by kernel_rfl, by kernel_rfl⟩
instance : FnB Tryd.prog 78 := ⟨_, Tryd.func78, by kernel_rfl, by kernel_rfl⟩
instance : FnB Tryd.prog 79 := ⟨_, Tryd.func79, by kernel_rfl, by kernel_rfl⟩
instance : FnB Tryd.prog 80 := ⟨_, Tryd.func80, by kernel_rfl, by kernel_rfl⟩
instance : FnB Tryd.prog 81 := ⟨_, Tryd.func81, by kernel_rfl, by kernel_rfl⟩
instance : FnB Tryd.prog 82 := ⟨_, Tryd.func82, by kernel_rfl, by kernel_rfl⟩
instance : FnB Tryd.prog 83 := ⟨_, Tryd.func83, by kernel_rfl, by kernel_rfl⟩
instance : FnB Tryd.prog 84 := ⟨_, Tryd.func84, by kernel_rfl, by kernel_rfl⟩
instance : FnB Tryd.prog 85 := ⟨_, Tryd.func85, by kernel_rfl, by kernel_rfl⟩
instance : FnB Tryd.prog 86 := ⟨_, Tryd.func86, by kernel_rfl, by kernel_rfl⟩
instance : FnB Tryd.prog 87 := ⟨_, Tryd.func87, by kernel_rfl, by kernel_rfl⟩
instance : FnB Tryd.prog 88 := ⟨_, Tryd.func88, by kernel_rfl, by kernel_rfl⟩
instance : FnB Tryd.prog 89 := ⟨_, Tryd.func89, by kernel_rfl, by kernel_rfl⟩
instance : FnB Tryd.prog 90 := ⟨_, Tryd.func90, by kernel_rfl, by kernel_rfl⟩
instance : FnB Tryd.prog 91 := ⟨_, Tryd.func91, by kernel_rfl, by kernel_rfl⟩
instance : FnB Tryd.prog 92 := ⟨_, Tryd.func92, by kernel_rfl, by kernel_rfl⟩
instance : FnB Tryd.prog 93 := ⟨_, Tryd.func93, by kernel_rfl, by kernel_rfl⟩
instance : FnB Tryd.prog 94 := ⟨_, Tryd.func94, by kernel_rfl, by kernel_rfl⟩
instance : FnB Tryd.prog 95 := ⟨_, Tryd.func95, by kernel_rfl, by kernel_rfl⟩
instance : FnB Tryd.prog 96 := ⟨_, Tryd.func96, by kernel_rfl, by kernel_rfl⟩
instance : FnB Tryd.prog 97 := ⟨_, Tryd.func97, by kernel_rfl, by kernel_rfl⟩
instance : FnB Tryd.prog 98 := ⟨_, Tryd.func98, by kernel_rfl, by kernel_rfl⟩
instance : FnB Tryd.prog 99 := ⟨_, Tryd.func99, by kernel_rfl, by kernel_rfl⟩
instance : FnB Tryd.prog 100 := ⟨_, Tryd.func100, by kernel_rfl, by kernel_rfl⟩
instance : FnB Tryd.prog 101 := ⟨_, Tryd.func101, by kernel_rfl, by kernel_rfl⟩
instance : FnB Tryd.prog 102 := ⟨_, Tryd.func102, by kernel_rfl, by kernel_rfl⟩
instance : FnB Tryd.prog 103 := ⟨_, Tryd.func103, by kernel_rfl, by kernel_rfl⟩
instance : FnB Tryd.prog 104 := ⟨_, Tryd.func104, by kernel_rfl, by kernel_rfl⟩
instance : FnB Tryd.prog 105 := ⟨_, Tryd.func105, by kernel_rfl, by kernel_rfl⟩
instance : FnB Tryd.prog 106 := ⟨_, Tryd.func106, by kernel_rfl, by kernel_rfl⟩
instance : FnB Tryd.prog 107 := ⟨_, Tryd.func107, by kernel_rfl, by kernel_rfl⟩
instance : FnB Tryd.prog 108 := ⟨_, Tryd.func108, by kernel_rfl, by kernel_rfl⟩
instance : FnB Tryd.prog 109 := ⟨_, Tryd.func109, by kernel_rfl, by kernel_rfl⟩
instance : FnB Tryd.prog 110 := ⟨_, Tryd.func110, by kernel_rfl, by kernel_rfl⟩
instance : FnB Tryd.prog 111 := ⟨_, Tryd.func111, by kernel_rfl, by kernel_rfl⟩
instance : FnB Tryd.prog 112 := ⟨_, Tryd.func112, by kernel_rfl, by kernel_rfl⟩
instance : FnB Tryd.prog 113 := ⟨_, Tryd.func113, by kernel_rfl, by kernel_rfl⟩
instance : FnB Tryd.prog 114 := ⟨_, Tryd.func114, by kernel_rfl, by kernel_rfl⟩
instance : FnB Tryd.prog 115 := ⟨_, Tryd.func115, by kernel_rfl, by kernel_rfl⟩
instance : FnB Tryd.prog 116 := ⟨_, Tryd.func116, by kernel_rfl, by kernel_rfl⟩
instance : FnB Tryd.prog 117 := ⟨_, Tryd.func117, by kernel_rfl, by kernel_rfl⟩
instance : FnB Tryd.prog 118 := ⟨_, Tryd.func118, by kernel_rfl, by kernel_rfl⟩
instance : FnB Tryd.prog 139 := ⟨_, Tryd.func139, by kernel_rfl, by kernel_rfl⟩
end Go.Proofs.YtjjacchnalemaaaDoor
