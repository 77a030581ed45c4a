/- What the program's tables say of its types and functions, one instance each. -/
import Derived.Test.YtgahjjihfibbnaaProg
import Derived.Test.YtgahjjihfibbnaaHs
import Derived.KernelRfl
set_option maxRecDepth 100000
namespace Go.Proofs.Ytgahjjihfibbnaa
open Go.Hw
instance {P : Program} {kt : TypeId} {ik : IntKind} [h : Und P kt (.int ik)] : MK P kt Int (Value.int ik) := MK.int h.h
instance : Und Try.prog 2 (.int .i64) := ⟨Try.underlying2⟩
instance inf2 : Inf Try.prog 2 [Value.int .i64 0] false 8 := ⟨by kernel_rfl, (fun _ => rfl), ⟨_, Try.underlying2, rfl⟩, by simp [Value.oneCell']⟩
instance : Und Try.prog 3 (.int .i64) := ⟨Try.underlying3⟩
instance inf3 : Inf Try.prog 3 [Value.int .i64 0] false 8 := ⟨by kernel_rfl, (fun _ => rfl), ⟨_, Try.underlying3, rfl⟩, by simp [Value.oneCell']⟩
instance : Und Try.prog 4 (.bool) := ⟨Try.underlying4⟩
instance inf4 : Inf Try.prog 4 [Value.bool false] false 1 := ⟨by kernel_rfl, (fun _ => rfl), ⟨_, Try.underlying4, rfl⟩, by simp [Value.oneCell']⟩
instance : Und Try.prog 5 (.int .u8) := ⟨Try.underlying5⟩
instance inf5 : Inf Try.prog 5 [Value.int .u8 0] false 1 := ⟨by kernel_rfl, (fun _ => rfl), ⟨_, Try.underlying5, rfl⟩, by simp [Value.oneCell']⟩
instance : Und Try.prog 9 (.string) := ⟨Try.underlying9⟩
instance inf9 : Inf Try.prog 9 [Value.string ByteArray.empty] false 16 := ⟨by kernel_rfl, (fun _ => rfl), ⟨_, Try.underlying9, rfl⟩, by simp [Value.oneCell']⟩
instance : Und Try.prog 12 (.int .u64) := ⟨Try.underlying12⟩
instance inf12 : Inf Try.prog 12 [Value.int .u64 0] false 8 := ⟨by kernel_rfl, (fun _ => rfl), ⟨_, Try.underlying12, rfl⟩, by simp [Value.oneCell']⟩
instance inf13 : Inf Try.prog 13 [Value.string ByteArray.empty, Value.int .u64 0] true 24 := ⟨by kernel_rfl, (fun h => by cases h), ⟨_, Try.underlying13, rfl⟩, by simp [Value.oneCell']⟩
instance inf19 : Inf Try.prog 19 [Value.pointer none] true 8 := ⟨by kernel_rfl, (fun h => by cases h), ⟨_, Try.underlying19, rfl⟩, by simp [Value.oneCell']⟩
instance : Und Try.prog 21 (.int .i32) := ⟨Try.underlying21⟩
instance inf21 : Inf Try.prog 21 [Value.int .i32 0] false 4 := ⟨by kernel_rfl, (fun _ => rfl), ⟨_, Try.underlying21, rfl⟩, by simp [Value.oneCell']⟩
instance : Und Try.prog 22 (.slice 5) := ⟨Try.underlying22⟩
instance inf22 : Inf Try.prog 22 [Value.slice none 0 0] false 24 := ⟨by kernel_rfl, (fun _ => rfl), ⟨_, Try.underlying22, rfl⟩, by simp [Value.oneCell']⟩
instance : Und Try.prog 24 (.pointer 77) := ⟨Try.underlying24⟩
instance inf24 : Inf Try.prog 24 [Value.pointer none] false 8 := ⟨by kernel_rfl, (fun _ => rfl), ⟨_, Try.underlying24, rfl⟩, by simp [Value.oneCell']⟩
instance : Und Try.prog 36 (.pointer 85) := ⟨Try.underlying36⟩
instance inf36 : Inf Try.prog 36 [Value.pointer none] false 8 := ⟨by kernel_rfl, (fun _ => rfl), ⟨_, Try.underlying36, rfl⟩, by simp [Value.oneCell']⟩
instance : Und Try.prog 38 (.map 3 4) := ⟨Try.underlying38⟩
instance inf38 : Inf Try.prog 38 [Value.map none] false 8 := ⟨by kernel_rfl, (fun _ => rfl), ⟨_, Try.underlying38, rfl⟩, by simp [Value.oneCell']⟩
instance : Und Try.prog 40 (.slice 53) := ⟨Try.underlying40⟩
instance inf40 : Inf Try.prog 40 [Value.slice none 0 0] false 24 := ⟨by kernel_rfl, (fun _ => rfl), ⟨_, Try.underlying40, rfl⟩, by simp [Value.oneCell']⟩
instance : Und Try.prog 41 (.slice 56) := ⟨Try.underlying41⟩
instance inf41 : Inf Try.prog 41 [Value.slice none 0 0] false 24 := ⟨by kernel_rfl, (fun _ => rfl), ⟨_, Try.underlying41, rfl⟩, by simp [Value.oneCell']⟩
instance inf42 : Inf Try.prog 42 [Value.int .i64 0, Value.int .i64 0, Value.int .i64 0, Value.int .i64 0, Value.slice none 0 0, Value.slice none 0 0] true 80 := ⟨by kernel_rfl, (fun h => by cases h), ⟨_, Try.underlying42, rfl⟩, by simp [Value.oneCell']⟩
instance inf43 : Inf Try.prog 43 [Value.int .i64 0, Value.int .i64 0, Value.int .i64 0, Value.int .i64 0, Value.slice none 0 0, Value.slice none 0 0] true 80 := ⟨by kernel_rfl, (fun h => by cases h), ⟨_, Try.underlying43, rfl⟩, by simp [Value.oneCell']⟩
instance : Und Try.prog 44 (.int .u64) := ⟨Try.underlying44⟩
instance inf44 : Inf Try.prog 44 [Value.int .u64 0] false 8 := ⟨by kernel_rfl, (fun _ => rfl), ⟨_, Try.underlying44, rfl⟩, by simp [Value.oneCell']⟩
instance : Und Try.prog 45 (.int .i64) := ⟨Try.underlying45⟩
instance inf45 : Inf Try.prog 45 [Value.int .i64 0] false 8 := ⟨by kernel_rfl, (fun _ => rfl), ⟨_, Try.underlying45, rfl⟩, by simp [Value.oneCell']⟩
instance inf52 : Inf Try.prog 52 [Value.int .i64 0, Value.int .i64 0, Value.int .i64 0, Value.int .i64 0, Value.int .i64 0] true 40 := ⟨by kernel_rfl, (fun h => by cases h), ⟨_, Try.underlying52, rfl⟩, by simp [Value.oneCell']⟩
instance inf53 : Inf Try.prog 53 [Value.int .i64 0, Value.int .i64 0, Value.int .i64 0, Value.int .i64 0, Value.int .i64 0] true 40 := ⟨by kernel_rfl, (fun h => by cases h), ⟨_, Try.underlying53, rfl⟩, by simp [Value.oneCell']⟩
instance : Und Try.prog 54 (.int .u64) := ⟨Try.underlying54⟩
instance inf54 : Inf Try.prog 54 [Value.int .u64 0] false 8 := ⟨by kernel_rfl, (fun _ => rfl), ⟨_, Try.underlying54, rfl⟩, by simp [Value.oneCell']⟩
instance inf55 : Inf Try.prog 55 [Value.int .i64 0, Value.int .u64 0] true 16 := ⟨by kernel_rfl, (fun h => by cases h), ⟨_, Try.underlying55, rfl⟩, by simp [Value.oneCell']⟩
instance inf56 : Inf Try.prog 56 [Value.int .i64 0, Value.int .u64 0] true 16 := ⟨by kernel_rfl, (fun h => by cases h), ⟨_, Try.underlying56, rfl⟩, by simp [Value.oneCell']⟩
instance : Und Try.prog 59 (.slice 3) := ⟨Try.underlying59⟩
instance inf59 : Inf Try.prog 59 [Value.slice none 0 0] false 24 := ⟨by kernel_rfl, (fun _ => rfl), ⟨_, Try.underlying59, rfl⟩, by simp [Value.oneCell']⟩
instance : Und Try.prog 60 (.slice 41) := ⟨Try.underlying60⟩
instance inf60 : Inf Try.prog 60 [Value.slice none 0 0] false 24 := ⟨by kernel_rfl, (fun _ => rfl), ⟨_, Try.underlying60, rfl⟩, by simp [Value.oneCell']⟩
instance : Und Try.prog 61 (.map 3 63) := ⟨Try.underlying61⟩
instance inf61 : Inf Try.prog 61 [Value.map none] false 8 := ⟨by kernel_rfl, (fun _ => rfl), ⟨_, Try.underlying61, rfl⟩, by simp [Value.oneCell']⟩
instance inf62 : Inf Try.prog 62 [Value.int .i64 0, Value.int .i64 0, Value.int .i64 0, Value.int .i64 0] true 32 := ⟨by kernel_rfl, (fun h => by cases h), ⟨_, Try.underlying62, rfl⟩, by simp [Value.oneCell']⟩
instance inf63 : Inf Try.prog 63 [Value.int .i64 0, Value.int .i64 0, Value.int .i64 0, Value.int .i64 0] true 32 := ⟨by kernel_rfl, (fun h => by cases h), ⟨_, Try.underlying63, rfl⟩, by simp [Value.oneCell']⟩
instance inf66 : Inf Try.prog 66 [Value.bool false, Value.int .i64 0, Value.slice none 0 0] true 40 := ⟨by kernel_rfl, (fun h => by cases h), ⟨_, Try.underlying66, rfl⟩, by simp [Value.oneCell']⟩
instance inf67 : Inf Try.prog 67 [Value.bool false, Value.int .i64 0, Value.slice none 0 0] true 40 := ⟨by kernel_rfl, (fun h => by cases h), ⟨_, Try.underlying67, rfl⟩, by simp [Value.oneCell']⟩
instance inf68 : Inf Try.prog 68 [Value.bool false, Value.bool false, Value.int .i64 0, Value.int .i64 0, Value.bool false, Value.int .i64 0, Value.slice none 0 0, Value.slice none 0 0] true 88 := ⟨by kernel_rfl, (fun h => by cases h), ⟨_, Try.underlying68, rfl⟩, by simp [Value.oneCell']⟩
instance inf69 : Inf Try.prog 69 [Value.bool false, Value.bool false, Value.int .i64 0, Value.int .i64 0, Value.bool false, Value.int .i64 0, Value.slice none 0 0, Value.slice none 0 0] true 88 := ⟨by kernel_rfl, (fun h => by cases h), ⟨_, Try.underlying69, rfl⟩, by simp [Value.oneCell']⟩
instance : Und Try.prog 75 (.map 3 78) := ⟨Try.underlying75⟩
instance inf75 : Inf Try.prog 75 [Value.map none] false 8 := ⟨by kernel_rfl, (fun _ => rfl), ⟨_, Try.underlying75, rfl⟩, by simp [Value.oneCell']⟩
instance inf76 : Inf Try.prog 76 [Value.int .i64 0, Value.int .i64 0, Value.int .i64 0, Value.int .i64 0, Value.map none] true 40 := ⟨by kernel_rfl, (fun h => by cases h), ⟨_, Try.underlying76, rfl⟩, by simp [Value.oneCell']⟩
instance inf77 : Inf Try.prog 77 [Value.int .i64 0, Value.int .i64 0, Value.int .i64 0, Value.int .i64 0, Value.map none] true 40 := ⟨by kernel_rfl, (fun h => by cases h), ⟨_, Try.underlying77, rfl⟩, by simp [Value.oneCell']⟩
instance : Und Try.prog 78 (.pointer 81) := ⟨Try.underlying78⟩
instance inf78 : Inf Try.prog 78 [Value.pointer none] false 8 := ⟨by kernel_rfl, (fun _ => rfl), ⟨_, Try.underlying78, rfl⟩, by simp [Value.oneCell']⟩
instance inf80 : Inf Try.prog 80 [Value.slice none 0 0, Value.int .i64 0] true 32 := ⟨by kernel_rfl, (fun h => by cases h), ⟨_, Try.underlying80, rfl⟩, by simp [Value.oneCell']⟩
instance inf81 : Inf Try.prog 81 [Value.slice none 0 0, Value.int .i64 0] true 32 := ⟨by kernel_rfl, (fun h => by cases h), ⟨_, Try.underlying81, rfl⟩, by simp [Value.oneCell']⟩
instance : Und Try.prog 83 (.map 3 86) := ⟨Try.underlying83⟩
instance inf83 : Inf Try.prog 83 [Value.map none] false 8 := ⟨by kernel_rfl, (fun _ => rfl), ⟨_, Try.underlying83, rfl⟩, by simp [Value.oneCell']⟩
instance inf84 : Inf Try.prog 84 [Value.int .i64 0, Value.map none] true 16 := ⟨by kernel_rfl, (fun h => by cases h), ⟨_, Try.underlying84, rfl⟩, by simp [Value.oneCell']⟩
instance inf85 : Inf Try.prog 85 [Value.int .i64 0, Value.map none] true 16 := ⟨by kernel_rfl, (fun h => by cases h), ⟨_, Try.underlying85, rfl⟩, by simp [Value.oneCell']⟩
instance : Und Try.prog 86 (.pointer 89) := ⟨Try.underlying86⟩
instance inf86 : Inf Try.prog 86 [Value.pointer none] false 8 := ⟨by kernel_rfl, (fun _ => rfl), ⟨_, Try.underlying86, rfl⟩, by simp [Value.oneCell']⟩
instance inf88 : Inf Try.prog 88 [Value.int .i64 0, Value.int .i64 0, Value.int .i64 0, Value.int .i64 0, Value.int .i64 0, Value.int .i64 0, Value.slice none 0 0, Value.slice none 0 0, Value.bool false, Value.int .i64 0] true 112 := ⟨by kernel_rfl, (fun h => by cases h), ⟨_, Try.underlying88, rfl⟩, by simp [Value.oneCell']⟩
instance inf89 : Inf Try.prog 89 [Value.int .i64 0, Value.int .i64 0, Value.int .i64 0, Value.int .i64 0, Value.int .i64 0, Value.int .i64 0, Value.slice none 0 0, Value.slice none 0 0, Value.bool false, Value.int .i64 0] true 112 := ⟨by kernel_rfl, (fun h => by cases h), ⟨_, Try.underlying89, rfl⟩, by simp [Value.oneCell']⟩
instance : Und Try.prog 101 (.int .u32) := ⟨Try.underlying101⟩
instance inf101 : Inf Try.prog 101 [Value.int .u32 0] false 4 := ⟨by kernel_rfl, (fun _ => rfl), ⟨_, Try.underlying101, rfl⟩, by simp [Value.oneCell']⟩
instance : Und Try.prog 105 (.pointer 5) := ⟨Try.underlying105⟩
instance inf105 : Inf Try.prog 105 [Value.pointer none] false 8 := ⟨by kernel_rfl, (fun _ => rfl), ⟨_, Try.underlying105, rfl⟩, by simp [Value.oneCell']⟩
instance : FA Try.prog 13 0 0 := FA.mk' Try.underlying13 rfl inf9 (List.cons_ne_nil _ _)
instance : FA Try.prog 13 1 1 := FA.mk' Try.underlying13 rfl inf12 (List.cons_ne_nil _ _)
instance : Pl Try.prog 13 [Value.string ByteArray.empty, Value.int .u64 0] [(0, 1), (1, 1)] := Pl.mk' Try.underlying13 inf13 (by kernel_rfl)
instance : FA Try.prog 42 0 0 := FA.mk' Try.underlying42 rfl inf3 (List.cons_ne_nil _ _)
instance : FA Try.prog 42 1 1 := FA.mk' Try.underlying42 rfl inf3 (List.cons_ne_nil _ _)
instance : FA Try.prog 42 2 2 := FA.mk' Try.underlying42 rfl inf2 (List.cons_ne_nil _ _)
instance : FA Try.prog 42 3 3 := FA.mk' Try.underlying42 rfl inf2 (List.cons_ne_nil _ _)
instance : FA Try.prog 42 4 4 := FA.mk' Try.underlying42 rfl inf40 (List.cons_ne_nil _ _)
instance : FA Try.prog 42 5 5 := FA.mk' Try.underlying42 rfl inf41 (List.cons_ne_nil _ _)
instance : Pl Try.prog 42 [Value.int .i64 0, Value.int .i64 0, Value.int .i64 0, Value.int .i64 0, Value.slice none 0 0, Value.slice none 0 0] [(0, 1), (1, 1), (2, 1), (3, 1), (4, 1), (5, 1)] := Pl.mk' Try.underlying42 inf42 (by kernel_rfl)
instance : FA Try.prog 43 0 0 := FA.mk' Try.underlying43 rfl inf3 (List.cons_ne_nil _ _)
instance : FA Try.prog 43 1 1 := FA.mk' Try.underlying43 rfl inf3 (List.cons_ne_nil _ _)
instance : FA Try.prog 43 2 2 := FA.mk' Try.underlying43 rfl inf2 (List.cons_ne_nil _ _)
instance : FA Try.prog 43 3 3 := FA.mk' Try.underlying43 rfl inf2 (List.cons_ne_nil _ _)
instance : FA Try.prog 43 4 4 := FA.mk' Try.underlying43 rfl inf40 (List.cons_ne_nil _ _)
instance : FA Try.prog 43 5 5 := FA.mk' Try.underlying43 rfl inf41 (List.cons_ne_nil _ _)
instance : Pl Try.prog 43 [Value.int .i64 0, Value.int .i64 0, Value.int .i64 0, Value.int .i64 0, Value.slice none 0 0, Value.slice none 0 0] [(0, 1), (1, 1), (2, 1), (3, 1), (4, 1), (5, 1)] := Pl.mk' Try.underlying43 inf43 (by kernel_rfl)
instance : FA Try.prog 52 0 0 := FA.mk' Try.underlying52 rfl inf3 (List.cons_ne_nil _ _)
instance : FA Try.prog 52 1 1 := FA.mk' Try.underlying52 rfl inf3 (List.cons_ne_nil _ _)
instance : FA Try.prog 52 2 2 := FA.mk' Try.underlying52 rfl inf3 (List.cons_ne_nil _ _)
instance : FA Try.prog 52 3 3 := FA.mk' Try.underlying52 rfl inf2 (List.cons_ne_nil _ _)
instance : FA Try.prog 52 4 4 := FA.mk' Try.underlying52 rfl inf2 (List.cons_ne_nil _ _)
instance : Pl Try.prog 52 [Value.int .i64 0, Value.int .i64 0, Value.int .i64 0, Value.int .i64 0, Value.int .i64 0] [(0, 1), (1, 1), (2, 1), (3, 1), (4, 1)] := Pl.mk' Try.underlying52 inf52 (by kernel_rfl)
instance : FA Try.prog 53 0 0 := FA.mk' Try.underlying53 rfl inf3 (List.cons_ne_nil _ _)
instance : FA Try.prog 53 1 1 := FA.mk' Try.underlying53 rfl inf3 (List.cons_ne_nil _ _)
instance : FA Try.prog 53 2 2 := FA.mk' Try.underlying53 rfl inf3 (List.cons_ne_nil _ _)
instance : FA Try.prog 53 3 3 := FA.mk' Try.underlying53 rfl inf2 (List.cons_ne_nil _ _)
instance : FA Try.prog 53 4 4 := FA.mk' Try.underlying53 rfl inf2 (List.cons_ne_nil _ _)
instance : Pl Try.prog 53 [Value.int .i64 0, Value.int .i64 0, Value.int .i64 0, Value.int .i64 0, Value.int .i64 0] [(0, 1), (1, 1), (2, 1), (3, 1), (4, 1)] := Pl.mk' Try.underlying53 inf53 (by kernel_rfl)
instance : FA Try.prog 55 0 0 := FA.mk' Try.underlying55 rfl inf2 (List.cons_ne_nil _ _)
instance : FA Try.prog 55 1 1 := FA.mk' Try.underlying55 rfl inf54 (List.cons_ne_nil _ _)
instance : Pl Try.prog 55 [Value.int .i64 0, Value.int .u64 0] [(0, 1), (1, 1)] := Pl.mk' Try.underlying55 inf55 (by kernel_rfl)
instance : FA Try.prog 56 0 0 := FA.mk' Try.underlying56 rfl inf2 (List.cons_ne_nil _ _)
instance : FA Try.prog 56 1 1 := FA.mk' Try.underlying56 rfl inf54 (List.cons_ne_nil _ _)
instance : Pl Try.prog 56 [Value.int .i64 0, Value.int .u64 0] [(0, 1), (1, 1)] := Pl.mk' Try.underlying56 inf56 (by kernel_rfl)
instance : FA Try.prog 62 0 0 := FA.mk' Try.underlying62 rfl inf3 (List.cons_ne_nil _ _)
instance : FA Try.prog 62 1 1 := FA.mk' Try.underlying62 rfl inf3 (List.cons_ne_nil _ _)
instance : FA Try.prog 62 2 2 := FA.mk' Try.underlying62 rfl inf3 (List.cons_ne_nil _ _)
instance : FA Try.prog 62 3 3 := FA.mk' Try.underlying62 rfl inf3 (List.cons_ne_nil _ _)
instance : Pl Try.prog 62 [Value.int .i64 0, Value.int .i64 0, Value.int .i64 0, Value.int .i64 0] [(0, 1), (1, 1), (2, 1), (3, 1)] := Pl.mk' Try.underlying62 inf62 (by kernel_rfl)
instance : FA Try.prog 63 0 0 := FA.mk' Try.underlying63 rfl inf3 (List.cons_ne_nil _ _)
instance : FA Try.prog 63 1 1 := FA.mk' Try.underlying63 rfl inf3 (List.cons_ne_nil _ _)
instance : FA Try.prog 63 2 2 := FA.mk' Try.underlying63 rfl inf3 (List.cons_ne_nil _ _)
instance : FA Try.prog 63 3 3 := FA.mk' Try.underlying63 rfl inf3 (List.cons_ne_nil _ _)
instance : Pl Try.prog 63 [Value.int .i64 0, Value.int .i64 0, Value.int .i64 0, Value.int .i64 0] [(0, 1), (1, 1), (2, 1), (3, 1)] := Pl.mk' Try.underlying63 inf63 (by kernel_rfl)
instance : FA Try.prog 66 0 0 := FA.mk' Try.underlying66 rfl inf4 (List.cons_ne_nil _ _)
instance : FA Try.prog 66 1 1 := FA.mk' Try.underlying66 rfl inf2 (List.cons_ne_nil _ _)
instance : FA Try.prog 66 2 2 := FA.mk' Try.underlying66 rfl inf41 (List.cons_ne_nil _ _)
instance : Pl Try.prog 66 [Value.bool false, Value.int .i64 0, Value.slice none 0 0] [(0, 1), (1, 1), (2, 1)] := Pl.mk' Try.underlying66 inf66 (by kernel_rfl)
instance : FA Try.prog 67 0 0 := FA.mk' Try.underlying67 rfl inf4 (List.cons_ne_nil _ _)
instance : FA Try.prog 67 1 1 := FA.mk' Try.underlying67 rfl inf2 (List.cons_ne_nil _ _)
instance : FA Try.prog 67 2 2 := FA.mk' Try.underlying67 rfl inf41 (List.cons_ne_nil _ _)
instance : Pl Try.prog 67 [Value.bool false, Value.int .i64 0, Value.slice none 0 0] [(0, 1), (1, 1), (2, 1)] := Pl.mk' Try.underlying67 inf67 (by kernel_rfl)
instance : FA Try.prog 68 0 0 := FA.mk' Try.underlying68 rfl inf4 (List.cons_ne_nil _ _)
instance : FA Try.prog 68 1 1 := FA.mk' Try.underlying68 rfl inf4 (List.cons_ne_nil _ _)
instance : FA Try.prog 68 2 2 := FA.mk' Try.underlying68 rfl inf3 (List.cons_ne_nil _ _)
instance : FA Try.prog 68 3 3 := FA.mk' Try.underlying68 rfl inf3 (List.cons_ne_nil _ _)
instance : FA Try.prog 68 4 4 := FA.mk' Try.underlying68 rfl inf67 (List.cons_ne_nil _ _)
instance : FA Try.prog 68 5 7 := FA.mk' Try.underlying68 rfl inf40 (List.cons_ne_nil _ _)
instance : Pl Try.prog 68 [Value.bool false, Value.bool false, Value.int .i64 0, Value.int .i64 0, Value.bool false, Value.int .i64 0, Value.slice none 0 0, Value.slice none 0 0] [(0, 1), (1, 1), (2, 1), (3, 1), (4, 3), (7, 1)] := Pl.mk' Try.underlying68 inf68 (by kernel_rfl)
instance : FA Try.prog 69 0 0 := FA.mk' Try.underlying69 rfl inf4 (List.cons_ne_nil _ _)
instance : FA Try.prog 69 1 1 := FA.mk' Try.underlying69 rfl inf4 (List.cons_ne_nil _ _)
instance : FA Try.prog 69 2 2 := FA.mk' Try.underlying69 rfl inf3 (List.cons_ne_nil _ _)
instance : FA Try.prog 69 3 3 := FA.mk' Try.underlying69 rfl inf3 (List.cons_ne_nil _ _)
instance : FA Try.prog 69 4 4 := FA.mk' Try.underlying69 rfl inf67 (List.cons_ne_nil _ _)
instance : FA Try.prog 69 5 7 := FA.mk' Try.underlying69 rfl inf40 (List.cons_ne_nil _ _)
instance : Pl Try.prog 69 [Value.bool false, Value.bool false, Value.int .i64 0, Value.int .i64 0, Value.bool false, Value.int .i64 0, Value.slice none 0 0, Value.slice none 0 0] [(0, 1), (1, 1), (2, 1), (3, 1), (4, 3), (7, 1)] := Pl.mk' Try.underlying69 inf69 (by kernel_rfl)
instance : FA Try.prog 76 0 0 := FA.mk' Try.underlying76 rfl inf3 (List.cons_ne_nil _ _)
instance : FA Try.prog 76 1 1 := FA.mk' Try.underlying76 rfl inf3 (List.cons_ne_nil _ _)
instance : FA Try.prog 76 2 2 := FA.mk' Try.underlying76 rfl inf3 (List.cons_ne_nil _ _)
instance : FA Try.prog 76 3 3 := FA.mk' Try.underlying76 rfl inf3 (List.cons_ne_nil _ _)
instance : FA Try.prog 76 4 4 := FA.mk' Try.underlying76 rfl inf75 (List.cons_ne_nil _ _)
instance : Pl Try.prog 76 [Value.int .i64 0, Value.int .i64 0, Value.int .i64 0, Value.int .i64 0, Value.map none] [(0, 1), (1, 1), (2, 1), (3, 1), (4, 1)] := Pl.mk' Try.underlying76 inf76 (by kernel_rfl)
instance : FA Try.prog 77 0 0 := FA.mk' Try.underlying77 rfl inf3 (List.cons_ne_nil _ _)
instance : FA Try.prog 77 1 1 := FA.mk' Try.underlying77 rfl inf3 (List.cons_ne_nil _ _)
instance : FA Try.prog 77 2 2 := FA.mk' Try.underlying77 rfl inf3 (List.cons_ne_nil _ _)
instance : FA Try.prog 77 3 3 := FA.mk' Try.underlying77 rfl inf3 (List.cons_ne_nil _ _)
instance : FA Try.prog 77 4 4 := FA.mk' Try.underlying77 rfl inf75 (List.cons_ne_nil _ _)
instance : Pl Try.prog 77 [Value.int .i64 0, Value.int .i64 0, Value.int .i64 0, Value.int .i64 0, Value.map none] [(0, 1), (1, 1), (2, 1), (3, 1), (4, 1)] := Pl.mk' Try.underlying77 inf77 (by kernel_rfl)
instance : FA Try.prog 80 0 0 := FA.mk' Try.underlying80 rfl inf22 (List.cons_ne_nil _ _)
instance : FA Try.prog 80 1 1 := FA.mk' Try.underlying80 rfl inf3 (List.cons_ne_nil _ _)
instance : Pl Try.prog 80 [Value.slice none 0 0, Value.int .i64 0] [(0, 1), (1, 1)] := Pl.mk' Try.underlying80 inf80 (by kernel_rfl)
instance : FA Try.prog 81 0 0 := FA.mk' Try.underlying81 rfl inf22 (List.cons_ne_nil _ _)
instance : FA Try.prog 81 1 1 := FA.mk' Try.underlying81 rfl inf3 (List.cons_ne_nil _ _)
instance : Pl Try.prog 81 [Value.slice none 0 0, Value.int .i64 0] [(0, 1), (1, 1)] := Pl.mk' Try.underlying81 inf81 (by kernel_rfl)
instance : FA Try.prog 84 0 0 := FA.mk' Try.underlying84 rfl inf3 (List.cons_ne_nil _ _)
instance : FA Try.prog 84 1 1 := FA.mk' Try.underlying84 rfl inf83 (List.cons_ne_nil _ _)
instance : Pl Try.prog 84 [Value.int .i64 0, Value.map none] [(0, 1), (1, 1)] := Pl.mk' Try.underlying84 inf84 (by kernel_rfl)
instance : FA Try.prog 85 0 0 := FA.mk' Try.underlying85 rfl inf3 (List.cons_ne_nil _ _)
instance : FA Try.prog 85 1 1 := FA.mk' Try.underlying85 rfl inf83 (List.cons_ne_nil _ _)
instance : Pl Try.prog 85 [Value.int .i64 0, Value.map none] [(0, 1), (1, 1)] := Pl.mk' Try.underlying85 inf85 (by kernel_rfl)
instance : FA Try.prog 88 0 0 := FA.mk' Try.underlying88 rfl inf3 (List.cons_ne_nil _ _)
instance : FA Try.prog 88 1 1 := FA.mk' Try.underlying88 rfl inf3 (List.cons_ne_nil _ _)
instance : FA Try.prog 88 2 2 := FA.mk' Try.underlying88 rfl inf43 (List.cons_ne_nil _ _)
instance : FA Try.prog 88 3 8 := FA.mk' Try.underlying88 rfl inf4 (List.cons_ne_nil _ _)
instance : FA Try.prog 88 4 9 := FA.mk' Try.underlying88 rfl inf3 (List.cons_ne_nil _ _)
instance : Pl Try.prog 88 [Value.int .i64 0, Value.int .i64 0, Value.int .i64 0, Value.int .i64 0, Value.int .i64 0, Value.int .i64 0, Value.slice none 0 0, Value.slice none 0 0, Value.bool false, Value.int .i64 0] [(0, 1), (1, 1), (2, 6), (8, 1), (9, 1)] := Pl.mk' Try.underlying88 inf88 (by kernel_rfl)
instance : FA Try.prog 89 0 0 := FA.mk' Try.underlying89 rfl inf3 (List.cons_ne_nil _ _)
instance : FA Try.prog 89 1 1 := FA.mk' Try.underlying89 rfl inf3 (List.cons_ne_nil _ _)
instance : FA Try.prog 89 2 2 := FA.mk' Try.underlying89 rfl inf43 (List.cons_ne_nil _ _)
instance : FA Try.prog 89 3 8 := FA.mk' Try.underlying89 rfl inf4 (List.cons_ne_nil _ _)
instance : FA Try.prog 89 4 9 := FA.mk' Try.underlying89 rfl inf3 (List.cons_ne_nil _ _)
instance : Pl Try.prog 89 [Value.int .i64 0, Value.int .i64 0, Value.int .i64 0, Value.int .i64 0, Value.int .i64 0, Value.int .i64 0, Value.slice none 0 0, Value.slice none 0 0, Value.bool false, Value.int .i64 0] [(0, 1), (1, 1), (2, 6), (8, 1), (9, 1)] := Pl.mk' Try.underlying89 inf89 (by kernel_rfl)
instance : FnB Try.prog 3 := ⟨_, Try.func3, by kernel_rfl, by kernel_rfl⟩
instance : FnB Try.prog 4 := ⟨_, Try.func4, by kernel_rfl, by kernel_rfl⟩
instance : FnB Try.prog 5 := ⟨_, Try.func5, by kernel_rfl, by kernel_rfl⟩
instance : FnB Try.prog 6 := ⟨_, Try.func6, by kernel_rfl, by kernel_rfl⟩
instance : FnB Try.prog 7 := ⟨_, Try.func7, by kernel_rfl, by kernel_rfl⟩
instance : FnB Try.prog 8 := ⟨_, Try.func8, by kernel_rfl, by kernel_rfl⟩
instance : FnB Try.prog 9 := ⟨_, Try.func9, by kernel_rfl, by kernel_rfl⟩
instance : FnB Try.prog 10 := ⟨_, Try.func10, by kernel_rfl, by kernel_rfl⟩
instance : FnB Try.prog 11 := ⟨_, Try.func11, by kernel_rfl, by kernel_rfl⟩
instance : FnB Try.prog 12 := ⟨_, Try.func12, by kernel_rfl, by kernel_rfl⟩
instance : FnB Try.prog 13 := ⟨_, Try.func13, by kernel_rfl, by kernel_rfl⟩
instance : FnB Try.prog 14 := ⟨_, Try.func14, by kernel_rfl, by kernel_rfl⟩
instance : FnB Try.prog 15 := ⟨_, Try.func15, by kernel_rfl, by kernel_rfl⟩
instance : FnB Try.prog 16 := ⟨_, Try.func16, by kernel_rfl, by kernel_rfl⟩
instance : FnB Try.prog 17 := ⟨_, Try.func17, by kernel_rfl, by kernel_rfl⟩
instance : FnB Try.prog 18 := ⟨_, Try.func18, by kernel_rfl, by kernel_rfl⟩
instance : FnB Try.prog 19 := ⟨_, Try.func19, by kernel_rfl, by kernel_rfl⟩
instance : FnB Try.prog 20 := ⟨_, Try.func20, by kernel_rfl, by kernel_rfl⟩
instance : FnB Try.prog 21 := ⟨_, Try.func21, by kernel_rfl, by kernel_rfl⟩
instance : FnB Try.prog 22 := ⟨_, Try.func22, by kernel_rfl, by kernel_rfl⟩
instance : FnB Try.prog 23 := ⟨_, Try.func23, by kernel_rfl, by kernel_rfl⟩
instance : FnB Try.prog 24 := ⟨_, Try.func24, by kernel_rfl, by kernel_rfl⟩
instance : FnB Try.prog 25 := ⟨_, Try.func25, by kernel_rfl, by kernel_rfl⟩
instance : FnB Try.prog 26 := ⟨_, Try.func26, by kernel_rfl, by kernel_rfl⟩
instance : FnB Try.prog 27 := ⟨_, Try.func27, by kernel_rfl, by kernel_rfl⟩
instance : FnB Try.prog 28 := ⟨_, Try.func28, by kernel_rfl, by kernel_rfl⟩
instance : FnB Try.prog 29 := ⟨_, Try.func29, by kernel_rfl, by kernel_rfl⟩
instance : FnB Try.prog 30 := ⟨_, Try.func30, by kernel_rfl, by kernel_rfl⟩
instance : FnB Try.prog 31 := ⟨_, Try.func31, by kernel_rfl, by kernel_rfl⟩
instance : FnB Try.prog 32 := ⟨_, Try.func32, by kernel_rfl, by kernel_rfl⟩
instance : FnB Try.prog 33 := ⟨_, Try.func33, by kernel_rfl, by kernel_rfl⟩
instance : FnB Try.prog 34 := ⟨_, Try.func34, by kernel_rfl, by kernel_rfl⟩
instance : FnB Try.prog 35 := ⟨_, Try.func35, by kernel_rfl, by kernel_rfl⟩
instance : FnB Try.prog 36 := ⟨_, Try.func36, by kernel_rfl, by kernel_rfl⟩
instance : FnB Try.prog 37 := ⟨_, Try.func37, by kernel_rfl, by kernel_rfl⟩
instance : FnB Try.prog 38 := ⟨_, Try.func38, by kernel_rfl, by kernel_rfl⟩
instance : FnB Try.prog 39 := ⟨_, Try.func39, by kernel_rfl, by kernel_rfl⟩
instance : FnB Try.prog 40 := ⟨_, Try.func40, by kernel_rfl, by kernel_rfl⟩
instance : FnB Try.prog 41 := ⟨_, Try.func41, by kernel_rfl, by kernel_rfl⟩
instance : FnB Try.prog 42 := ⟨_, Try.func42, by kernel_rfl, by kernel_rfl⟩
instance : FnB Try.prog 43 := ⟨_, Try.func43, by kernel_rfl, by kernel_rfl⟩
end Go.Proofs.Ytgahjjihfibbnaa
