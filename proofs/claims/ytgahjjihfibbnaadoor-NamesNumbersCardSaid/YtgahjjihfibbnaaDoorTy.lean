/- What the program's tables say of its types and functions, one instance each. -/
import Derived.Test.YtgahjjihfibbnaaDoorProg
import Derived.Test.YtgahjjihfibbnaaDoorHs
import Derived.KernelRfl
set_option maxRecDepth 100000
namespace Go.Proofs.YtgahjjihfibbnaaDoor
open Go.Hw
instance {P : Program} {kt : TypeId} {ik : IntKind} [h : Und P kt (.int ik)] : MK P kt Int (Value.int ik) := MK.int h.h
instance : Und Tryd.prog 2 (.int .i64) := ⟨Tryd.underlying2⟩
instance inf2 : Inf Tryd.prog 2 [Value.int .i64 0] false 8 := ⟨by kernel_rfl, (fun _ => rfl), ⟨_, Tryd.underlying2, rfl⟩, by simp [Value.oneCell']⟩
instance : Und Tryd.prog 3 (.int .i64) := ⟨Tryd.underlying3⟩
instance inf3 : Inf Tryd.prog 3 [Value.int .i64 0] false 8 := ⟨by kernel_rfl, (fun _ => rfl), ⟨_, Tryd.underlying3, rfl⟩, by simp [Value.oneCell']⟩
instance : Und Tryd.prog 4 (.bool) := ⟨Tryd.underlying4⟩
instance inf4 : Inf Tryd.prog 4 [Value.bool false] false 1 := ⟨by kernel_rfl, (fun _ => rfl), ⟨_, Tryd.underlying4, rfl⟩, by simp [Value.oneCell']⟩
instance : Und Tryd.prog 5 (.int .u8) := ⟨Tryd.underlying5⟩
instance inf5 : Inf Tryd.prog 5 [Value.int .u8 0] false 1 := ⟨by kernel_rfl, (fun _ => rfl), ⟨_, Tryd.underlying5, rfl⟩, by simp [Value.oneCell']⟩
instance : Und Tryd.prog 9 (.string) := ⟨Tryd.underlying9⟩
instance inf9 : Inf Tryd.prog 9 [Value.string ByteArray.empty] false 16 := ⟨by kernel_rfl, (fun _ => rfl), ⟨_, Tryd.underlying9, rfl⟩, by simp [Value.oneCell']⟩
instance : Und Tryd.prog 12 (.int .u64) := ⟨Tryd.underlying12⟩
instance inf12 : Inf Tryd.prog 12 [Value.int .u64 0] false 8 := ⟨by kernel_rfl, (fun _ => rfl), ⟨_, Tryd.underlying12, rfl⟩, by simp [Value.oneCell']⟩
instance inf13 : Inf Tryd.prog 13 [Value.string ByteArray.empty, Value.int .u64 0] true 24 := ⟨by kernel_rfl, (fun h => by cases h), ⟨_, Tryd.underlying13, rfl⟩, by simp [Value.oneCell']⟩
instance inf19 : Inf Tryd.prog 19 [Value.pointer none] true 8 := ⟨by kernel_rfl, (fun h => by cases h), ⟨_, Tryd.underlying19, rfl⟩, by simp [Value.oneCell']⟩
instance : Und Tryd.prog 21 (.int .i32) := ⟨Tryd.underlying21⟩
instance inf21 : Inf Tryd.prog 21 [Value.int .i32 0] false 4 := ⟨by kernel_rfl, (fun _ => rfl), ⟨_, Tryd.underlying21, rfl⟩, by simp [Value.oneCell']⟩
instance : Und Tryd.prog 22 (.slice 25) := ⟨Tryd.underlying22⟩
instance inf22 : Inf Tryd.prog 22 [Value.slice none 0 0] false 24 := ⟨by kernel_rfl, (fun _ => rfl), ⟨_, Tryd.underlying22, rfl⟩, by simp [Value.oneCell']⟩
instance inf24 : Inf Tryd.prog 24 [Value.int .i64 0, Value.int .i64 0] true 16 := ⟨by kernel_rfl, (fun h => by cases h), ⟨_, Tryd.underlying24, rfl⟩, by simp [Value.oneCell']⟩
instance inf25 : Inf Tryd.prog 25 [Value.int .i64 0, Value.int .i64 0] true 16 := ⟨by kernel_rfl, (fun h => by cases h), ⟨_, Tryd.underlying25, rfl⟩, by simp [Value.oneCell']⟩
instance : Und Tryd.prog 26 (.pointer 36) := ⟨Tryd.underlying26⟩
instance inf26 : Inf Tryd.prog 26 [Value.pointer none] false 8 := ⟨by kernel_rfl, (fun _ => rfl), ⟨_, Tryd.underlying26, rfl⟩, by simp [Value.oneCell']⟩
instance : Und Tryd.prog 29 (.int .u64) := ⟨Tryd.underlying29⟩
instance inf29 : Inf Tryd.prog 29 [Value.int .u64 0] false 8 := ⟨by kernel_rfl, (fun _ => rfl), ⟨_, Tryd.underlying29, rfl⟩, by simp [Value.oneCell']⟩
instance : Und Tryd.prog 30 (.int .i64) := ⟨Tryd.underlying30⟩
instance inf30 : Inf Tryd.prog 30 [Value.int .i64 0] false 8 := ⟨by kernel_rfl, (fun _ => rfl), ⟨_, Tryd.underlying30, rfl⟩, by simp [Value.oneCell']⟩
instance : Und Tryd.prog 34 (.slice 5) := ⟨Tryd.underlying34⟩
instance inf34 : Inf Tryd.prog 34 [Value.slice none 0 0] false 24 := ⟨by kernel_rfl, (fun _ => rfl), ⟨_, Tryd.underlying34, rfl⟩, by simp [Value.oneCell']⟩
instance inf35 : Inf Tryd.prog 35 [Value.slice none 0 0, Value.int .i64 0] true 32 := ⟨by kernel_rfl, (fun h => by cases h), ⟨_, Tryd.underlying35, rfl⟩, by simp [Value.oneCell']⟩
instance inf36 : Inf Tryd.prog 36 [Value.slice none 0 0, Value.int .i64 0] true 32 := ⟨by kernel_rfl, (fun h => by cases h), ⟨_, Tryd.underlying36, rfl⟩, by simp [Value.oneCell']⟩
instance inf40 : Inf Tryd.prog 40 (List.replicate 24 (Value.int .u8 0)) true 24 := ⟨by kernel_rfl, (fun h => by cases h), ⟨_, Tryd.underlying40, rfl⟩, by simp [Value.oneCell']⟩
instance inf46 : Inf Tryd.prog 46 (List.replicate 20 (Value.int .u64 0)) true 160 := ⟨by kernel_rfl, (fun h => by cases h), ⟨_, Tryd.underlying46, rfl⟩, by simp [Value.oneCell']⟩
instance : Und Tryd.prog 47 (.int .u32) := ⟨Tryd.underlying47⟩
instance inf47 : Inf Tryd.prog 47 [Value.int .u32 0] false 4 := ⟨by kernel_rfl, (fun _ => rfl), ⟨_, Tryd.underlying47, rfl⟩, by simp [Value.oneCell']⟩
instance inf48 : Inf Tryd.prog 48 (List.replicate 65 (Value.int .u8 0)) true 65 := ⟨by kernel_rfl, (fun h => by cases h), ⟨_, Tryd.underlying48, rfl⟩, by simp [Value.oneCell']⟩
instance : Und Tryd.prog 50 (.int .u64) := ⟨Tryd.underlying50⟩
instance inf50 : Inf Tryd.prog 50 [Value.int .u64 0] false 8 := ⟨by kernel_rfl, (fun _ => rfl), ⟨_, Tryd.underlying50, rfl⟩, by simp [Value.oneCell']⟩
instance inf53 : Inf Tryd.prog 53 (List.replicate 32 (Value.int .u8 0)) true 32 := ⟨by kernel_rfl, (fun h => by cases h), ⟨_, Tryd.underlying53, rfl⟩, by simp [Value.oneCell']⟩
instance inf54 : Inf Tryd.prog 54 (List.replicate 64 (Value.int .u8 0)) true 64 := ⟨by kernel_rfl, (fun h => by cases h), ⟨_, Tryd.underlying54, rfl⟩, by simp [Value.oneCell']⟩
instance : Und Tryd.prog 63 (.pointer 5) := ⟨Tryd.underlying63⟩
instance inf63 : Inf Tryd.prog 63 [Value.pointer none] false 8 := ⟨by kernel_rfl, (fun _ => rfl), ⟨_, Tryd.underlying63, rfl⟩, by simp [Value.oneCell']⟩
instance : FA Tryd.prog 13 0 0 := FA.mk' Tryd.underlying13 rfl inf9 (List.cons_ne_nil _ _)
instance : FA Tryd.prog 13 1 1 := FA.mk' Tryd.underlying13 rfl inf12 (List.cons_ne_nil _ _)
instance : Pl Tryd.prog 13 [Value.string ByteArray.empty, Value.int .u64 0] [(0, 1), (1, 1)] := Pl.mk' Tryd.underlying13 inf13 (by kernel_rfl)
instance : FA Tryd.prog 24 0 0 := FA.mk' Tryd.underlying24 rfl inf3 (List.cons_ne_nil _ _)
instance : FA Tryd.prog 24 1 1 := FA.mk' Tryd.underlying24 rfl inf3 (List.cons_ne_nil _ _)
instance : Pl Tryd.prog 24 [Value.int .i64 0, Value.int .i64 0] [(0, 1), (1, 1)] := Pl.mk' Tryd.underlying24 inf24 (by kernel_rfl)
instance : FA Tryd.prog 25 0 0 := FA.mk' Tryd.underlying25 rfl inf3 (List.cons_ne_nil _ _)
instance : FA Tryd.prog 25 1 1 := FA.mk' Tryd.underlying25 rfl inf3 (List.cons_ne_nil _ _)
instance : Pl Tryd.prog 25 [Value.int .i64 0, Value.int .i64 0] [(0, 1), (1, 1)] := Pl.mk' Tryd.underlying25 inf25 (by kernel_rfl)
instance : FA Tryd.prog 35 0 0 := FA.mk' Tryd.underlying35 rfl inf34 (List.cons_ne_nil _ _)
instance : FA Tryd.prog 35 1 1 := FA.mk' Tryd.underlying35 rfl inf3 (List.cons_ne_nil _ _)
instance : Pl Tryd.prog 35 [Value.slice none 0 0, Value.int .i64 0] [(0, 1), (1, 1)] := Pl.mk' Tryd.underlying35 inf35 (by kernel_rfl)
instance : FA Tryd.prog 36 0 0 := FA.mk' Tryd.underlying36 rfl inf34 (List.cons_ne_nil _ _)
instance : FA Tryd.prog 36 1 1 := FA.mk' Tryd.underlying36 rfl inf3 (List.cons_ne_nil _ _)
instance : Pl Tryd.prog 36 [Value.slice none 0 0, Value.int .i64 0] [(0, 1), (1, 1)] := Pl.mk' Tryd.underlying36 inf36 (by kernel_rfl)
instance : FnB Tryd.prog 3 := ⟨_, Tryd.func3, by kernel_rfl, by kernel_rfl⟩
instance : FnB Tryd.prog 4 := ⟨_, Tryd.func4, by kernel_rfl, by kernel_rfl⟩
instance : FnB Tryd.prog 5 := ⟨_, Tryd.func5, by kernel_rfl, by kernel_rfl⟩
instance : FnB Tryd.prog 6 := ⟨_, Tryd.func6, by kernel_rfl, by kernel_rfl⟩
instance : FnB Tryd.prog 7 := ⟨_, Tryd.func7, by kernel_rfl, by kernel_rfl⟩
instance : FnB Tryd.prog 8 := ⟨_, Tryd.func8, by kernel_rfl, by kernel_rfl⟩
instance : FnB Tryd.prog 9 := ⟨_, Tryd.func9, by kernel_rfl, by kernel_rfl⟩
instance : FnB Tryd.prog 10 := ⟨_, Tryd.func10, by kernel_rfl, by kernel_rfl⟩
instance : FnB Tryd.prog 11 := ⟨_, Tryd.func11, by kernel_rfl, by kernel_rfl⟩
instance : FnB Tryd.prog 12 := ⟨_, Tryd.func12, by kernel_rfl, by kernel_rfl⟩
instance : FnB Tryd.prog 13 := ⟨_, Tryd.func13, by kernel_rfl, by kernel_rfl⟩
instance : FnB Tryd.prog 14 := ⟨_, Tryd.func14, by kernel_rfl, by kernel_rfl⟩
instance : FnB Tryd.prog 15 := ⟨_, Tryd.func15, by kernel_rfl, by kernel_rfl⟩
instance : FnB Tryd.prog 16 := ⟨_, Tryd.func16, by kernel_rfl, by kernel_rfl⟩
instance : FnB Tryd.prog 17 := ⟨_, Tryd.func17, by kernel_rfl, by kernel_rfl⟩
instance : FnB Tryd.prog 18 := ⟨_, Tryd.func18, by kernel_rfl, by kernel_rfl⟩
instance : FnB Tryd.prog 19 := ⟨_, Tryd.func19, by kernel_rfl, by kernel_rfl⟩
instance : FnB Tryd.prog 20 := ⟨_, Tryd.func20, by kernel_rfl, by kernel_rfl⟩
instance : FnB Tryd.prog 21 := ⟨_, Tryd.func21, by kernel_rfl, by kernel_rfl⟩
instance : FnB Tryd.prog 22 := ⟨_, Tryd.func22, by kernel_rfl, by kernel_rfl⟩
instance : FnB Tryd.prog 23 := ⟨_, Tryd.func23, by kernel_rfl, by kernel_rfl⟩
instance : FnB Tryd.prog 45 := ⟨_, Tryd.func45, by kernel_rfl, by kernel_rfl⟩
end Go.Proofs.YtgahjjihfibbnaaDoor
