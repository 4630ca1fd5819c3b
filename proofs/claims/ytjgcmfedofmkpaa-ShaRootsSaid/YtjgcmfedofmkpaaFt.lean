/-
  Facts on the types and functions.
-/
import Derived.Test.YtjgcmfedofmkpaaProg
import Derived.Test.YtjgcmfedofmkpaaFb
import Derived.Test.YtjgcmfedofmkpaaFc
namespace Go.Proofs.Ytjgcmfedofmkpaa
open Go Go.Fx
set_option linter.unusedVariables false
set_option linter.unusedSimpArgs false
theorem ty2 : Go.Fx.TyI Try.prog 2 (.int .i64) 1 8 (.ints .i64 [0]) := ⟨by kernel_rfl, by kernel_rfl⟩
theorem ty3 : Go.Fx.TyI Try.prog 3 (.int .i64) 1 8 (.ints .i64 [0]) := ⟨by kernel_rfl, by kernel_rfl⟩
theorem ty4 : Go.Fx.TyI Try.prog 4 (.bool) 1 1 (.mix [.b false]) := ⟨by kernel_rfl, by kernel_rfl⟩
theorem ty5 : Go.Fx.TyI Try.prog 5 (.int .u8) 1 1 (.ints .u8 [0]) := ⟨by kernel_rfl, by kernel_rfl⟩
theorem ty6 : Go.Fx.TyI Try.prog 6 (.int .u8) 1 1 (.ints .u8 [0]) := ⟨by kernel_rfl, by kernel_rfl⟩
theorem ty7 : Go.Fx.TyI Try.prog 7 (.struct #[⟨ "x", 2, 0, false, "", "runtime", 0⟩, ⟨ "y", 3, 1, false, "", "runtime", 8⟩, ⟨ "signed", 4, 2, false, "", "runtime", 16⟩, ⟨ "code", 6, 3, false, "", "runtime", 17⟩]) 4 24 (.mix [.n .i64 0, .n .i64 0, .b false, .n .u8 0]) := ⟨by kernel_rfl, by kernel_rfl⟩
theorem ty8 : Go.Fx.TyI Try.prog 8 (.struct #[⟨ "x", 2, 0, false, "", "runtime", 0⟩, ⟨ "y", 3, 1, false, "", "runtime", 8⟩, ⟨ "signed", 4, 2, false, "", "runtime", 16⟩, ⟨ "code", 6, 3, false, "", "runtime", 17⟩]) 4 24 (.mix [.n .i64 0, .n .i64 0, .b false, .n .u8 0]) := ⟨by kernel_rfl, by kernel_rfl⟩
theorem ty9 : Go.Fx.TyI Try.prog 9 (.string) 1 16 (.mix [.str []]) := ⟨by kernel_rfl, by kernel_rfl⟩
theorem ty10 : Go.Fx.TyI Try.prog 10 (.string) 1 16 (.mix [.str []]) := ⟨by kernel_rfl, by kernel_rfl⟩
theorem ty11 : Go.Fx.TyI Try.prog 11 (.string) 1 16 (.mix [.str []]) := ⟨by kernel_rfl, by kernel_rfl⟩
theorem ty12 : Go.Fx.TyI Try.prog 12 (.int .u64) 1 8 (.ints .u64 [0]) := ⟨by kernel_rfl, by kernel_rfl⟩
theorem ty13 : Go.Fx.TyI Try.prog 13 (.struct #[⟨ "msg", 9, 0, false, "", "runtime", 0⟩, ⟨ "addr", 12, 1, false, "", "runtime", 16⟩]) 2 24 (.mix [.str [], .n .u64 0]) := ⟨by kernel_rfl, by kernel_rfl⟩
theorem ty14 : Go.Fx.TyI Try.prog 14 (.struct #[⟨ "msg", 9, 0, false, "", "runtime", 0⟩, ⟨ "addr", 12, 1, false, "", "runtime", 16⟩]) 2 24 (.mix [.str [], .n .u64 0]) := ⟨by kernel_rfl, by kernel_rfl⟩
theorem ty21 : Go.Fx.TyI Try.prog 21 (.int .i32) 1 4 (.ints .i32 [0]) := ⟨by kernel_rfl, by kernel_rfl⟩
theorem ty22 : Go.Fx.TyI Try.prog 22 (.slice 5) 1 24 (.mix [.nil]) := ⟨by kernel_rfl, by kernel_rfl⟩
theorem ty24 : Go.Fx.TyI Try.prog 24 (.array 64 5) 64 64 (.ints .u8 (List.replicate 64 0)) := ⟨by kernel_rfl, by kernel_rfl⟩
theorem ty27 : Go.Fx.TyI Try.prog 27 (.int .u64) 1 8 (.ints .u64 [0]) := ⟨by kernel_rfl, by kernel_rfl⟩
theorem ty28 : Go.Fx.TyI Try.prog 28 (.array 8 27) 8 64 (.ints .u64 (List.replicate 8 0)) := ⟨by kernel_rfl, by kernel_rfl⟩
theorem ty29 : Go.Fx.TyI Try.prog 29 (.struct #[⟨ "begun", 4, 0, false, "", "fardel/sha", 0⟩, ⟨ "h", 28, 1, false, "", "fardel/sha", 8⟩, ⟨ "n", 27, 9, false, "", "fardel/sha", 72⟩, ⟨ "rest", 22, 10, false, "", "fardel/sha", 80⟩]) 11 104 (.mix [.b false, .n .u64 0, .n .u64 0, .n .u64 0, .n .u64 0, .n .u64 0, .n .u64 0, .n .u64 0, .n .u64 0, .n .u64 0, .nil]) := ⟨by kernel_rfl, by kernel_rfl⟩
theorem ty30 : Go.Fx.TyI Try.prog 30 (.struct #[⟨ "begun", 4, 0, false, "", "fardel/sha", 0⟩, ⟨ "h", 28, 1, false, "", "fardel/sha", 8⟩, ⟨ "n", 27, 9, false, "", "fardel/sha", 72⟩, ⟨ "rest", 22, 10, false, "", "fardel/sha", 80⟩]) 11 104 (.mix [.b false, .n .u64 0, .n .u64 0, .n .u64 0, .n .u64 0, .n .u64 0, .n .u64 0, .n .u64 0, .n .u64 0, .n .u64 0, .nil]) := ⟨by kernel_rfl, by kernel_rfl⟩
theorem ty35 : Go.Fx.TyI Try.prog 35 (.array 80 27) 80 640 (.ints .u64 (List.replicate 80 0)) := ⟨by kernel_rfl, by kernel_rfl⟩
theorem ty42 : Go.Fx.TyI Try.prog 42 (.slice 44) 1 24 (.mix [.nil]) := ⟨by kernel_rfl, by kernel_rfl⟩
theorem ty43 : Go.Fx.TyI Try.prog 43 (.slice 22) 1 24 (.mix [.nil]) := ⟨by kernel_rfl, by kernel_rfl⟩
theorem ty44 : Go.Fx.TyI Try.prog 44 (.int .u16) 1 2 (.ints .u16 [0]) := ⟨by kernel_rfl, by kernel_rfl⟩
theorem ty54 : Go.Fx.TyI Try.prog 54 (.int .i64) 1 8 (.ints .i64 [0]) := ⟨by kernel_rfl, by kernel_rfl⟩
theorem ty63 : Go.Fx.TyI Try.prog 63 (.array 20 27) 20 160 (.ints .u64 (List.replicate 20 0)) := ⟨by kernel_rfl, by kernel_rfl⟩
theorem ty64 : Go.Fx.TyI Try.prog 64 (.array 20 27) 20 160 (.ints .u64 (List.replicate 20 0)) := ⟨by kernel_rfl, by kernel_rfl⟩
theorem ty65 : Go.Fx.TyI Try.prog 65 (.int .u64) 1 8 (.ints .u64 [0]) := ⟨by kernel_rfl, by kernel_rfl⟩
theorem ty69 : Go.Fx.TyI Try.prog 69 (.array 128 5) 128 128 (.ints .u8 (List.replicate 128 0)) := ⟨by kernel_rfl, by kernel_rfl⟩
theorem ty84 : Go.Fx.TyI Try.prog 84 (.int .u32) 1 4 (.ints .u32 [0]) := ⟨by kernel_rfl, by kernel_rfl⟩
theorem ty85 : Go.Fx.TyI Try.prog 85 (.int .u8) 1 1 (.ints .u8 [0]) := ⟨by kernel_rfl, by kernel_rfl⟩
theorem ty86 : Go.Fx.TyI Try.prog 86 (.int .u8) 1 1 (.ints .u8 [0]) := ⟨by kernel_rfl, by kernel_rfl⟩
theorem ty89 : Go.Fx.TyI Try.prog 89 (.int .i32) 1 4 (.ints .i32 [0]) := ⟨by kernel_rfl, by kernel_rfl⟩
theorem ty90 : Go.Fx.TyI Try.prog 90 (.int .i32) 1 4 (.ints .i32 [0]) := ⟨by kernel_rfl, by kernel_rfl⟩
theorem fnok3 : Go.Fx.FnOK Try.prog 3 := ⟨_, Try.func3, by kernel_rfl, by kernel_rfl⟩
theorem fnok4 : Go.Fx.FnOK Try.prog 4 := ⟨_, Try.func4, by kernel_rfl, by kernel_rfl⟩
theorem fnok5 : Go.Fx.FnOK Try.prog 5 := ⟨_, Try.func5, by kernel_rfl, by kernel_rfl⟩
theorem fnok6 : Go.Fx.FnOK Try.prog 6 := ⟨_, Try.func6, by kernel_rfl, by kernel_rfl⟩
theorem fnok7 : Go.Fx.FnOK Try.prog 7 := ⟨_, Try.func7, by kernel_rfl, by kernel_rfl⟩
theorem fnok8 : Go.Fx.FnOK Try.prog 8 := ⟨_, Try.func8, by kernel_rfl, by kernel_rfl⟩
theorem fnok9 : Go.Fx.FnOK Try.prog 9 := ⟨_, Try.func9, by kernel_rfl, by kernel_rfl⟩
theorem fnok10 : Go.Fx.FnOK Try.prog 10 := ⟨_, Try.func10, by kernel_rfl, by kernel_rfl⟩
theorem fnok11 : Go.Fx.FnOK Try.prog 11 := ⟨_, Try.func11, by kernel_rfl, by kernel_rfl⟩
theorem fnok12 : Go.Fx.FnOK Try.prog 12 := ⟨_, Try.func12, by kernel_rfl, by kernel_rfl⟩
theorem fnok13 : Go.Fx.FnOK Try.prog 13 := ⟨_, Try.func13, by kernel_rfl, by kernel_rfl⟩
theorem fnok14 : Go.Fx.FnOK Try.prog 14 := ⟨_, Try.func14, by kernel_rfl, by kernel_rfl⟩
theorem fnok15 : Go.Fx.FnOK Try.prog 15 := ⟨_, Try.func15, by kernel_rfl, by kernel_rfl⟩
theorem fnok16 : Go.Fx.FnOK Try.prog 16 := ⟨_, Try.func16, by kernel_rfl, by kernel_rfl⟩
theorem fnok17 : Go.Fx.FnOK Try.prog 17 := ⟨_, Try.func17, by kernel_rfl, by kernel_rfl⟩
theorem fnok18 : Go.Fx.FnOK Try.prog 18 := ⟨_, Try.func18, by kernel_rfl, by kernel_rfl⟩
theorem fnok19 : Go.Fx.FnOK Try.prog 19 := ⟨_, Try.func19, by kernel_rfl, by kernel_rfl⟩
theorem fnok20 : Go.Fx.FnOK Try.prog 20 := ⟨_, Try.func20, by kernel_rfl, by kernel_rfl⟩
theorem fnok21 : Go.Fx.FnOK Try.prog 21 := ⟨_, Try.func21, by kernel_rfl, by kernel_rfl⟩
theorem fnok22 : Go.Fx.FnOK Try.prog 22 := ⟨_, Try.func22, by kernel_rfl, by kernel_rfl⟩
theorem fnok23 : Go.Fx.FnOK Try.prog 23 := ⟨_, Try.func23, by kernel_rfl, by kernel_rfl⟩
theorem fnok24 : Go.Fx.FnOK Try.prog 24 := ⟨_, Try.func24, by kernel_rfl, by kernel_rfl⟩
theorem fnok25 : Go.Fx.FnOK Try.prog 25 := ⟨_, Try.func25, by kernel_rfl, by kernel_rfl⟩
theorem fnok26 : Go.Fx.FnOK Try.prog 26 := ⟨_, Try.func26, by kernel_rfl, by kernel_rfl⟩
theorem fnok27 : Go.Fx.FnOK Try.prog 27 := ⟨_, Try.func27, by kernel_rfl, by kernel_rfl⟩
theorem fnok28 : Go.Fx.FnOK Try.prog 28 := ⟨_, Try.func28, by kernel_rfl, by kernel_rfl⟩
theorem fnok29 : Go.Fx.FnOK Try.prog 29 := ⟨_, Try.func29, by kernel_rfl, by kernel_rfl⟩
theorem fnok30 : Go.Fx.FnOK Try.prog 30 := ⟨_, Try.func30, by kernel_rfl, by kernel_rfl⟩
theorem fnok31 : Go.Fx.FnOK Try.prog 31 := ⟨_, Try.func31, by kernel_rfl, by kernel_rfl⟩
theorem fnok32 : Go.Fx.FnOK Try.prog 32 := ⟨_, Try.func32, by kernel_rfl, by kernel_rfl⟩
theorem fnok33 : Go.Fx.FnOK Try.prog 33 := ⟨_, Try.func33, by kernel_rfl, by kernel_rfl⟩
theorem fnok34 : Go.Fx.FnOK Try.prog 34 := ⟨_, Try.func34, by kernel_rfl, by kernel_rfl⟩
theorem fnok35 : Go.Fx.FnOK Try.prog 35 := ⟨_, Try.func35, by kernel_rfl, by kernel_rfl⟩
theorem fnok36 : Go.Fx.FnOK Try.prog 36 := ⟨_, Try.func36, by kernel_rfl, by kernel_rfl⟩
theorem fnok37 : Go.Fx.FnOK Try.prog 37 := ⟨_, Try.func37, by kernel_rfl, by kernel_rfl⟩
theorem fnok38 : Go.Fx.FnOK Try.prog 38 := ⟨_, Try.func38, by kernel_rfl, by kernel_rfl⟩
theorem fnok39 : Go.Fx.FnOK Try.prog 39 := ⟨_, Try.func39, by kernel_rfl, by kernel_rfl⟩
theorem fnok40 : Go.Fx.FnOK Try.prog 40 := ⟨_, Try.func40, by kernel_rfl, by kernel_rfl⟩
theorem fnok41 : Go.Fx.FnOK Try.prog 41 := ⟨_, Try.func41, by kernel_rfl, by kernel_rfl⟩
theorem fnok42 : Go.Fx.FnOK Try.prog 42 := ⟨_, Try.func42, by kernel_rfl, by kernel_rfl⟩
theorem fnok43 : Go.Fx.FnOK Try.prog 43 := ⟨_, Try.func43, by kernel_rfl, by kernel_rfl⟩
theorem fnok44 : Go.Fx.FnOK Try.prog 44 := ⟨_, Try.func44, by kernel_rfl, by kernel_rfl⟩
theorem fnok45 : Go.Fx.FnOK Try.prog 45 := ⟨_, Try.func45, by kernel_rfl, by kernel_rfl⟩
theorem fnok46 : Go.Fx.FnOK Try.prog 46 := ⟨_, Try.func46, by kernel_rfl, by kernel_rfl⟩
theorem fnok47 : Go.Fx.FnOK Try.prog 47 := ⟨_, Try.func47, by kernel_rfl, by kernel_rfl⟩
theorem fnok48 : Go.Fx.FnOK Try.prog 48 := ⟨_, Try.func48, by kernel_rfl, by kernel_rfl⟩
theorem fnok49 : Go.Fx.FnOK Try.prog 49 := ⟨_, Try.func49, by kernel_rfl, by kernel_rfl⟩
theorem fnok50 : Go.Fx.FnOK Try.prog 50 := ⟨_, Try.func50, by kernel_rfl, by kernel_rfl⟩
theorem fnok51 : Go.Fx.FnOK Try.prog 51 := ⟨_, Try.func51, by kernel_rfl, by kernel_rfl⟩
theorem fnok52 : Go.Fx.FnOK Try.prog 52 := ⟨_, Try.func52, by kernel_rfl, by kernel_rfl⟩
theorem cutHead : Go.Fx.CutHead Try.prog := .mk' [97, 56, 55, 97, 55, 98, 102, 56, 57, 53, 54, 50, 57, 48, 102, 50, 98, 54, 100, 51, 57, 97, 51, 102, 54, 50, 100, 55, 49, 48, 53, 97, 100, 99, 100, 52, 101, 51, 99, 102, 51, 99, 53, 54, 53, 52, 102, 50, 57, 52, 97, 100, 53, 49, 52, 99, 54, 51, 55, 50, 49, 55, 102, 48] [97, 116, 32, 102, 97, 114, 100, 101, 108, 47, 102, 97, 114, 100, 101, 108, 108, 97, 119, 48, 51, 46, 83, 104, 97, 84, 101, 108, 108, 115, 32, 102, 97, 114, 100, 101, 108, 47, 102, 97, 114, 100, 101, 108, 108, 97, 119, 48, 51, 46, 83, 104, 97, 82, 111, 111, 116, 115, 32, 102, 97, 114, 100, 101, 108, 47, 102, 97, 114, 100, 101, 108, 108, 97, 119, 48, 51, 46, 83, 104, 97, 80, 97, 114, 116, 115, 32, 102, 97, 114, 100, 101, 108, 47, 102, 97, 114, 100, 101, 108, 108, 97, 119, 48, 51, 46, 83, 104, 97, 79, 119, 110, 32, 102, 97, 114, 100, 101, 108, 47, 102, 97, 114, 100, 101, 108, 108, 97, 119, 48, 51, 46, 83, 104, 97, 78, 111, 110, 101, 32, 102, 97, 114, 100, 101, 108, 47, 102, 97, 114, 100, 101, 108, 108, 97, 119, 48, 52, 46, 77, 97, 99, 84, 101, 108, 108, 115, 32, 102, 97, 114, 100, 101, 108, 47, 102, 97, 114, 100, 101, 108, 108, 97, 119, 48, 52, 46, 77, 97, 99, 80, 97, 114, 116, 115, 32, 102, 97, 114, 100, 101, 108, 47, 102, 97, 114, 100, 101, 108, 108, 97, 119, 48, 52, 46, 77, 97, 99, 75, 101, 121, 115, 32, 102, 97, 114, 100, 101, 108, 47, 102, 97, 114, 100, 101, 108, 108, 97, 119, 48, 52, 46, 77, 97, 99, 83, 97, 109, 101, 32, 102, 97, 114, 100, 101, 108, 47, 102, 97, 114, 100, 101, 108, 108, 97, 119, 48, 52, 46, 77, 97, 99, 76, 111, 110, 103, 32, 102, 97, 114, 100, 101, 108, 47, 102, 97, 114, 100, 101, 108, 108, 97, 119, 48, 53, 46, 75, 100, 102, 78, 97, 109, 101, 115, 32, 102, 97, 114, 100, 101, 108, 47, 102, 97, 114, 100, 101, 108, 108, 97, 119, 48, 53, 46, 75, 100, 102, 84, 101, 108, 108, 115, 32, 102, 97, 114, 100, 101, 108, 47, 102, 97, 114, 100, 101, 108, 108, 97, 119, 48, 53, 46, 75, 100, 102, 66, 101, 103, 105, 110, 115, 32, 102, 97, 114, 100, 101, 108, 47, 102, 97, 114, 100, 101, 108, 108, 97, 119, 48, 53, 46, 75, 100, 102, 77, 111, 115, 116, 32, 102, 97, 114, 100, 101, 108, 47, 102, 97, 114, 100, 101, 108, 108, 97, 119, 48, 53, 46, 75, 100, 102, 70, 105, 114, 115, 116, 32, 102, 97, 114, 100, 101, 108, 47, 102, 97, 114, 100, 101, 108, 108, 97, 119, 48, 53, 46, 75, 100, 102, 83, 97, 108, 116] (by kernel_rfl) (by kernel_rfl) (by kernel_rfl)
theorem mayEnter : Try.prog.mayEnter = true := cutHead.mayEnter (by kernel_rfl)
theorem mx : Try.prog.follows .mixedOrders = true := by kernel_rfl

end Go.Proofs.Ytjgcmfedofmkpaa
