/-
  Facts on the types and functions.
-/
import Derived.Test.YtfnfcmgbbijlnaaProg
import Derived.Test.YtfnfcmgbbijlnaaFxT
import Derived.Test.YtfnfcmgbbijlnaaFxV
import Derived.Test.YtfnfcmgbbijlnaaFxW
import Derived.Test.YtfnfcmgbbijlnaaFxH
namespace Go.Proofs.Ytfnfcmgbbijlnaa
open Go Go.Fx
set_option linter.unusedVariables false
theorem ty2 : Go.Fx.TyI Try.prog 2 (.int .i64) 1 8 (.ints .i64 [0]) := ⟨by kernel_rfl, by kernel_rfl⟩
theorem ty3 : Go.Fx.TyI Try.prog 3 (.int .i64) 1 8 (.ints .i64 [0]) := ⟨by kernel_rfl, by kernel_rfl⟩
theorem ty4 : Go.Fx.TyI Try.prog 4 (.bool) 1 1 (.mix [.b false]) := ⟨by kernel_rfl, by kernel_rfl⟩
theorem ty5 : Go.Fx.TyI Try.prog 5 (.int .u8) 1 1 (.ints .u8 [0]) := ⟨by kernel_rfl, by kernel_rfl⟩
theorem ty6 : Go.Fx.TyI Try.prog 6 (.int .u8) 1 1 (.ints .u8 [0]) := ⟨by kernel_rfl, by kernel_rfl⟩
theorem ty7 : Go.Fx.TyI Try.prog 7 (.struct #[⟨ "x", 2, 0, false, "", "runtime", 0⟩, ⟨ "y", 3, 1, false, "", "runtime", 8⟩, ⟨ "signed", 4, 2, false, "", "runtime", 16⟩, ⟨ "code", 6, 3, false, "", "runtime", 17⟩]) 4 24 (.mix [.n .i64 0, .n .i64 0, .b false, .n .u8 0]) := ⟨by kernel_rfl, by kernel_rfl⟩
theorem ty8 : Go.Fx.TyI Try.prog 8 (.struct #[⟨ "x", 2, 0, false, "", "runtime", 0⟩, ⟨ "y", 3, 1, false, "", "runtime", 8⟩, ⟨ "signed", 4, 2, false, "", "runtime", 16⟩, ⟨ "code", 6, 3, false, "", "runtime", 17⟩]) 4 24 (.mix [.n .i64 0, .n .i64 0, .b false, .n .u8 0]) := ⟨by kernel_rfl, by kernel_rfl⟩
theorem ty9 : Go.Fx.TyI Try.prog 9 (.string) 1 16 (.mix [.str []]) := ⟨by kernel_rfl, by kernel_rfl⟩
theorem ty10 : Go.Fx.TyI Try.prog 10 (.string) 1 16 (.mix [.str []]) := ⟨by kernel_rfl, by kernel_rfl⟩
theorem ty11 : Go.Fx.TyI Try.prog 11 (.string) 1 16 (.mix [.str []]) := ⟨by kernel_rfl, by kernel_rfl⟩
theorem ty12 : Go.Fx.TyI Try.prog 12 (.int .u64) 1 8 (.ints .u64 [0]) := ⟨by kernel_rfl, by kernel_rfl⟩
theorem ty13 : Go.Fx.TyI Try.prog 13 (.struct #[⟨ "msg", 9, 0, false, "", "runtime", 0⟩, ⟨ "addr", 12, 1, false, "", "runtime", 16⟩]) 2 24 (.mix [.str [], .n .u64 0]) := ⟨by kernel_rfl, by kernel_rfl⟩
theorem ty14 : Go.Fx.TyI Try.prog 14 (.struct #[⟨ "msg", 9, 0, false, "", "runtime", 0⟩, ⟨ "addr", 12, 1, false, "", "runtime", 16⟩]) 2 24 (.mix [.str [], .n .u64 0]) := ⟨by kernel_rfl, by kernel_rfl⟩
theorem ty21 : Go.Fx.TyI Try.prog 21 (.int .i32) 1 4 (.ints .i32 [0]) := ⟨by kernel_rfl, by kernel_rfl⟩
theorem ty22 : Go.Fx.TyI Try.prog 22 (.array 64 5) 64 64 (.ints .u8 (List.replicate 64 0)) := ⟨by kernel_rfl, by kernel_rfl⟩
theorem ty23 : Go.Fx.TyI Try.prog 23 (.array 32 5) 32 32 (.ints .u8 (List.replicate 32 0)) := ⟨by kernel_rfl, by kernel_rfl⟩
theorem ty33 : Go.Fx.TyI Try.prog 33 (.int .u32) 1 4 (.ints .u32 [0]) := ⟨by kernel_rfl, by kernel_rfl⟩
theorem ty35 : Go.Fx.TyI Try.prog 35 (.int .u64) 1 8 (.ints .u64 [0]) := ⟨by kernel_rfl, by kernel_rfl⟩
theorem ty37 : Go.Fx.TyI Try.prog 37 (.array 4 35) 4 32 (.ints .u64 (List.replicate 4 0)) := ⟨by kernel_rfl, by kernel_rfl⟩
theorem ty38 : Go.Fx.TyI Try.prog 38 (.array 4 35) 4 32 (.ints .u64 (List.replicate 4 0)) := ⟨by kernel_rfl, by kernel_rfl⟩
theorem ty40 : Go.Fx.TyI Try.prog 40 (.slice 35) 1 24 (.mix [.nil]) := ⟨by kernel_rfl, by kernel_rfl⟩
theorem ty42 : Go.Fx.TyI Try.prog 42 (.slice 5) 1 24 (.mix [.nil]) := ⟨by kernel_rfl, by kernel_rfl⟩
theorem ty47 : Go.Fx.TyI Try.prog 47 (.array 65 3) 65 520 (.ints .i64 (List.replicate 65 0)) := ⟨by kernel_rfl, by kernel_rfl⟩
theorem ty48 : Go.Fx.TyI Try.prog 48 (.array 65 5) 65 65 (.ints .u8 (List.replicate 65 0)) := ⟨by kernel_rfl, by kernel_rfl⟩
theorem ty53 : Go.Fx.TyI Try.prog 53 (.int .u64) 1 8 (.ints .u64 [0]) := ⟨by kernel_rfl, by kernel_rfl⟩
theorem ty63 : Go.Fx.TyI Try.prog 63 (.int .u8) 1 1 (.ints .u8 [0]) := ⟨by kernel_rfl, by kernel_rfl⟩
theorem ty64 : Go.Fx.TyI Try.prog 64 (.int .u8) 1 1 (.ints .u8 [0]) := ⟨by kernel_rfl, by kernel_rfl⟩
theorem ty67 : Go.Fx.TyI Try.prog 67 (.int .i32) 1 4 (.ints .i32 [0]) := ⟨by kernel_rfl, by kernel_rfl⟩
theorem ty68 : Go.Fx.TyI Try.prog 68 (.int .i32) 1 4 (.ints .i32 [0]) := ⟨by kernel_rfl, by kernel_rfl⟩
theorem fnok3 : Go.Fx.FnOK Try.prog 3 := ⟨_, Try.func3, by kernel_rfl, by kernel_rfl⟩
theorem fnok4 : Go.Fx.FnOK Try.prog 4 := ⟨_, Try.func4, by kernel_rfl, by kernel_rfl⟩
theorem fnok5 : Go.Fx.FnOK Try.prog 5 := ⟨_, Try.func5, by kernel_rfl, by kernel_rfl⟩
theorem fnok6 : Go.Fx.FnOK Try.prog 6 := ⟨_, Try.func6, by kernel_rfl, by kernel_rfl⟩
theorem fnok7 : Go.Fx.FnOK Try.prog 7 := ⟨_, Try.func7, by kernel_rfl, by kernel_rfl⟩
theorem fnok8 : Go.Fx.FnOK Try.prog 8 := ⟨_, Try.func8, by kernel_rfl, by kernel_rfl⟩
theorem fnok9 : Go.Fx.FnOK Try.prog 9 := ⟨_, Try.func9, by kernel_rfl, by kernel_rfl⟩
theorem fnok10 : Go.Fx.FnOK Try.prog 10 := ⟨_, Try.func10, by kernel_rfl, by kernel_rfl⟩
theorem fnok11 : Go.Fx.FnOK Try.prog 11 := ⟨_, Try.func11, by kernel_rfl, by kernel_rfl⟩
theorem fnok12 : Go.Fx.FnOK Try.prog 12 := ⟨_, Try.func12, by kernel_rfl, by kernel_rfl⟩
theorem fnok13 : Go.Fx.FnOK Try.prog 13 := ⟨_, Try.func13, by kernel_rfl, by kernel_rfl⟩
theorem fnok14 : Go.Fx.FnOK Try.prog 14 := ⟨_, Try.func14, by kernel_rfl, by kernel_rfl⟩
theorem fnok15 : Go.Fx.FnOK Try.prog 15 := ⟨_, Try.func15, by kernel_rfl, by kernel_rfl⟩
theorem fnok16 : Go.Fx.FnOK Try.prog 16 := ⟨_, Try.func16, by kernel_rfl, by kernel_rfl⟩
theorem fnok17 : Go.Fx.FnOK Try.prog 17 := ⟨_, Try.func17, by kernel_rfl, by kernel_rfl⟩
theorem fnok18 : Go.Fx.FnOK Try.prog 18 := ⟨_, Try.func18, by kernel_rfl, by kernel_rfl⟩
theorem fnok19 : Go.Fx.FnOK Try.prog 19 := ⟨_, Try.func19, by kernel_rfl, by kernel_rfl⟩
theorem fnok20 : Go.Fx.FnOK Try.prog 20 := ⟨_, Try.func20, by kernel_rfl, by kernel_rfl⟩
theorem fnok21 : Go.Fx.FnOK Try.prog 21 := ⟨_, Try.func21, by kernel_rfl, by kernel_rfl⟩
theorem fnok22 : Go.Fx.FnOK Try.prog 22 := ⟨_, Try.func22, by kernel_rfl, by kernel_rfl⟩
theorem fnok24 : Go.Fx.FnOK Try.prog 24 := ⟨_, Try.func24, by kernel_rfl, by kernel_rfl⟩
theorem fnok25 : Go.Fx.FnOK Try.prog 25 := ⟨_, Try.func25, by kernel_rfl, by kernel_rfl⟩
theorem fnok26 : Go.Fx.FnOK Try.prog 26 := ⟨_, Try.func26, by kernel_rfl, by kernel_rfl⟩
theorem fnok27 : Go.Fx.FnOK Try.prog 27 := ⟨_, Try.func27, by kernel_rfl, by kernel_rfl⟩
theorem fnok28 : Go.Fx.FnOK Try.prog 28 := ⟨_, Try.func28, by kernel_rfl, by kernel_rfl⟩
theorem ext23 : Go.Fx.ExtOK Try.prog 23 Go.add64Entry := ⟨_, Try.func23, by kernel_rfl, by kernel_rfl, by kernel_rfl, by kernel_rfl⟩
theorem ext29 : Go.Fx.ExtOK Try.prog 29 Go.Proofs.sub64Entry := ⟨_, Try.func29, by kernel_rfl, by kernel_rfl, by kernel_rfl, by kernel_rfl⟩
theorem cutHead : Go.Fx.CutHead Try.prog := .mk' [56, 100, 51, 52, 98, 99, 97, 50, 56, 97, 100, 48, 100, 49, 53, 57, 52, 48, 55, 48, 97, 100, 54, 54, 97, 52, 57, 97, 49, 97, 53, 99, 48, 48, 56, 48, 49, 50, 50, 51, 54, 100, 56, 102, 56, 100, 49, 98, 54, 56, 102, 50, 57, 98, 48, 52, 49, 49, 55, 57, 50, 98, 49, 100] [97, 116, 32, 102, 97, 114, 100, 101, 108, 47, 102, 97, 114, 100, 101, 108, 108, 97, 119, 48, 50, 46, 83, 99, 97, 108, 97, 114, 84, 101, 108, 108, 115, 32, 102, 97, 114, 100, 101, 108, 47, 102, 97, 114, 100, 101, 108, 108, 97, 119, 48, 50, 46, 83, 99, 97, 108, 97, 114, 82, 105, 110, 103, 32, 102, 97, 114, 100, 101, 108, 47, 102, 97, 114, 100, 101, 108, 108, 97, 119, 48, 50, 46, 83, 99, 97, 108, 97, 114, 79, 110, 99, 101, 32, 102, 97, 114, 100, 101, 108, 47, 102, 97, 114, 100, 101, 108, 108, 97, 119, 48, 50, 46, 83, 99, 97, 108, 97, 114, 83, 109, 97, 108, 108] (by kernel_rfl) (by kernel_rfl) (by kernel_rfl)
theorem mayEnter : Try.prog.mayEnter = true := cutHead.mayEnter (by kernel_rfl)
theorem mx : Try.prog.follows .mixedOrders = true := by kernel_rfl

end Go.Proofs.Ytfnfcmgbbijlnaa
