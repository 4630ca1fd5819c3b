/-
  Facts on the types and functions.
-/
import Derived.Test.YtnfiiclmbiiokaaProg
import Derived.Test.YtnfiiclmbiiokaaFb
import Derived.Test.YtnfiiclmbiiokaaFc
namespace Go.Proofs.Ytnfiiclmbiiokaa
open Go Go.Fx
set_option linter.unusedVariables false
set_option linter.unusedSimpArgs false
theorem ty2 : Go.Fx.TyI Try.prog 2 (.int .i64) 1 8 (.ints .i64 [0]) := ⟨by kernel_rfl, by kernel_rfl⟩
theorem ty3 : Go.Fx.TyI Try.prog 3 (.int .i64) 1 8 (.ints .i64 [0]) := ⟨by kernel_rfl, by kernel_rfl⟩
theorem ty4 : Go.Fx.TyI Try.prog 4 (.bool) 1 1 (.mix [.b false]) := ⟨by kernel_rfl, by kernel_rfl⟩
theorem ty5 : Go.Fx.TyI Try.prog 5 (.int .u8) 1 1 (.ints .u8 [0]) := ⟨by kernel_rfl, by kernel_rfl⟩
theorem ty6 : Go.Fx.TyI Try.prog 6 (.int .u8) 1 1 (.ints .u8 [0]) := ⟨by kernel_rfl, by kernel_rfl⟩
theorem ty7 : Go.Fx.TyI Try.prog 7 (.struct #[⟨ "x", 2, 0, false, "", "runtime", 0⟩, ⟨ "y", 3, 1, false, "", "runtime", 8⟩, ⟨ "signed", 4, 2, false, "", "runtime", 16⟩, ⟨ "code", 6, 3, false, "", "runtime", 17⟩]) 4 24 (.mix [.n .i64 0, .n .i64 0, .b false, .n .u8 0]) := ⟨by kernel_rfl, by kernel_rfl⟩
theorem ty8 : Go.Fx.TyI Try.prog 8 (.struct #[⟨ "x", 2, 0, false, "", "runtime", 0⟩, ⟨ "y", 3, 1, false, "", "runtime", 8⟩, ⟨ "signed", 4, 2, false, "", "runtime", 16⟩, ⟨ "code", 6, 3, false, "", "runtime", 17⟩]) 4 24 (.mix [.n .i64 0, .n .i64 0, .b false, .n .u8 0]) := ⟨by kernel_rfl, by kernel_rfl⟩
theorem ty9 : Go.Fx.TyI Try.prog 9 (.string) 1 16 (.mix [.str []]) := ⟨by kernel_rfl, by kernel_rfl⟩
theorem ty10 : Go.Fx.TyI Try.prog 10 (.string) 1 16 (.mix [.str []]) := ⟨by kernel_rfl, by kernel_rfl⟩
theorem ty11 : Go.Fx.TyI Try.prog 11 (.string) 1 16 (.mix [.str []]) := ⟨by kernel_rfl, by kernel_rfl⟩
theorem ty12 : Go.Fx.TyI Try.prog 12 (.int .u64) 1 8 (.ints .u64 [0]) := ⟨by kernel_rfl, by kernel_rfl⟩
theorem ty13 : Go.Fx.TyI Try.prog 13 (.struct #[⟨ "msg", 9, 0, false, "", "runtime", 0⟩, ⟨ "addr", 12, 1, false, "", "runtime", 16⟩]) 2 24 (.mix [.str [], .n .u64 0]) := ⟨by kernel_rfl, by kernel_rfl⟩
theorem ty14 : Go.Fx.TyI Try.prog 14 (.struct #[⟨ "msg", 9, 0, false, "", "runtime", 0⟩, ⟨ "addr", 12, 1, false, "", "runtime", 16⟩]) 2 24 (.mix [.str [], .n .u64 0]) := ⟨by kernel_rfl, by kernel_rfl⟩
theorem ty21 : Go.Fx.TyI Try.prog 21 (.int .i32) 1 4 (.ints .i32 [0]) := ⟨by kernel_rfl, by kernel_rfl⟩
theorem ty22 : Go.Fx.TyI Try.prog 22 (.array 32 5) 32 32 (.ints .u8 (List.replicate 32 0)) := ⟨by kernel_rfl, by kernel_rfl⟩
theorem ty24 : Go.Fx.TyI Try.prog 24 (.int .u64) 1 8 (.ints .u64 [0]) := ⟨by kernel_rfl, by kernel_rfl⟩
theorem ty25 : Go.Fx.TyI Try.prog 25 (.array 5 24) 5 40 (.ints .u64 (List.replicate 5 0)) := ⟨by kernel_rfl, by kernel_rfl⟩
theorem ty26 : Go.Fx.TyI Try.prog 26 (.struct #[⟨ "l", 25, 0, false, "", "fardel/field", 0⟩]) 5 40 (.ints .u64 (List.replicate 5 0)) := ⟨by kernel_rfl, by kernel_rfl⟩
theorem ty27 : Go.Fx.TyI Try.prog 27 (.struct #[⟨ "l", 25, 0, false, "", "fardel/field", 0⟩]) 5 40 (.ints .u64 (List.replicate 5 0)) := ⟨by kernel_rfl, by kernel_rfl⟩
theorem ty30 : Go.Fx.TyI Try.prog 30 (.array 16 24) 16 128 (.ints .u64 (List.replicate 16 0)) := ⟨by kernel_rfl, by kernel_rfl⟩
theorem ty31 : Go.Fx.TyI Try.prog 31 (.array 16 24) 16 128 (.ints .u64 (List.replicate 16 0)) := ⟨by kernel_rfl, by kernel_rfl⟩
theorem ty39 : Go.Fx.TyI Try.prog 39 (.slice 44) 1 24 (.mix [.nil]) := ⟨by kernel_rfl, by kernel_rfl⟩
theorem ty40 : Go.Fx.TyI Try.prog 40 (.array 4 27) 20 160 (.ints .u64 (List.replicate 20 0)) := ⟨by kernel_rfl, by kernel_rfl⟩
theorem ty42 : Go.Fx.TyI Try.prog 42 (.array 4 31) 64 512 (.ints .u64 (List.replicate 64 0)) := ⟨by kernel_rfl, by kernel_rfl⟩
theorem ty43 : Go.Fx.TyI Try.prog 43 (.struct #[⟨ "Kind", 3, 0, false, "", "", 0⟩, ⟨ "A", 5, 1, false, "", "", 8⟩, ⟨ "B", 5, 2, false, "", "", 9⟩, ⟨ "C", 5, 3, false, "", "", 10⟩]) 4 16 (.mix [.n .i64 0, .n .u8 0, .n .u8 0, .n .u8 0]) := ⟨by kernel_rfl, by kernel_rfl⟩
theorem ty44 : Go.Fx.TyI Try.prog 44 (.struct #[⟨ "Kind", 3, 0, false, "", "", 0⟩, ⟨ "A", 5, 1, false, "", "", 8⟩, ⟨ "B", 5, 2, false, "", "", 9⟩, ⟨ "C", 5, 3, false, "", "", 10⟩]) 4 16 (.mix [.n .i64 0, .n .u8 0, .n .u8 0, .n .u8 0]) := ⟨by kernel_rfl, by kernel_rfl⟩
theorem ty52 : Go.Fx.TyI Try.prog 52 (.int .u32) 1 4 (.ints .u32 [0]) := ⟨by kernel_rfl, by kernel_rfl⟩
theorem ty67 : Go.Fx.TyI Try.prog 67 (.slice 5) 1 24 (.mix [.nil]) := ⟨by kernel_rfl, by kernel_rfl⟩
theorem ty68 : Go.Fx.TyI Try.prog 68 (.array 4 24) 4 32 (.ints .u64 (List.replicate 4 0)) := ⟨by kernel_rfl, by kernel_rfl⟩
theorem ty70 : Go.Fx.TyI Try.prog 70 (.int .u64) 1 8 (.ints .u64 [0]) := ⟨by kernel_rfl, by kernel_rfl⟩
theorem ty71 : Go.Fx.TyI Try.prog 71 (.array 32 24) 32 256 (.ints .u64 (List.replicate 32 0)) := ⟨by kernel_rfl, by kernel_rfl⟩
theorem ty91 : Go.Fx.TyI Try.prog 91 (.int .u8) 1 1 (.ints .u8 [0]) := ⟨by kernel_rfl, by kernel_rfl⟩
theorem ty92 : Go.Fx.TyI Try.prog 92 (.int .u8) 1 1 (.ints .u8 [0]) := ⟨by kernel_rfl, by kernel_rfl⟩
theorem ty95 : Go.Fx.TyI Try.prog 95 (.int .i32) 1 4 (.ints .i32 [0]) := ⟨by kernel_rfl, by kernel_rfl⟩
theorem ty96 : Go.Fx.TyI Try.prog 96 (.int .i32) 1 4 (.ints .i32 [0]) := ⟨by kernel_rfl, by kernel_rfl⟩
theorem fnok3 : Go.Fx.FnOK Try.prog 3 := ⟨_, Try.func3, by kernel_rfl, by kernel_rfl⟩
theorem fnok4 : Go.Fx.FnOK Try.prog 4 := ⟨_, Try.func4, by kernel_rfl, by kernel_rfl⟩
theorem fnok5 : Go.Fx.FnOK Try.prog 5 := ⟨_, Try.func5, by kernel_rfl, by kernel_rfl⟩
theorem fnok6 : Go.Fx.FnOK Try.prog 6 := ⟨_, Try.func6, by kernel_rfl, by kernel_rfl⟩
theorem fnok7 : Go.Fx.FnOK Try.prog 7 := ⟨_, Try.func7, by kernel_rfl, by kernel_rfl⟩
theorem fnok8 : Go.Fx.FnOK Try.prog 8 := ⟨_, Try.func8, by kernel_rfl, by kernel_rfl⟩
theorem fnok9 : Go.Fx.FnOK Try.prog 9 := ⟨_, Try.func9, by kernel_rfl, by kernel_rfl⟩
theorem fnok10 : Go.Fx.FnOK Try.prog 10 := ⟨_, Try.func10, by kernel_rfl, by kernel_rfl⟩
theorem fnok11 : Go.Fx.FnOK Try.prog 11 := ⟨_, Try.func11, by kernel_rfl, by kernel_rfl⟩
theorem fnok12 : Go.Fx.FnOK Try.prog 12 := ⟨_, Try.func12, by kernel_rfl, by kernel_rfl⟩
theorem fnok13 : Go.Fx.FnOK Try.prog 13 := ⟨_, Try.func13, by kernel_rfl, by kernel_rfl⟩
theorem fnok14 : Go.Fx.FnOK Try.prog 14 := ⟨_, Try.func14, by kernel_rfl, by kernel_rfl⟩
theorem fnok15 : Go.Fx.FnOK Try.prog 15 := ⟨_, Try.func15, by kernel_rfl, by kernel_rfl⟩
theorem fnok16 : Go.Fx.FnOK Try.prog 16 := ⟨_, Try.func16, by kernel_rfl, by kernel_rfl⟩
theorem fnok17 : Go.Fx.FnOK Try.prog 17 := ⟨_, Try.func17, by kernel_rfl, by kernel_rfl⟩
theorem fnok18 : Go.Fx.FnOK Try.prog 18 := ⟨_, Try.func18, by kernel_rfl, by kernel_rfl⟩
theorem fnok19 : Go.Fx.FnOK Try.prog 19 := ⟨_, Try.func19, by kernel_rfl, by kernel_rfl⟩
theorem fnok20 : Go.Fx.FnOK Try.prog 20 := ⟨_, Try.func20, by kernel_rfl, by kernel_rfl⟩
theorem fnok21 : Go.Fx.FnOK Try.prog 21 := ⟨_, Try.func21, by kernel_rfl, by kernel_rfl⟩
theorem fnok22 : Go.Fx.FnOK Try.prog 22 := ⟨_, Try.func22, by kernel_rfl, by kernel_rfl⟩
theorem fnok23 : Go.Fx.FnOK Try.prog 23 := ⟨_, Try.func23, by kernel_rfl, by kernel_rfl⟩
theorem fnok24 : Go.Fx.FnOK Try.prog 24 := ⟨_, Try.func24, by kernel_rfl, by kernel_rfl⟩
theorem fnok25 : Go.Fx.FnOK Try.prog 25 := ⟨_, Try.func25, by kernel_rfl, by kernel_rfl⟩
theorem fnok26 : Go.Fx.FnOK Try.prog 26 := ⟨_, Try.func26, by kernel_rfl, by kernel_rfl⟩
theorem fnok27 : Go.Fx.FnOK Try.prog 27 := ⟨_, Try.func27, by kernel_rfl, by kernel_rfl⟩
theorem fnok28 : Go.Fx.FnOK Try.prog 28 := ⟨_, Try.func28, by kernel_rfl, by kernel_rfl⟩
theorem fnok29 : Go.Fx.FnOK Try.prog 29 := ⟨_, Try.func29, by kernel_rfl, by kernel_rfl⟩
theorem fnok30 : Go.Fx.FnOK Try.prog 30 := ⟨_, Try.func30, by kernel_rfl, by kernel_rfl⟩
theorem fnok31 : Go.Fx.FnOK Try.prog 31 := ⟨_, Try.func31, by kernel_rfl, by kernel_rfl⟩
theorem fnok32 : Go.Fx.FnOK Try.prog 32 := ⟨_, Try.func32, by kernel_rfl, by kernel_rfl⟩
theorem fnok33 : Go.Fx.FnOK Try.prog 33 := ⟨_, Try.func33, by kernel_rfl, by kernel_rfl⟩
theorem fnok34 : Go.Fx.FnOK Try.prog 34 := ⟨_, Try.func34, by kernel_rfl, by kernel_rfl⟩
theorem fnok35 : Go.Fx.FnOK Try.prog 35 := ⟨_, Try.func35, by kernel_rfl, by kernel_rfl⟩
theorem fnok36 : Go.Fx.FnOK Try.prog 36 := ⟨_, Try.func36, by kernel_rfl, by kernel_rfl⟩
theorem fnok37 : Go.Fx.FnOK Try.prog 37 := ⟨_, Try.func37, by kernel_rfl, by kernel_rfl⟩
theorem fnok38 : Go.Fx.FnOK Try.prog 38 := ⟨_, Try.func38, by kernel_rfl, by kernel_rfl⟩
theorem fnok39 : Go.Fx.FnOK Try.prog 39 := ⟨_, Try.func39, by kernel_rfl, by kernel_rfl⟩
theorem fnok40 : Go.Fx.FnOK Try.prog 40 := ⟨_, Try.func40, by kernel_rfl, by kernel_rfl⟩
theorem fnok41 : Go.Fx.FnOK Try.prog 41 := ⟨_, Try.func41, by kernel_rfl, by kernel_rfl⟩
theorem fnok42 : Go.Fx.FnOK Try.prog 42 := ⟨_, Try.func42, by kernel_rfl, by kernel_rfl⟩
theorem fnok43 : Go.Fx.FnOK Try.prog 43 := ⟨_, Try.func43, by kernel_rfl, by kernel_rfl⟩
theorem fnok44 : Go.Fx.FnOK Try.prog 44 := ⟨_, Try.func44, by kernel_rfl, by kernel_rfl⟩
theorem fnok45 : Go.Fx.FnOK Try.prog 45 := ⟨_, Try.func45, by kernel_rfl, by kernel_rfl⟩
theorem fnok46 : Go.Fx.FnOK Try.prog 46 := ⟨_, Try.func46, by kernel_rfl, by kernel_rfl⟩
theorem fnok47 : Go.Fx.FnOK Try.prog 47 := ⟨_, Try.func47, by kernel_rfl, by kernel_rfl⟩
theorem fnok48 : Go.Fx.FnOK Try.prog 48 := ⟨_, Try.func48, by kernel_rfl, by kernel_rfl⟩
theorem fnok49 : Go.Fx.FnOK Try.prog 49 := ⟨_, Try.func49, by kernel_rfl, by kernel_rfl⟩
theorem fnok50 : Go.Fx.FnOK Try.prog 50 := ⟨_, Try.func50, by kernel_rfl, by kernel_rfl⟩
theorem fnok52 : Go.Fx.FnOK Try.prog 52 := ⟨_, Try.func52, by kernel_rfl, by kernel_rfl⟩
theorem fnok53 : Go.Fx.FnOK Try.prog 53 := ⟨_, Try.func53, by kernel_rfl, by kernel_rfl⟩
theorem fnok54 : Go.Fx.FnOK Try.prog 54 := ⟨_, Try.func54, by kernel_rfl, by kernel_rfl⟩
theorem fnok55 : Go.Fx.FnOK Try.prog 55 := ⟨_, Try.func55, by kernel_rfl, by kernel_rfl⟩
theorem fnok56 : Go.Fx.FnOK Try.prog 56 := ⟨_, Try.func56, by kernel_rfl, by kernel_rfl⟩
theorem fnok57 : Go.Fx.FnOK Try.prog 57 := ⟨_, Try.func57, by kernel_rfl, by kernel_rfl⟩
theorem fnok58 : Go.Fx.FnOK Try.prog 58 := ⟨_, Try.func58, by kernel_rfl, by kernel_rfl⟩
theorem fnok59 : Go.Fx.FnOK Try.prog 59 := ⟨_, Try.func59, by kernel_rfl, by kernel_rfl⟩
theorem ext51 : Go.Fx.ExtOK Try.prog 51 Go.add64Entry := ⟨_, Try.func51, by kernel_rfl, by kernel_rfl, by kernel_rfl, by kernel_rfl⟩
theorem cutHead : Go.Fx.CutHead Try.prog := .mk' [57, 56, 48, 98, 51, 99, 57, 56, 53, 57, 98, 98, 48, 55, 57, 52, 53, 102, 57, 55, 56, 97, 53, 52, 51, 51, 51, 54, 52, 97, 100, 55, 52, 101, 50, 52, 102, 102, 50, 52, 102, 55, 98, 55, 48, 102, 51, 55, 50, 51, 52, 97, 97, 101, 48, 99, 52, 97, 98, 57, 53, 100, 51, 51] [97, 116, 32, 102, 97, 114, 100, 101, 108, 47, 102, 97, 114, 100, 101, 108, 108, 97, 119, 48, 49, 46, 70, 105, 101, 108, 100, 76, 111, 97, 100, 115, 32, 102, 97, 114, 100, 101, 108, 47, 102, 97, 114, 100, 101, 108, 108, 97, 119, 48, 49, 46, 70, 105, 101, 108, 100, 66, 121, 116, 101, 115, 32, 102, 97, 114, 100, 101, 108, 47, 102, 97, 114, 100, 101, 108, 108, 97, 119, 48, 49, 46, 70, 105, 101, 108, 100, 80, 108, 97, 121, 115, 32, 102, 97, 114, 100, 101, 108, 47, 102, 97, 114, 100, 101, 108, 108, 97, 119, 48, 49, 46, 70, 105, 101, 108, 100, 82, 111, 111, 116, 115, 32, 102, 97, 114, 100, 101, 108, 47, 102, 97, 114, 100, 101, 108, 108, 97, 119, 48, 49, 46, 70, 105, 101, 108, 100, 83, 109, 97, 108, 108, 32, 102, 97, 114, 100, 101, 108, 47, 102, 97, 114, 100, 101, 108, 108, 97, 119, 48, 49, 46, 70, 105, 101, 108, 100, 84, 101, 108, 108, 115, 32, 102, 97, 114, 100, 101, 108, 47, 102, 97, 114, 100, 101, 108, 108, 97, 119, 48, 49, 46, 70, 105, 101, 108, 100, 82, 105, 110, 103, 32, 102, 97, 114, 100, 101, 108, 47, 102, 97, 114, 100, 101, 108, 108, 97, 119, 48, 54, 46, 76, 97, 100, 100, 101, 114, 84, 101, 108, 108, 115, 32, 102, 97, 114, 100, 101, 108, 47, 102, 97, 114, 100, 101, 108, 108, 97, 119, 48, 54, 46, 76, 97, 100, 100, 101, 114, 77, 101, 101, 116, 115, 32, 102, 97, 114, 100, 101, 108, 47, 102, 97, 114, 100, 101, 108, 108, 97, 119, 48, 54, 46, 76, 97, 100, 100, 101, 114, 66, 105, 116, 115, 32, 102, 97, 114, 100, 101, 108, 47, 102, 97, 114, 100, 101, 108, 108, 97, 119, 48, 54, 46, 76, 97, 100, 100, 101, 114, 67, 104, 97, 105, 110, 32, 102, 97, 114, 100, 101, 108, 47, 102, 97, 114, 100, 101, 108, 108, 97, 119, 48, 54, 46, 76, 97, 100, 100, 101, 114, 90, 101, 114, 111] (by kernel_rfl) (by kernel_rfl) (by kernel_rfl)
theorem mayEnter : Try.prog.mayEnter = true := cutHead.mayEnter (by kernel_rfl)
theorem mx : Try.prog.follows .mixedOrders = true := by kernel_rfl

end Go.Proofs.Ytnfiiclmbiiokaa
