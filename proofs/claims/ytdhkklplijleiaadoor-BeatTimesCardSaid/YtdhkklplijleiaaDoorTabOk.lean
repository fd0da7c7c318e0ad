/-
  The tables are those of the program; no condition.
-/
import Derived.Test.YtdhkklplijleiaaDoorSkmF
import Derived.Test.YtdhkklplijleiaaDoorTab
import Derived.KernelRfl
namespace Go.Skm.Beat
open Go Go.Skm
theorem tok3 : mkTI Go.Proofs.Tryd.prog 3 = some ty3 := by kernel_rfl
theorem tok4 : mkTI Go.Proofs.Tryd.prog 4 = some ty4 := by kernel_rfl
theorem tok5 : mkTI Go.Proofs.Tryd.prog 5 = some ty5 := by kernel_rfl
theorem tok9 : mkTI Go.Proofs.Tryd.prog 9 = some ty9 := by kernel_rfl
theorem tok22 : mkTI Go.Proofs.Tryd.prog 22 = some ty22 := by kernel_rfl
theorem tok25 : mkTI Go.Proofs.Tryd.prog 25 = some ty25 := by kernel_rfl
theorem tok33 : mkTI Go.Proofs.Tryd.prog 33 = some ty33 := by kernel_rfl
theorem tok37 : mkTI Go.Proofs.Tryd.prog 37 = some ty37 := by kernel_rfl
theorem tok40 : mkTI Go.Proofs.Tryd.prog 40 = some ty40 := by kernel_rfl
theorem tok43 : mkTI Go.Proofs.Tryd.prog 43 = some ty43 := by kernel_rfl
theorem tok66 : mkTI Go.Proofs.Tryd.prog 66 = some ty66 := by kernel_rfl
theorem tok70 : mkTI Go.Proofs.Tryd.prog 70 = some ty70 := by kernel_rfl
theorem tok72 : mkTI Go.Proofs.Tryd.prog 72 = some ty72 := by kernel_rfl
theorem tok73 : mkTI Go.Proofs.Tryd.prog 73 = some ty73 := by kernel_rfl
theorem tok76 : mkTI Go.Proofs.Tryd.prog 76 = some ty76 := by kernel_rfl
theorem tok79 : mkTI Go.Proofs.Tryd.prog 79 = some ty79 := by kernel_rfl
theorem tok82 : mkTI Go.Proofs.Tryd.prog 82 = some ty82 := by kernel_rfl
theorem tok83 : mkTI Go.Proofs.Tryd.prog 83 = some ty83 := by kernel_rfl
theorem fok3 : FuncOk Go.Proofs.Tryd.prog tab 3 fi3 := ⟨Go.Proofs.Tryd.func3, by kernel_rfl, by kernel_rfl, by kernel_rfl, by kernel_rfl⟩
theorem fok4 : FuncOk Go.Proofs.Tryd.prog tab 4 fi4 := ⟨Go.Proofs.Tryd.func4, by kernel_rfl, by kernel_rfl, by kernel_rfl, by kernel_rfl⟩
theorem fok5 : FuncOk Go.Proofs.Tryd.prog tab 5 fi5 := ⟨Go.Proofs.Tryd.func5, by kernel_rfl, by kernel_rfl, by kernel_rfl, by kernel_rfl⟩
theorem fok6 : FuncOk Go.Proofs.Tryd.prog tab 6 fi6 := ⟨Go.Proofs.Tryd.func6, by kernel_rfl, by kernel_rfl, by kernel_rfl, by kernel_rfl⟩
theorem fok7 : FuncOk Go.Proofs.Tryd.prog tab 7 fi7 := ⟨Go.Proofs.Tryd.func7, by kernel_rfl, by kernel_rfl, by kernel_rfl, by kernel_rfl⟩
theorem fok8 : FuncOk Go.Proofs.Tryd.prog tab 8 fi8 := ⟨Go.Proofs.Tryd.func8, by kernel_rfl, by kernel_rfl, by kernel_rfl, by kernel_rfl⟩
theorem fok9 : FuncOk Go.Proofs.Tryd.prog tab 9 fi9 := ⟨Go.Proofs.Tryd.func9, by kernel_rfl, by kernel_rfl, by kernel_rfl, by kernel_rfl⟩
theorem fok10 : FuncOk Go.Proofs.Tryd.prog tab 10 fi10 := ⟨Go.Proofs.Tryd.func10, by kernel_rfl, by kernel_rfl, by kernel_rfl, by kernel_rfl⟩
theorem fok11 : FuncOk Go.Proofs.Tryd.prog tab 11 fi11 := ⟨Go.Proofs.Tryd.func11, by kernel_rfl, by kernel_rfl, by kernel_rfl, by kernel_rfl⟩
theorem fok12 : FuncOk Go.Proofs.Tryd.prog tab 12 fi12 := ⟨Go.Proofs.Tryd.func12, by kernel_rfl, by kernel_rfl, by kernel_rfl, by kernel_rfl⟩
theorem fok13 : FuncOk Go.Proofs.Tryd.prog tab 13 fi13 := ⟨Go.Proofs.Tryd.func13, by kernel_rfl, by kernel_rfl, by kernel_rfl, by kernel_rfl⟩
theorem fok14 : FuncOk Go.Proofs.Tryd.prog tab 14 fi14 := ⟨Go.Proofs.Tryd.func14, by kernel_rfl, by kernel_rfl, by kernel_rfl, by kernel_rfl⟩
theorem fok15 : FuncOk Go.Proofs.Tryd.prog tab 15 fi15 := ⟨Go.Proofs.Tryd.func15, by kernel_rfl, by kernel_rfl, by kernel_rfl, by kernel_rfl⟩
theorem fok16 : FuncOk Go.Proofs.Tryd.prog tab 16 fi16 := ⟨Go.Proofs.Tryd.func16, by kernel_rfl, by kernel_rfl, by kernel_rfl, by kernel_rfl⟩
theorem fok17 : FuncOk Go.Proofs.Tryd.prog tab 17 fi17 := ⟨Go.Proofs.Tryd.func17, by kernel_rfl, by kernel_rfl, by kernel_rfl, by kernel_rfl⟩
theorem fok18 : FuncOk Go.Proofs.Tryd.prog tab 18 fi18 := ⟨Go.Proofs.Tryd.func18, by kernel_rfl, by kernel_rfl, by kernel_rfl, by kernel_rfl⟩
theorem fok19 : FuncOk Go.Proofs.Tryd.prog tab 19 fi19 := ⟨Go.Proofs.Tryd.func19, by kernel_rfl, by kernel_rfl, by kernel_rfl, by kernel_rfl⟩
theorem fok20 : FuncOk Go.Proofs.Tryd.prog tab 20 fi20 := ⟨Go.Proofs.Tryd.func20, by kernel_rfl, by kernel_rfl, by kernel_rfl, by kernel_rfl⟩
theorem fok21 : FuncOk Go.Proofs.Tryd.prog tab 21 fi21 := ⟨Go.Proofs.Tryd.func21, by kernel_rfl, by kernel_rfl, by kernel_rfl, by kernel_rfl⟩
theorem fok22 : FuncOk Go.Proofs.Tryd.prog tab 22 fi22 := ⟨Go.Proofs.Tryd.func22, by kernel_rfl, by kernel_rfl, by kernel_rfl, by kernel_rfl⟩
theorem fok23 : FuncOk Go.Proofs.Tryd.prog tab 23 fi23 := ⟨Go.Proofs.Tryd.func23, by kernel_rfl, by kernel_rfl, by kernel_rfl, by kernel_rfl⟩
theorem fok24 : FuncOk Go.Proofs.Tryd.prog tab 24 fi24 := ⟨Go.Proofs.Tryd.func24, by kernel_rfl, by kernel_rfl, by kernel_rfl, by kernel_rfl⟩
theorem fok25 : FuncOk Go.Proofs.Tryd.prog tab 25 fi25 := ⟨Go.Proofs.Tryd.func25, by kernel_rfl, by kernel_rfl, by kernel_rfl, by kernel_rfl⟩
theorem fok26 : FuncOk Go.Proofs.Tryd.prog tab 26 fi26 := ⟨Go.Proofs.Tryd.func26, by kernel_rfl, by kernel_rfl, by kernel_rfl, by kernel_rfl⟩
theorem fok27 : FuncOk Go.Proofs.Tryd.prog tab 27 fi27 := ⟨Go.Proofs.Tryd.func27, by kernel_rfl, by kernel_rfl, by kernel_rfl, by kernel_rfl⟩
theorem fok28 : FuncOk Go.Proofs.Tryd.prog tab 28 fi28 := ⟨Go.Proofs.Tryd.func28, by kernel_rfl, by kernel_rfl, by kernel_rfl, by kernel_rfl⟩
theorem fok29 : FuncOk Go.Proofs.Tryd.prog tab 29 fi29 := ⟨Go.Proofs.Tryd.func29, by kernel_rfl, by kernel_rfl, by kernel_rfl, by kernel_rfl⟩
theorem fok30 : FuncOk Go.Proofs.Tryd.prog tab 30 fi30 := ⟨Go.Proofs.Tryd.func30, by kernel_rfl, by kernel_rfl, by kernel_rfl, by kernel_rfl⟩
theorem fok31 : FuncOk Go.Proofs.Tryd.prog tab 31 fi31 := ⟨Go.Proofs.Tryd.func31, by kernel_rfl, by kernel_rfl, by kernel_rfl, by kernel_rfl⟩
theorem fok32 : FuncOk Go.Proofs.Tryd.prog tab 32 fi32 := ⟨Go.Proofs.Tryd.func32, by kernel_rfl, by kernel_rfl, by kernel_rfl, by kernel_rfl⟩
theorem fok33 : FuncOk Go.Proofs.Tryd.prog tab 33 fi33 := ⟨Go.Proofs.Tryd.func33, by kernel_rfl, by kernel_rfl, by kernel_rfl, by kernel_rfl⟩
theorem fok34 : FuncOk Go.Proofs.Tryd.prog tab 34 fi34 := ⟨Go.Proofs.Tryd.func34, by kernel_rfl, by kernel_rfl, by kernel_rfl, by kernel_rfl⟩
theorem fok35 : FuncOk Go.Proofs.Tryd.prog tab 35 fi35 := ⟨Go.Proofs.Tryd.func35, by kernel_rfl, by kernel_rfl, by kernel_rfl, by kernel_rfl⟩
theorem fok36 : FuncOk Go.Proofs.Tryd.prog tab 36 fi36 := ⟨Go.Proofs.Tryd.func36, by kernel_rfl, by kernel_rfl, by kernel_rfl, by kernel_rfl⟩
theorem fok37 : FuncOk Go.Proofs.Tryd.prog tab 37 fi37 := ⟨Go.Proofs.Tryd.func37, by kernel_rfl, by kernel_rfl, by kernel_rfl, by kernel_rfl⟩
theorem fok38 : FuncOk Go.Proofs.Tryd.prog tab 38 fi38 := ⟨Go.Proofs.Tryd.func38, by kernel_rfl, by kernel_rfl, by kernel_rfl, by kernel_rfl⟩
theorem fok39 : FuncOk Go.Proofs.Tryd.prog tab 39 fi39 := ⟨Go.Proofs.Tryd.func39, by kernel_rfl, by kernel_rfl, by kernel_rfl, by kernel_rfl⟩
theorem fok40 : FuncOk Go.Proofs.Tryd.prog tab 40 fi40 := ⟨Go.Proofs.Tryd.func40, by kernel_rfl, by kernel_rfl, by kernel_rfl, by kernel_rfl⟩
theorem fok41 : FuncOk Go.Proofs.Tryd.prog tab 41 fi41 := ⟨Go.Proofs.Tryd.func41, by kernel_rfl, by kernel_rfl, by kernel_rfl, by kernel_rfl⟩
theorem fok42 : FuncOk Go.Proofs.Tryd.prog tab 42 fi42 := ⟨Go.Proofs.Tryd.func42, by kernel_rfl, by kernel_rfl, by kernel_rfl, by kernel_rfl⟩
theorem fok43 : FuncOk Go.Proofs.Tryd.prog tab 43 fi43 := ⟨Go.Proofs.Tryd.func43, by kernel_rfl, by kernel_rfl, by kernel_rfl, by kernel_rfl⟩
theorem fok44 : FuncOk Go.Proofs.Tryd.prog tab 44 fi44 := ⟨Go.Proofs.Tryd.func44, by kernel_rfl, by kernel_rfl, by kernel_rfl, by kernel_rfl⟩
theorem fok45 : FuncOk Go.Proofs.Tryd.prog tab 45 fi45 := ⟨Go.Proofs.Tryd.func45, by kernel_rfl, by kernel_rfl, by kernel_rfl, by kernel_rfl⟩
theorem fok46 : FuncOk Go.Proofs.Tryd.prog tab 46 fi46 := ⟨Go.Proofs.Tryd.func46, by kernel_rfl, by kernel_rfl, by kernel_rfl, by kernel_rfl⟩
theorem fok47 : FuncOk Go.Proofs.Tryd.prog tab 47 fi47 := ⟨Go.Proofs.Tryd.func47, by kernel_rfl, by kernel_rfl, by kernel_rfl, by kernel_rfl⟩
theorem fok48 : FuncOk Go.Proofs.Tryd.prog tab 48 fi48 := ⟨Go.Proofs.Tryd.func48, by kernel_rfl, by kernel_rfl, by kernel_rfl, by kernel_rfl⟩
theorem fok49 : FuncOk Go.Proofs.Tryd.prog tab 49 fi49 := ⟨Go.Proofs.Tryd.func49, by kernel_rfl, by kernel_rfl, by kernel_rfl, by kernel_rfl⟩
theorem fok50 : FuncOk Go.Proofs.Tryd.prog tab 50 fi50 := ⟨Go.Proofs.Tryd.func50, by kernel_rfl, by kernel_rfl, by kernel_rfl, by kernel_rfl⟩
theorem fok51 : FuncOk Go.Proofs.Tryd.prog tab 51 fi51 := ⟨Go.Proofs.Tryd.func51, by kernel_rfl, by kernel_rfl, by kernel_rfl, by kernel_rfl⟩
theorem fok52 : FuncOk Go.Proofs.Tryd.prog tab 52 fi52 := ⟨Go.Proofs.Tryd.func52, by kernel_rfl, by kernel_rfl, by kernel_rfl, by kernel_rfl⟩
theorem fok53 : FuncOk Go.Proofs.Tryd.prog tab 53 fi53 := ⟨Go.Proofs.Tryd.func53, by kernel_rfl, by kernel_rfl, by kernel_rfl, by kernel_rfl⟩
theorem fok54 : FuncOk Go.Proofs.Tryd.prog tab 54 fi54 := ⟨Go.Proofs.Tryd.func54, by kernel_rfl, by kernel_rfl, by kernel_rfl, by kernel_rfl⟩
theorem tabOk : TabOk Go.Proofs.Tryd.prog tab := tabOk_of
  ⟨tok3, tok4, tok5, tok9, tok22, tok25, tok33, tok37, tok40, tok43, tok66, tok70, tok72, tok73, tok76, tok79, tok82, tok83, trivial⟩
  ⟨fok3, fok4, fok5, fok6, fok7, fok8, fok9, fok10, fok11, fok12, fok13, fok14, fok15, fok16, fok17, fok18, fok19, fok20, fok21, fok22, fok23, fok24, fok25, fok26, fok27, fok28, fok29, fok30, fok31, fok32, fok33, fok34, fok35, fok36, fok37, fok38, fok39, fok40, fok41, fok42, fok43, fok44, fok45, fok46, fok47, fok48, fok49, fok50, fok51, fok52, fok53, fok54, trivial⟩ (by kernel_rfl)
end Go.Skm.Beat
