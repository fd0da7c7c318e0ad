/-
  The tables are those of the program; no condition.
-/
import Derived.Test.YtidoclepnecnbaaDoorOSkmF
import Derived.Test.YtidoclepnecnbaaDoorOTab
import Derived.KernelRfl
namespace Go.Skm.Pio
open Go Go.Skm
theorem tok3 : mkTI Go.Proofs.Tryd.prog 3 = some ty3 := by kernel_rfl
theorem tok4 : mkTI Go.Proofs.Tryd.prog 4 = some ty4 := by kernel_rfl
theorem tok5 : mkTI Go.Proofs.Tryd.prog 5 = some ty5 := by kernel_rfl
theorem tok9 : mkTI Go.Proofs.Tryd.prog 9 = some ty9 := by kernel_rfl
theorem tok23 : mkTI Go.Proofs.Tryd.prog 23 = some ty23 := by kernel_rfl
theorem tok24 : mkTI Go.Proofs.Tryd.prog 24 = some ty24 := by kernel_rfl
theorem tok26 : mkTI Go.Proofs.Tryd.prog 26 = some ty26 := by kernel_rfl
theorem tok29 : mkTI Go.Proofs.Tryd.prog 29 = some ty29 := by kernel_rfl
theorem tok41 : mkTI Go.Proofs.Tryd.prog 41 = some ty41 := by kernel_rfl
theorem tok53 : mkTI Go.Proofs.Tryd.prog 53 = some ty53 := by kernel_rfl
theorem tok64 : mkTI Go.Proofs.Tryd.prog 64 = some ty64 := by kernel_rfl
theorem tok65 : mkTI Go.Proofs.Tryd.prog 65 = some ty65 := by kernel_rfl
theorem tok67 : mkTI Go.Proofs.Tryd.prog 67 = some ty67 := by kernel_rfl
theorem tok68 : mkTI Go.Proofs.Tryd.prog 68 = some ty68 := by kernel_rfl
theorem tok70 : mkTI Go.Proofs.Tryd.prog 70 = some ty70 := by kernel_rfl
theorem tok72 : mkTI Go.Proofs.Tryd.prog 72 = some ty72 := by kernel_rfl
theorem tok83 : mkTI Go.Proofs.Tryd.prog 83 = some ty83 := by kernel_rfl
theorem tok86 : mkTI Go.Proofs.Tryd.prog 86 = some ty86 := by kernel_rfl
theorem tok94 : mkTI Go.Proofs.Tryd.prog 94 = some ty94 := by kernel_rfl
theorem tok99 : mkTI Go.Proofs.Tryd.prog 99 = some ty99 := by kernel_rfl
theorem tok102 : mkTI Go.Proofs.Tryd.prog 102 = some ty102 := by kernel_rfl
theorem tok104 : mkTI Go.Proofs.Tryd.prog 104 = some ty104 := by kernel_rfl
theorem tok106 : mkTI Go.Proofs.Tryd.prog 106 = some ty106 := by kernel_rfl
theorem tok107 : mkTI Go.Proofs.Tryd.prog 107 = some ty107 := by kernel_rfl
theorem tok117 : mkTI Go.Proofs.Tryd.prog 117 = some ty117 := by kernel_rfl
theorem tok120 : mkTI Go.Proofs.Tryd.prog 120 = some ty120 := by kernel_rfl
theorem fok3 : FuncOk Go.Proofs.Tryd.prog tab 3 fi3 := ⟨Go.Proofs.Tryd.func3, by kernel_rfl, by kernel_rfl, by kernel_rfl, by kernel_rfl⟩
theorem fok4 : FuncOk Go.Proofs.Tryd.prog tab 4 fi4 := ⟨Go.Proofs.Tryd.func4, by kernel_rfl, by kernel_rfl, by kernel_rfl, by kernel_rfl⟩
theorem fok5 : FuncOk Go.Proofs.Tryd.prog tab 5 fi5 := ⟨Go.Proofs.Tryd.func5, by kernel_rfl, by kernel_rfl, by kernel_rfl, by kernel_rfl⟩
theorem fok6 : FuncOk Go.Proofs.Tryd.prog tab 6 fi6 := ⟨Go.Proofs.Tryd.func6, by kernel_rfl, by kernel_rfl, by kernel_rfl, by kernel_rfl⟩
theorem fok8 : FuncOk Go.Proofs.Tryd.prog tab 8 fi8 := ⟨Go.Proofs.Tryd.func8, by kernel_rfl, by kernel_rfl, by kernel_rfl, by kernel_rfl⟩
theorem fok10 : FuncOk Go.Proofs.Tryd.prog tab 10 fi10 := ⟨Go.Proofs.Tryd.func10, by kernel_rfl, by kernel_rfl, by kernel_rfl, by kernel_rfl⟩
theorem fok11 : FuncOk Go.Proofs.Tryd.prog tab 11 fi11 := ⟨Go.Proofs.Tryd.func11, by kernel_rfl, by kernel_rfl, by kernel_rfl, by kernel_rfl⟩
theorem fok12 : FuncOk Go.Proofs.Tryd.prog tab 12 fi12 := ⟨Go.Proofs.Tryd.func12, by kernel_rfl, by kernel_rfl, by kernel_rfl, by kernel_rfl⟩
theorem fok13 : FuncOk Go.Proofs.Tryd.prog tab 13 fi13 := ⟨Go.Proofs.Tryd.func13, by kernel_rfl, by kernel_rfl, by kernel_rfl, by kernel_rfl⟩
theorem fok14 : FuncOk Go.Proofs.Tryd.prog tab 14 fi14 := ⟨Go.Proofs.Tryd.func14, by kernel_rfl, by kernel_rfl, by kernel_rfl, by kernel_rfl⟩
theorem fok15 : FuncOk Go.Proofs.Tryd.prog tab 15 fi15 := ⟨Go.Proofs.Tryd.func15, by kernel_rfl, by kernel_rfl, by kernel_rfl, by kernel_rfl⟩
theorem fok16 : FuncOk Go.Proofs.Tryd.prog tab 16 fi16 := ⟨Go.Proofs.Tryd.func16, by kernel_rfl, by kernel_rfl, by kernel_rfl, by kernel_rfl⟩
theorem fok17 : FuncOk Go.Proofs.Tryd.prog tab 17 fi17 := ⟨Go.Proofs.Tryd.func17, by kernel_rfl, by kernel_rfl, by kernel_rfl, by kernel_rfl⟩
theorem fok18 : FuncOk Go.Proofs.Tryd.prog tab 18 fi18 := ⟨Go.Proofs.Tryd.func18, by kernel_rfl, by kernel_rfl, by kernel_rfl, by kernel_rfl⟩
theorem fok19 : FuncOk Go.Proofs.Tryd.prog tab 19 fi19 := ⟨Go.Proofs.Tryd.func19, by kernel_rfl, by kernel_rfl, by kernel_rfl, by kernel_rfl⟩
theorem fok20 : FuncOk Go.Proofs.Tryd.prog tab 20 fi20 := ⟨Go.Proofs.Tryd.func20, by kernel_rfl, by kernel_rfl, by kernel_rfl, by kernel_rfl⟩
theorem fok21 : FuncOk Go.Proofs.Tryd.prog tab 21 fi21 := ⟨Go.Proofs.Tryd.func21, by kernel_rfl, by kernel_rfl, by kernel_rfl, by kernel_rfl⟩
theorem fok22 : FuncOk Go.Proofs.Tryd.prog tab 22 fi22 := ⟨Go.Proofs.Tryd.func22, by kernel_rfl, by kernel_rfl, by kernel_rfl, by kernel_rfl⟩
theorem fok24 : FuncOk Go.Proofs.Tryd.prog tab 24 fi24 := ⟨Go.Proofs.Tryd.func24, by kernel_rfl, by kernel_rfl, by kernel_rfl, by kernel_rfl⟩
theorem fok25 : FuncOk Go.Proofs.Tryd.prog tab 25 fi25 := ⟨Go.Proofs.Tryd.func25, by kernel_rfl, by kernel_rfl, by kernel_rfl, by kernel_rfl⟩
theorem fok26 : FuncOk Go.Proofs.Tryd.prog tab 26 fi26 := ⟨Go.Proofs.Tryd.func26, by kernel_rfl, by kernel_rfl, by kernel_rfl, by kernel_rfl⟩
theorem fok27 : FuncOk Go.Proofs.Tryd.prog tab 27 fi27 := ⟨Go.Proofs.Tryd.func27, by kernel_rfl, by kernel_rfl, by kernel_rfl, by kernel_rfl⟩
theorem fok28 : FuncOk Go.Proofs.Tryd.prog tab 28 fi28 := ⟨Go.Proofs.Tryd.func28, by kernel_rfl, by kernel_rfl, by kernel_rfl, by kernel_rfl⟩
theorem fok29 : FuncOk Go.Proofs.Tryd.prog tab 29 fi29 := ⟨Go.Proofs.Tryd.func29, by kernel_rfl, by kernel_rfl, by kernel_rfl, by kernel_rfl⟩
theorem fok30 : FuncOk Go.Proofs.Tryd.prog tab 30 fi30 := ⟨Go.Proofs.Tryd.func30, by kernel_rfl, by kernel_rfl, by kernel_rfl, by kernel_rfl⟩
theorem fok31 : FuncOk Go.Proofs.Tryd.prog tab 31 fi31 := ⟨Go.Proofs.Tryd.func31, by kernel_rfl, by kernel_rfl, by kernel_rfl, by kernel_rfl⟩
theorem fok32 : FuncOk Go.Proofs.Tryd.prog tab 32 fi32 := ⟨Go.Proofs.Tryd.func32, by kernel_rfl, by kernel_rfl, by kernel_rfl, by kernel_rfl⟩
theorem fok33 : FuncOk Go.Proofs.Tryd.prog tab 33 fi33 := ⟨Go.Proofs.Tryd.func33, by kernel_rfl, by kernel_rfl, by kernel_rfl, by kernel_rfl⟩
theorem fok34 : FuncOk Go.Proofs.Tryd.prog tab 34 fi34 := ⟨Go.Proofs.Tryd.func34, by kernel_rfl, by kernel_rfl, by kernel_rfl, by kernel_rfl⟩
theorem fok35 : FuncOk Go.Proofs.Tryd.prog tab 35 fi35 := ⟨Go.Proofs.Tryd.func35, by kernel_rfl, by kernel_rfl, by kernel_rfl, by kernel_rfl⟩
theorem fok36 : FuncOk Go.Proofs.Tryd.prog tab 36 fi36 := ⟨Go.Proofs.Tryd.func36, by kernel_rfl, by kernel_rfl, by kernel_rfl, by kernel_rfl⟩
theorem fok37 : FuncOk Go.Proofs.Tryd.prog tab 37 fi37 := ⟨Go.Proofs.Tryd.func37, by kernel_rfl, by kernel_rfl, by kernel_rfl, by kernel_rfl⟩
theorem fok38 : FuncOk Go.Proofs.Tryd.prog tab 38 fi38 := ⟨Go.Proofs.Tryd.func38, by kernel_rfl, by kernel_rfl, by kernel_rfl, by kernel_rfl⟩
theorem fok39 : FuncOk Go.Proofs.Tryd.prog tab 39 fi39 := ⟨Go.Proofs.Tryd.func39, by kernel_rfl, by kernel_rfl, by kernel_rfl, by kernel_rfl⟩
theorem fok40 : FuncOk Go.Proofs.Tryd.prog tab 40 fi40 := ⟨Go.Proofs.Tryd.func40, by kernel_rfl, by kernel_rfl, by kernel_rfl, by kernel_rfl⟩
theorem fok41 : FuncOk Go.Proofs.Tryd.prog tab 41 fi41 := ⟨Go.Proofs.Tryd.func41, by kernel_rfl, by kernel_rfl, by kernel_rfl, by kernel_rfl⟩
theorem fok42 : FuncOk Go.Proofs.Tryd.prog tab 42 fi42 := ⟨Go.Proofs.Tryd.func42, by kernel_rfl, by kernel_rfl, by kernel_rfl, by kernel_rfl⟩
theorem fok43 : FuncOk Go.Proofs.Tryd.prog tab 43 fi43 := ⟨Go.Proofs.Tryd.func43, by kernel_rfl, by kernel_rfl, by kernel_rfl, by kernel_rfl⟩
theorem fok44 : FuncOk Go.Proofs.Tryd.prog tab 44 fi44 := ⟨Go.Proofs.Tryd.func44, by kernel_rfl, by kernel_rfl, by kernel_rfl, by kernel_rfl⟩
theorem fok45 : FuncOk Go.Proofs.Tryd.prog tab 45 fi45 := ⟨Go.Proofs.Tryd.func45, by kernel_rfl, by kernel_rfl, by kernel_rfl, by kernel_rfl⟩
theorem fok46 : FuncOk Go.Proofs.Tryd.prog tab 46 fi46 := ⟨Go.Proofs.Tryd.func46, by kernel_rfl, by kernel_rfl, by kernel_rfl, by kernel_rfl⟩
theorem fok47 : FuncOk Go.Proofs.Tryd.prog tab 47 fi47 := ⟨Go.Proofs.Tryd.func47, by kernel_rfl, by kernel_rfl, by kernel_rfl, by kernel_rfl⟩
theorem fok49 : FuncOk Go.Proofs.Tryd.prog tab 49 fi49 := ⟨Go.Proofs.Tryd.func49, by kernel_rfl, by kernel_rfl, by kernel_rfl, by kernel_rfl⟩
theorem fok50 : FuncOk Go.Proofs.Tryd.prog tab 50 fi50 := ⟨Go.Proofs.Tryd.func50, by kernel_rfl, by kernel_rfl, by kernel_rfl, by kernel_rfl⟩
theorem fok51 : FuncOk Go.Proofs.Tryd.prog tab 51 fi51 := ⟨Go.Proofs.Tryd.func51, by kernel_rfl, by kernel_rfl, by kernel_rfl, by kernel_rfl⟩
theorem fok53 : FuncOk Go.Proofs.Tryd.prog tab 53 fi53 := ⟨Go.Proofs.Tryd.func53, by kernel_rfl, by kernel_rfl, by kernel_rfl, by kernel_rfl⟩
theorem fok54 : FuncOk Go.Proofs.Tryd.prog tab 54 fi54 := ⟨Go.Proofs.Tryd.func54, by kernel_rfl, by kernel_rfl, by kernel_rfl, by kernel_rfl⟩
theorem fok55 : FuncOk Go.Proofs.Tryd.prog tab 55 fi55 := ⟨Go.Proofs.Tryd.func55, by kernel_rfl, by kernel_rfl, by kernel_rfl, by kernel_rfl⟩
theorem fok56 : FuncOk Go.Proofs.Tryd.prog tab 56 fi56 := ⟨Go.Proofs.Tryd.func56, by kernel_rfl, by kernel_rfl, by kernel_rfl, by kernel_rfl⟩
theorem fok58 : FuncOk Go.Proofs.Tryd.prog tab 58 fi58 := ⟨Go.Proofs.Tryd.func58, by kernel_rfl, by kernel_rfl, by kernel_rfl, by kernel_rfl⟩
theorem fok59 : FuncOk Go.Proofs.Tryd.prog tab 59 fi59 := ⟨Go.Proofs.Tryd.func59, by kernel_rfl, by kernel_rfl, by kernel_rfl, by kernel_rfl⟩
theorem fok60 : FuncOk Go.Proofs.Tryd.prog tab 60 fi60 := ⟨Go.Proofs.Tryd.func60, by kernel_rfl, by kernel_rfl, by kernel_rfl, by kernel_rfl⟩
theorem fok61 : FuncOk Go.Proofs.Tryd.prog tab 61 fi61 := ⟨Go.Proofs.Tryd.func61, by kernel_rfl, by kernel_rfl, by kernel_rfl, by kernel_rfl⟩
theorem fok62 : FuncOk Go.Proofs.Tryd.prog tab 62 fi62 := ⟨Go.Proofs.Tryd.func62, by kernel_rfl, by kernel_rfl, by kernel_rfl, by kernel_rfl⟩
theorem fok63 : FuncOk Go.Proofs.Tryd.prog tab 63 fi63 := ⟨Go.Proofs.Tryd.func63, by kernel_rfl, by kernel_rfl, by kernel_rfl, by kernel_rfl⟩
theorem fok64 : FuncOk Go.Proofs.Tryd.prog tab 64 fi64 := ⟨Go.Proofs.Tryd.func64, by kernel_rfl, by kernel_rfl, by kernel_rfl, by kernel_rfl⟩
theorem fok67 : FuncOk Go.Proofs.Tryd.prog tab 67 fi67 := ⟨Go.Proofs.Tryd.func67, by kernel_rfl, by kernel_rfl, by kernel_rfl, by kernel_rfl⟩
theorem fok72 : FuncOk Go.Proofs.Tryd.prog tab 72 fi72 := ⟨Go.Proofs.Tryd.func72, by kernel_rfl, by kernel_rfl, by kernel_rfl, by kernel_rfl⟩
theorem fok73 : FuncOk Go.Proofs.Tryd.prog tab 73 fi73 := ⟨Go.Proofs.Tryd.func73, by kernel_rfl, by kernel_rfl, by kernel_rfl, by kernel_rfl⟩
theorem fok74 : FuncOk Go.Proofs.Tryd.prog tab 74 fi74 := ⟨Go.Proofs.Tryd.func74, by kernel_rfl, by kernel_rfl, by kernel_rfl, by kernel_rfl⟩
theorem tabOk (h : PrimsOk Go.Proofs.Tryd.prog tab) : TabOk Go.Proofs.Tryd.prog tab := tabOk_of
  ⟨tok3, tok4, tok5, tok9, tok23, tok24, tok26, tok29, tok41, tok53, tok64, tok65, tok67, tok68, tok70, tok72, tok83, tok86, tok94, tok99, tok102, tok104, tok106, tok107, tok117, tok120, trivial⟩
  ⟨fok3, fok4, fok5, fok6, fok8, fok10, fok11, fok12, fok13, fok14, fok15, fok16, fok17, fok18, fok19, fok20, fok21, fok22, fok24, fok25, fok26, fok27, fok28, fok29, fok30, fok31, fok32, fok33, fok34, fok35, fok36, fok37, fok38, fok39, fok40, fok41, fok42, fok43, fok44, fok45, fok46, fok47, fok49, fok50, fok51, fok53, fok54, fok55, fok56, fok58, fok59, fok60, fok61, fok62, fok63, fok64, fok67, fok72, fok73, fok74, trivial⟩ (by kernel_rfl) h
end Go.Skm.Pio
