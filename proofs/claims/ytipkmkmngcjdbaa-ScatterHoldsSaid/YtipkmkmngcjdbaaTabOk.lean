/-
  The tables are those of the program; no condition.
-/
import Derived.Test.YtipkmkmngcjdbaaSkmG
import Derived.Test.YtipkmkmngcjdbaaTab
import Derived.KernelRfl
namespace Go.Skm.Sct
open Go Go.Skm
theorem tok3 : mkTI Go.Proofs.Try.prog 3 = some ty3 := by kernel_rfl
theorem tok4 : mkTI Go.Proofs.Try.prog 4 = some ty4 := by kernel_rfl
theorem tok9 : mkTI Go.Proofs.Try.prog 9 = some ty9 := by kernel_rfl
theorem tok22 : mkTI Go.Proofs.Try.prog 22 = some ty22 := by kernel_rfl
theorem tok24 : mkTI Go.Proofs.Try.prog 24 = some ty24 := by kernel_rfl
theorem tok31 : mkTI Go.Proofs.Try.prog 31 = some ty31 := by kernel_rfl
theorem tok41 : mkTI Go.Proofs.Try.prog 41 = some ty41 := by kernel_rfl
theorem tok42 : mkTI Go.Proofs.Try.prog 42 = some ty42 := by kernel_rfl
theorem tok43 : mkTI Go.Proofs.Try.prog 43 = some ty43 := by kernel_rfl
theorem tok45 : mkTI Go.Proofs.Try.prog 45 = some ty45 := by kernel_rfl
theorem tok51 : mkTI Go.Proofs.Try.prog 51 = some ty51 := by kernel_rfl
theorem tok55 : mkTI Go.Proofs.Try.prog 55 = some ty55 := by kernel_rfl
theorem tok58 : mkTI Go.Proofs.Try.prog 58 = some ty58 := by kernel_rfl
theorem tok66 : mkTI Go.Proofs.Try.prog 66 = some ty66 := by kernel_rfl
theorem tok71 : mkTI Go.Proofs.Try.prog 71 = some ty71 := by kernel_rfl
theorem tok72 : mkTI Go.Proofs.Try.prog 72 = some ty72 := by kernel_rfl
theorem tok74 : mkTI Go.Proofs.Try.prog 74 = some ty74 := by kernel_rfl
theorem tok80 : mkTI Go.Proofs.Try.prog 80 = some ty80 := by kernel_rfl
theorem tok83 : mkTI Go.Proofs.Try.prog 83 = some ty83 := by kernel_rfl
theorem tok88 : mkTI Go.Proofs.Try.prog 88 = some ty88 := by kernel_rfl
theorem tok91 : mkTI Go.Proofs.Try.prog 91 = some ty91 := by kernel_rfl
theorem tok95 : mkTI Go.Proofs.Try.prog 95 = some ty95 := by kernel_rfl
theorem tok116 : mkTI Go.Proofs.Try.prog 116 = some ty116 := by kernel_rfl
theorem fok3 : FuncOk Go.Proofs.Try.prog tab 3 fi3 := ⟨Go.Proofs.Try.func3, by kernel_rfl, by kernel_rfl, by kernel_rfl, by kernel_rfl⟩
theorem fok4 : FuncOk Go.Proofs.Try.prog tab 4 fi4 := ⟨Go.Proofs.Try.func4, by kernel_rfl, by kernel_rfl, by kernel_rfl, by kernel_rfl⟩
theorem fok5 : FuncOk Go.Proofs.Try.prog tab 5 fi5 := ⟨Go.Proofs.Try.func5, by kernel_rfl, by kernel_rfl, by kernel_rfl, by kernel_rfl⟩
theorem fok6 : FuncOk Go.Proofs.Try.prog tab 6 fi6 := ⟨Go.Proofs.Try.func6, by kernel_rfl, by kernel_rfl, by kernel_rfl, by kernel_rfl⟩
theorem fok7 : FuncOk Go.Proofs.Try.prog tab 7 fi7 := ⟨Go.Proofs.Try.func7, by kernel_rfl, by kernel_rfl, by kernel_rfl, by kernel_rfl⟩
theorem fok8 : FuncOk Go.Proofs.Try.prog tab 8 fi8 := ⟨Go.Proofs.Try.func8, by kernel_rfl, by kernel_rfl, by kernel_rfl, by kernel_rfl⟩
theorem fok9 : FuncOk Go.Proofs.Try.prog tab 9 fi9 := ⟨Go.Proofs.Try.func9, by kernel_rfl, by kernel_rfl, by kernel_rfl, by kernel_rfl⟩
theorem fok10 : FuncOk Go.Proofs.Try.prog tab 10 fi10 := ⟨Go.Proofs.Try.func10, by kernel_rfl, by kernel_rfl, by kernel_rfl, by kernel_rfl⟩
theorem fok11 : FuncOk Go.Proofs.Try.prog tab 11 fi11 := ⟨Go.Proofs.Try.func11, by kernel_rfl, by kernel_rfl, by kernel_rfl, by kernel_rfl⟩
theorem fok12 : FuncOk Go.Proofs.Try.prog tab 12 fi12 := ⟨Go.Proofs.Try.func12, by kernel_rfl, by kernel_rfl, by kernel_rfl, by kernel_rfl⟩
theorem fok13 : FuncOk Go.Proofs.Try.prog tab 13 fi13 := ⟨Go.Proofs.Try.func13, by kernel_rfl, by kernel_rfl, by kernel_rfl, by kernel_rfl⟩
theorem fok14 : FuncOk Go.Proofs.Try.prog tab 14 fi14 := ⟨Go.Proofs.Try.func14, by kernel_rfl, by kernel_rfl, by kernel_rfl, by kernel_rfl⟩
theorem fok15 : FuncOk Go.Proofs.Try.prog tab 15 fi15 := ⟨Go.Proofs.Try.func15, by kernel_rfl, by kernel_rfl, by kernel_rfl, by kernel_rfl⟩
theorem fok16 : FuncOk Go.Proofs.Try.prog tab 16 fi16 := ⟨Go.Proofs.Try.func16, by kernel_rfl, by kernel_rfl, by kernel_rfl, by kernel_rfl⟩
theorem fok17 : FuncOk Go.Proofs.Try.prog tab 17 fi17 := ⟨Go.Proofs.Try.func17, by kernel_rfl, by kernel_rfl, by kernel_rfl, by kernel_rfl⟩
theorem fok18 : FuncOk Go.Proofs.Try.prog tab 18 fi18 := ⟨Go.Proofs.Try.func18, by kernel_rfl, by kernel_rfl, by kernel_rfl, by kernel_rfl⟩
theorem fok19 : FuncOk Go.Proofs.Try.prog tab 19 fi19 := ⟨Go.Proofs.Try.func19, by kernel_rfl, by kernel_rfl, by kernel_rfl, by kernel_rfl⟩
theorem fok20 : FuncOk Go.Proofs.Try.prog tab 20 fi20 := ⟨Go.Proofs.Try.func20, by kernel_rfl, by kernel_rfl, by kernel_rfl, by kernel_rfl⟩
theorem fok21 : FuncOk Go.Proofs.Try.prog tab 21 fi21 := ⟨Go.Proofs.Try.func21, by kernel_rfl, by kernel_rfl, by kernel_rfl, by kernel_rfl⟩
theorem fok22 : FuncOk Go.Proofs.Try.prog tab 22 fi22 := ⟨Go.Proofs.Try.func22, by kernel_rfl, by kernel_rfl, by kernel_rfl, by kernel_rfl⟩
theorem fok23 : FuncOk Go.Proofs.Try.prog tab 23 fi23 := ⟨Go.Proofs.Try.func23, by kernel_rfl, by kernel_rfl, by kernel_rfl, by kernel_rfl⟩
theorem fok24 : FuncOk Go.Proofs.Try.prog tab 24 fi24 := ⟨Go.Proofs.Try.func24, by kernel_rfl, by kernel_rfl, by kernel_rfl, by kernel_rfl⟩
theorem fok25 : FuncOk Go.Proofs.Try.prog tab 25 fi25 := ⟨Go.Proofs.Try.func25, by kernel_rfl, by kernel_rfl, by kernel_rfl, by kernel_rfl⟩
theorem fok26 : FuncOk Go.Proofs.Try.prog tab 26 fi26 := ⟨Go.Proofs.Try.func26, by kernel_rfl, by kernel_rfl, by kernel_rfl, by kernel_rfl⟩
theorem fok27 : FuncOk Go.Proofs.Try.prog tab 27 fi27 := ⟨Go.Proofs.Try.func27, by kernel_rfl, by kernel_rfl, by kernel_rfl, by kernel_rfl⟩
theorem fok28 : FuncOk Go.Proofs.Try.prog tab 28 fi28 := ⟨Go.Proofs.Try.func28, by kernel_rfl, by kernel_rfl, by kernel_rfl, by kernel_rfl⟩
theorem fok29 : FuncOk Go.Proofs.Try.prog tab 29 fi29 := ⟨Go.Proofs.Try.func29, by kernel_rfl, by kernel_rfl, by kernel_rfl, by kernel_rfl⟩
theorem fok30 : FuncOk Go.Proofs.Try.prog tab 30 fi30 := ⟨Go.Proofs.Try.func30, by kernel_rfl, by kernel_rfl, by kernel_rfl, by kernel_rfl⟩
theorem fok31 : FuncOk Go.Proofs.Try.prog tab 31 fi31 := ⟨Go.Proofs.Try.func31, by kernel_rfl, by kernel_rfl, by kernel_rfl, by kernel_rfl⟩
theorem fok32 : FuncOk Go.Proofs.Try.prog tab 32 fi32 := ⟨Go.Proofs.Try.func32, by kernel_rfl, by kernel_rfl, by kernel_rfl, by kernel_rfl⟩
theorem fok33 : FuncOk Go.Proofs.Try.prog tab 33 fi33 := ⟨Go.Proofs.Try.func33, by kernel_rfl, by kernel_rfl, by kernel_rfl, by kernel_rfl⟩
theorem fok34 : FuncOk Go.Proofs.Try.prog tab 34 fi34 := ⟨Go.Proofs.Try.func34, by kernel_rfl, by kernel_rfl, by kernel_rfl, by kernel_rfl⟩
theorem fok35 : FuncOk Go.Proofs.Try.prog tab 35 fi35 := ⟨Go.Proofs.Try.func35, by kernel_rfl, by kernel_rfl, by kernel_rfl, by kernel_rfl⟩
theorem fok36 : FuncOk Go.Proofs.Try.prog tab 36 fi36 := ⟨Go.Proofs.Try.func36, by kernel_rfl, by kernel_rfl, by kernel_rfl, by kernel_rfl⟩
theorem fok37 : FuncOk Go.Proofs.Try.prog tab 37 fi37 := ⟨Go.Proofs.Try.func37, by kernel_rfl, by kernel_rfl, by kernel_rfl, by kernel_rfl⟩
theorem fok38 : FuncOk Go.Proofs.Try.prog tab 38 fi38 := ⟨Go.Proofs.Try.func38, by kernel_rfl, by kernel_rfl, by kernel_rfl, by kernel_rfl⟩
theorem fok39 : FuncOk Go.Proofs.Try.prog tab 39 fi39 := ⟨Go.Proofs.Try.func39, by kernel_rfl, by kernel_rfl, by kernel_rfl, by kernel_rfl⟩
theorem fok40 : FuncOk Go.Proofs.Try.prog tab 40 fi40 := ⟨Go.Proofs.Try.func40, by kernel_rfl, by kernel_rfl, by kernel_rfl, by kernel_rfl⟩
theorem fok41 : FuncOk Go.Proofs.Try.prog tab 41 fi41 := ⟨Go.Proofs.Try.func41, by kernel_rfl, by kernel_rfl, by kernel_rfl, by kernel_rfl⟩
theorem fok42 : FuncOk Go.Proofs.Try.prog tab 42 fi42 := ⟨Go.Proofs.Try.func42, by kernel_rfl, by kernel_rfl, by kernel_rfl, by kernel_rfl⟩
theorem fok43 : FuncOk Go.Proofs.Try.prog tab 43 fi43 := ⟨Go.Proofs.Try.func43, by kernel_rfl, by kernel_rfl, by kernel_rfl, by kernel_rfl⟩
theorem fok44 : FuncOk Go.Proofs.Try.prog tab 44 fi44 := ⟨Go.Proofs.Try.func44, by kernel_rfl, by kernel_rfl, by kernel_rfl, by kernel_rfl⟩
theorem fok45 : FuncOk Go.Proofs.Try.prog tab 45 fi45 := ⟨Go.Proofs.Try.func45, by kernel_rfl, by kernel_rfl, by kernel_rfl, by kernel_rfl⟩
theorem fok46 : FuncOk Go.Proofs.Try.prog tab 46 fi46 := ⟨Go.Proofs.Try.func46, by kernel_rfl, by kernel_rfl, by kernel_rfl, by kernel_rfl⟩
theorem fok47 : FuncOk Go.Proofs.Try.prog tab 47 fi47 := ⟨Go.Proofs.Try.func47, by kernel_rfl, by kernel_rfl, by kernel_rfl, by kernel_rfl⟩
theorem fok48 : FuncOk Go.Proofs.Try.prog tab 48 fi48 := ⟨Go.Proofs.Try.func48, by kernel_rfl, by kernel_rfl, by kernel_rfl, by kernel_rfl⟩
theorem fok49 : FuncOk Go.Proofs.Try.prog tab 49 fi49 := ⟨Go.Proofs.Try.func49, by kernel_rfl, by kernel_rfl, by kernel_rfl, by kernel_rfl⟩
theorem fok50 : FuncOk Go.Proofs.Try.prog tab 50 fi50 := ⟨Go.Proofs.Try.func50, by kernel_rfl, by kernel_rfl, by kernel_rfl, by kernel_rfl⟩
theorem fok53 : FuncOk Go.Proofs.Try.prog tab 53 fi53 := ⟨Go.Proofs.Try.func53, by kernel_rfl, by kernel_rfl, by kernel_rfl, by kernel_rfl⟩
theorem fok54 : FuncOk Go.Proofs.Try.prog tab 54 fi54 := ⟨Go.Proofs.Try.func54, by kernel_rfl, by kernel_rfl, by kernel_rfl, by kernel_rfl⟩
theorem fok55 : FuncOk Go.Proofs.Try.prog tab 55 fi55 := ⟨Go.Proofs.Try.func55, by kernel_rfl, by kernel_rfl, by kernel_rfl, by kernel_rfl⟩
theorem fok56 : FuncOk Go.Proofs.Try.prog tab 56 fi56 := ⟨Go.Proofs.Try.func56, by kernel_rfl, by kernel_rfl, by kernel_rfl, by kernel_rfl⟩
theorem fok57 : FuncOk Go.Proofs.Try.prog tab 57 fi57 := ⟨Go.Proofs.Try.func57, by kernel_rfl, by kernel_rfl, by kernel_rfl, by kernel_rfl⟩
theorem fok58 : FuncOk Go.Proofs.Try.prog tab 58 fi58 := ⟨Go.Proofs.Try.func58, by kernel_rfl, by kernel_rfl, by kernel_rfl, by kernel_rfl⟩
theorem fok59 : FuncOk Go.Proofs.Try.prog tab 59 fi59 := ⟨Go.Proofs.Try.func59, by kernel_rfl, by kernel_rfl, by kernel_rfl, by kernel_rfl⟩
theorem fok60 : FuncOk Go.Proofs.Try.prog tab 60 fi60 := ⟨Go.Proofs.Try.func60, by kernel_rfl, by kernel_rfl, by kernel_rfl, by kernel_rfl⟩
theorem fok61 : FuncOk Go.Proofs.Try.prog tab 61 fi61 := ⟨Go.Proofs.Try.func61, by kernel_rfl, by kernel_rfl, by kernel_rfl, by kernel_rfl⟩
theorem fok62 : FuncOk Go.Proofs.Try.prog tab 62 fi62 := ⟨Go.Proofs.Try.func62, by kernel_rfl, by kernel_rfl, by kernel_rfl, by kernel_rfl⟩
theorem fok63 : FuncOk Go.Proofs.Try.prog tab 63 fi63 := ⟨Go.Proofs.Try.func63, by kernel_rfl, by kernel_rfl, by kernel_rfl, by kernel_rfl⟩
theorem fok64 : FuncOk Go.Proofs.Try.prog tab 64 fi64 := ⟨Go.Proofs.Try.func64, by kernel_rfl, by kernel_rfl, by kernel_rfl, by kernel_rfl⟩
theorem fok65 : FuncOk Go.Proofs.Try.prog tab 65 fi65 := ⟨Go.Proofs.Try.func65, by kernel_rfl, by kernel_rfl, by kernel_rfl, by kernel_rfl⟩
theorem fok66 : FuncOk Go.Proofs.Try.prog tab 66 fi66 := ⟨Go.Proofs.Try.func66, by kernel_rfl, by kernel_rfl, by kernel_rfl, by kernel_rfl⟩
theorem fok67 : FuncOk Go.Proofs.Try.prog tab 67 fi67 := ⟨Go.Proofs.Try.func67, by kernel_rfl, by kernel_rfl, by kernel_rfl, by kernel_rfl⟩
theorem fok68 : FuncOk Go.Proofs.Try.prog tab 68 fi68 := ⟨Go.Proofs.Try.func68, by kernel_rfl, by kernel_rfl, by kernel_rfl, by kernel_rfl⟩
theorem fok69 : FuncOk Go.Proofs.Try.prog tab 69 fi69 := ⟨Go.Proofs.Try.func69, by kernel_rfl, by kernel_rfl, by kernel_rfl, by kernel_rfl⟩
theorem fok70 : FuncOk Go.Proofs.Try.prog tab 70 fi70 := ⟨Go.Proofs.Try.func70, by kernel_rfl, by kernel_rfl, by kernel_rfl, by kernel_rfl⟩
theorem fok71 : FuncOk Go.Proofs.Try.prog tab 71 fi71 := ⟨Go.Proofs.Try.func71, by kernel_rfl, by kernel_rfl, by kernel_rfl, by kernel_rfl⟩
theorem fok72 : FuncOk Go.Proofs.Try.prog tab 72 fi72 := ⟨Go.Proofs.Try.func72, by kernel_rfl, by kernel_rfl, by kernel_rfl, by kernel_rfl⟩
theorem fok73 : FuncOk Go.Proofs.Try.prog tab 73 fi73 := ⟨Go.Proofs.Try.func73, by kernel_rfl, by kernel_rfl, by kernel_rfl, by kernel_rfl⟩
theorem fok74 : FuncOk Go.Proofs.Try.prog tab 74 fi74 := ⟨Go.Proofs.Try.func74, by kernel_rfl, by kernel_rfl, by kernel_rfl, by kernel_rfl⟩
theorem fok75 : FuncOk Go.Proofs.Try.prog tab 75 fi75 := ⟨Go.Proofs.Try.func75, by kernel_rfl, by kernel_rfl, by kernel_rfl, by kernel_rfl⟩
theorem fok77 : FuncOk Go.Proofs.Try.prog tab 77 fi77 := ⟨Go.Proofs.Try.func77, by kernel_rfl, by kernel_rfl, by kernel_rfl, by kernel_rfl⟩
theorem fok88 : FuncOk Go.Proofs.Try.prog tab 88 fi88 := ⟨Go.Proofs.Try.func88, by kernel_rfl, by kernel_rfl, by kernel_rfl, by kernel_rfl⟩
theorem fok89 : FuncOk Go.Proofs.Try.prog tab 89 fi89 := ⟨Go.Proofs.Try.func89, by kernel_rfl, by kernel_rfl, by kernel_rfl, by kernel_rfl⟩
theorem fok90 : FuncOk Go.Proofs.Try.prog tab 90 fi90 := ⟨Go.Proofs.Try.func90, by kernel_rfl, by kernel_rfl, by kernel_rfl, by kernel_rfl⟩
theorem fok91 : FuncOk Go.Proofs.Try.prog tab 91 fi91 := ⟨Go.Proofs.Try.func91, by kernel_rfl, by kernel_rfl, by kernel_rfl, by kernel_rfl⟩
theorem fok92 : FuncOk Go.Proofs.Try.prog tab 92 fi92 := ⟨Go.Proofs.Try.func92, by kernel_rfl, by kernel_rfl, by kernel_rfl, by kernel_rfl⟩
theorem fok93 : FuncOk Go.Proofs.Try.prog tab 93 fi93 := ⟨Go.Proofs.Try.func93, by kernel_rfl, by kernel_rfl, by kernel_rfl, by kernel_rfl⟩
theorem fok94 : FuncOk Go.Proofs.Try.prog tab 94 fi94 := ⟨Go.Proofs.Try.func94, by kernel_rfl, by kernel_rfl, by kernel_rfl, by kernel_rfl⟩
theorem fok95 : FuncOk Go.Proofs.Try.prog tab 95 fi95 := ⟨Go.Proofs.Try.func95, by kernel_rfl, by kernel_rfl, by kernel_rfl, by kernel_rfl⟩
theorem fok96 : FuncOk Go.Proofs.Try.prog tab 96 fi96 := ⟨Go.Proofs.Try.func96, by kernel_rfl, by kernel_rfl, by kernel_rfl, by kernel_rfl⟩
theorem fok97 : FuncOk Go.Proofs.Try.prog tab 97 fi97 := ⟨Go.Proofs.Try.func97, by kernel_rfl, by kernel_rfl, by kernel_rfl, by kernel_rfl⟩
theorem fok98 : FuncOk Go.Proofs.Try.prog tab 98 fi98 := ⟨Go.Proofs.Try.func98, by kernel_rfl, by kernel_rfl, by kernel_rfl, by kernel_rfl⟩
theorem fok99 : FuncOk Go.Proofs.Try.prog tab 99 fi99 := ⟨Go.Proofs.Try.func99, by kernel_rfl, by kernel_rfl, by kernel_rfl, by kernel_rfl⟩
theorem fok106 : FuncOk Go.Proofs.Try.prog tab 106 fi106 := ⟨Go.Proofs.Try.func106, by kernel_rfl, by kernel_rfl, by kernel_rfl, by kernel_rfl⟩
theorem fok107 : FuncOk Go.Proofs.Try.prog tab 107 fi107 := ⟨Go.Proofs.Try.func107, by kernel_rfl, by kernel_rfl, by kernel_rfl, by kernel_rfl⟩
theorem fok108 : FuncOk Go.Proofs.Try.prog tab 108 fi108 := ⟨Go.Proofs.Try.func108, by kernel_rfl, by kernel_rfl, by kernel_rfl, by kernel_rfl⟩
theorem fok110 : FuncOk Go.Proofs.Try.prog tab 110 fi110 := ⟨Go.Proofs.Try.func110, by kernel_rfl, by kernel_rfl, by kernel_rfl, by kernel_rfl⟩
theorem tabOk (h : PrimsOk Go.Proofs.Try.prog tab) : TabOk Go.Proofs.Try.prog tab := tabOk_of
  ⟨tok3, tok4, tok9, tok22, tok24, tok31, tok41, tok42, tok43, tok45, tok51, tok55, tok58, tok66, tok71, tok72, tok74, tok80, tok83, tok88, tok91, tok95, tok116, trivial⟩
  ⟨fok3, fok4, fok5, fok6, fok7, fok8, fok9, fok10, fok11, fok12, fok13, fok14, fok15, fok16, fok17, fok18, fok19, fok20, fok21, fok22, fok23, fok24, fok25, fok26, fok27, fok28, fok29, fok30, fok31, fok32, fok33, fok34, fok35, fok36, fok37, fok38, fok39, fok40, fok41, fok42, fok43, fok44, fok45, fok46, fok47, fok48, fok49, fok50, fok53, fok54, fok55, fok56, fok57, fok58, fok59, fok60, fok61, fok62, fok63, fok64, fok65, fok66, fok67, fok68, fok69, fok70, fok71, fok72, fok73, fok74, fok75, fok77, fok88, fok89, fok90, fok91, fok92, fok93, fok94, fok95, fok96, fok97, fok98, fok99, fok106, fok107, fok108, fok110, trivial⟩ (by kernel_rfl) h
end Go.Skm.Sct
