/-
  The tables are those of the program; no condition.
-/
import Derived.Test.YtfmoopdnamdobaaDoorSkmG
import Derived.Test.YtfmoopdnamdobaaDoorTab
import Derived.KernelRfl
namespace Go.Skm.Prg
open Go Go.Skm
theorem tok3:mkTI Go.Proofs.Tryd.prog 3=some ty3:=by kernel_rfl
theorem tok4:mkTI Go.Proofs.Tryd.prog 4=some ty4:=by kernel_rfl
theorem tok5:mkTI Go.Proofs.Tryd.prog 5=some ty5:=by kernel_rfl
theorem tok9:mkTI Go.Proofs.Tryd.prog 9=some ty9:=by kernel_rfl
theorem tok23:mkTI Go.Proofs.Tryd.prog 23=some ty23:=by kernel_rfl
theorem tok24:mkTI Go.Proofs.Tryd.prog 24=some ty24:=by kernel_rfl
theorem tok25:mkTI Go.Proofs.Tryd.prog 25=some ty25:=by kernel_rfl
theorem tok27:mkTI Go.Proofs.Tryd.prog 27=some ty27:=by kernel_rfl
theorem tok28:mkTI Go.Proofs.Tryd.prog 28=some ty28:=by kernel_rfl
theorem tok29:mkTI Go.Proofs.Tryd.prog 29=some ty29:=by kernel_rfl
theorem tok31:mkTI Go.Proofs.Tryd.prog 31=some ty31:=by kernel_rfl
theorem tok34:mkTI Go.Proofs.Tryd.prog 34=some ty34:=by kernel_rfl
theorem tok37:mkTI Go.Proofs.Tryd.prog 37=some ty37:=by kernel_rfl
theorem tok40:mkTI Go.Proofs.Tryd.prog 40=some ty40:=by kernel_rfl
theorem tok60:mkTI Go.Proofs.Tryd.prog 60=some ty60:=by kernel_rfl
theorem tok63:mkTI Go.Proofs.Tryd.prog 63=some ty63:=by kernel_rfl
theorem tok74:mkTI Go.Proofs.Tryd.prog 74=some ty74:=by kernel_rfl
theorem tok76:mkTI Go.Proofs.Tryd.prog 76=some ty76:=by kernel_rfl
theorem tok82:mkTI Go.Proofs.Tryd.prog 82=some ty82:=by kernel_rfl
theorem tok98:mkTI Go.Proofs.Tryd.prog 98=some ty98:=by kernel_rfl
theorem tok99:mkTI Go.Proofs.Tryd.prog 99=some ty99:=by kernel_rfl
theorem tok100:mkTI Go.Proofs.Tryd.prog 100=some ty100:=by kernel_rfl
theorem tok110:mkTI Go.Proofs.Tryd.prog 110=some ty110:=by kernel_rfl
theorem tok112:mkTI Go.Proofs.Tryd.prog 112=some ty112:=by kernel_rfl
theorem tok114:mkTI Go.Proofs.Tryd.prog 114=some ty114:=by kernel_rfl
theorem tok118:mkTI Go.Proofs.Tryd.prog 118=some ty118:=by kernel_rfl
theorem tok125:mkTI Go.Proofs.Tryd.prog 125=some ty125:=by kernel_rfl
theorem tok128:mkTI Go.Proofs.Tryd.prog 128=some ty128:=by kernel_rfl
theorem tok133:mkTI Go.Proofs.Tryd.prog 133=some ty133:=by kernel_rfl
theorem tok141:mkTI Go.Proofs.Tryd.prog 141=some ty141:=by kernel_rfl
theorem tok150:mkTI Go.Proofs.Tryd.prog 150=some ty150:=by kernel_rfl
theorem tok153:mkTI Go.Proofs.Tryd.prog 153=some ty153:=by kernel_rfl
theorem fok3:FuncOk Go.Proofs.Tryd.prog tab 3 fi3:=⟨Go.Proofs.Tryd.func3,by kernel_rfl,by kernel_rfl,by kernel_rfl,by kernel_rfl⟩
theorem fok4:FuncOk Go.Proofs.Tryd.prog tab 4 fi4:=⟨Go.Proofs.Tryd.func4,by kernel_rfl,by kernel_rfl,by kernel_rfl,by kernel_rfl⟩
theorem fok5:FuncOk Go.Proofs.Tryd.prog tab 5 fi5:=⟨Go.Proofs.Tryd.func5,by kernel_rfl,by kernel_rfl,by kernel_rfl,by kernel_rfl⟩
theorem fok6:FuncOk Go.Proofs.Tryd.prog tab 6 fi6:=⟨Go.Proofs.Tryd.func6,by kernel_rfl,by kernel_rfl,by kernel_rfl,by kernel_rfl⟩
theorem fok8:FuncOk Go.Proofs.Tryd.prog tab 8 fi8:=⟨Go.Proofs.Tryd.func8,by kernel_rfl,by kernel_rfl,by kernel_rfl,by kernel_rfl⟩
theorem fok9:FuncOk Go.Proofs.Tryd.prog tab 9 fi9:=⟨Go.Proofs.Tryd.func9,by kernel_rfl,by kernel_rfl,by kernel_rfl,by kernel_rfl⟩
theorem fok10:FuncOk Go.Proofs.Tryd.prog tab 10 fi10:=⟨Go.Proofs.Tryd.func10,by kernel_rfl,by kernel_rfl,by kernel_rfl,by kernel_rfl⟩
theorem fok11:FuncOk Go.Proofs.Tryd.prog tab 11 fi11:=⟨Go.Proofs.Tryd.func11,by kernel_rfl,by kernel_rfl,by kernel_rfl,by kernel_rfl⟩
theorem fok12:FuncOk Go.Proofs.Tryd.prog tab 12 fi12:=⟨Go.Proofs.Tryd.func12,by kernel_rfl,by kernel_rfl,by kernel_rfl,by kernel_rfl⟩
theorem fok13:FuncOk Go.Proofs.Tryd.prog tab 13 fi13:=⟨Go.Proofs.Tryd.func13,by kernel_rfl,by kernel_rfl,by kernel_rfl,by kernel_rfl⟩
theorem fok14:FuncOk Go.Proofs.Tryd.prog tab 14 fi14:=⟨Go.Proofs.Tryd.func14,by kernel_rfl,by kernel_rfl,by kernel_rfl,by kernel_rfl⟩
theorem fok15:FuncOk Go.Proofs.Tryd.prog tab 15 fi15:=⟨Go.Proofs.Tryd.func15,by kernel_rfl,by kernel_rfl,by kernel_rfl,by kernel_rfl⟩
theorem fok16:FuncOk Go.Proofs.Tryd.prog tab 16 fi16:=⟨Go.Proofs.Tryd.func16,by kernel_rfl,by kernel_rfl,by kernel_rfl,by kernel_rfl⟩
theorem fok17:FuncOk Go.Proofs.Tryd.prog tab 17 fi17:=⟨Go.Proofs.Tryd.func17,by kernel_rfl,by kernel_rfl,by kernel_rfl,by kernel_rfl⟩
theorem fok18:FuncOk Go.Proofs.Tryd.prog tab 18 fi18:=⟨Go.Proofs.Tryd.func18,by kernel_rfl,by kernel_rfl,by kernel_rfl,by kernel_rfl⟩
theorem fok19:FuncOk Go.Proofs.Tryd.prog tab 19 fi19:=⟨Go.Proofs.Tryd.func19,by kernel_rfl,by kernel_rfl,by kernel_rfl,by kernel_rfl⟩
theorem fok20:FuncOk Go.Proofs.Tryd.prog tab 20 fi20:=⟨Go.Proofs.Tryd.func20,by kernel_rfl,by kernel_rfl,by kernel_rfl,by kernel_rfl⟩
theorem fok21:FuncOk Go.Proofs.Tryd.prog tab 21 fi21:=⟨Go.Proofs.Tryd.func21,by kernel_rfl,by kernel_rfl,by kernel_rfl,by kernel_rfl⟩
theorem fok22:FuncOk Go.Proofs.Tryd.prog tab 22 fi22:=⟨Go.Proofs.Tryd.func22,by kernel_rfl,by kernel_rfl,by kernel_rfl,by kernel_rfl⟩
theorem fok23:FuncOk Go.Proofs.Tryd.prog tab 23 fi23:=⟨Go.Proofs.Tryd.func23,by kernel_rfl,by kernel_rfl,by kernel_rfl,by kernel_rfl⟩
theorem fok24:FuncOk Go.Proofs.Tryd.prog tab 24 fi24:=⟨Go.Proofs.Tryd.func24,by kernel_rfl,by kernel_rfl,by kernel_rfl,by kernel_rfl⟩
theorem fok25:FuncOk Go.Proofs.Tryd.prog tab 25 fi25:=⟨Go.Proofs.Tryd.func25,by kernel_rfl,by kernel_rfl,by kernel_rfl,by kernel_rfl⟩
theorem fok26:FuncOk Go.Proofs.Tryd.prog tab 26 fi26:=⟨Go.Proofs.Tryd.func26,by kernel_rfl,by kernel_rfl,by kernel_rfl,by kernel_rfl⟩
theorem fok27:FuncOk Go.Proofs.Tryd.prog tab 27 fi27:=⟨Go.Proofs.Tryd.func27,by kernel_rfl,by kernel_rfl,by kernel_rfl,by kernel_rfl⟩
theorem fok28:FuncOk Go.Proofs.Tryd.prog tab 28 fi28:=⟨Go.Proofs.Tryd.func28,by kernel_rfl,by kernel_rfl,by kernel_rfl,by kernel_rfl⟩
theorem fok29:FuncOk Go.Proofs.Tryd.prog tab 29 fi29:=⟨Go.Proofs.Tryd.func29,by kernel_rfl,by kernel_rfl,by kernel_rfl,by kernel_rfl⟩
theorem fok30:FuncOk Go.Proofs.Tryd.prog tab 30 fi30:=⟨Go.Proofs.Tryd.func30,by kernel_rfl,by kernel_rfl,by kernel_rfl,by kernel_rfl⟩
theorem fok32:FuncOk Go.Proofs.Tryd.prog tab 32 fi32:=⟨Go.Proofs.Tryd.func32,by kernel_rfl,by kernel_rfl,by kernel_rfl,by kernel_rfl⟩
theorem fok33:FuncOk Go.Proofs.Tryd.prog tab 33 fi33:=⟨Go.Proofs.Tryd.func33,by kernel_rfl,by kernel_rfl,by kernel_rfl,by kernel_rfl⟩
theorem fok34:FuncOk Go.Proofs.Tryd.prog tab 34 fi34:=⟨Go.Proofs.Tryd.func34,by kernel_rfl,by kernel_rfl,by kernel_rfl,by kernel_rfl⟩
theorem fok35:FuncOk Go.Proofs.Tryd.prog tab 35 fi35:=⟨Go.Proofs.Tryd.func35,by kernel_rfl,by kernel_rfl,by kernel_rfl,by kernel_rfl⟩
theorem fok36:FuncOk Go.Proofs.Tryd.prog tab 36 fi36:=⟨Go.Proofs.Tryd.func36,by kernel_rfl,by kernel_rfl,by kernel_rfl,by kernel_rfl⟩
theorem fok37:FuncOk Go.Proofs.Tryd.prog tab 37 fi37:=⟨Go.Proofs.Tryd.func37,by kernel_rfl,by kernel_rfl,by kernel_rfl,by kernel_rfl⟩
theorem fok38:FuncOk Go.Proofs.Tryd.prog tab 38 fi38:=⟨Go.Proofs.Tryd.func38,by kernel_rfl,by kernel_rfl,by kernel_rfl,by kernel_rfl⟩
theorem fok39:FuncOk Go.Proofs.Tryd.prog tab 39 fi39:=⟨Go.Proofs.Tryd.func39,by kernel_rfl,by kernel_rfl,by kernel_rfl,by kernel_rfl⟩
theorem fok40:FuncOk Go.Proofs.Tryd.prog tab 40 fi40:=⟨Go.Proofs.Tryd.func40,by kernel_rfl,by kernel_rfl,by kernel_rfl,by kernel_rfl⟩
theorem fok41:FuncOk Go.Proofs.Tryd.prog tab 41 fi41:=⟨Go.Proofs.Tryd.func41,by kernel_rfl,by kernel_rfl,by kernel_rfl,by kernel_rfl⟩
theorem fok42:FuncOk Go.Proofs.Tryd.prog tab 42 fi42:=⟨Go.Proofs.Tryd.func42,by kernel_rfl,by kernel_rfl,by kernel_rfl,by kernel_rfl⟩
theorem fok43:FuncOk Go.Proofs.Tryd.prog tab 43 fi43:=⟨Go.Proofs.Tryd.func43,by kernel_rfl,by kernel_rfl,by kernel_rfl,by kernel_rfl⟩
theorem fok44:FuncOk Go.Proofs.Tryd.prog tab 44 fi44:=⟨Go.Proofs.Tryd.func44,by kernel_rfl,by kernel_rfl,by kernel_rfl,by kernel_rfl⟩
theorem fok45:FuncOk Go.Proofs.Tryd.prog tab 45 fi45:=⟨Go.Proofs.Tryd.func45,by kernel_rfl,by kernel_rfl,by kernel_rfl,by kernel_rfl⟩
theorem fok46:FuncOk Go.Proofs.Tryd.prog tab 46 fi46:=⟨Go.Proofs.Tryd.func46,by kernel_rfl,by kernel_rfl,by kernel_rfl,by kernel_rfl⟩
theorem fok47:FuncOk Go.Proofs.Tryd.prog tab 47 fi47:=⟨Go.Proofs.Tryd.func47,by kernel_rfl,by kernel_rfl,by kernel_rfl,by kernel_rfl⟩
theorem fok48:FuncOk Go.Proofs.Tryd.prog tab 48 fi48:=⟨Go.Proofs.Tryd.func48,by kernel_rfl,by kernel_rfl,by kernel_rfl,by kernel_rfl⟩
theorem fok54:FuncOk Go.Proofs.Tryd.prog tab 54 fi54:=⟨Go.Proofs.Tryd.func54,by kernel_rfl,by kernel_rfl,by kernel_rfl,by kernel_rfl⟩
theorem fok55:FuncOk Go.Proofs.Tryd.prog tab 55 fi55:=⟨Go.Proofs.Tryd.func55,by kernel_rfl,by kernel_rfl,by kernel_rfl,by kernel_rfl⟩
theorem fok56:FuncOk Go.Proofs.Tryd.prog tab 56 fi56:=⟨Go.Proofs.Tryd.func56,by kernel_rfl,by kernel_rfl,by kernel_rfl,by kernel_rfl⟩
theorem fok57:FuncOk Go.Proofs.Tryd.prog tab 57 fi57:=⟨Go.Proofs.Tryd.func57,by kernel_rfl,by kernel_rfl,by kernel_rfl,by kernel_rfl⟩
theorem fok58:FuncOk Go.Proofs.Tryd.prog tab 58 fi58:=⟨Go.Proofs.Tryd.func58,by kernel_rfl,by kernel_rfl,by kernel_rfl,by kernel_rfl⟩
theorem fok59:FuncOk Go.Proofs.Tryd.prog tab 59 fi59:=⟨Go.Proofs.Tryd.func59,by kernel_rfl,by kernel_rfl,by kernel_rfl,by kernel_rfl⟩
theorem fok60:FuncOk Go.Proofs.Tryd.prog tab 60 fi60:=⟨Go.Proofs.Tryd.func60,by kernel_rfl,by kernel_rfl,by kernel_rfl,by kernel_rfl⟩
theorem fok61:FuncOk Go.Proofs.Tryd.prog tab 61 fi61:=⟨Go.Proofs.Tryd.func61,by kernel_rfl,by kernel_rfl,by kernel_rfl,by kernel_rfl⟩
theorem fok62:FuncOk Go.Proofs.Tryd.prog tab 62 fi62:=⟨Go.Proofs.Tryd.func62,by kernel_rfl,by kernel_rfl,by kernel_rfl,by kernel_rfl⟩
theorem fok63:FuncOk Go.Proofs.Tryd.prog tab 63 fi63:=⟨Go.Proofs.Tryd.func63,by kernel_rfl,by kernel_rfl,by kernel_rfl,by kernel_rfl⟩
theorem fok64:FuncOk Go.Proofs.Tryd.prog tab 64 fi64:=⟨Go.Proofs.Tryd.func64,by kernel_rfl,by kernel_rfl,by kernel_rfl,by kernel_rfl⟩
theorem fok65:FuncOk Go.Proofs.Tryd.prog tab 65 fi65:=⟨Go.Proofs.Tryd.func65,by kernel_rfl,by kernel_rfl,by kernel_rfl,by kernel_rfl⟩
theorem fok66:FuncOk Go.Proofs.Tryd.prog tab 66 fi66:=⟨Go.Proofs.Tryd.func66,by kernel_rfl,by kernel_rfl,by kernel_rfl,by kernel_rfl⟩
theorem fok67:FuncOk Go.Proofs.Tryd.prog tab 67 fi67:=⟨Go.Proofs.Tryd.func67,by kernel_rfl,by kernel_rfl,by kernel_rfl,by kernel_rfl⟩
theorem fok68:FuncOk Go.Proofs.Tryd.prog tab 68 fi68:=⟨Go.Proofs.Tryd.func68,by kernel_rfl,by kernel_rfl,by kernel_rfl,by kernel_rfl⟩
theorem fok69:FuncOk Go.Proofs.Tryd.prog tab 69 fi69:=⟨Go.Proofs.Tryd.func69,by kernel_rfl,by kernel_rfl,by kernel_rfl,by kernel_rfl⟩
theorem fok70:FuncOk Go.Proofs.Tryd.prog tab 70 fi70:=⟨Go.Proofs.Tryd.func70,by kernel_rfl,by kernel_rfl,by kernel_rfl,by kernel_rfl⟩
theorem fok71:FuncOk Go.Proofs.Tryd.prog tab 71 fi71:=⟨Go.Proofs.Tryd.func71,by kernel_rfl,by kernel_rfl,by kernel_rfl,by kernel_rfl⟩
theorem fok72:FuncOk Go.Proofs.Tryd.prog tab 72 fi72:=⟨Go.Proofs.Tryd.func72,by kernel_rfl,by kernel_rfl,by kernel_rfl,by kernel_rfl⟩
theorem fok73:FuncOk Go.Proofs.Tryd.prog tab 73 fi73:=⟨Go.Proofs.Tryd.func73,by kernel_rfl,by kernel_rfl,by kernel_rfl,by kernel_rfl⟩
theorem fok74:FuncOk Go.Proofs.Tryd.prog tab 74 fi74:=⟨Go.Proofs.Tryd.func74,by kernel_rfl,by kernel_rfl,by kernel_rfl,by kernel_rfl⟩
theorem fok75:FuncOk Go.Proofs.Tryd.prog tab 75 fi75:=⟨Go.Proofs.Tryd.func75,by kernel_rfl,by kernel_rfl,by kernel_rfl,by kernel_rfl⟩
theorem fok79:FuncOk Go.Proofs.Tryd.prog tab 79 fi79:=⟨Go.Proofs.Tryd.func79,by kernel_rfl,by kernel_rfl,by kernel_rfl,by kernel_rfl⟩
theorem fok80:FuncOk Go.Proofs.Tryd.prog tab 80 fi80:=⟨Go.Proofs.Tryd.func80,by kernel_rfl,by kernel_rfl,by kernel_rfl,by kernel_rfl⟩
theorem fok81:FuncOk Go.Proofs.Tryd.prog tab 81 fi81:=⟨Go.Proofs.Tryd.func81,by kernel_rfl,by kernel_rfl,by kernel_rfl,by kernel_rfl⟩
theorem fok82:FuncOk Go.Proofs.Tryd.prog tab 82 fi82:=⟨Go.Proofs.Tryd.func82,by kernel_rfl,by kernel_rfl,by kernel_rfl,by kernel_rfl⟩
theorem fok83:FuncOk Go.Proofs.Tryd.prog tab 83 fi83:=⟨Go.Proofs.Tryd.func83,by kernel_rfl,by kernel_rfl,by kernel_rfl,by kernel_rfl⟩
theorem fok84:FuncOk Go.Proofs.Tryd.prog tab 84 fi84:=⟨Go.Proofs.Tryd.func84,by kernel_rfl,by kernel_rfl,by kernel_rfl,by kernel_rfl⟩
theorem fok88:FuncOk Go.Proofs.Tryd.prog tab 88 fi88:=⟨Go.Proofs.Tryd.func88,by kernel_rfl,by kernel_rfl,by kernel_rfl,by kernel_rfl⟩
theorem fok89:FuncOk Go.Proofs.Tryd.prog tab 89 fi89:=⟨Go.Proofs.Tryd.func89,by kernel_rfl,by kernel_rfl,by kernel_rfl,by kernel_rfl⟩
theorem fok90:FuncOk Go.Proofs.Tryd.prog tab 90 fi90:=⟨Go.Proofs.Tryd.func90,by kernel_rfl,by kernel_rfl,by kernel_rfl,by kernel_rfl⟩
theorem fok94:FuncOk Go.Proofs.Tryd.prog tab 94 fi94:=⟨Go.Proofs.Tryd.func94,by kernel_rfl,by kernel_rfl,by kernel_rfl,by kernel_rfl⟩
theorem fok95:FuncOk Go.Proofs.Tryd.prog tab 95 fi95:=⟨Go.Proofs.Tryd.func95,by kernel_rfl,by kernel_rfl,by kernel_rfl,by kernel_rfl⟩
theorem fok101:FuncOk Go.Proofs.Tryd.prog tab 101 fi101:=⟨Go.Proofs.Tryd.func101,by kernel_rfl,by kernel_rfl,by kernel_rfl,by kernel_rfl⟩
theorem fok102:FuncOk Go.Proofs.Tryd.prog tab 102 fi102:=⟨Go.Proofs.Tryd.func102,by kernel_rfl,by kernel_rfl,by kernel_rfl,by kernel_rfl⟩
theorem fok103:FuncOk Go.Proofs.Tryd.prog tab 103 fi103:=⟨Go.Proofs.Tryd.func103,by kernel_rfl,by kernel_rfl,by kernel_rfl,by kernel_rfl⟩
theorem tabOk (h:PrimsOk Go.Proofs.Tryd.prog tab):TabOk Go.Proofs.Tryd.prog tab:=tabOk_of
 ⟨tok3,tok4,tok5,tok9,tok23,tok24,tok25,tok27,tok28,tok29,tok31,tok34,tok37,tok40,tok60,tok63,tok74,tok76,tok82,tok98,tok99,tok100,tok110,tok112,tok114,tok118,tok125,tok128,tok133,tok141,tok150,tok153,trivial⟩
 ⟨fok3,fok4,fok5,fok6,fok8,fok9,fok10,fok11,fok12,fok13,fok14,fok15,fok16,fok17,fok18,fok19,fok20,fok21,fok22,fok23,fok24,fok25,fok26,fok27,fok28,fok29,fok30,fok32,fok33,fok34,fok35,fok36,fok37,fok38,fok39,fok40,fok41,fok42,fok43,fok44,fok45,fok46,fok47,fok48,fok54,fok55,fok56,fok57,fok58,fok59,fok60,fok61,fok62,fok63,fok64,fok65,fok66,fok67,fok68,fok69,fok70,fok71,fok72,fok73,fok74,fok75,fok79,fok80,fok81,fok82,fok83,fok84,fok88,fok89,fok90,fok94,fok95,fok101,fok102,fok103,trivial⟩ (by kernel_rfl) h
end Go.Skm.Prg
