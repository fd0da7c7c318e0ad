/-
  The tables are those of the program; no condition.
-/
import Derived.Test.YtipkmkmngcjdbaaGreatDoorSkmG
import Derived.Test.YtipkmkmngcjdbaaGreatDoorTab
import Derived.KernelRfl
namespace Go.Skm.Fig
open Go Go.Skm
theorem tok3:mkTI Go.Proofs.Tryz.prog 3=some ty3:=by kernel_rfl
theorem tok4:mkTI Go.Proofs.Tryz.prog 4=some ty4:=by kernel_rfl
theorem tok5:mkTI Go.Proofs.Tryz.prog 5=some ty5:=by kernel_rfl
theorem tok9:mkTI Go.Proofs.Tryz.prog 9=some ty9:=by kernel_rfl
theorem tok23:mkTI Go.Proofs.Tryz.prog 23=some ty23:=by kernel_rfl
theorem tok26:mkTI Go.Proofs.Tryz.prog 26=some ty26:=by kernel_rfl
theorem tok27:mkTI Go.Proofs.Tryz.prog 27=some ty27:=by kernel_rfl
theorem tok43:mkTI Go.Proofs.Tryz.prog 43=some ty43:=by kernel_rfl
theorem tok44:mkTI Go.Proofs.Tryz.prog 44=some ty44:=by kernel_rfl
theorem tok45:mkTI Go.Proofs.Tryz.prog 45=some ty45:=by kernel_rfl
theorem tok47:mkTI Go.Proofs.Tryz.prog 47=some ty47:=by kernel_rfl
theorem tok50:mkTI Go.Proofs.Tryz.prog 50=some ty50:=by kernel_rfl
theorem tok58:mkTI Go.Proofs.Tryz.prog 58=some ty58:=by kernel_rfl
theorem tok60:mkTI Go.Proofs.Tryz.prog 60=some ty60:=by kernel_rfl
theorem tok64:mkTI Go.Proofs.Tryz.prog 64=some ty64:=by kernel_rfl
theorem tok65:mkTI Go.Proofs.Tryz.prog 65=some ty65:=by kernel_rfl
theorem tok69:mkTI Go.Proofs.Tryz.prog 69=some ty69:=by kernel_rfl
theorem tok70:mkTI Go.Proofs.Tryz.prog 70=some ty70:=by kernel_rfl
theorem tok72:mkTI Go.Proofs.Tryz.prog 72=some ty72:=by kernel_rfl
theorem tok74:mkTI Go.Proofs.Tryz.prog 74=some ty74:=by kernel_rfl
theorem tok83:mkTI Go.Proofs.Tryz.prog 83=some ty83:=by kernel_rfl
theorem tok91:mkTI Go.Proofs.Tryz.prog 91=some ty91:=by kernel_rfl
theorem tok96:mkTI Go.Proofs.Tryz.prog 96=some ty96:=by kernel_rfl
theorem tok99:mkTI Go.Proofs.Tryz.prog 99=some ty99:=by kernel_rfl
theorem tok103:mkTI Go.Proofs.Tryz.prog 103=some ty103:=by kernel_rfl
theorem tok107:mkTI Go.Proofs.Tryz.prog 107=some ty107:=by kernel_rfl
theorem tok109:mkTI Go.Proofs.Tryz.prog 109=some ty109:=by kernel_rfl
theorem tok111:mkTI Go.Proofs.Tryz.prog 111=some ty111:=by kernel_rfl
theorem tok117:mkTI Go.Proofs.Tryz.prog 117=some ty117:=by kernel_rfl
theorem fok3:FuncOk Go.Proofs.Tryz.prog tab 3 fi3:=⟨Go.Proofs.Tryz.func3,by kernel_rfl,by kernel_rfl,by kernel_rfl,by kernel_rfl⟩
theorem fok4:FuncOk Go.Proofs.Tryz.prog tab 4 fi4:=⟨Go.Proofs.Tryz.func4,by kernel_rfl,by kernel_rfl,by kernel_rfl,by kernel_rfl⟩
theorem fok5:FuncOk Go.Proofs.Tryz.prog tab 5 fi5:=⟨Go.Proofs.Tryz.func5,by kernel_rfl,by kernel_rfl,by kernel_rfl,by kernel_rfl⟩
theorem fok7:FuncOk Go.Proofs.Tryz.prog tab 7 fi7:=⟨Go.Proofs.Tryz.func7,by kernel_rfl,by kernel_rfl,by kernel_rfl,by kernel_rfl⟩
theorem fok8:FuncOk Go.Proofs.Tryz.prog tab 8 fi8:=⟨Go.Proofs.Tryz.func8,by kernel_rfl,by kernel_rfl,by kernel_rfl,by kernel_rfl⟩
theorem fok9:FuncOk Go.Proofs.Tryz.prog tab 9 fi9:=⟨Go.Proofs.Tryz.func9,by kernel_rfl,by kernel_rfl,by kernel_rfl,by kernel_rfl⟩
theorem fok10:FuncOk Go.Proofs.Tryz.prog tab 10 fi10:=⟨Go.Proofs.Tryz.func10,by kernel_rfl,by kernel_rfl,by kernel_rfl,by kernel_rfl⟩
theorem fok11:FuncOk Go.Proofs.Tryz.prog tab 11 fi11:=⟨Go.Proofs.Tryz.func11,by kernel_rfl,by kernel_rfl,by kernel_rfl,by kernel_rfl⟩
theorem fok12:FuncOk Go.Proofs.Tryz.prog tab 12 fi12:=⟨Go.Proofs.Tryz.func12,by kernel_rfl,by kernel_rfl,by kernel_rfl,by kernel_rfl⟩
theorem fok13:FuncOk Go.Proofs.Tryz.prog tab 13 fi13:=⟨Go.Proofs.Tryz.func13,by kernel_rfl,by kernel_rfl,by kernel_rfl,by kernel_rfl⟩
theorem fok14:FuncOk Go.Proofs.Tryz.prog tab 14 fi14:=⟨Go.Proofs.Tryz.func14,by kernel_rfl,by kernel_rfl,by kernel_rfl,by kernel_rfl⟩
theorem fok15:FuncOk Go.Proofs.Tryz.prog tab 15 fi15:=⟨Go.Proofs.Tryz.func15,by kernel_rfl,by kernel_rfl,by kernel_rfl,by kernel_rfl⟩
theorem fok16:FuncOk Go.Proofs.Tryz.prog tab 16 fi16:=⟨Go.Proofs.Tryz.func16,by kernel_rfl,by kernel_rfl,by kernel_rfl,by kernel_rfl⟩
theorem fok17:FuncOk Go.Proofs.Tryz.prog tab 17 fi17:=⟨Go.Proofs.Tryz.func17,by kernel_rfl,by kernel_rfl,by kernel_rfl,by kernel_rfl⟩
theorem fok18:FuncOk Go.Proofs.Tryz.prog tab 18 fi18:=⟨Go.Proofs.Tryz.func18,by kernel_rfl,by kernel_rfl,by kernel_rfl,by kernel_rfl⟩
theorem fok19:FuncOk Go.Proofs.Tryz.prog tab 19 fi19:=⟨Go.Proofs.Tryz.func19,by kernel_rfl,by kernel_rfl,by kernel_rfl,by kernel_rfl⟩
theorem fok20:FuncOk Go.Proofs.Tryz.prog tab 20 fi20:=⟨Go.Proofs.Tryz.func20,by kernel_rfl,by kernel_rfl,by kernel_rfl,by kernel_rfl⟩
theorem fok21:FuncOk Go.Proofs.Tryz.prog tab 21 fi21:=⟨Go.Proofs.Tryz.func21,by kernel_rfl,by kernel_rfl,by kernel_rfl,by kernel_rfl⟩
theorem fok22:FuncOk Go.Proofs.Tryz.prog tab 22 fi22:=⟨Go.Proofs.Tryz.func22,by kernel_rfl,by kernel_rfl,by kernel_rfl,by kernel_rfl⟩
theorem fok25:FuncOk Go.Proofs.Tryz.prog tab 25 fi25:=⟨Go.Proofs.Tryz.func25,by kernel_rfl,by kernel_rfl,by kernel_rfl,by kernel_rfl⟩
theorem fok26:FuncOk Go.Proofs.Tryz.prog tab 26 fi26:=⟨Go.Proofs.Tryz.func26,by kernel_rfl,by kernel_rfl,by kernel_rfl,by kernel_rfl⟩
theorem fok27:FuncOk Go.Proofs.Tryz.prog tab 27 fi27:=⟨Go.Proofs.Tryz.func27,by kernel_rfl,by kernel_rfl,by kernel_rfl,by kernel_rfl⟩
theorem fok28:FuncOk Go.Proofs.Tryz.prog tab 28 fi28:=⟨Go.Proofs.Tryz.func28,by kernel_rfl,by kernel_rfl,by kernel_rfl,by kernel_rfl⟩
theorem fok29:FuncOk Go.Proofs.Tryz.prog tab 29 fi29:=⟨Go.Proofs.Tryz.func29,by kernel_rfl,by kernel_rfl,by kernel_rfl,by kernel_rfl⟩
theorem fok30:FuncOk Go.Proofs.Tryz.prog tab 30 fi30:=⟨Go.Proofs.Tryz.func30,by kernel_rfl,by kernel_rfl,by kernel_rfl,by kernel_rfl⟩
theorem fok31:FuncOk Go.Proofs.Tryz.prog tab 31 fi31:=⟨Go.Proofs.Tryz.func31,by kernel_rfl,by kernel_rfl,by kernel_rfl,by kernel_rfl⟩
theorem fok32:FuncOk Go.Proofs.Tryz.prog tab 32 fi32:=⟨Go.Proofs.Tryz.func32,by kernel_rfl,by kernel_rfl,by kernel_rfl,by kernel_rfl⟩
theorem fok33:FuncOk Go.Proofs.Tryz.prog tab 33 fi33:=⟨Go.Proofs.Tryz.func33,by kernel_rfl,by kernel_rfl,by kernel_rfl,by kernel_rfl⟩
theorem fok34:FuncOk Go.Proofs.Tryz.prog tab 34 fi34:=⟨Go.Proofs.Tryz.func34,by kernel_rfl,by kernel_rfl,by kernel_rfl,by kernel_rfl⟩
theorem fok35:FuncOk Go.Proofs.Tryz.prog tab 35 fi35:=⟨Go.Proofs.Tryz.func35,by kernel_rfl,by kernel_rfl,by kernel_rfl,by kernel_rfl⟩
theorem fok36:FuncOk Go.Proofs.Tryz.prog tab 36 fi36:=⟨Go.Proofs.Tryz.func36,by kernel_rfl,by kernel_rfl,by kernel_rfl,by kernel_rfl⟩
theorem fok37:FuncOk Go.Proofs.Tryz.prog tab 37 fi37:=⟨Go.Proofs.Tryz.func37,by kernel_rfl,by kernel_rfl,by kernel_rfl,by kernel_rfl⟩
theorem fok38:FuncOk Go.Proofs.Tryz.prog tab 38 fi38:=⟨Go.Proofs.Tryz.func38,by kernel_rfl,by kernel_rfl,by kernel_rfl,by kernel_rfl⟩
theorem fok39:FuncOk Go.Proofs.Tryz.prog tab 39 fi39:=⟨Go.Proofs.Tryz.func39,by kernel_rfl,by kernel_rfl,by kernel_rfl,by kernel_rfl⟩
theorem fok40:FuncOk Go.Proofs.Tryz.prog tab 40 fi40:=⟨Go.Proofs.Tryz.func40,by kernel_rfl,by kernel_rfl,by kernel_rfl,by kernel_rfl⟩
theorem fok41:FuncOk Go.Proofs.Tryz.prog tab 41 fi41:=⟨Go.Proofs.Tryz.func41,by kernel_rfl,by kernel_rfl,by kernel_rfl,by kernel_rfl⟩
theorem fok42:FuncOk Go.Proofs.Tryz.prog tab 42 fi42:=⟨Go.Proofs.Tryz.func42,by kernel_rfl,by kernel_rfl,by kernel_rfl,by kernel_rfl⟩
theorem fok43:FuncOk Go.Proofs.Tryz.prog tab 43 fi43:=⟨Go.Proofs.Tryz.func43,by kernel_rfl,by kernel_rfl,by kernel_rfl,by kernel_rfl⟩
theorem fok44:FuncOk Go.Proofs.Tryz.prog tab 44 fi44:=⟨Go.Proofs.Tryz.func44,by kernel_rfl,by kernel_rfl,by kernel_rfl,by kernel_rfl⟩
theorem fok45:FuncOk Go.Proofs.Tryz.prog tab 45 fi45:=⟨Go.Proofs.Tryz.func45,by kernel_rfl,by kernel_rfl,by kernel_rfl,by kernel_rfl⟩
theorem fok46:FuncOk Go.Proofs.Tryz.prog tab 46 fi46:=⟨Go.Proofs.Tryz.func46,by kernel_rfl,by kernel_rfl,by kernel_rfl,by kernel_rfl⟩
theorem fok47:FuncOk Go.Proofs.Tryz.prog tab 47 fi47:=⟨Go.Proofs.Tryz.func47,by kernel_rfl,by kernel_rfl,by kernel_rfl,by kernel_rfl⟩
theorem fok48:FuncOk Go.Proofs.Tryz.prog tab 48 fi48:=⟨Go.Proofs.Tryz.func48,by kernel_rfl,by kernel_rfl,by kernel_rfl,by kernel_rfl⟩
theorem fok49:FuncOk Go.Proofs.Tryz.prog tab 49 fi49:=⟨Go.Proofs.Tryz.func49,by kernel_rfl,by kernel_rfl,by kernel_rfl,by kernel_rfl⟩
theorem fok50:FuncOk Go.Proofs.Tryz.prog tab 50 fi50:=⟨Go.Proofs.Tryz.func50,by kernel_rfl,by kernel_rfl,by kernel_rfl,by kernel_rfl⟩
theorem fok51:FuncOk Go.Proofs.Tryz.prog tab 51 fi51:=⟨Go.Proofs.Tryz.func51,by kernel_rfl,by kernel_rfl,by kernel_rfl,by kernel_rfl⟩
theorem fok52:FuncOk Go.Proofs.Tryz.prog tab 52 fi52:=⟨Go.Proofs.Tryz.func52,by kernel_rfl,by kernel_rfl,by kernel_rfl,by kernel_rfl⟩
theorem fok53:FuncOk Go.Proofs.Tryz.prog tab 53 fi53:=⟨Go.Proofs.Tryz.func53,by kernel_rfl,by kernel_rfl,by kernel_rfl,by kernel_rfl⟩
theorem fok54:FuncOk Go.Proofs.Tryz.prog tab 54 fi54:=⟨Go.Proofs.Tryz.func54,by kernel_rfl,by kernel_rfl,by kernel_rfl,by kernel_rfl⟩
theorem fok55:FuncOk Go.Proofs.Tryz.prog tab 55 fi55:=⟨Go.Proofs.Tryz.func55,by kernel_rfl,by kernel_rfl,by kernel_rfl,by kernel_rfl⟩
theorem fok56:FuncOk Go.Proofs.Tryz.prog tab 56 fi56:=⟨Go.Proofs.Tryz.func56,by kernel_rfl,by kernel_rfl,by kernel_rfl,by kernel_rfl⟩
theorem fok57:FuncOk Go.Proofs.Tryz.prog tab 57 fi57:=⟨Go.Proofs.Tryz.func57,by kernel_rfl,by kernel_rfl,by kernel_rfl,by kernel_rfl⟩
theorem fok58:FuncOk Go.Proofs.Tryz.prog tab 58 fi58:=⟨Go.Proofs.Tryz.func58,by kernel_rfl,by kernel_rfl,by kernel_rfl,by kernel_rfl⟩
theorem fok59:FuncOk Go.Proofs.Tryz.prog tab 59 fi59:=⟨Go.Proofs.Tryz.func59,by kernel_rfl,by kernel_rfl,by kernel_rfl,by kernel_rfl⟩
theorem fok60:FuncOk Go.Proofs.Tryz.prog tab 60 fi60:=⟨Go.Proofs.Tryz.func60,by kernel_rfl,by kernel_rfl,by kernel_rfl,by kernel_rfl⟩
theorem fok61:FuncOk Go.Proofs.Tryz.prog tab 61 fi61:=⟨Go.Proofs.Tryz.func61,by kernel_rfl,by kernel_rfl,by kernel_rfl,by kernel_rfl⟩
theorem fok64:FuncOk Go.Proofs.Tryz.prog tab 64 fi64:=⟨Go.Proofs.Tryz.func64,by kernel_rfl,by kernel_rfl,by kernel_rfl,by kernel_rfl⟩
theorem fok65:FuncOk Go.Proofs.Tryz.prog tab 65 fi65:=⟨Go.Proofs.Tryz.func65,by kernel_rfl,by kernel_rfl,by kernel_rfl,by kernel_rfl⟩
theorem fok66:FuncOk Go.Proofs.Tryz.prog tab 66 fi66:=⟨Go.Proofs.Tryz.func66,by kernel_rfl,by kernel_rfl,by kernel_rfl,by kernel_rfl⟩
theorem fok67:FuncOk Go.Proofs.Tryz.prog tab 67 fi67:=⟨Go.Proofs.Tryz.func67,by kernel_rfl,by kernel_rfl,by kernel_rfl,by kernel_rfl⟩
theorem fok68:FuncOk Go.Proofs.Tryz.prog tab 68 fi68:=⟨Go.Proofs.Tryz.func68,by kernel_rfl,by kernel_rfl,by kernel_rfl,by kernel_rfl⟩
theorem fok69:FuncOk Go.Proofs.Tryz.prog tab 69 fi69:=⟨Go.Proofs.Tryz.func69,by kernel_rfl,by kernel_rfl,by kernel_rfl,by kernel_rfl⟩
theorem fok70:FuncOk Go.Proofs.Tryz.prog tab 70 fi70:=⟨Go.Proofs.Tryz.func70,by kernel_rfl,by kernel_rfl,by kernel_rfl,by kernel_rfl⟩
theorem fok71:FuncOk Go.Proofs.Tryz.prog tab 71 fi71:=⟨Go.Proofs.Tryz.func71,by kernel_rfl,by kernel_rfl,by kernel_rfl,by kernel_rfl⟩
theorem fok73:FuncOk Go.Proofs.Tryz.prog tab 73 fi73:=⟨Go.Proofs.Tryz.func73,by kernel_rfl,by kernel_rfl,by kernel_rfl,by kernel_rfl⟩
theorem fok74:FuncOk Go.Proofs.Tryz.prog tab 74 fi74:=⟨Go.Proofs.Tryz.func74,by kernel_rfl,by kernel_rfl,by kernel_rfl,by kernel_rfl⟩
theorem fok75:FuncOk Go.Proofs.Tryz.prog tab 75 fi75:=⟨Go.Proofs.Tryz.func75,by kernel_rfl,by kernel_rfl,by kernel_rfl,by kernel_rfl⟩
theorem fok76:FuncOk Go.Proofs.Tryz.prog tab 76 fi76:=⟨Go.Proofs.Tryz.func76,by kernel_rfl,by kernel_rfl,by kernel_rfl,by kernel_rfl⟩
theorem fok77:FuncOk Go.Proofs.Tryz.prog tab 77 fi77:=⟨Go.Proofs.Tryz.func77,by kernel_rfl,by kernel_rfl,by kernel_rfl,by kernel_rfl⟩
theorem fok79:FuncOk Go.Proofs.Tryz.prog tab 79 fi79:=⟨Go.Proofs.Tryz.func79,by kernel_rfl,by kernel_rfl,by kernel_rfl,by kernel_rfl⟩
theorem fok80:FuncOk Go.Proofs.Tryz.prog tab 80 fi80:=⟨Go.Proofs.Tryz.func80,by kernel_rfl,by kernel_rfl,by kernel_rfl,by kernel_rfl⟩
theorem fok81:FuncOk Go.Proofs.Tryz.prog tab 81 fi81:=⟨Go.Proofs.Tryz.func81,by kernel_rfl,by kernel_rfl,by kernel_rfl,by kernel_rfl⟩
theorem fok82:FuncOk Go.Proofs.Tryz.prog tab 82 fi82:=⟨Go.Proofs.Tryz.func82,by kernel_rfl,by kernel_rfl,by kernel_rfl,by kernel_rfl⟩
theorem fok83:FuncOk Go.Proofs.Tryz.prog tab 83 fi83:=⟨Go.Proofs.Tryz.func83,by kernel_rfl,by kernel_rfl,by kernel_rfl,by kernel_rfl⟩
theorem fok84:FuncOk Go.Proofs.Tryz.prog tab 84 fi84:=⟨Go.Proofs.Tryz.func84,by kernel_rfl,by kernel_rfl,by kernel_rfl,by kernel_rfl⟩
theorem fok85:FuncOk Go.Proofs.Tryz.prog tab 85 fi85:=⟨Go.Proofs.Tryz.func85,by kernel_rfl,by kernel_rfl,by kernel_rfl,by kernel_rfl⟩
theorem fok86:FuncOk Go.Proofs.Tryz.prog tab 86 fi86:=⟨Go.Proofs.Tryz.func86,by kernel_rfl,by kernel_rfl,by kernel_rfl,by kernel_rfl⟩
theorem fok87:FuncOk Go.Proofs.Tryz.prog tab 87 fi87:=⟨Go.Proofs.Tryz.func87,by kernel_rfl,by kernel_rfl,by kernel_rfl,by kernel_rfl⟩
theorem fok88:FuncOk Go.Proofs.Tryz.prog tab 88 fi88:=⟨Go.Proofs.Tryz.func88,by kernel_rfl,by kernel_rfl,by kernel_rfl,by kernel_rfl⟩
theorem fok89:FuncOk Go.Proofs.Tryz.prog tab 89 fi89:=⟨Go.Proofs.Tryz.func89,by kernel_rfl,by kernel_rfl,by kernel_rfl,by kernel_rfl⟩
theorem fok90:FuncOk Go.Proofs.Tryz.prog tab 90 fi90:=⟨Go.Proofs.Tryz.func90,by kernel_rfl,by kernel_rfl,by kernel_rfl,by kernel_rfl⟩
theorem fok91:FuncOk Go.Proofs.Tryz.prog tab 91 fi91:=⟨Go.Proofs.Tryz.func91,by kernel_rfl,by kernel_rfl,by kernel_rfl,by kernel_rfl⟩
theorem fok92:FuncOk Go.Proofs.Tryz.prog tab 92 fi92:=⟨Go.Proofs.Tryz.func92,by kernel_rfl,by kernel_rfl,by kernel_rfl,by kernel_rfl⟩
theorem fok93:FuncOk Go.Proofs.Tryz.prog tab 93 fi93:=⟨Go.Proofs.Tryz.func93,by kernel_rfl,by kernel_rfl,by kernel_rfl,by kernel_rfl⟩
theorem fok94:FuncOk Go.Proofs.Tryz.prog tab 94 fi94:=⟨Go.Proofs.Tryz.func94,by kernel_rfl,by kernel_rfl,by kernel_rfl,by kernel_rfl⟩
theorem fok95:FuncOk Go.Proofs.Tryz.prog tab 95 fi95:=⟨Go.Proofs.Tryz.func95,by kernel_rfl,by kernel_rfl,by kernel_rfl,by kernel_rfl⟩
theorem fok99:FuncOk Go.Proofs.Tryz.prog tab 99 fi99:=⟨Go.Proofs.Tryz.func99,by kernel_rfl,by kernel_rfl,by kernel_rfl,by kernel_rfl⟩
theorem fok100:FuncOk Go.Proofs.Tryz.prog tab 100 fi100:=⟨Go.Proofs.Tryz.func100,by kernel_rfl,by kernel_rfl,by kernel_rfl,by kernel_rfl⟩
theorem fok108:FuncOk Go.Proofs.Tryz.prog tab 108 fi108:=⟨Go.Proofs.Tryz.func108,by kernel_rfl,by kernel_rfl,by kernel_rfl,by kernel_rfl⟩
theorem fok109:FuncOk Go.Proofs.Tryz.prog tab 109 fi109:=⟨Go.Proofs.Tryz.func109,by kernel_rfl,by kernel_rfl,by kernel_rfl,by kernel_rfl⟩
theorem fok120:FuncOk Go.Proofs.Tryz.prog tab 120 fi120:=⟨Go.Proofs.Tryz.func120,by kernel_rfl,by kernel_rfl,by kernel_rfl,by kernel_rfl⟩
theorem fok121:FuncOk Go.Proofs.Tryz.prog tab 121 fi121:=⟨Go.Proofs.Tryz.func121,by kernel_rfl,by kernel_rfl,by kernel_rfl,by kernel_rfl⟩
theorem tabOk (h:PrimsOk Go.Proofs.Tryz.prog tab):TabOk Go.Proofs.Tryz.prog tab:=tabOk_of
 ⟨tok3,tok4,tok5,tok9,tok23,tok26,tok27,tok43,tok44,tok45,tok47,tok50,tok58,tok60,tok64,tok65,tok69,tok70,tok72,tok74,tok83,tok91,tok96,tok99,tok103,tok107,tok109,tok111,tok117,trivial⟩
 ⟨fok3,fok4,fok5,fok7,fok8,fok9,fok10,fok11,fok12,fok13,fok14,fok15,fok16,fok17,fok18,fok19,fok20,fok21,fok22,fok25,fok26,fok27,fok28,fok29,fok30,fok31,fok32,fok33,fok34,fok35,fok36,fok37,fok38,fok39,fok40,fok41,fok42,fok43,fok44,fok45,fok46,fok47,fok48,fok49,fok50,fok51,fok52,fok53,fok54,fok55,fok56,fok57,fok58,fok59,fok60,fok61,fok64,fok65,fok66,fok67,fok68,fok69,fok70,fok71,fok73,fok74,fok75,fok76,fok77,fok79,fok80,fok81,fok82,fok83,fok84,fok85,fok86,fok87,fok88,fok89,fok90,fok91,fok92,fok93,fok94,fok95,fok99,fok100,fok108,fok109,fok120,fok121,trivial⟩ (by kernel_rfl) h
end Go.Skm.Fig
