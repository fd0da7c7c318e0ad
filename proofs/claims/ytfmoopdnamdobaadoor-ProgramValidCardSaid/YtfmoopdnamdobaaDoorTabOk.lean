import Derived.Test.YtfmoopdnamdobaaDoorSkmG
import Derived.Test.YtfmoopdnamdobaaDoorTab
import Derived.KernelRfl
namespace Go.Skm.Prg
open Go.Proofs
open Go Go.Skm
theorem akZ:lM Tryd.prog 3=some ty3:=by kernel_rfl
theorem ak0:lM Tryd.prog 4=some ty4:=by kernel_rfl
theorem ak1:lM Tryd.prog 5=some ty5:=by kernel_rfl
theorem ak2:lM Tryd.prog 9=some ty9:=by kernel_rfl
theorem agU:lM Tryd.prog 23=some afw:=by kernel_rfl
theorem agV:lM Tryd.prog 24=some afx:=by kernel_rfl
theorem agW:lM Tryd.prog 25=some afy:=by kernel_rfl
theorem agX:lM Tryd.prog 27=some afz:=by kernel_rfl
theorem agY:lM Tryd.prog 28=some afA:=by kernel_rfl
theorem agZ:lM Tryd.prog 29=some afB:=by kernel_rfl
theorem ag0:lM Tryd.prog 31=some afC:=by kernel_rfl
theorem ag1:lM Tryd.prog 34=some afD:=by kernel_rfl
theorem ag2:lM Tryd.prog 37=some afE:=by kernel_rfl
theorem ag3:lM Tryd.prog 40=some afF:=by kernel_rfl
theorem ag4:lM Tryd.prog 60=some afG:=by kernel_rfl
theorem ag5:lM Tryd.prog 63=some afH:=by kernel_rfl
theorem ag6:lM Tryd.prog 74=some afI:=by kernel_rfl
theorem ag7:lM Tryd.prog 76=some afJ:=by kernel_rfl
theorem ag8:lM Tryd.prog 82=some afK:=by kernel_rfl
theorem ag9:lM Tryd.prog 93=some afL:=by kernel_rfl
theorem aha:lM Tryd.prog 98=some afM:=by kernel_rfl
theorem ahb:lM Tryd.prog 99=some afN:=by kernel_rfl
theorem adC:lM Tryd.prog 100=some ace:=by kernel_rfl
theorem adD:lM Tryd.prog 110=some acf:=by kernel_rfl
theorem adE:lM Tryd.prog 112=some acg:=by kernel_rfl
theorem adF:lM Tryd.prog 114=some ach:=by kernel_rfl
theorem adG:lM Tryd.prog 118=some aci:=by kernel_rfl
theorem adH:lM Tryd.prog 125=some acj:=by kernel_rfl
theorem adI:lM Tryd.prog 128=some acn:=by kernel_rfl
theorem adJ:lM Tryd.prog 133=some aco:=by kernel_rfl
theorem adK:lM Tryd.prog 141=some acp:=by kernel_rfl
theorem adL:lM Tryd.prog 150=some acr:=by kernel_rfl
theorem adM:lM Tryd.prog 153=some acs:=by kernel_rfl
theorem ak3:aQ Tryd.prog tab 3 fi3:=by constructor<;>kernel_rfl
theorem ak4:aQ Tryd.prog tab 4 fi4:=by constructor<;>kernel_rfl
theorem ak5:aQ Tryd.prog tab 5 fi5:=by constructor<;>kernel_rfl
theorem ak6:aQ Tryd.prog tab 6 fi6:=by constructor<;>kernel_rfl
theorem ak7:aQ Tryd.prog tab 8 fi8:=by constructor<;>kernel_rfl
theorem ak8:aQ Tryd.prog tab 9 fi9:=by constructor<;>kernel_rfl
theorem ahc:aQ Tryd.prog tab 10 adz:=by constructor<;>kernel_rfl
theorem ahd:aQ Tryd.prog tab 11 adA:=by constructor<;>kernel_rfl
theorem ahe:aQ Tryd.prog tab 12 afO:=by constructor<;>kernel_rfl
theorem ahf:aQ Tryd.prog tab 13 afP:=by constructor<;>kernel_rfl
theorem ahg:aQ Tryd.prog tab 14 afQ:=by constructor<;>kernel_rfl
theorem ahh:aQ Tryd.prog tab 15 adB:=by constructor<;>kernel_rfl
theorem ahi:aQ Tryd.prog tab 16 afR:=by constructor<;>kernel_rfl
theorem ahj:aQ Tryd.prog tab 17 afS:=by constructor<;>kernel_rfl
theorem ahk:aQ Tryd.prog tab 18 afT:=by constructor<;>kernel_rfl
theorem ahl:aQ Tryd.prog tab 19 afU:=by constructor<;>kernel_rfl
theorem ahm:aQ Tryd.prog tab 20 afV:=by constructor<;>kernel_rfl
theorem ahn:aQ Tryd.prog tab 21 abK:=by constructor<;>kernel_rfl
theorem aho:aQ Tryd.prog tab 22 afW:=by constructor<;>kernel_rfl
theorem ahp:aQ Tryd.prog tab 23 afX:=by constructor<;>kernel_rfl
theorem ahq:aQ Tryd.prog tab 24 afY:=by constructor<;>kernel_rfl
theorem ahr:aQ Tryd.prog tab 25 afZ:=by constructor<;>kernel_rfl
theorem ahs:aQ Tryd.prog tab 26 af0:=by constructor<;>kernel_rfl
theorem aht:aQ Tryd.prog tab 27 af2:=by constructor<;>kernel_rfl
theorem ahu:aQ Tryd.prog tab 28 af4:=by constructor<;>kernel_rfl
theorem ahv:aQ Tryd.prog tab 29 af5:=by constructor<;>kernel_rfl
theorem ahw:aQ Tryd.prog tab 30 af6:=by constructor<;>kernel_rfl
theorem ahx:aQ Tryd.prog tab 31 abL:=by constructor<;>kernel_rfl
theorem ahy:aQ Tryd.prog tab 32 af7:=by constructor<;>kernel_rfl
theorem ahz:aQ Tryd.prog tab 33 af8:=by constructor<;>kernel_rfl
theorem ahA:aQ Tryd.prog tab 34 af9:=by constructor<;>kernel_rfl
theorem ahB:aQ Tryd.prog tab 35 aga:=by constructor<;>kernel_rfl
theorem ahC:aQ Tryd.prog tab 36 agb:=by constructor<;>kernel_rfl
theorem ahD:aQ Tryd.prog tab 37 agc:=by constructor<;>kernel_rfl
theorem ahE:aQ Tryd.prog tab 38 WY:=by constructor<;>kernel_rfl
theorem ahF:aQ Tryd.prog tab 39 agd:=by constructor<;>kernel_rfl
theorem ahG:aQ Tryd.prog tab 40 agf:=by constructor<;>kernel_rfl
theorem ahH:aQ Tryd.prog tab 41 agh:=by constructor<;>kernel_rfl
theorem ahI:aQ Tryd.prog tab 42 agi:=by constructor<;>kernel_rfl
theorem ahJ:aQ Tryd.prog tab 43 agj:=by constructor<;>kernel_rfl
theorem ahK:aQ Tryd.prog tab 44 agk:=by constructor<;>kernel_rfl
theorem ahL:aQ Tryd.prog tab 45 YS:=by constructor<;>kernel_rfl
theorem ahM:aQ Tryd.prog tab 46 agl:=by constructor<;>kernel_rfl
theorem ahN:aQ Tryd.prog tab 47 Us:=by constructor<;>kernel_rfl
theorem ahO:aQ Tryd.prog tab 48 agm:=by constructor<;>kernel_rfl
theorem ahP:aQ Tryd.prog tab 49 agn:=by constructor<;>kernel_rfl
theorem ahQ:aQ Tryd.prog tab 50 agp:=by constructor<;>kernel_rfl
theorem ahR:aQ Tryd.prog tab 51 agq:=by constructor<;>kernel_rfl
theorem ahS:aQ Tryd.prog tab 52 agr:=by constructor<;>kernel_rfl
theorem ahT:aQ Tryd.prog tab 53 ags:=by constructor<;>kernel_rfl
theorem ahU:aQ Tryd.prog tab 54 YU:=by constructor<;>kernel_rfl
theorem ahV:aQ Tryd.prog tab 55 YW:=by constructor<;>kernel_rfl
theorem ahW:aQ Tryd.prog tab 56 YZ:=by constructor<;>kernel_rfl
theorem ahX:aQ Tryd.prog tab 57 agt:=by constructor<;>kernel_rfl
theorem ahY:aQ Tryd.prog tab 58 agu:=by constructor<;>kernel_rfl
theorem ahZ:aQ Tryd.prog tab 59 Yr:=by constructor<;>kernel_rfl
theorem ah0:aQ Tryd.prog tab 60 agv:=by constructor<;>kernel_rfl
theorem ah1:aQ Tryd.prog tab 61 agw:=by constructor<;>kernel_rfl
theorem ah2:aQ Tryd.prog tab 62 agx:=by constructor<;>kernel_rfl
theorem ah3:aQ Tryd.prog tab 63 agy:=by constructor<;>kernel_rfl
theorem ah4:aQ Tryd.prog tab 64 agz:=by constructor<;>kernel_rfl
theorem ah5:aQ Tryd.prog tab 65 agA:=by constructor<;>kernel_rfl
theorem ah6:aQ Tryd.prog tab 66 agB:=by constructor<;>kernel_rfl
theorem ah7:aQ Tryd.prog tab 67 agC:=by constructor<;>kernel_rfl
theorem ah8:aQ Tryd.prog tab 68 acW:=by constructor<;>kernel_rfl
theorem ah9:aQ Tryd.prog tab 69 acX:=by constructor<;>kernel_rfl
theorem aia:aQ Tryd.prog tab 70 agD:=by constructor<;>kernel_rfl
theorem aib:aQ Tryd.prog tab 71 agE:=by constructor<;>kernel_rfl
theorem aic:aQ Tryd.prog tab 72 agF:=by constructor<;>kernel_rfl
theorem aie:aQ Tryd.prog tab 73 agG:=by constructor<;>kernel_rfl
theorem aif:aQ Tryd.prog tab 74 agH:=by constructor<;>kernel_rfl
theorem aii:aQ Tryd.prog tab 75 agI:=by constructor<;>kernel_rfl
theorem aij:aQ Tryd.prog tab 79 agJ:=by constructor<;>kernel_rfl
theorem aik:aQ Tryd.prog tab 80 agK:=by constructor<;>kernel_rfl
theorem ail:aQ Tryd.prog tab 81 agL:=by constructor<;>kernel_rfl
theorem ain:aQ Tryd.prog tab 82 agM:=by constructor<;>kernel_rfl
theorem aio:aQ Tryd.prog tab 83 agN:=by constructor<;>kernel_rfl
theorem aip:aQ Tryd.prog tab 84 agO:=by constructor<;>kernel_rfl
theorem aiq:aQ Tryd.prog tab 88 agP:=by constructor<;>kernel_rfl
theorem air:aQ Tryd.prog tab 89 agQ:=by constructor<;>kernel_rfl
theorem ais:aQ Tryd.prog tab 90 agR:=by constructor<;>kernel_rfl
theorem ait:aQ Tryd.prog tab 94 agS:=by constructor<;>kernel_rfl
theorem aiu:aQ Tryd.prog tab 95 agT:=by constructor<;>kernel_rfl
theorem adN:aQ Tryd.prog tab 101 acu:=by constructor<;>kernel_rfl
theorem adO:aQ Tryd.prog tab 102 acv:=by constructor<;>kernel_rfl
theorem adP:aQ Tryd.prog tab 103 acw:=by constructor<;>kernel_rfl
theorem aeF (h:PX Tryd.prog tab):bJ Tryd.prog tab:=aai
 ⟨akZ,ak0,ak1,ak2,agU,agV,agW,agX,agY,agZ,ag0,ag1,ag2,ag3,ag4,ag5,ag6,ag7,ag8,ag9,aha,ahb,adC,adD,adE,adF,adG,adH,adI,adJ,adK,adL,adM,trivial⟩
 ⟨ak3,ak4,ak5,ak6,ak7,ak8,ahc,ahd,ahe,ahf,ahg,ahh,ahi,ahj,ahk,ahl,ahm,ahn,aho,ahp,ahq,ahr,ahs,aht,ahu,ahv,ahw,ahx,ahy,ahz,ahA,ahB,ahC,ahD,ahE,ahF,ahG,ahH,ahI,ahJ,ahK,ahL,ahM,ahN,ahO,ahP,ahQ,ahR,ahS,ahT,ahU,ahV,ahW,ahX,ahY,ahZ,ah0,ah1,ah2,ah3,ah4,ah5,ah6,ah7,ah8,ah9,aia,aib,aic,aie,aif,aii,aij,aik,ail,ain,aio,aip,aiq,air,ais,ait,aiu,adN,adO,adP,trivial⟩ (by kernel_rfl) h
end Go.Skm.Prg
