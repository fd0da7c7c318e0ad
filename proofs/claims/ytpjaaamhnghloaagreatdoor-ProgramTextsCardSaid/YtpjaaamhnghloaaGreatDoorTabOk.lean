import Derived.Test.YtpjaaamhnghloaaGreatDoorSkmG
import Derived.Test.YtpjaaamhnghloaaGreatDoorTab
import Derived.KernelRfl
set_option linter.all false
namespace Go.Skm.Prg
open Go.Proofs
open Go Go.Skm
theorem arB:mG Tryz.prog 3=some ty3:=τ
theorem arC:mG Tryz.prog 4=some ty4:=τ
theorem arD:mG Tryz.prog 5=some ty5:=τ
theorem arE:mG Tryz.prog 9=some ty9:=τ
theorem anw:mG Tryz.prog 22=some amH:=τ
theorem anx:mG Tryz.prog 23=some amI:=τ
theorem anz:mG Tryz.prog 24=some amJ:=τ
theorem anA:mG Tryz.prog 26=some amK:=τ
theorem anB:mG Tryz.prog 29=some amL:=τ
theorem anC:mG Tryz.prog 42=some amM:=τ
theorem anD:mG Tryz.prog 50=some amN:=τ
theorem anE:mG Tryz.prog 59=some amO:=τ
theorem anF:mG Tryz.prog 66=some amP:=τ
theorem anG:mG Tryz.prog 68=some amQ:=τ
theorem anH:mG Tryz.prog 70=some amR:=τ
theorem anI:mG Tryz.prog 72=some amS:=τ
theorem anJ:mG Tryz.prog 82=some amT:=τ
theorem anK:mG Tryz.prog 95=some amU:=τ
theorem ajZ:mG Tryz.prog 102=some ahZ:=τ
theorem aj0:mG Tryz.prog 105=some ah0:=τ
theorem aj1:mG Tryz.prog 120=some ah1:=τ
theorem aj2:mG Tryz.prog 121=some ah2:=τ
theorem aj3:mG Tryz.prog 123=some ah3:=τ
theorem aj6:mG Tryz.prog 125=some ah4:=τ
theorem aj7:mG Tryz.prog 139=some ah5:=τ
theorem aj8:mG Tryz.prog 140=some ah6:=τ
theorem aj9:mG Tryz.prog 141=some ah7:=τ
theorem akb:mG Tryz.prog 160=some ah8:=τ
theorem akc:mG Tryz.prog 162=some ah9:=τ
theorem akd:mG Tryz.prog 166=some aia:=τ
theorem ake:mG Tryz.prog 197=some aib:=τ
theorem akf:mG Tryz.prog 223=some aic:=τ
theorem akg:mG Tryz.prog 245=some aie:=τ
theorem akh:mG Tryz.prog 268=some aif:=τ
theorem arF:aS Tryz.prog tab 3 fi3:=⟨Tryz.func3,τ,τ,τ,τ⟩
theorem arG:aS Tryz.prog tab 5 fi5:=⟨Tryz.func5,τ,τ,τ,τ⟩
theorem arH:aS Tryz.prog tab 6 fi6:=⟨Tryz.func6,τ,τ,τ,τ⟩
theorem arI:aS Tryz.prog tab 7 fi7:=⟨Tryz.func7,τ,τ,τ,τ⟩
theorem arJ:aS Tryz.prog tab 8 fi8:=⟨Tryz.func8,τ,τ,τ,τ⟩
theorem arK:aS Tryz.prog tab 9 fi9:=⟨Tryz.func9,τ,τ,τ,τ⟩
theorem anL:aS Tryz.prog tab 10 ad9:=⟨Tryz.func10,τ,τ,τ,τ⟩
theorem anM:aS Tryz.prog tab 11 aea:=⟨Tryz.func11,τ,τ,τ,τ⟩
theorem anN:aS Tryz.prog tab 12 amV:=⟨Tryz.func12,τ,τ,τ,τ⟩
theorem anO:aS Tryz.prog tab 13 ajv:=⟨Tryz.func13,τ,τ,τ,τ⟩
theorem anP:aS Tryz.prog tab 14 amW:=⟨Tryz.func14,τ,τ,τ,τ⟩
theorem anQ:aS Tryz.prog tab 16 amX:=⟨Tryz.func16,τ,τ,τ,τ⟩
theorem anR:aS Tryz.prog tab 22 amY:=⟨Tryz.func22,τ,τ,τ,τ⟩
theorem anS:aS Tryz.prog tab 23 amZ:=⟨Tryz.func23,τ,τ,τ,τ⟩
theorem anT:aS Tryz.prog tab 24 am0:=⟨Tryz.func24,τ,τ,τ,τ⟩
theorem anU:aS Tryz.prog tab 25 am1:=⟨Tryz.func25,τ,τ,τ,τ⟩
theorem anV:aS Tryz.prog tab 26 am2:=⟨Tryz.func26,τ,τ,τ,τ⟩
theorem anW:aS Tryz.prog tab 27 am3:=⟨Tryz.func27,τ,τ,τ,τ⟩
theorem anX:aS Tryz.prog tab 28 am4:=⟨Tryz.func28,τ,τ,τ,τ⟩
theorem anY:aS Tryz.prog tab 29 am5:=⟨Tryz.func29,τ,τ,τ,τ⟩
theorem anZ:aS Tryz.prog tab 30 ajw:=⟨Tryz.func30,τ,τ,τ,τ⟩
theorem an0:aS Tryz.prog tab 31 am6:=⟨Tryz.func31,τ,τ,τ,τ⟩
theorem an1:aS Tryz.prog tab 32 am7:=⟨Tryz.func32,τ,τ,τ,τ⟩
theorem an2:aS Tryz.prog tab 33 am8:=⟨Tryz.func33,τ,τ,τ,τ⟩
theorem an3:aS Tryz.prog tab 34 am9:=⟨Tryz.func34,τ,τ,τ,τ⟩
theorem an4:aS Tryz.prog tab 35 ana:=⟨Tryz.func35,τ,τ,τ,τ⟩
theorem an5:aS Tryz.prog tab 36 anb:=⟨Tryz.func36,τ,τ,τ,τ⟩
theorem an6:aS Tryz.prog tab 37 anc:=⟨Tryz.func37,τ,τ,τ,τ⟩
theorem an7:aS Tryz.prog tab 40 ajt:=⟨Tryz.func40,τ,τ,τ,τ⟩
theorem an8:aS Tryz.prog tab 41 ajo:=⟨Tryz.func41,τ,τ,τ,τ⟩
theorem an9:aS Tryz.prog tab 42 ajp:=⟨Tryz.func42,τ,τ,τ,τ⟩
theorem aoa:aS Tryz.prog tab 43 ane:=⟨Tryz.func43,τ,τ,τ,τ⟩
theorem aob:aS Tryz.prog tab 44 anf:=⟨Tryz.func44,τ,τ,τ,τ⟩
theorem aoc:aS Tryz.prog tab 45 ang:=⟨Tryz.func45,τ,τ,τ,τ⟩
theorem aod:aS Tryz.prog tab 46 abP:=⟨Tryz.func46,τ,τ,τ,τ⟩
theorem aoe:aS Tryz.prog tab 47 Zg:=⟨Tryz.func47,τ,τ,τ,τ⟩
theorem aof:aS Tryz.prog tab 48 anh:=⟨Tryz.func48,τ,τ,τ,τ⟩
theorem aog:aS Tryz.prog tab 61 ani:=⟨Tryz.func61,τ,τ,τ,τ⟩
theorem aoh:aS Tryz.prog tab 62 anj:=⟨Tryz.func62,τ,τ,τ,τ⟩
theorem aoi:aS Tryz.prog tab 63 agv:=⟨Tryz.func63,τ,τ,τ,τ⟩
theorem aoj:aS Tryz.prog tab 64 ai0:=⟨Tryz.func64,τ,τ,τ,τ⟩
theorem aok:aS Tryz.prog tab 65 ai1:=⟨Tryz.func65,τ,τ,τ,τ⟩
theorem aol:aS Tryz.prog tab 66 ank:=⟨Tryz.func66,τ,τ,τ,τ⟩
theorem aom:aS Tryz.prog tab 67 anl:=⟨Tryz.func67,τ,τ,τ,τ⟩
theorem aon:aS Tryz.prog tab 68 anm:=⟨Tryz.func68,τ,τ,τ,τ⟩
theorem aoo:aS Tryz.prog tab 69 ano:=⟨Tryz.func69,τ,τ,τ,τ⟩
theorem aop:aS Tryz.prog tab 70 anp:=⟨Tryz.func70,τ,τ,τ,τ⟩
theorem aoq:aS Tryz.prog tab 71 anq:=⟨Tryz.func71,τ,τ,τ,τ⟩
theorem aor:aS Tryz.prog tab 74 ad7:=⟨Tryz.func74,τ,τ,τ,τ⟩
theorem aos:aS Tryz.prog tab 75 ajs:=⟨Tryz.func75,τ,τ,τ,τ⟩
theorem aot:aS Tryz.prog tab 76 anr:=⟨Tryz.func76,τ,τ,τ,τ⟩
theorem aou:aS Tryz.prog tab 77 ant:=⟨Tryz.func77,τ,τ,τ,τ⟩
theorem aov:aS Tryz.prog tab 78 anu:=⟨Tryz.func78,τ,τ,τ,τ⟩
theorem aow:aS Tryz.prog tab 79 adB:=⟨Tryz.func79,τ,τ,τ,τ⟩
theorem aox:aS Tryz.prog tab 80 anv:=⟨Tryz.func80,τ,τ,τ,τ⟩
theorem aoy:aS Tryz.prog tab 81 agx:=⟨Tryz.func81,τ,τ,τ,τ⟩
theorem aoz:aS Tryz.prog tab 99 agw:=⟨Tryz.func99,τ,τ,τ,τ⟩
theorem aki:aS Tryz.prog tab 100 aaN:=⟨Tryz.func100,τ,τ,τ,τ⟩
theorem akj:aS Tryz.prog tab 104 aii:=⟨Tryz.func104,τ,τ,τ,τ⟩
theorem akk:aS Tryz.prog tab 105 aij:=⟨Tryz.func105,τ,τ,τ,τ⟩
theorem akl:aS Tryz.prog tab 108 aaO:=⟨Tryz.func108,τ,τ,τ,τ⟩
theorem akm:aS Tryz.prog tab 109 aik:=⟨Tryz.func109,τ,τ,τ,τ⟩
theorem akn:aS Tryz.prog tab 110 ail:=⟨Tryz.func110,τ,τ,τ,τ⟩
theorem ako:aS Tryz.prog tab 111 ain:=⟨Tryz.func111,τ,τ,τ,τ⟩
theorem akp:aS Tryz.prog tab 112 aio:=⟨Tryz.func112,τ,τ,τ,τ⟩
theorem akq:aS Tryz.prog tab 113 aip:=⟨Tryz.func113,τ,τ,τ,τ⟩
theorem akr:aS Tryz.prog tab 134 aiq:=⟨Tryz.func134,τ,τ,τ,τ⟩
theorem aks:aS Tryz.prog tab 135 ais:=⟨Tryz.func135,τ,τ,τ,τ⟩
theorem akt:aS Tryz.prog tab 136 ait:=⟨Tryz.func136,τ,τ,τ,τ⟩
theorem aku:aS Tryz.prog tab 137 aiu:=⟨Tryz.func137,τ,τ,τ,τ⟩
theorem akv:aS Tryz.prog tab 138 aiv:=⟨Tryz.func138,τ,τ,τ,τ⟩
theorem akw:aS Tryz.prog tab 139 aiw:=⟨Tryz.func139,τ,τ,τ,τ⟩
theorem akx:aS Tryz.prog tab 164 aix:=⟨Tryz.func164,τ,τ,τ,τ⟩
theorem aky:aS Tryz.prog tab 165 aiy:=⟨Tryz.func165,τ,τ,τ,τ⟩
theorem akz:aS Tryz.prog tab 166 aiz:=⟨Tryz.func166,τ,τ,τ,τ⟩
theorem akA:aS Tryz.prog tab 186 aiA:=⟨Tryz.func186,τ,τ,τ,τ⟩
theorem akB:aS Tryz.prog tab 187 aiB:=⟨Tryz.func187,τ,τ,τ,τ⟩
theorem akC:aS Tryz.prog tab 203 aiC:=⟨Tryz.func203,τ,τ,τ,τ⟩
theorem akD:aS Tryz.prog tab 204 aiD:=⟨Tryz.func204,τ,τ,τ,τ⟩
theorem akE:aS Tryz.prog tab 205 aiE:=⟨Tryz.func205,τ,τ,τ,τ⟩
theorem alf(h:U5 Tryz.prog tab):bJ Tryz.prog tab:=afY
 ⟨arB,arC,arD,arE,anw,anx,anz,anA,anB,anC,anD,anE,anF,anG,anH,anI,anJ,anK,ajZ,aj0,aj1,aj2,aj3,aj6,aj7,aj8,aj9,akb,akc,akd,ake,akf,akg,akh,trivial⟩
 ⟨arF,arG,arH,arI,arJ,arK,anL,anM,anN,anO,anP,anQ,anR,anS,anT,anU,anV,anW,anX,anY,anZ,an0,an1,an2,an3,an4,an5,an6,an7,an8,an9,aoa,aob,aoc,aod,aoe,aof,aog,aoh,aoi,aoj,aok,aol,aom,aon,aoo,aop,aoq,aor,aos,aot,aou,aov,aow,aox,aoy,aoz,aki,akj,akk,akl,akm,akn,ako,akp,akq,akr,aks,akt,aku,akv,akw,akx,aky,akz,akA,akB,akC,akD,akE,trivial⟩ τ h
end Go.Skm.Prg
