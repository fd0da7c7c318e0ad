/-
  The tables are those of the program; no condition.
-/
import Derived.Test.YtipkmkmngcjdbaaGreatDoorSkmG
import Derived.Test.YtipkmkmngcjdbaaGreatDoorTab
import Derived.KernelRfl
namespace Go.Skm.Fig
open Go Go.Skm
theorem ajX:nO Go.Proofs.Tryz.prog 3=some ty3:=by kernel_rfl
theorem ajY:nO Go.Proofs.Tryz.prog 4=some ty4:=by kernel_rfl
theorem ajZ:nO Go.Proofs.Tryz.prog 5=some ty5:=by kernel_rfl
theorem aj0:nO Go.Proofs.Tryz.prog 9=some ty9:=by kernel_rfl
theorem agB:nO Go.Proofs.Tryz.prog 23=some afc:=by kernel_rfl
theorem agC:nO Go.Proofs.Tryz.prog 26=some afd:=by kernel_rfl
theorem agD:nO Go.Proofs.Tryz.prog 27=some afe:=by kernel_rfl
theorem agE:nO Go.Proofs.Tryz.prog 43=some aff:=by kernel_rfl
theorem agF:nO Go.Proofs.Tryz.prog 44=some afg:=by kernel_rfl
theorem agG:nO Go.Proofs.Tryz.prog 45=some afh:=by kernel_rfl
theorem agH:nO Go.Proofs.Tryz.prog 47=some afi:=by kernel_rfl
theorem agI:nO Go.Proofs.Tryz.prog 50=some afj:=by kernel_rfl
theorem agJ:nO Go.Proofs.Tryz.prog 58=some afk:=by kernel_rfl
theorem agK:nO Go.Proofs.Tryz.prog 60=some afl:=by kernel_rfl
theorem agL:nO Go.Proofs.Tryz.prog 64=some afm:=by kernel_rfl
theorem agM:nO Go.Proofs.Tryz.prog 65=some afn:=by kernel_rfl
theorem agN:nO Go.Proofs.Tryz.prog 69=some afo:=by kernel_rfl
theorem agO:nO Go.Proofs.Tryz.prog 70=some afp:=by kernel_rfl
theorem agP:nO Go.Proofs.Tryz.prog 72=some afq:=by kernel_rfl
theorem agQ:nO Go.Proofs.Tryz.prog 74=some afr:=by kernel_rfl
theorem agR:nO Go.Proofs.Tryz.prog 83=some afs:=by kernel_rfl
theorem agS:nO Go.Proofs.Tryz.prog 91=some aft:=by kernel_rfl
theorem agT:nO Go.Proofs.Tryz.prog 96=some afu:=by kernel_rfl
theorem agU:nO Go.Proofs.Tryz.prog 99=some afv:=by kernel_rfl
theorem ads:nO Go.Proofs.Tryz.prog 103=some abN:=by kernel_rfl
theorem adt:nO Go.Proofs.Tryz.prog 107=some abO:=by kernel_rfl
theorem adu:nO Go.Proofs.Tryz.prog 109=some abP:=by kernel_rfl
theorem adv:nO Go.Proofs.Tryz.prog 111=some abQ:=by kernel_rfl
theorem adw:nO Go.Proofs.Tryz.prog 117=some abR:=by kernel_rfl
theorem aj1:aJ Go.Proofs.Tryz.prog tab 3 fi3:=⟨Go.Proofs.Tryz.func3,by kernel_rfl,by kernel_rfl,by kernel_rfl,by kernel_rfl⟩
theorem aj2:aJ Go.Proofs.Tryz.prog tab 4 fi4:=⟨Go.Proofs.Tryz.func4,by kernel_rfl,by kernel_rfl,by kernel_rfl,by kernel_rfl⟩
theorem aj3:aJ Go.Proofs.Tryz.prog tab 5 fi5:=⟨Go.Proofs.Tryz.func5,by kernel_rfl,by kernel_rfl,by kernel_rfl,by kernel_rfl⟩
theorem aj6:aJ Go.Proofs.Tryz.prog tab 7 fi7:=⟨Go.Proofs.Tryz.func7,by kernel_rfl,by kernel_rfl,by kernel_rfl,by kernel_rfl⟩
theorem aj7:aJ Go.Proofs.Tryz.prog tab 8 fi8:=⟨Go.Proofs.Tryz.func8,by kernel_rfl,by kernel_rfl,by kernel_rfl,by kernel_rfl⟩
theorem aj8:aJ Go.Proofs.Tryz.prog tab 9 fi9:=⟨Go.Proofs.Tryz.func9,by kernel_rfl,by kernel_rfl,by kernel_rfl,by kernel_rfl⟩
theorem agV:aJ Go.Proofs.Tryz.prog tab 10 acR:=⟨Go.Proofs.Tryz.func10,by kernel_rfl,by kernel_rfl,by kernel_rfl,by kernel_rfl⟩
theorem agW:aJ Go.Proofs.Tryz.prog tab 11 afw:=⟨Go.Proofs.Tryz.func11,by kernel_rfl,by kernel_rfl,by kernel_rfl,by kernel_rfl⟩
theorem agX:aJ Go.Proofs.Tryz.prog tab 12 acQ:=⟨Go.Proofs.Tryz.func12,by kernel_rfl,by kernel_rfl,by kernel_rfl,by kernel_rfl⟩
theorem agY:aJ Go.Proofs.Tryz.prog tab 13 afx:=⟨Go.Proofs.Tryz.func13,by kernel_rfl,by kernel_rfl,by kernel_rfl,by kernel_rfl⟩
theorem agZ:aJ Go.Proofs.Tryz.prog tab 14 acT:=⟨Go.Proofs.Tryz.func14,by kernel_rfl,by kernel_rfl,by kernel_rfl,by kernel_rfl⟩
theorem ag0:aJ Go.Proofs.Tryz.prog tab 15 afy:=⟨Go.Proofs.Tryz.func15,by kernel_rfl,by kernel_rfl,by kernel_rfl,by kernel_rfl⟩
theorem ag1:aJ Go.Proofs.Tryz.prog tab 16 afz:=⟨Go.Proofs.Tryz.func16,by kernel_rfl,by kernel_rfl,by kernel_rfl,by kernel_rfl⟩
theorem ag2:aJ Go.Proofs.Tryz.prog tab 17 afA:=⟨Go.Proofs.Tryz.func17,by kernel_rfl,by kernel_rfl,by kernel_rfl,by kernel_rfl⟩
theorem ag3:aJ Go.Proofs.Tryz.prog tab 18 afB:=⟨Go.Proofs.Tryz.func18,by kernel_rfl,by kernel_rfl,by kernel_rfl,by kernel_rfl⟩
theorem ag4:aJ Go.Proofs.Tryz.prog tab 19 afC:=⟨Go.Proofs.Tryz.func19,by kernel_rfl,by kernel_rfl,by kernel_rfl,by kernel_rfl⟩
theorem ag5:aJ Go.Proofs.Tryz.prog tab 20 afD:=⟨Go.Proofs.Tryz.func20,by kernel_rfl,by kernel_rfl,by kernel_rfl,by kernel_rfl⟩
theorem ag6:aJ Go.Proofs.Tryz.prog tab 21 acS:=⟨Go.Proofs.Tryz.func21,by kernel_rfl,by kernel_rfl,by kernel_rfl,by kernel_rfl⟩
theorem ag7:aJ Go.Proofs.Tryz.prog tab 22 afE:=⟨Go.Proofs.Tryz.func22,by kernel_rfl,by kernel_rfl,by kernel_rfl,by kernel_rfl⟩
theorem ag8:aJ Go.Proofs.Tryz.prog tab 23 acU:=⟨Go.Proofs.Tryz.func23,by kernel_rfl,by kernel_rfl,by kernel_rfl,by kernel_rfl⟩
theorem ag9:aJ Go.Proofs.Tryz.prog tab 24 acY:=⟨Go.Proofs.Tryz.func24,by kernel_rfl,by kernel_rfl,by kernel_rfl,by kernel_rfl⟩
theorem aha:aJ Go.Proofs.Tryz.prog tab 25 afF:=⟨Go.Proofs.Tryz.func25,by kernel_rfl,by kernel_rfl,by kernel_rfl,by kernel_rfl⟩
theorem ahb:aJ Go.Proofs.Tryz.prog tab 26 afG:=⟨Go.Proofs.Tryz.func26,by kernel_rfl,by kernel_rfl,by kernel_rfl,by kernel_rfl⟩
theorem ahc:aJ Go.Proofs.Tryz.prog tab 27 afH:=⟨Go.Proofs.Tryz.func27,by kernel_rfl,by kernel_rfl,by kernel_rfl,by kernel_rfl⟩
theorem ahd:aJ Go.Proofs.Tryz.prog tab 28 acV:=⟨Go.Proofs.Tryz.func28,by kernel_rfl,by kernel_rfl,by kernel_rfl,by kernel_rfl⟩
theorem ahe:aJ Go.Proofs.Tryz.prog tab 29 afI:=⟨Go.Proofs.Tryz.func29,by kernel_rfl,by kernel_rfl,by kernel_rfl,by kernel_rfl⟩
theorem ahf:aJ Go.Proofs.Tryz.prog tab 30 afJ:=⟨Go.Proofs.Tryz.func30,by kernel_rfl,by kernel_rfl,by kernel_rfl,by kernel_rfl⟩
theorem ahg:aJ Go.Proofs.Tryz.prog tab 31 acX:=⟨Go.Proofs.Tryz.func31,by kernel_rfl,by kernel_rfl,by kernel_rfl,by kernel_rfl⟩
theorem ahh:aJ Go.Proofs.Tryz.prog tab 32 WE:=⟨Go.Proofs.Tryz.func32,by kernel_rfl,by kernel_rfl,by kernel_rfl,by kernel_rfl⟩
theorem ahi:aJ Go.Proofs.Tryz.prog tab 33 afK:=⟨Go.Proofs.Tryz.func33,by kernel_rfl,by kernel_rfl,by kernel_rfl,by kernel_rfl⟩
theorem ahj:aJ Go.Proofs.Tryz.prog tab 34 acg:=⟨Go.Proofs.Tryz.func34,by kernel_rfl,by kernel_rfl,by kernel_rfl,by kernel_rfl⟩
theorem ahk:aJ Go.Proofs.Tryz.prog tab 35 afL:=⟨Go.Proofs.Tryz.func35,by kernel_rfl,by kernel_rfl,by kernel_rfl,by kernel_rfl⟩
theorem ahl:aJ Go.Proofs.Tryz.prog tab 36 afM:=⟨Go.Proofs.Tryz.func36,by kernel_rfl,by kernel_rfl,by kernel_rfl,by kernel_rfl⟩
theorem ahm:aJ Go.Proofs.Tryz.prog tab 37 afN:=⟨Go.Proofs.Tryz.func37,by kernel_rfl,by kernel_rfl,by kernel_rfl,by kernel_rfl⟩
theorem ahn:aJ Go.Proofs.Tryz.prog tab 38 afO:=⟨Go.Proofs.Tryz.func38,by kernel_rfl,by kernel_rfl,by kernel_rfl,by kernel_rfl⟩
theorem aho:aJ Go.Proofs.Tryz.prog tab 39 acd:=⟨Go.Proofs.Tryz.func39,by kernel_rfl,by kernel_rfl,by kernel_rfl,by kernel_rfl⟩
theorem ahp:aJ Go.Proofs.Tryz.prog tab 40 afP:=⟨Go.Proofs.Tryz.func40,by kernel_rfl,by kernel_rfl,by kernel_rfl,by kernel_rfl⟩
theorem ahq:aJ Go.Proofs.Tryz.prog tab 41 ace:=⟨Go.Proofs.Tryz.func41,by kernel_rfl,by kernel_rfl,by kernel_rfl,by kernel_rfl⟩
theorem ahr:aJ Go.Proofs.Tryz.prog tab 42 afQ:=⟨Go.Proofs.Tryz.func42,by kernel_rfl,by kernel_rfl,by kernel_rfl,by kernel_rfl⟩
theorem ahs:aJ Go.Proofs.Tryz.prog tab 43 aav:=⟨Go.Proofs.Tryz.func43,by kernel_rfl,by kernel_rfl,by kernel_rfl,by kernel_rfl⟩
theorem aht:aJ Go.Proofs.Tryz.prog tab 44 afR:=⟨Go.Proofs.Tryz.func44,by kernel_rfl,by kernel_rfl,by kernel_rfl,by kernel_rfl⟩
theorem ahu:aJ Go.Proofs.Tryz.prog tab 45 afS:=⟨Go.Proofs.Tryz.func45,by kernel_rfl,by kernel_rfl,by kernel_rfl,by kernel_rfl⟩
theorem ahv:aJ Go.Proofs.Tryz.prog tab 46 afT:=⟨Go.Proofs.Tryz.func46,by kernel_rfl,by kernel_rfl,by kernel_rfl,by kernel_rfl⟩
theorem ahw:aJ Go.Proofs.Tryz.prog tab 47 acW:=⟨Go.Proofs.Tryz.func47,by kernel_rfl,by kernel_rfl,by kernel_rfl,by kernel_rfl⟩
theorem ahx:aJ Go.Proofs.Tryz.prog tab 48 Tz:=⟨Go.Proofs.Tryz.func48,by kernel_rfl,by kernel_rfl,by kernel_rfl,by kernel_rfl⟩
theorem ahy:aJ Go.Proofs.Tryz.prog tab 49 aaS:=⟨Go.Proofs.Tryz.func49,by kernel_rfl,by kernel_rfl,by kernel_rfl,by kernel_rfl⟩
theorem ahz:aJ Go.Proofs.Tryz.prog tab 50 afU:=⟨Go.Proofs.Tryz.func50,by kernel_rfl,by kernel_rfl,by kernel_rfl,by kernel_rfl⟩
theorem ahA:aJ Go.Proofs.Tryz.prog tab 51 afV:=⟨Go.Proofs.Tryz.func51,by kernel_rfl,by kernel_rfl,by kernel_rfl,by kernel_rfl⟩
theorem ahB:aJ Go.Proofs.Tryz.prog tab 52 afW:=⟨Go.Proofs.Tryz.func52,by kernel_rfl,by kernel_rfl,by kernel_rfl,by kernel_rfl⟩
theorem ahC:aJ Go.Proofs.Tryz.prog tab 53 afX:=⟨Go.Proofs.Tryz.func53,by kernel_rfl,by kernel_rfl,by kernel_rfl,by kernel_rfl⟩
theorem ahD:aJ Go.Proofs.Tryz.prog tab 54 afY:=⟨Go.Proofs.Tryz.func54,by kernel_rfl,by kernel_rfl,by kernel_rfl,by kernel_rfl⟩
theorem ahE:aJ Go.Proofs.Tryz.prog tab 55 afZ:=⟨Go.Proofs.Tryz.func55,by kernel_rfl,by kernel_rfl,by kernel_rfl,by kernel_rfl⟩
theorem ahF:aJ Go.Proofs.Tryz.prog tab 56 af0:=⟨Go.Proofs.Tryz.func56,by kernel_rfl,by kernel_rfl,by kernel_rfl,by kernel_rfl⟩
theorem ahG:aJ Go.Proofs.Tryz.prog tab 57 af2:=⟨Go.Proofs.Tryz.func57,by kernel_rfl,by kernel_rfl,by kernel_rfl,by kernel_rfl⟩
theorem ahH:aJ Go.Proofs.Tryz.prog tab 58 af4:=⟨Go.Proofs.Tryz.func58,by kernel_rfl,by kernel_rfl,by kernel_rfl,by kernel_rfl⟩
theorem ahI:aJ Go.Proofs.Tryz.prog tab 59 af5:=⟨Go.Proofs.Tryz.func59,by kernel_rfl,by kernel_rfl,by kernel_rfl,by kernel_rfl⟩
theorem ahJ:aJ Go.Proofs.Tryz.prog tab 60 af6:=⟨Go.Proofs.Tryz.func60,by kernel_rfl,by kernel_rfl,by kernel_rfl,by kernel_rfl⟩
theorem ahK:aJ Go.Proofs.Tryz.prog tab 61 af7:=⟨Go.Proofs.Tryz.func61,by kernel_rfl,by kernel_rfl,by kernel_rfl,by kernel_rfl⟩
theorem ahL:aJ Go.Proofs.Tryz.prog tab 64 af8:=⟨Go.Proofs.Tryz.func64,by kernel_rfl,by kernel_rfl,by kernel_rfl,by kernel_rfl⟩
theorem ahM:aJ Go.Proofs.Tryz.prog tab 65 af9:=⟨Go.Proofs.Tryz.func65,by kernel_rfl,by kernel_rfl,by kernel_rfl,by kernel_rfl⟩
theorem ahN:aJ Go.Proofs.Tryz.prog tab 66 aga:=⟨Go.Proofs.Tryz.func66,by kernel_rfl,by kernel_rfl,by kernel_rfl,by kernel_rfl⟩
theorem ahO:aJ Go.Proofs.Tryz.prog tab 67 agb:=⟨Go.Proofs.Tryz.func67,by kernel_rfl,by kernel_rfl,by kernel_rfl,by kernel_rfl⟩
theorem ahP:aJ Go.Proofs.Tryz.prog tab 68 agc:=⟨Go.Proofs.Tryz.func68,by kernel_rfl,by kernel_rfl,by kernel_rfl,by kernel_rfl⟩
theorem ahQ:aJ Go.Proofs.Tryz.prog tab 69 agd:=⟨Go.Proofs.Tryz.func69,by kernel_rfl,by kernel_rfl,by kernel_rfl,by kernel_rfl⟩
theorem ahR:aJ Go.Proofs.Tryz.prog tab 70 agf:=⟨Go.Proofs.Tryz.func70,by kernel_rfl,by kernel_rfl,by kernel_rfl,by kernel_rfl⟩
theorem ahS:aJ Go.Proofs.Tryz.prog tab 71 agh:=⟨Go.Proofs.Tryz.func71,by kernel_rfl,by kernel_rfl,by kernel_rfl,by kernel_rfl⟩
theorem ahT:aJ Go.Proofs.Tryz.prog tab 73 agi:=⟨Go.Proofs.Tryz.func73,by kernel_rfl,by kernel_rfl,by kernel_rfl,by kernel_rfl⟩
theorem ahU:aJ Go.Proofs.Tryz.prog tab 74 agj:=⟨Go.Proofs.Tryz.func74,by kernel_rfl,by kernel_rfl,by kernel_rfl,by kernel_rfl⟩
theorem ahV:aJ Go.Proofs.Tryz.prog tab 75 aas:=⟨Go.Proofs.Tryz.func75,by kernel_rfl,by kernel_rfl,by kernel_rfl,by kernel_rfl⟩
theorem ahW:aJ Go.Proofs.Tryz.prog tab 76 aaw:=⟨Go.Proofs.Tryz.func76,by kernel_rfl,by kernel_rfl,by kernel_rfl,by kernel_rfl⟩
theorem ahX:aJ Go.Proofs.Tryz.prog tab 77 agk:=⟨Go.Proofs.Tryz.func77,by kernel_rfl,by kernel_rfl,by kernel_rfl,by kernel_rfl⟩
theorem ahY:aJ Go.Proofs.Tryz.prog tab 79 aat:=⟨Go.Proofs.Tryz.func79,by kernel_rfl,by kernel_rfl,by kernel_rfl,by kernel_rfl⟩
theorem ahZ:aJ Go.Proofs.Tryz.prog tab 80 agl:=⟨Go.Proofs.Tryz.func80,by kernel_rfl,by kernel_rfl,by kernel_rfl,by kernel_rfl⟩
theorem ah0:aJ Go.Proofs.Tryz.prog tab 81 aau:=⟨Go.Proofs.Tryz.func81,by kernel_rfl,by kernel_rfl,by kernel_rfl,by kernel_rfl⟩
theorem ah1:aJ Go.Proofs.Tryz.prog tab 82 aax:=⟨Go.Proofs.Tryz.func82,by kernel_rfl,by kernel_rfl,by kernel_rfl,by kernel_rfl⟩
theorem ah2:aJ Go.Proofs.Tryz.prog tab 83 agm:=⟨Go.Proofs.Tryz.func83,by kernel_rfl,by kernel_rfl,by kernel_rfl,by kernel_rfl⟩
theorem ah3:aJ Go.Proofs.Tryz.prog tab 84 agn:=⟨Go.Proofs.Tryz.func84,by kernel_rfl,by kernel_rfl,by kernel_rfl,by kernel_rfl⟩
theorem ah4:aJ Go.Proofs.Tryz.prog tab 85 agp:=⟨Go.Proofs.Tryz.func85,by kernel_rfl,by kernel_rfl,by kernel_rfl,by kernel_rfl⟩
theorem ah5:aJ Go.Proofs.Tryz.prog tab 86 agq:=⟨Go.Proofs.Tryz.func86,by kernel_rfl,by kernel_rfl,by kernel_rfl,by kernel_rfl⟩
theorem ah6:aJ Go.Proofs.Tryz.prog tab 87 agr:=⟨Go.Proofs.Tryz.func87,by kernel_rfl,by kernel_rfl,by kernel_rfl,by kernel_rfl⟩
theorem ah7:aJ Go.Proofs.Tryz.prog tab 88 ags:=⟨Go.Proofs.Tryz.func88,by kernel_rfl,by kernel_rfl,by kernel_rfl,by kernel_rfl⟩
theorem ah8:aJ Go.Proofs.Tryz.prog tab 89 agt:=⟨Go.Proofs.Tryz.func89,by kernel_rfl,by kernel_rfl,by kernel_rfl,by kernel_rfl⟩
theorem ah9:aJ Go.Proofs.Tryz.prog tab 90 agu:=⟨Go.Proofs.Tryz.func90,by kernel_rfl,by kernel_rfl,by kernel_rfl,by kernel_rfl⟩
theorem aia:aJ Go.Proofs.Tryz.prog tab 91 agv:=⟨Go.Proofs.Tryz.func91,by kernel_rfl,by kernel_rfl,by kernel_rfl,by kernel_rfl⟩
theorem aib:aJ Go.Proofs.Tryz.prog tab 92 agw:=⟨Go.Proofs.Tryz.func92,by kernel_rfl,by kernel_rfl,by kernel_rfl,by kernel_rfl⟩
theorem aic:aJ Go.Proofs.Tryz.prog tab 93 agx:=⟨Go.Proofs.Tryz.func93,by kernel_rfl,by kernel_rfl,by kernel_rfl,by kernel_rfl⟩
theorem aie:aJ Go.Proofs.Tryz.prog tab 94 agy:=⟨Go.Proofs.Tryz.func94,by kernel_rfl,by kernel_rfl,by kernel_rfl,by kernel_rfl⟩
theorem aif:aJ Go.Proofs.Tryz.prog tab 95 agz:=⟨Go.Proofs.Tryz.func95,by kernel_rfl,by kernel_rfl,by kernel_rfl,by kernel_rfl⟩
theorem aii:aJ Go.Proofs.Tryz.prog tab 99 agA:=⟨Go.Proofs.Tryz.func99,by kernel_rfl,by kernel_rfl,by kernel_rfl,by kernel_rfl⟩
theorem adx:aJ Go.Proofs.Tryz.prog tab 100 abS:=⟨Go.Proofs.Tryz.func100,by kernel_rfl,by kernel_rfl,by kernel_rfl,by kernel_rfl⟩
theorem ady:aJ Go.Proofs.Tryz.prog tab 108 abT:=⟨Go.Proofs.Tryz.func108,by kernel_rfl,by kernel_rfl,by kernel_rfl,by kernel_rfl⟩
theorem adz:aJ Go.Proofs.Tryz.prog tab 109 abU:=⟨Go.Proofs.Tryz.func109,by kernel_rfl,by kernel_rfl,by kernel_rfl,by kernel_rfl⟩
theorem adA:aJ Go.Proofs.Tryz.prog tab 120 abV:=⟨Go.Proofs.Tryz.func120,by kernel_rfl,by kernel_rfl,by kernel_rfl,by kernel_rfl⟩
theorem adB:aJ Go.Proofs.Tryz.prog tab 121 abW:=⟨Go.Proofs.Tryz.func121,by kernel_rfl,by kernel_rfl,by kernel_rfl,by kernel_rfl⟩
theorem ad4 (h:OJ Go.Proofs.Tryz.prog tab):bP Go.Proofs.Tryz.prog tab:=Z5
 ⟨ajX,ajY,ajZ,aj0,agB,agC,agD,agE,agF,agG,agH,agI,agJ,agK,agL,agM,agN,agO,agP,agQ,agR,agS,agT,agU,ads,adt,adu,adv,adw,trivial⟩
 ⟨aj1,aj2,aj3,aj6,aj7,aj8,agV,agW,agX,agY,agZ,ag0,ag1,ag2,ag3,ag4,ag5,ag6,ag7,ag8,ag9,aha,ahb,ahc,ahd,ahe,ahf,ahg,ahh,ahi,ahj,ahk,ahl,ahm,ahn,aho,ahp,ahq,ahr,ahs,aht,ahu,ahv,ahw,ahx,ahy,ahz,ahA,ahB,ahC,ahD,ahE,ahF,ahG,ahH,ahI,ahJ,ahK,ahL,ahM,ahN,ahO,ahP,ahQ,ahR,ahS,ahT,ahU,ahV,ahW,ahX,ahY,ahZ,ah0,ah1,ah2,ah3,ah4,ah5,ah6,ah7,ah8,ah9,aia,aib,aic,aie,aif,aii,adx,ady,adz,adA,adB,trivial⟩ (by kernel_rfl) h
end Go.Skm.Fig
