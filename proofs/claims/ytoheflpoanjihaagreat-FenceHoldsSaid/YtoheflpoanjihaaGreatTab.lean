import Derived.Test.YtoheflpoanjihaaGreatProg
import Derived.Test.YtoheflpoanjihaaGreatSkmA
set_option linter.all false
namespace Go.Skm.Fen
noncomputable section
def Ag(d:Nat):List Nat:=[d,d+1000,d+2000,d+3000]
abbrev Ry:=List Go.Skm.AV×List Go.Skm.bZ
abbrev Rz:=Option Ry
abbrev kI:List Kd:=[.int .i64]
abbrev Ab(n:Int):AV:=.p (.int .i64 n)
abbrev Ac(n:Bool):AV:=.p (.bool n)
abbrev Ah(n:List PV):AV:=.p (.list false kI n)
abbrev Ao(n:List PV):PV:=.list false kI n
abbrev Ap(n:Int):PV:=.int .i64 n
open Go.Proofs
open Go
def Hq (n:Nat):List (List Nat):=List.replicate n []
def Ur(n:Nat):List AV:=List.replicate n .undef
def Uq:Nat->List AV->List AV
 | 0,l=>l
 | n+1,l=>.undef::Uq n l
abbrev aU:List Kd:=[.int .i64,.int .i64,.int .i64]
def ty3:TI:=⟨.int .i64,1,8,false,(false,[.int .i64]),some (Ap 0),false⟩
def ty4:TI:=⟨.bool,1,1,false,(false,[.bool]),some (.bool false),false⟩
def ty5:TI:=⟨.int .u8,1,1,false,(false,[.int .u8]),some (.int .u8 0),false⟩
def ty9:TI:=⟨.string,1,16,false,(false,[.str]),some (.str ⟨#[]⟩),false⟩
def awn:TI:=⟨.slice 26,1,24,false,(false,[.slice true [.int .i64,.int .i64,.int .i64]]),some (.nil),false⟩
def awo:TI:=⟨.func #[22] #[4] false,1,8,false,(false,[.other]),some (.sF),false⟩
def awp:TI:=⟨.struct #[⟨ "X",3,0,false,"","",0⟩,⟨ "Y",3,1,false,"","",8⟩,⟨ "Z",3,2,false,"","",16⟩],3,24,true,(true,[.int .i64,.int .i64,.int .i64]),some (.agg [Ap 0,Ap 0,Ap 0]),true⟩
def awq:TI:=⟨.slice 22,1,24,false,(false,[.slice false [.slice true [.int .i64,.int .i64,.int .i64]]]),some (.nil),false⟩
def awr:TI:=⟨.struct #[⟨ "Outer",22,0,false,"","",0⟩,⟨ "Holes",29,1,false,"","",24⟩,⟨ "Low",3,2,false,"","",48⟩,⟨ "High",3,3,false,"","",56⟩],4,64,true,(true,[.slice true [.int .i64,.int .i64,.int .i64],.slice false [.slice true [.int .i64,.int .i64,.int .i64]],.int .i64,.int .i64]),some (.agg [.nil,.nil,Ap 0,Ap 0]),false⟩
def aws:TI:=⟨.int .i64,1,8,false,(false,[.int .i64]),some (Ap 0),false⟩
def awt:TI:=⟨.func #[26] #[4] false,1,8,false,(false,[.other]),some (.sF),false⟩
def awu:TI:=⟨.struct #[⟨ "Neg",4,0,false,"","",0⟩,⟨ "Mag",9,1,false,"","",8⟩],2,24,true,(true,[.bool,.str]),some (.agg [.bool false,.str ⟨#[]⟩]),true⟩
def awv:TI:=⟨.struct #[⟨ "Num",43,0,false,"","",0⟩,⟨ "Den",43,2,false,"","",24⟩],4,48,true,(true,[.bool,.str,.bool,.str]),some (.agg [.bool false,.str ⟨#[]⟩,.bool false,.str ⟨#[]⟩]),true⟩
def aww:TI:=⟨.slice 45,1,24,false,(false,[.slice true [.bool,.str,.bool,.str]]),some (.nil),false⟩
def awx:TI:=⟨.slice 3,1,24,false,(false,[.slice false [.int .i64]]),some (.nil),false⟩
def awy:TI:=⟨.struct #[⟨ "Neg",4,0,false,"","",0⟩,⟨ "D",50,1,false,"","",8⟩],2,32,true,(true,[.bool,.slice false [.int .i64]]),some (.agg [.bool false,.nil]),false⟩
def awz:TI:=⟨.struct #[⟨ "N",52,0,false,"","",0⟩,⟨ "D",52,2,false,"","",32⟩],4,64,true,(true,[.bool,.slice false [.int .i64],.bool,.slice false [.int .i64]]),some (.agg [.bool false,.nil,.bool false,.nil]),false⟩
def awC:TI:=⟨.struct #[⟨ "X",54,0,false,"","",0⟩,⟨ "Y",54,4,false,"","",64⟩],8,128,true,(true,[.bool,.slice false [.int .i64],.bool,.slice false [.int .i64],.bool,.slice false [.int .i64],.bool,.slice false [.int .i64]]),some (.agg [.bool false,.nil,.bool false,.nil,.bool false,.nil,.bool false,.nil]),false⟩
def awD:TI:=⟨.slice 5,1,24,false,(false,[.slice false [.int .u8]]),some (.nil),false⟩
def awE:TI:=⟨.func #[3,3] #[45] false,1,8,false,(false,[.other]),some (.sF),false⟩
def awF:TI:=⟨.slice 69,1,24,false,(false,[.slice true [.int .i64,.int .i64,.int .i64,.int .i64,.int .i64,.int .i64]]),some (.nil),false⟩
def awG:TI:=⟨.func #[122] #[] false,1,8,false,(false,[.other]),some (.sF),false⟩
def awH:TI:=⟨.struct #[⟨ "A",26,0,false,"","",0⟩,⟨ "B",26,3,false,"","",24⟩],6,48,true,(true,[.int .i64,.int .i64,.int .i64,.int .i64,.int .i64,.int .i64]),some (.agg [Ap 0,Ap 0,Ap 0,Ap 0,Ap 0,Ap 0]),true⟩
def awI:TI:=⟨.func #[22] #[3] false,1,8,false,(false,[.other]),some (.sF),false⟩
def awJ:TI:=⟨.struct #[⟨ "first",33,0,false,"","skylantern/fence",0⟩],1,8,true,(true,[.int .i64]),some (.agg [Ap 0]),true⟩
def awK:TI:=⟨.struct #[⟨ "u",43,0,false,"","skylantern/fence",0⟩,⟨ "v",43,2,false,"","skylantern/fence",24⟩,⟨ "w",43,4,false,"","skylantern/fence",48⟩],6,72,true,(true,[.bool,.str,.bool,.str,.bool,.str]),some (.agg [.bool false,.str ⟨#[]⟩,.bool false,.str ⟨#[]⟩,.bool false,.str ⟨#[]⟩]),true⟩
def aqx:TI:=⟨.func #[45,45] #[3] false,1,8,false,(false,[.other]),some (.sF),false⟩
def aqy:TI:=⟨.func #[3,3,45] #[45] false,1,8,false,(false,[.other]),some (.sF),false⟩
def aqz:TI:=⟨.slice 54,1,24,false,(false,[.slice true [.bool,.slice false [.int .i64],.bool,.slice false [.int .i64]]]),some (.nil),false⟩
def aqA:TI:=⟨.func #[26,26] #[4] false,1,8,false,(false,[.other]),some (.sF),false⟩
def aqB:TI:=⟨.func #[26,26] #[3] false,1,8,false,(false,[.other]),some (.sF),false⟩
def aqC:TI:=⟨.func #[26,3] #[3] false,1,8,false,(false,[.other]),some (.sF),false⟩
def aqD:TI:=⟨.slice 143,1,24,false,(false,[.slice false [.int .u64]]),some (.nil),false⟩
def aqE:TI:=⟨.int .u64,1,8,false,(false,[.int .u64]),some (.int .u64 0),false⟩
def aqF:TI:=⟨.struct #[⟨ "neg",4,0,false,"","skylantern/wide",0⟩,⟨ "mag",140,1,false,"","skylantern/wide",8⟩],2,32,true,(true,[.bool,.slice false [.int .u64]]),some (.agg [.bool false,.nil]),false⟩
def aqG:TI:=⟨.pointer 97,1,8,false,(false,[.other]),some (.aau),false⟩
def aqH:TI:=⟨.func #[26] #[43,43] false,1,8,false,(false,[.other]),some (.sF),false⟩
def aqI:TI:=⟨.slice 164,1,24,false,(false,[.slice true [.int .i64,.int .i64]]),some (.nil),false⟩
def aqJ:TI:=⟨.array 2 3,2,16,true,(true,[.int .i64,.int .i64]),some (.agg [Ap 0,Ap 0]),false⟩
def aqK:TI:=⟨.func #[163] #[] true,1,8,false,(false,[.other]),some (.sF),false⟩
def aqL:TI:=⟨.int .u64,1,8,false,(false,[.int .u64]),some (.int .u64 0),false⟩
def aqM:TI:=⟨.array 3 3,3,24,true,(true,[.int .i64,.int .i64,.int .i64]),some (.agg [Ap 0,Ap 0,Ap 0]),false⟩
def aqN:TI:=⟨.interface #[("Error",182)],1,16,false,(false,[.other]),none,false⟩
def apq:FI:=⟨Tryz.f10,{nvars:=37,cuts:=[(5,[3,5,6,7,9,10,11,82,83,84],[5,6,7,9,10,11,94]),(21,[5,6,7,9,10,11,20,23,168],[5,6,7,9,10,11,23,94]),(25,[5,6,7,9,10,11,20,23,24,168,188,189,190],[5,6,7,9,10,11,23,24,94,188])]},[(3,[[11],[11],[11],[11],Ag 75++[11],Ag 75++[11],Ag 75++[11],Ag 75++[11],[11],Ag 75,[]]),(7,[Ag 92++[93],Ag 92++[93],[],[],[],[],[],[],[]]),(27,[Ag 201,[],[],[],[],[],[],[],[],[],[],[],[]]),(28,[Ag 212++[30],[30],[30],[30],[30],[30],[30],[30],[30],[30],[30,30],Ag 212++Ag 213,[],[]]),(29,[[],[],[],[],[],[],[],Ag 224,[],[],[],[],[],[],[]]),(40,[Ag 269++Ag 275++Ag 281,[],[],[],[],[],[],Ag 269,Ag 269,Ag 269,Ag 269,Ag 269,[],Ag 269++Ag 275,Ag 269++Ag 275,Ag 269++Ag 275,Ag 269++Ag 275,Ag 269++Ag 275,[],[],[],[],[],[],[]])]⟩
def awL:FI:=⟨Tryz.f11,{nvars:=26,frzs:=[1002001],cuts:=[(8,[0,1,66,67,68],[0,66]),(27,[0,1,20,179],[0,20])]},[(14,[Ag 90++Ag 91++Ag 92,[],[],[],[],[],[],[],[],[]]),(15,[Ag 98++Ag 99++Ag 100,[],[],[],[],[],[],[],[],[]]),(16,[Ag 106++Ag 107,[],[],[],[],[],[],[],[]]),(17,[Ag 113++Ag 114,[],[],[],[],[],[],[],[]]),(18,[Ag 120++Ag 121,[],[],[],[],[],[],[],[]]),(19,[Ag 127++Ag 128,[],[],[],[],[],[],[],[]]),(29,[[],[],[],Ag 186,[],[],[],Ag 190,[],[],[],[],[],[],[],[],Ag 199,[],[],[],Ag 203,[],[],[],[],[],[],[],[],[]]),(32,[Ag 216++[23],[23],[23],[23],[23],[23,23],Ag 216++Ag 217,[],[]]),(33,[Ag 222++[24],[24],[24],[24],[24],[24,24],Ag 222++Ag 223,[],[]]),(34,[Ag 228++[25],[25],[25],[25],[25],[25,25],Ag 228++Ag 229,[],[]]),(35,[[],[],[],Ag 236,[],[],[],[],[],[],[],[],Ag 245,[],[],[],[],[],[],[],[],Ag 254,[],[],[],[],[],[],[],[]])]⟩
def awM:FI:=⟨Tryz.f12,{nvars:=11,cuts:=[(5,[0,3,23,24],[]),(11,[0,3,4,5,6,7,23,24],[5,6])]},[(7,[[5,6],[5,6],[5,6],[5,6],[5,6,5],[5,6,5],[5,6,5],[5,6,5],[5,6,5],[5,6,5],[5,6,5],[6],[5],[],[]]),(13,[[8,9],[8,9],[8,9],[8,9],[8,9,8],[8,9,8],[8,9,8],[8,9,8],[8,9,8],[8,9,8],[8,9,8],[9],[8],[],[]])]⟩
def awN:FI:=⟨Tryz.f13,{nvars:=6,cuts:=[(5,[3,4],[3]),(10,[3,4,5],[3])]},[(7,Hq 11),(16,Hq 34),(13,Hq 9)]⟩
def awO:FI:=⟨Tryz.f14,{nvars:=6},[]⟩
def awP:FI:=⟨Tryz.f15,{nvars:=5,cuts:=[(2,[1,6,7,8],[1])]},[]⟩
def awQ:FI:=⟨Tryz.f16,{nvars:=7,cuts:=[(5,[4,19,20,21],[])]},[(3,[[],[],[],Ag 12,Ag 12,[],[],[],[]])]⟩
def awR:FI:=⟨Tryz.f17,{nvars:=12,cuts:=[(4,[1,3],[1]),(9,[1,4],[1]),(14,[1,4,5,6],[1,5]),(17,[1,4,5,6,86,87,88],[1,5,86]),(20,[1,4,5,6,8,86,87,88,96,97,98],[1,5,8,86,96])]},[(11,[[],[],[],[62],[62],[62],[62],[],[]]),(25,[Ag 112,Ag 112,Ag 112,Ag 112,[],[],[],[],[]])]⟩
def awS:FI:=⟨Tryz.f18,{nvars:=16,cuts:=[(5,[1,2,3,47,48,49],[1,2,3,45]),(10,[1,2,3,5,47,48,49,57],[1,2,3,45]),(15,[1,2,3,5,6,7,47,48,49,57,65,66,67],[1,2,3,6,7,45]),(18,[1,2,3,5,6,7,47,48,49,57,65,66,67,72],[1,2,3,6,7,45]),(26,[1,2,87,88,89],[1,2]),(29,[1,2,12,13,87,88,89,95,96,97],[1,2])]},[]⟩
def awT:FI:=⟨Tryz.f20,{nvars:=6},[]⟩
def awU:FI:=⟨Tryz.f21,{nvars:=3},[]⟩
def awV:FI:=⟨Tryz.f24,{nvars:=21,cuts:=[(3,[4,5,6,7,10,24,25,26],[4,5,6,7,24])]},[(7,[[],[],[],[],[],Ag 37,Ag 37,[],[],[],[],[]]),(14,[Ag 56,[],[],[],Ag 56,[],[],[],[],[],[],[]]),(15,[Ag 66,[],[],[],Ag 66,[],[],[],[],[],[],[]]),(19,Hq 10)]⟩
def awW:FI:=⟨Tryz.f27,{nvars:=4},[]⟩
def awX:FI:=⟨Tryz.f28,{nvars:=21,cuts:=[(10,[3,4,5,8,9,64],[3,4,5,8,9,62,72]),(19,[3,4,5,8,9,13,14,15],[3,4,5,8,9,13,62,72])]},[(21,[[16],[16],[16],[16],[16],[16],[16],[16],[16],[16],[16],[16],[16,16],Ag 95,[],[]]),(22,[Ag 101++[18],Ag 101++[18],[18],[18],[18],[18],[18],[18,18],Ag 101++Ag 103,[],[]]),(23,[[20],[20],[20],[20],[20],[20],[20],[20],[20],[20],Ag 115++[20],Ag 115++[20],Ag 115++[20],Ag 115++[20],Ag 115++[20],Ag 115++[20],Ag 115++[20],Ag 115++[20],Ag 115++[20],[20],[20],Ag 115++Ag 125++Ag 126,[]])]⟩
def awY:FI:=⟨Tryz.f31,{shares:=true,rets:=[.func 87 [(true,[.slice true [.int .i64,.int .i64,.int .i64],.slice false [.slice true [.int .i64,.int .i64,.int .i64]],.int .i64,.int .i64])]],nvars:=3},[]⟩
def awZ:FI:=⟨Tryz.f32,{nvars:=12,cuts:=[(5,[3,4,6,22],[3,4,6])]},[]⟩
def aw0:FI:=⟨Tryz.f35,{shares:=true,rets:=[.deep],nvars:=7,quiet:=true,cuts:=[(3,[0,1,5,8,9],[5])]},[]⟩
def aw1:FI:=⟨Tryz.f36,{nvars:=5},[]⟩
def aw2:FI:=⟨Tryz.f37,{rets:=[.fresh],nvars:=5,cuts:=[(3,[0,3,4],[3])]},[(5,[[23],[],[],[],[],[],[],[],[],[],[],[],[],[]])]⟩
def aw3:FI:=⟨Tryz.f38,{nvars:=5},[]⟩
def aw4:FI:=⟨Tryz.f39,{nvars:=3},[]⟩
def aw5:FI:=⟨Tryz.f40,{nvars:=3},[]⟩
def aw6:FI:=⟨Tryz.f41,{nvars:=7},[]⟩
def aw7:FI:=⟨Tryz.f42,{nvars:=9},[(1,[[],[],[],[],[],[],[],[],[],[],[],[],[],[],[],[],[],[],[],[],[],[],[],[],[],[],[],Ag 35,Ag 35,Ag 35,[],[],[],[],[],[],[],[],Ag 46,Ag 46,Ag 46,[],[],[],[],[],[]])]⟩
def aw8:FI:=⟨Tryz.f43,{nvars:=4,cuts:=[(2,[0,3],[])]},[]⟩
def aw9:FI:=⟨Tryz.f44,{rets:=[.fresh],nvars:=6,cuts:=[(3,[0,3,4],[3])]},[(6,[[41],[],[],[],[],[],[],[],[],[],[],[],[],[],[],[],[],[],[],[],[],[],[],[],[],[],[]])]⟩
def axa:FI:=⟨Tryz.f45,{nvars:=7},[]⟩
def axb:FI:=⟨Tryz.f46,{nvars:=5},[(3,[[],[],[],[],[],[],[],Ag 45,Ag 45,Ag 45,Ag 45,Ag 45,Ag 45,[],[],[],[],[],[],[],[],[],[],[],Ag 62,Ag 62,Ag 62,Ag 62,Ag 62,Ag 62,[],[],[],[],[],[],[],[],[],[],[],[],[],[],[],[],[],[],[],[],[],[],[],[],[]])]⟩
def axc:FI:=⟨Tryz.f47,{nvars:=6,cuts:=[(3,[3,7],[3])]},[]⟩
def axd:FI:=⟨Tryz.f48,{nvars:=3},[]⟩
def axe:FI:=⟨Tryz.f49,{nvars:=11,cuts:=[(4,[3,5,6,7],[3,5])]},[(6,Hq 7),(7,Hq 36),(9,[[],[],[],[],[],[],[],Ag 67,Ag 67,[],Ag 78++Ag 81,Ag 67++Ag 70,Ag 67++Ag 70,Ag 67++Ag 70,Ag 67++Ag 70,Ag 67++Ag 70,Ag 67++Ag 70,[],Ag 67++Ag 70++Ag 78,Ag 67++Ag 70++Ag 78,[],[],[],[]])]⟩
def axf:FI:=⟨Tryz.f50,{shares:=true,nvars:=2,quiet:=true},[(1,[[],[],[],[],Ag 10++Ag 11,Ag 5++Ag 6,Ag 5++Ag 6,[],[],[],[],[]])]⟩
def axg:FI:=⟨Tryz.f51,{shares:=true,rets:=[.func 100 [(true,[.slice true [.int .i64,.int .i64,.int .i64]])]],nvars:=3},[]⟩
def axh:FI:=⟨Tryz.f52,{nvars:=5},[]⟩
def axi:FI:=⟨Tryz.f55,{nvars:=5},[]⟩
def axj:FI:=⟨Tryz.f56,{nvars:=6,cuts:=[(2,[1,2,5],[2])]},[]⟩
def axk:FI:=⟨Tryz.f57,{shares:=true,nvars:=2,quiet:=true},[]⟩
def axl:FI:=⟨Tryz.f59,{nvars:=3},[]⟩
def axm:FI:=⟨Tryz.f60,{nvars:=3},[]⟩
def axn:FI:=⟨Tryz.f61,{nvars:=6},[]⟩
def axo:FI:=⟨Tryz.f62,{nvars:=9},[(4,[Ag 22,[],[],[],[],[],[]])]⟩
def axp:FI:=⟨Tryz.f63,{nvars:=6},[(1,[[],[],[],[],[],[],Ag 12,Ag 12,Ag 12,Ag 12,Ag 12,[],Ag 12++Ag 18,Ag 12++Ag 18,Ag 12++Ag 18,Ag 12++Ag 18,Ag 12++Ag 18,[],[],[]])]⟩
def axq:FI:=⟨Tryz.f64,{nvars:=5},[]⟩
def axr:FI:=⟨Tryz.f65,{nvars:=5},[]⟩
def axt:FI:=⟨Tryz.f66,{nvars:=8,frzs:=[1006003,1006005]},[]⟩
def axu:FI:=⟨Tryz.f67,{nvars:=5},[(1,[[],[],[],[],[],Ag 9,Ag 9,Ag 9,Ag 9,[],[],[]])]⟩
def axv:FI:=⟨Tryz.f70,{nvars:=9,cuts:=[(3,[1,2,3,4],[1,2,3,4]),(6,[1,2,3,4,5,6],[1,2,3,4]),(15,[1,2,3,7,8],[1,2,3,7])]},[]⟩
def axw:FI:=⟨Tryz.f71,{shares:=true,nvars:=2,quiet:=true},[]⟩
def axx:FI:=⟨Tryz.f72,{rets:=[.fresh],nvars:=15,take:=true},[(2,Hq 12)]⟩
def aoI:FI:=⟨Tryz.f73,{nvars:=7},[]⟩
def am7:FI:=⟨Tryz.f74,{D9:=true,nvars:=5},[]⟩
def axy:FI:=⟨Tryz.f75,{D9:=true,rets:=[.alias 0],nvars:=6,cuts:=[(4,[0,3],[100000]),(9,[0,3,4,5],[100000])]},[(6,Hq 10),(11,Hq 10)]⟩
def axz:FI:=⟨Tryz.f76,{nvars:=9},[(1,[[8],[8],Ag 10++[8],Ag 10++[8],[8],Ag 10++Ag 13,[]]),(2,[Ag 16++Ag 19,[],[],Ag 16,Ag 16,[],[],[],[],[],Ag 16++Ag 19++Ag 20++Ag 23,Ag 16++Ag 19++Ag 20++Ag 23,[],[]])]⟩
def axA:FI:=⟨Tryz.f77,{nvars:=6},[]⟩
def axB:FI:=⟨Tryz.f78,{nvars:=6},[]⟩
def axC:FI:=⟨Tryz.f79,{nvars:=6},[(3,[[],[],Ag 12,[],[],[],[],[],[],[]])]⟩
def axD:FI:=⟨Tryz.f80,{nvars:=9},[(4,[[],[],[],Ag 23,[],[],[],[],[]])]⟩
def axE:FI:=⟨Tryz.f81,{nvars:=6},[(3,[[],[],[],Ag 13,Ag 13,[],[],Ag 13++Ag 16++Ag 17,Ag 13++Ag 16++Ag 17,[],Ag 13++Ag 16++Ag 17++Ag 20,Ag 13++Ag 16++Ag 17++Ag 20,[],[],[],[],[],[],[]])]⟩
def axF:FI:=⟨Tryz.f82,{nvars:=5},[]⟩
def axG:FI:=⟨Tryz.f85,{shares:=true,nvars:=4,quiet:=true},[(1,[[],[],[],[],[],Ag 9,Ag 9,Ag 9,Ag 9,[],[],[]])]⟩
def sU:FI:=⟨Tryz.f87,{nvars:=7,gext:=true,yk:=[(true,[.int .i64,.int .i64,.int .i64]),(true,[.int .i64,.int .i64,.int .i64])]},[]⟩
def am2:FI:=⟨Tryz.f88,{shares:=true,rets:=[.fresh],nvars:=3},[]⟩
def axH:FI:=⟨Tryz.f89,{D9:=true,nvars:=4,cuts:=[(1,[0,2,3],[100000])]},[(3,Hq 16)]⟩
def axI:FI:=⟨Tryz.f90,{nvars:=19},[(1,Hq 12),(7,[Ag 85++[15],[15],[15],[15],[15],[15],[15,15],Ag 85++Ag 86,[],[]])]⟩
def axJ:FI:=⟨Tryz.f93,{shares:=true,nvars:=10,quiet:=true},[]⟩
def axK:FI:=⟨Tryz.f94,{nvars:=6,cuts:=[(2,[0,1,7,8],[])]},[]⟩
def axL:FI:=⟨Tryz.f95,{nvars:=7,cuts:=[(2,[0,7,8,9],[])]},[]⟩
def axM:FI:=⟨Tryz.f96,{nvars:=9},[]⟩
def axN:FI:=⟨Tryz.f97,{nvars:=8},[(1,[[],[],[],Ag 10,Ag 10,[],[],[],[]])]⟩
def axO:FI:=⟨Tryz.f98,{nvars:=7},[(1,[[5],[5],[5],[5],[5],[5],[5],[5],Ag 14++Ag 20++[5],Ag 14++Ag 20++[5],Ag 14++[5],Ag 14++[5],Ag 14++[5],[5],[5],[5],Ag 14++Ag 20++Ag 21++Ag 22,[]]),(2,[[6],[6],[6],[6],[6],[6],[6],[6],Ag 30++Ag 36++[6],Ag 30++Ag 36++[6],Ag 30++[6],Ag 30++[6],Ag 30++[6],[6],[6],[6],Ag 30++Ag 36++Ag 37++Ag 38,[]])]⟩
def axP:FI:=⟨Tryz.f99,{nvars:=7},[(1,[[],[],[],[],Ag 10,[],[],[],Ag 19,[],[],[],[],[],[],[],[]])]⟩
def afy:FI:=⟨Tryz.f100,{nvars:=6,yk:=[(true,[.int .i64,.int .i64,.int .i64]),(true,[.int .i64,.int .i64,.int .i64])],ys:=[0,21],cuts:=[(1,[0,1,6,7,8],[100000])]},[(3,[[5],[5],[5],[5],[5],[5],[5],[5],[],[]])]⟩
def aqO:FI:=⟨Tryz.f101,{nvars:=15,cuts:=[(3,[4,5,6,7,16],[4,5,6,7])]},[(6,[[],[],[],Ag 25,Ag 25,[],Ag 25++Ag 28,Ag 25++Ag 28,[],Ag 25++Ag 28++Ag 31,Ag 25++Ag 28++Ag 31,[],[],[],[],[]])]⟩
def aqP:FI:=⟨Tryz.f102,{nvars:=6},[]⟩
def aqQ:FI:=⟨Tryz.f103,{nvars:=6},[]⟩
def aqR:FI:=⟨Tryz.f104,{nvars:=7,cuts:=[(3,[2,3,4,5,6],[2,3,4,5])]},[(5,[Ag 16++Ag 21++Ag 27++Ag 32,[],[],[],[],[],Ag 16,Ag 16,Ag 16,Ag 16,[],Ag 27++Ag 32,Ag 16++Ag 21,Ag 16++Ag 21,Ag 16++Ag 21,Ag 16++Ag 21,[],Ag 16++Ag 21++Ag 27,Ag 16++Ag 21++Ag 27,Ag 16++Ag 21++Ag 27,Ag 16++Ag 21++Ag 27,[],[],[],[],[]])]⟩
def aqS:FI:=⟨Tryz.f105,{nvars:=4},[(1,[Ag 7,[],[],[],[]])]⟩
def aqT:FI:=⟨Tryz.f106,{nvars:=4},[]⟩
def aqU:FI:=⟨Tryz.f107,{nvars:=5},[]⟩
def aqV:FI:=⟨Tryz.f108,{nvars:=5},[]⟩
def aqW:FI:=⟨Tryz.f109,{nvars:=3},[]⟩
def aqX:FI:=⟨Tryz.f110,{nvars:=3},[]⟩
def aqY:FI:=⟨Tryz.f111,{rets:=[.fresh],nvars:=6,cuts:=[(3,[0,3,12,13],[3])]},[(6,[[29],[29],[29],[29],[29],[],[],[],[],[29],[29],[29],[],[],[],[]])]⟩
def aqZ:FI:=⟨Tryz.f112,{nvars:=3},[]⟩
def aq0:FI:=⟨Tryz.f113,{D9:=true,rets:=[.alias 0],nvars:=3,cuts:=[(1,[0],[100000])]},[]⟩
def aq1:FI:=⟨Tryz.f114,{nvars:=4},[(3,[[],[],[],Ag 19,Ag 19,Ag 19,Ag 19,Ag 19,[],[],[],[],[],[]])]⟩
def aq2:FI:=⟨Tryz.f115,{nvars:=5},[]⟩
def aq3:FI:=⟨Tryz.f116,{shares:=true,nvars:=7,quiet:=true},[(1,[[],[],[],Ag 9,Ag 9,[],[],Ag 9++Ag 12++Ag 13,Ag 9++Ag 12++Ag 13,[],Ag 9++Ag 12++Ag 13++Ag 16,Ag 9++Ag 12++Ag 13++Ag 16,[],[],Ag 9++Ag 12++Ag 13++Ag 16++Ag 19++Ag 20,Ag 9++Ag 12++Ag 13++Ag 16++Ag 19++Ag 20,[],Ag 9++Ag 12++Ag 13++Ag 16++Ag 19++Ag 20++Ag 23,Ag 9++Ag 12++Ag 13++Ag 16++Ag 19++Ag 20++Ag 23,[],[],[],[],[]])]⟩
def aq4:FI:=⟨Tryz.f117,{shares:=true,nvars:=4,quiet:=true},[(2,[Ag 17,Ag 17,[],[],[],[],[],[],[]]),(4,[Ag 32,Ag 32,[],[],[],[],[],[],[]]),(5,[Ag 40,Ag 40,[],[],[],[],[],[],[]])]⟩
def aq5:FI:=⟨Tryz.f118,{shares:=true,nvars:=2,quiet:=true},[]⟩
def aq6:FI:=⟨Tryz.f119,{nvars:=3},[]⟩
def aq7:FI:=⟨Tryz.f120,{nvars:=5},[]⟩
def aq8:FI:=⟨Tryz.f121,{nvars:=4},[]⟩
def aq9:FI:=⟨Tryz.f122,{nvars:=4},[(1,[Ag 12++Ag 15,Ag 12++Ag 15,Ag 12++Ag 15,Ag 12,[],[],[],Ag 12,Ag 12,[],[],Ag 12++Ag 15++Ag 16++Ag 23++Ag 26,Ag 12++Ag 15++Ag 16++Ag 23++Ag 26,Ag 12++Ag 15++Ag 16++Ag 23++Ag 26,Ag 12++Ag 15++Ag 16++Ag 23,Ag 12++Ag 15++Ag 16,Ag 12++Ag 15++Ag 16,[],Ag 12++Ag 15++Ag 16++Ag 23,Ag 12++Ag 15++Ag 16++Ag 23,[],[],[],[]])]⟩
def ara:FI:=⟨Tryz.f123,{nvars:=6},[]⟩
def arb:FI:=⟨Tryz.f124,{nvars:=9},[(2,[Ag 22++Ag 24++Ag 31++Ag 33,Ag 22,[],[],[],[],[],[],Ag 22,[],Ag 22++Ag 24++Ag 31,Ag 22++Ag 24,Ag 22++Ag 24,Ag 22++Ag 24,Ag 22++Ag 24,Ag 22++Ag 24,[],Ag 22++Ag 24++Ag 31,[],[],[],[]])]⟩
def ard:FI:=⟨Tryz.f125,{nvars:=8},[]⟩
def arf:FI:=⟨Tryz.f126,{nvars:=5},[]⟩
def arh:FI:=⟨Tryz.f127,{shares:=true,nvars:=4,quiet:=true},[(1,[Ag 14,Ag 14,Ag 14,Ag 14,Ag 14,[],[],[],[],[],[],[]])]⟩
def ari:FI:=⟨Tryz.f128,{rets:=[.fresh],nvars:=8,cuts:=[(4,[0,1,5,6,7],[5])]},[]⟩
def arj:FI:=⟨Tryz.f129,{rets:=[.fresh],nvars:=5},[]⟩
def ark:FI:=⟨Tryz.f130,{D9:=true,rets:=[.alias 0],nvars:=3,cuts:=[(1,[0],[100000])]},[]⟩
def arl:FI:=⟨Tryz.f131,{shares:=true,nvars:=4},[]⟩
def arn:FI:=⟨Tryz.f132,{shares:=true,nvars:=4,quiet:=true},[(1,[Ag 7,[],[],[],[]])]⟩
def aro:FI:=⟨Tryz.f133,{nvars:=7,vcall:=true,cuts:=[(1,[1,7,8,9],[99999,100000])]},[]⟩
def arp:FI:=⟨Tryz.f134,{nvars:=6},[]⟩
def arq:FI:=⟨Tryz.f135,{nvars:=5},[(3,[[],[],Ag 10,[],[],[],[],[]])]⟩
def ars:FI:=⟨Tryz.f138,{nvars:=6},[(3,[[],[],Ag 12,[],[],[],[],[],[],[]])]⟩
def aru:FI:=⟨Tryz.f139,{shares:=true,nvars:=2,quiet:=true},[(1,[Ag 7,Ag 7,[],[],[],[],[]])]⟩
def arv:FI:=⟨Tryz.f140,{nvars:=11},[(1,[Ag 17++[6],Ag 17++[6],[6],[6],[6],[6],[6],[6],Ag 17,[]])]⟩
def arw:FI:=⟨Tryz.f141,{shares:=true,nvars:=4,quiet:=true},[(1,[Ag 14,Ag 14,Ag 14,Ag 14,Ag 14,[],[],[],[],[],[],[]])]⟩
def arx:FI:=⟨Tryz.f142,{shares:=true,nvars:=4,quiet:=true},[(2,[Ag 16,Ag 16,[],[],[],[],[],[],[]]),(4,[Ag 30,Ag 30,[],[],[],[],[],[],[]]),(5,[Ag 38,Ag 38,[],[],[],[],[],[],[]])]⟩
def arz:FI:=⟨Tryz.f143,{nvars:=6},[(5,[[],[],Ag 16,[],[],[],[],[],[]])]⟩
def arA:FI:=⟨Tryz.f145,{shares:=true,nvars:=4,quiet:=true},[(1,[[],[],[],[],[],Ag 9,Ag 9,Ag 9,Ag 9,[],[],Ag 9++Ag 14++Ag 15,Ag 9++Ag 14++Ag 15,Ag 9++Ag 14++Ag 15,Ag 9++Ag 14++Ag 15,[],[],[]])]⟩
def arB:FI:=⟨Tryz.f146,{shares:=true,nvars:=9,quiet:=true,cuts:=[(2,[4,5,6],[4])]},[(1,Hq 6)]⟩
def arC:FI:=⟨Tryz.f147,{nvars:=3},[]⟩
def arD:FI:=⟨Tryz.f148,{shares:=true,nvars:=2,quiet:=true},[]⟩
def arE:FI:=⟨Tryz.f149,{shares:=true,nvars:=10,quiet:=true},[(3,[Ag 28++[9],[9],[9],[9],[9],Ag 28++Ag 29,[]]),(6,[Ag 37,[],[],[]]),(7,[Ag 40,[],[],[]]),(8,[Ag 45,[],[],[],[],[]]),(10,[[],[4],[],[]])]⟩
def arF:FI:=⟨Tryz.f150,{nvars:=8},[]⟩
def arG:FI:=⟨Tryz.f151,{nvars:=4},[]⟩
def arH:FI:=⟨Tryz.f152,{nvars:=2},[]⟩
def arI:FI:=⟨Tryz.f153,{nvars:=3},[]⟩
def arJ:FI:=⟨Tryz.f154,{nvars:=6,cuts:=[(3,[0,3,12,13],[3])]},[]⟩
def arK:FI:=⟨Tryz.f155,{rets:=[.fresh],nvars:=9,cuts:=[(6,[0,1,5,6,21,22],[5])]},[]⟩
def arL:FI:=⟨Tryz.f156,{nvars:=6,cuts:=[(4,[0,1,5],[])]},[(6,Hq 10),(8,Hq 10)]⟩
def arM:FI:=⟨Tryz.f157,{rets:=[.fresh],nvars:=9,cuts:=[(4,[0,1,5,6,13,14],[5])]},[]⟩
def arN:FI:=⟨Tryz.f158,{nvars:=6,cuts:=[(2,[0,1,7,8],[])]},[]⟩
def arO:FI:=⟨Tryz.f159,{nvars:=6},[(3,[[],[],Ag 12,[],[],[],[],[],[],[],[]])]⟩
def arP:FI:=⟨Tryz.f160,{rets:=[.fresh],nvars:=10,cuts:=[(3,[0,1,5,6],[5]),(7,[0,1,5,6,7,8],[5])]},[(11,Hq 12)]⟩
def arQ:FI:=⟨Tryz.f170,{nvars:=3},[]⟩
def arR:FI:=⟨Tryz.f171,{shares:=true,rets:=[.deep],nvars:=7,quiet:=true,cuts:=[(1,[0,1],[])]},[]⟩
def arS:FI:=⟨Tryz.f172,{shares:=true,nvars:=8,quiet:=true},[(3,[[24],[],[],[24]++Ag 25,[24]++Ag 25,[24]++Ag 25,[],[],[]])]⟩
def arT:FI:=⟨Tryz.f173,{rets:=[.fresh],nvars:=14,cuts:=[(3,[1,5,20,21,22],[5]),(7,[1,5,6,7,8,20,21,22,27,28,29],[5])]},[]⟩
def arU:FI:=⟨Tryz.f174,{nvars:=6,cuts:=[(6,[0,1,5],[])]},[(8,Hq 9),(10,Hq 9)]⟩
def arV:FI:=⟨Tryz.f175,{rets:=[.fresh],nvars:=9,cuts:=[(4,[0,1,5,6,7],[5])]},[]⟩
def arW:FI:=⟨Tryz.f176,{shares:=true,rets:=[.fresh,.deep],nvars:=12,quiet:=true,cuts:=[(4,[0,1,6,7,8],[6,7]),(9,[0,1,6,7,8,9,10],[6,7])]},[]⟩
def arX:FI:=⟨Tryz.f177,{nvars:=3},[]⟩
def arY:FI:=⟨Tryz.f178,{nvars:=3},[]⟩
def amw:FI:=⟨Tryz.f179,{Nr:=.carry false,nvars:=3},[]⟩
def amx:FI:=⟨Tryz.f180,{Nr:=.carry true,nvars:=3},[]⟩
def arZ:FI:=⟨Tryz.f186,{shares:=true,rets:=[.fresh,.deep],nvars:=18,quiet:=true,cuts:=[(12,[8,9,10,11,12,13],[9,10,12]),(19,[8,9,10,11,12,13,14,15,16],[9,10,12,16])]},[(7,[[51],[51],[51],Ag 47,Ag 47,Ag 47,Ag 47,[51],[]]),(15,Hq 12),(16,Hq 23)]⟩
def ar0:FI:=⟨Tryz.f187,{nvars:=14},[]⟩
def ar1:FI:=⟨Tryz.f189,{rets:=[.fresh,.deep],nvars:=9,cuts:=[(4,[0,1,6,7,8],[6])]},[]⟩
def ar2:FI:=⟨Tryz.f190,{rets:=[.fresh],nvars:=10,cuts:=[(6,[5,6,7,23,24,25],[7])]},[(8,Hq 12)]⟩
def ar4:FI:=⟨Tryz.f191,{nvars:=19,cuts:=[(17,[2,8,9,10,11,13,14,15,16],[]),(24,[2,8,9,10,14,15,16,17,18],[])]},[(6,Hq 8)]⟩
def ar5:FI:=⟨Tryz.f192,{rets:=[.fresh],nvars:=9,cuts:=[(7,[0,5,6,7,24,25],[7])]},[(11,Hq 17)]⟩
def aiu:FI:=⟨Tryz.f193,{shares:=true,rets:=[.fresh],nvars:=3},[]⟩
def tab:Tab:=⟨[(3,ty3),(4,ty4),(5,ty5),(9,ty9),(22,awn),(24,awo),(26,awp),(29,awq),(31,awr),(33,aws),(39,awt),(43,awu),(45,awv),(46,aww),(50,awx),(52,awy),(54,awz),(57,awC),(58,awD),(59,awE),(63,awF),(66,awG),(69,awH),(84,awI),(97,awJ),(99,awK),(109,aqx),(116,aqy),(118,aqz),(122,aqA),(135,aqB),(136,aqC),(140,aqD),(143,aqE),(146,aqF),(153,aqG),(155,aqH),(163,aqI),(164,aqJ),(167,aqK),(170,aqL),(179,aqM),(219,aqN)],
 [(10,apq),(11,awL),(12,awM),(13,awN),(14,awO),(15,awP),(16,awQ),(17,awR),(18,awS),(20,awT),(21,awU),(24,awV),(27,awW),(28,awX),(31,awY),(32,awZ),(35,aw0),(36,aw1),(37,aw2),(38,aw3),(39,aw4),(40,aw5),(41,aw6),(42,aw7),(43,aw8),(44,aw9),(45,axa),(46,axb),(47,axc),(48,axd),(49,axe),(50,axf),(51,axg),(52,axh),(55,axi),(56,axj),(57,axk),(59,axl),(60,axm),(61,axn),(62,axo),(63,axp),(64,axq),(65,axr),(66,axt),(67,axu),(70,axv),(71,axw),(72,axx),(73,aoI),(74,am7),(75,axy),(76,axz),(77,axA),(78,axB),(79,axC),(80,axD),(81,axE),(82,axF),(85,axG),(87,sU),(88,am2),(89,axH),(90,axI),(93,axJ),(94,axK),(95,axL),(96,axM),(97,axN),(98,axO),(99,axP),(100,afy),(101,aqO),(102,aqP),(103,aqQ),(104,aqR),(105,aqS),(106,aqT),(107,aqU),(108,aqV),(109,aqW),(110,aqX),(111,aqY),(112,aqZ),(113,aq0),(114,aq1),(115,aq2),(116,aq3),(117,aq4),(118,aq5),(119,aq6),(120,aq7),(121,aq8),(122,aq9),(123,ara),(124,arb),(125,ard),(126,arf),(127,arh),(128,ari),(129,arj),(130,ark),(131,arl),(132,arn),(133,aro),(134,arp),(135,arq),(138,ars),(139,aru),(140,arv),(141,arw),(142,arx),(143,arz),(145,arA),(146,arB),(147,arC),(148,arD),(149,arE),(150,arF),(151,arG),(152,arH),(153,arI),(154,arJ),(155,arK),(156,arL),(157,arM),(158,arN),(159,arO),(160,arP),(170,arQ),(171,arR),(172,arS),(173,arT),(174,arU),(175,arV),(176,arW),(177,arX),(178,arY),(179,amw),(180,amx),(186,arZ),(187,ar0),(189,ar1),(190,ar2),(191,ar4),(192,ar5),(193,aiu)],false,[],[],λ_ _=>True⟩
end
end Go.Skm.Fen
