import Derived.Test.YtoheflpoanjihaaGreatProg
import Derived.Test.YtoheflpoanjihaaGreatSkmA
set_option linter.all false
namespace Go.Skm.Fen
noncomputable section
def Ay(d:Nat):List Nat:=[d,d+1000,d+2000,d+3000]
abbrev kI:List Kd:=[.int .i64]
abbrev kV3:List Kd:=[.int .i64,.int .i64,.int .i64]
abbrev Ry:=List Go.Skm.AV×List Go.Skm.Blk
abbrev Rz:=Option Ry
abbrev Ab(n:Int):AV:=.p (.int .i64 n)
abbrev Ac(n:Bool):AV:=.p (.bool n)
abbrev Al(n:List PV):AV:=.p (.list true kV3 n)
abbrev An(n:List PV):AV:=.p (.list false kI n)
abbrev Ao(n:List PV):AV:=.p (.list false [.slice true kV3] n)
abbrev Ap(n:List PV):PV:=.list false [.slice true kV3] n
abbrev As(n:List PV):PV:=.list true kV3 n
abbrev At(n:List PV):PV:=.list false kI n
abbrev Av(n:Int):PV:=.int .i64 n
abbrev Ax(n:Int):Int:=IntKind.i64.wrap n
open Go.Proofs
open Go
def Hq (n:Nat):List (List Nat):=List.replicate n []
def Ur(n:Nat):List AV:=List.replicate n .undef
def Uq:Nat->List AV->List AV
 | 0,l=>l
 | n+1,l=>.undef::Uq n l
def ty3:TI:=⟨.int .i64,1,8,false,(false,[.int .i64]),some (Av 0),false⟩
def ty4:TI:=⟨.bool,1,1,false,(false,[.bool]),some (.bool false),false⟩
def ty5:TI:=⟨.int .u8,1,1,false,(false,[.int .u8]),some (.int .u8 0),false⟩
def ty9:TI:=⟨.string,1,16,false,(false,[.str]),some (.str ⟨#[]⟩),false⟩
def ty22:TI:=⟨.slice 26,1,24,false,(false,[.slice true [.int .i64,.int .i64,.int .i64]]),some (.nil),false⟩
def ty24:TI:=⟨.func #[22] #[4] false,1,8,false,(false,[.other]),some (.nilfn),false⟩
def ac7:TI:=⟨.struct #[⟨ "X",3,0,false,"","",0⟩,⟨ "Y",3,1,false,"","",8⟩,⟨ "Z",3,2,false,"","",16⟩],3,24,true,(true,[.int .i64,.int .i64,.int .i64]),some (.agg [Av 0,Av 0,Av 0]),true⟩
def ty29:TI:=⟨.slice 22,1,24,false,(false,[.slice false [.slice true [.int .i64,.int .i64,.int .i64]]]),some (.nil),false⟩
def ty31:TI:=⟨.struct #[⟨ "Outer",22,0,false,"","",0⟩,⟨ "Holes",29,1,false,"","",24⟩,⟨ "Low",3,2,false,"","",48⟩,⟨ "High",3,3,false,"","",56⟩],4,64,true,(true,[.slice true [.int .i64,.int .i64,.int .i64],.slice false [.slice true [.int .i64,.int .i64,.int .i64]],.int .i64,.int .i64]),some (.agg [.nil,.nil,Av 0,Av 0]),false⟩
def ac8:TI:=⟨.int .i64,1,8,false,(false,[.int .i64]),some (Av 0),false⟩
def ac9:TI:=⟨.func #[26] #[4] false,1,8,false,(false,[.other]),some (.nilfn),false⟩
def ty43:TI:=⟨.struct #[⟨ "Neg",4,0,false,"","",0⟩,⟨ "Mag",9,1,false,"","",8⟩],2,24,true,(true,[.bool,.str]),some (.agg [.bool false,.str ⟨#[]⟩]),true⟩
def ty45:TI:=⟨.struct #[⟨ "Num",43,0,false,"","",0⟩,⟨ "Den",43,2,false,"","",24⟩],4,48,true,(true,[.bool,.str,.bool,.str]),some (.agg [.bool false,.str ⟨#[]⟩,.bool false,.str ⟨#[]⟩]),true⟩
def ada:TI:=⟨.slice 45,1,24,false,(false,[.slice true [.bool,.str,.bool,.str]]),some (.nil),false⟩
def adb:TI:=⟨.slice 3,1,24,false,(false,[.slice false [.int .i64]]),some (.nil),false⟩
def ade:TI:=⟨.struct #[⟨ "Neg",4,0,false,"","",0⟩,⟨ "D",50,1,false,"","",8⟩],2,32,true,(true,[.bool,.slice false [.int .i64]]),some (.agg [.bool false,.nil]),false⟩
def adf:TI:=⟨.struct #[⟨ "N",52,0,false,"","",0⟩,⟨ "D",52,2,false,"","",32⟩],4,64,true,(true,[.bool,.slice false [.int .i64],.bool,.slice false [.int .i64]]),some (.agg [.bool false,.nil,.bool false,.nil]),false⟩
def adg:TI:=⟨.struct #[⟨ "X",54,0,false,"","",0⟩,⟨ "Y",54,4,false,"","",64⟩],8,128,true,(true,[.bool,.slice false [.int .i64],.bool,.slice false [.int .i64],.bool,.slice false [.int .i64],.bool,.slice false [.int .i64]]),some (.agg [.bool false,.nil,.bool false,.nil,.bool false,.nil,.bool false,.nil]),false⟩
def ty58:TI:=⟨.slice 5,1,24,false,(false,[.slice false [.int .u8]]),some (.nil),false⟩
def adh:TI:=⟨.func #[3,3] #[45] false,1,8,false,(false,[.other]),some (.nilfn),false⟩
def ty63:TI:=⟨.slice 69,1,24,false,(false,[.slice true [.int .i64,.int .i64,.int .i64,.int .i64,.int .i64,.int .i64]]),some (.nil),false⟩
def ty66:TI:=⟨.func #[122] #[] false,1,8,false,(false,[.other]),some (.nilfn),false⟩
def adi:TI:=⟨.struct #[⟨ "A",26,0,false,"","",0⟩,⟨ "B",26,3,false,"","",24⟩],6,48,true,(true,[.int .i64,.int .i64,.int .i64,.int .i64,.int .i64,.int .i64]),some (.agg [Av 0,Av 0,Av 0,Av 0,Av 0,Av 0]),true⟩
def adk:TI:=⟨.func #[22] #[3] false,1,8,false,(false,[.other]),some (.nilfn),false⟩
def adl:TI:=⟨.struct #[⟨ "first",33,0,false,"","skylantern/fence",0⟩],1,8,true,(true,[.int .i64]),some (.agg [Av 0]),true⟩
def ty99:TI:=⟨.struct #[⟨ "u",43,0,false,"","skylantern/fence",0⟩,⟨ "v",43,2,false,"","skylantern/fence",24⟩,⟨ "w",43,4,false,"","skylantern/fence",48⟩],6,72,true,(true,[.bool,.str,.bool,.str,.bool,.str]),some (.agg [.bool false,.str ⟨#[]⟩,.bool false,.str ⟨#[]⟩,.bool false,.str ⟨#[]⟩]),true⟩
def YG:TI:=⟨.func #[45,45] #[3] false,1,8,false,(false,[.other]),some (.nilfn),false⟩
def ty116:TI:=⟨.func #[3,3,45] #[45] false,1,8,false,(false,[.other]),some (.nilfn),false⟩
def ty118:TI:=⟨.slice 54,1,24,false,(false,[.slice true [.bool,.slice false [.int .i64],.bool,.slice false [.int .i64]]]),some (.nil),false⟩
def YH:TI:=⟨.func #[26,26] #[4] false,1,8,false,(false,[.other]),some (.nilfn),false⟩
def YI:TI:=⟨.func #[26,26] #[3] false,1,8,false,(false,[.other]),some (.nilfn),false⟩
def YJ:TI:=⟨.func #[26,3] #[3] false,1,8,false,(false,[.other]),some (.nilfn),false⟩
def YK:TI:=⟨.slice 143,1,24,false,(false,[.slice false [.int .u64]]),some (.nil),false⟩
def YL:TI:=⟨.int .u64,1,8,false,(false,[.int .u64]),some (.int .u64 0),false⟩
def YM:TI:=⟨.struct #[⟨ "neg",4,0,false,"","skylantern/wide",0⟩,⟨ "mag",140,1,false,"","skylantern/wide",8⟩],2,32,true,(true,[.bool,.slice false [.int .u64]]),some (.agg [.bool false,.nil]),false⟩
def ty153:TI:=⟨.pointer 97,1,8,false,(false,[.other]),some (.nilp),false⟩
def YN:TI:=⟨.func #[26] #[43,43] false,1,8,false,(false,[.other]),some (.nilfn),false⟩
def YO:TI:=⟨.slice 164,1,24,false,(false,[.slice true [.int .i64,.int .i64]]),some (.nil),false⟩
def YP:TI:=⟨.array 2 3,2,16,true,(true,[.int .i64,.int .i64]),some (.agg [Av 0,Av 0]),false⟩
def YQ:TI:=⟨.func #[163] #[] true,1,8,false,(false,[.other]),some (.nilfn),false⟩
def YR:TI:=⟨.int .u64,1,8,false,(false,[.int .u64]),some (.int .u64 0),false⟩
def YS:TI:=⟨.array 3 3,3,24,true,(true,[.int .i64,.int .i64,.int .i64]),some (.agg [Av 0,Av 0,Av 0]),false⟩
def YT:TI:=⟨.interface #[("Error",182)],1,16,false,(false,[.other]),none,false⟩
def fi7:FI:=⟨Tryz.f7,{nvars:=9},[]⟩
def fi11:FI:=⟨Tryz.f11,{nvars:=26,frzs:=[1002001],cuts:=[(8,[0,1,66,67,68],[0,66]),(27,[0,1,20,179],[0,20])]},[(14,[Ay 90++Ay 91++Ay 92,[],[],[],[],[],[],[],[],[]]),(15,[Ay 98++Ay 99++Ay 100,[],[],[],[],[],[],[],[],[]]),(16,[Ay 106++Ay 107,[],[],[],[],[],[],[],[]]),(17,[Ay 113++Ay 114,[],[],[],[],[],[],[],[]]),(18,[Ay 120++Ay 121,[],[],[],[],[],[],[],[]]),(19,[Ay 127++Ay 128,[],[],[],[],[],[],[],[]]),(29,[[],[],[],Ay 186,[],[],[],Ay 190,[],[],[],[],[],[],[],[],Ay 199,[],[],[],Ay 203,[],[],[],[],[],[],[],[],[]]),(32,[Ay 216++[23],[23],[23],[23],[23],[23,23],Ay 216++Ay 217,[],[]]),(33,[Ay 222++[24],[24],[24],[24],[24],[24,24],Ay 222++Ay 223,[],[]]),(34,[Ay 228++[25],[25],[25],[25],[25],[25,25],Ay 228++Ay 229,[],[]]),(35,[[],[],[],Ay 236,[],[],[],[],[],[],[],[],Ay 245,[],[],[],[],[],[],[],[],Ay 254,[],[],[],[],[],[],[],[]])]⟩
def fi12:FI:=⟨Tryz.f12,{nvars:=11,cuts:=[(5,[0,3,23,24],[]),(11,[0,3,4,5,6,7,23,24],[5,6])]},[(7,[[5,6],[5,6],[5,6],[5,6],[5,6,5],[5,6,5],[5,6,5],[5,6,5],[5,6,5],[5,6,5],[5,6,5],[6],[5],[],[]]),(13,[[8,9],[8,9],[8,9],[8,9],[8,9,8],[8,9,8],[8,9,8],[8,9,8],[8,9,8],[8,9,8],[8,9,8],[9],[8],[],[]])]⟩
def fi13:FI:=⟨Tryz.f13,{nvars:=6,cuts:=[(5,[3,4],[3]),(10,[3,4,5],[3])]},[(7,Hq 11),(16,Hq 34),(13,Hq 9)]⟩
def fi14:FI:=⟨Tryz.f14,{nvars:=6},[]⟩
def fi15:FI:=⟨Tryz.f15,{nvars:=5,cuts:=[(2,[1,6,7,8],[1])]},[]⟩
def fi16:FI:=⟨Tryz.f16,{nvars:=7,cuts:=[(5,[4,19,20,21],[])]},[(3,[[],[],[],Ay 12,Ay 12,[],[],[],[]])]⟩
def fi17:FI:=⟨Tryz.f17,{nvars:=12,cuts:=[(4,[1,3],[1]),(9,[1,4],[1]),(14,[1,4,5,6],[1,5]),(17,[1,4,5,6,86,87,88],[1,5,86]),(20,[1,4,5,6,8,86,87,88,96,97,98],[1,5,8,86,96])]},[(11,[[],[],[],[62],[62],[62],[62],[],[]]),(25,[Ay 112,Ay 112,Ay 112,Ay 112,[],[],[],[],[]])]⟩
def fi18:FI:=⟨Tryz.f18,{nvars:=16,cuts:=[(5,[1,2,3,47,48,49],[1,2,3,45]),(10,[1,2,3,5,47,48,49,57],[1,2,3,45]),(15,[1,2,3,5,6,7,47,48,49,57,65,66,67],[1,2,3,6,7,45]),(18,[1,2,3,5,6,7,47,48,49,57,65,66,67,72],[1,2,3,6,7,45]),(26,[1,2,87,88,89],[1,2]),(29,[1,2,12,13,87,88,89,95,96,97],[1,2])]},[]⟩
def fi20:FI:=⟨Tryz.f20,{nvars:=6},[]⟩
def fi21:FI:=⟨Tryz.f21,{nvars:=3},[]⟩
def fi22:FI:=⟨Tryz.f22,{nvars:=5},[(1,[Ay 7++Ay 10,[],[],Ay 7,Ay 7,[],[],[]])]⟩
def fi24:FI:=⟨Tryz.f24,{nvars:=21,cuts:=[(3,[4,5,6,7,10,24,25,26],[4,5,6,7,24])]},[(7,[[],[],[],[],[],Ay 37,Ay 37,[],[],[],[],[]]),(14,[Ay 56,[],[],[],Ay 56,[],[],[],[],[],[],[]]),(15,[Ay 66,[],[],[],Ay 66,[],[],[],[],[],[],[]]),(19,Hq 10)]⟩
def fi25:FI:=⟨Tryz.f25,{nvars:=7},[(1,[[],[],[],Ay 9,[],[],[],Ay 17,[],[],[],[],[],[],[],[],[],[],[],[]])]⟩
def fi27:FI:=⟨Tryz.f27,{nvars:=4},[]⟩
def fi28:FI:=⟨Tryz.f28,{nvars:=21,cuts:=[(10,[3,4,5,8,9,64],[3,4,5,8,9,62,72]),(19,[3,4,5,8,9,13,14,15],[3,4,5,8,9,13,62,72])]},[(21,[[16],[16],[16],[16],[16],[16],[16],[16],[16],[16],[16],[16],[16,16],Ay 95,[],[]]),(22,[Ay 101++[18],Ay 101++[18],[18],[18],[18],[18],[18],[18,18],Ay 101++Ay 103,[],[]]),(23,[[20],[20],[20],[20],[20],[20],[20],[20],[20],[20],Ay 115++[20],Ay 115++[20],Ay 115++[20],Ay 115++[20],Ay 115++[20],Ay 115++[20],Ay 115++[20],Ay 115++[20],Ay 115++[20],[20],[20],Ay 115++Ay 125++Ay 126,[]])]⟩
def fi29:FI:=⟨Tryz.f29,{nvars:=15,cuts:=[(7,[3,4,5,7,41,42,43],[3,4,5,7,41]),(10,[3,4,5,7,41,42,43,50,51,52],[3,4,5,7,41,50]),(14,[3,4,5,7,11,12,41,42,43,50,51,52],[3,4,5,7,11,41,50]),(21,[3,4,5,7,14],[3,4,5,7])]},[(12,[Ay 57,[],[],[],[],Ay 62,[],[],[],[]]),(14,Hq 7),(16,[[],[],[76],[76],[76],[],[]]),(23,[Ay 102,[],[],[],[],[],[],[],[],[]]),(25,[[],[],[],Ay 120++Ay 121++Ay 122++Ay 124++Ay 125,Ay 120++Ay 121++Ay 122++Ay 124,Ay 120++Ay 121++Ay 122++Ay 124,[],[],[],[],[],[],[],[],[],[],[],[],[],[],[],[],[],[]])]⟩
def fi30:FI:=⟨Tryz.f30,{rets:=[.fresh],nvars:=9,cuts:=[(4,[3,4,5],[3,4]),(10,[3,4,5,6,7,8],[3,4,7])]},[]⟩
def fi31:FI:=⟨Tryz.f31,{shares:=true,rets:=[.func 87 [(true,[.slice true [.int .i64,.int .i64,.int .i64],.slice false [.slice true [.int .i64,.int .i64,.int .i64]],.int .i64,.int .i64])]],nvars:=3},[]⟩
def fi32:FI:=⟨Tryz.f32,{nvars:=12,cuts:=[(5,[3,4,6,22],[3,4,6])]},[]⟩
def fi37:FI:=⟨Tryz.f37,{rets:=[.fresh],nvars:=5,cuts:=[(3,[0,3,4],[3])]},[(5,[[23],[],[],[],[],[],[],[],[],[],[],[],[],[]])]⟩
def fi38:FI:=⟨Tryz.f38,{nvars:=5},[]⟩
def fi39:FI:=⟨Tryz.f39,{nvars:=3},[]⟩
def fi40:FI:=⟨Tryz.f40,{nvars:=3},[]⟩
def fi41:FI:=⟨Tryz.f41,{nvars:=7},[]⟩
def fi42:FI:=⟨Tryz.f42,{nvars:=9},[(1,[[],[],[],[],[],[],[],[],[],[],[],[],[],[],[],[],[],[],[],[],[],[],[],[],[],[],[],Ay 35,Ay 35,Ay 35,[],[],[],[],[],[],[],[],Ay 46,Ay 46,Ay 46,[],[],[],[],[],[]])]⟩
def fi43:FI:=⟨Tryz.f43,{nvars:=4,cuts:=[(2,[0,3],[])]},[]⟩
def fi44:FI:=⟨Tryz.f44,{rets:=[.fresh],nvars:=6,cuts:=[(3,[0,3,4],[3])]},[(6,[[41],[],[],[],[],[],[],[],[],[],[],[],[],[],[],[],[],[],[],[],[],[],[],[],[],[],[]])]⟩
def fi45:FI:=⟨Tryz.f45,{nvars:=7},[]⟩
def fi46:FI:=⟨Tryz.f46,{nvars:=5},[(3,[[],[],[],[],[],[],[],Ay 45,Ay 45,Ay 45,Ay 45,Ay 45,Ay 45,[],[],[],[],[],[],[],[],[],[],[],Ay 62,Ay 62,Ay 62,Ay 62,Ay 62,Ay 62,[],[],[],[],[],[],[],[],[],[],[],[],[],[],[],[],[],[],[],[],[],[],[],[],[]])]⟩
def fi47:FI:=⟨Tryz.f47,{nvars:=6,cuts:=[(3,[3,7],[3])]},[]⟩
def fi48:FI:=⟨Tryz.f48,{nvars:=3},[]⟩
def fi49:FI:=⟨Tryz.f49,{nvars:=11,cuts:=[(4,[3,5,6,7],[3,5])]},[(6,Hq 7),(7,Hq 36),(9,[[],[],[],[],[],[],[],Ay 67,Ay 67,[],Ay 78++Ay 81,Ay 67++Ay 70,Ay 67++Ay 70,Ay 67++Ay 70,Ay 67++Ay 70,Ay 67++Ay 70,Ay 67++Ay 70,[],Ay 67++Ay 70++Ay 78,Ay 67++Ay 70++Ay 78,[],[],[],[]])]⟩
def fi50:FI:=⟨Tryz.f50,{shares:=true,nvars:=2,quiet:=true},[(1,[[],[],[],[],Ay 10++Ay 11,Ay 5++Ay 6,Ay 5++Ay 6,[],[],[],[],[]])]⟩
def adn:FI:=⟨Tryz.f51,{shares:=true,rets:=[.func 100 [(true,[.slice true [.int .i64,.int .i64,.int .i64]])]],nvars:=3},[]⟩
def ado:FI:=⟨Tryz.f52,{nvars:=5},[]⟩
def fi54:FI:=⟨Tryz.f54,{nvars:=5,cuts:=[(3,[0,3,4],[])]},[(5,[Ay 20++Ay 29++Ay 30,[],[],[],[],[],[],[],[],Ay 20,Ay 20,Ay 20,Ay 20,Ay 20,Ay 20,Ay 20,Ay 20,[],[],[],[],[]])]⟩
def fi55:FI:=⟨Tryz.f55,{nvars:=5},[]⟩
def fi56:FI:=⟨Tryz.f56,{nvars:=6,cuts:=[(2,[1,2,5],[2])]},[]⟩
def fi57:FI:=⟨Tryz.f57,{shares:=true,nvars:=2,quiet:=true},[]⟩
def fi59:FI:=⟨Tryz.f59,{nvars:=3},[]⟩
def fi60:FI:=⟨Tryz.f60,{nvars:=3},[]⟩
def fi61:FI:=⟨Tryz.f61,{nvars:=6},[]⟩
def fi62:FI:=⟨Tryz.f62,{nvars:=9},[(4,[Ay 22,[],[],[],[],[],[]])]⟩
def fi63:FI:=⟨Tryz.f63,{nvars:=6},[(1,[[],[],[],[],[],[],Ay 12,Ay 12,Ay 12,Ay 12,Ay 12,[],Ay 12++Ay 18,Ay 12++Ay 18,Ay 12++Ay 18,Ay 12++Ay 18,Ay 12++Ay 18,[],[],[]])]⟩
def fi64:FI:=⟨Tryz.f64,{nvars:=5},[]⟩
def fi65:FI:=⟨Tryz.f65,{nvars:=5},[]⟩
def fi66:FI:=⟨Tryz.f66,{nvars:=8,frzs:=[1006003,1006005]},[]⟩
def fi67:FI:=⟨Tryz.f67,{nvars:=5},[(1,[[],[],[],[],[],Ay 9,Ay 9,Ay 9,Ay 9,[],[],[]])]⟩
def fi68:FI:=⟨Tryz.f68,{nvars:=6,cuts:=[(4,[2,3,5],[2,3])]},[(6,Hq 8)]⟩
def fi70:FI:=⟨Tryz.f70,{nvars:=9,cuts:=[(3,[1,2,3,4],[1,2,3,4]),(6,[1,2,3,4,5,6],[1,2,3,4]),(15,[1,2,3,7,8],[1,2,3,7])]},[]⟩
def fi71:FI:=⟨Tryz.f71,{shares:=true,nvars:=2,quiet:=true},[]⟩
def fi72:FI:=⟨Tryz.f72,{rets:=[.fresh],nvars:=15,take:=true},[(2,Hq 12)]⟩
def fi73:FI:=⟨Tryz.f73,{nvars:=7},[]⟩
def fi74:FI:=⟨Tryz.f74,{byRef:=true,nvars:=5},[]⟩
def fi75:FI:=⟨Tryz.f75,{byRef:=true,rets:=[.alias 0],nvars:=6,cuts:=[(4,[0,3],[100000]),(9,[0,3,4,5],[100000])]},[(6,Hq 10),(11,Hq 10)]⟩
def adp:FI:=⟨Tryz.f76,{nvars:=9},[(1,[[8],[8],Ay 10++[8],Ay 10++[8],[8],Ay 10++Ay 13,[]]),(2,[Ay 16++Ay 19,[],[],Ay 16,Ay 16,[],[],[],[],[],Ay 16++Ay 19++Ay 20++Ay 23,Ay 16++Ay 19++Ay 20++Ay 23,[],[]])]⟩
def fi77:FI:=⟨Tryz.f77,{nvars:=6},[]⟩
def adq:FI:=⟨Tryz.f78,{nvars:=6},[]⟩
def fi79:FI:=⟨Tryz.f79,{nvars:=6},[(3,[[],[],Ay 12,[],[],[],[],[],[],[]])]⟩
def fi80:FI:=⟨Tryz.f80,{nvars:=9},[(4,[[],[],[],Ay 23,[],[],[],[],[]])]⟩
def fi81:FI:=⟨Tryz.f81,{nvars:=6},[(3,[[],[],[],Ay 13,Ay 13,[],[],Ay 13++Ay 16++Ay 17,Ay 13++Ay 16++Ay 17,[],Ay 13++Ay 16++Ay 17++Ay 20,Ay 13++Ay 16++Ay 17++Ay 20,[],[],[],[],[],[],[]])]⟩
def fi82:FI:=⟨Tryz.f82,{nvars:=5},[]⟩
def fi83:FI:=⟨Tryz.f83,{shares:=true,rets:=[.fresh],nvars:=12,quiet:=true},[(1,Hq 12),(7,[Ay 82++Ay 90++Ay 91++Ay 109++Ay 117++Ay 118++[119],[],[],[],[],[],[],[],[],[],[],[],[],[],[],[],[],[],[],Ay 82,Ay 82,Ay 82,Ay 82,Ay 82,Ay 82,Ay 82,[],[],Ay 82++Ay 90++Ay 91,Ay 82++Ay 90++Ay 91,Ay 82++Ay 90++Ay 91,Ay 82++Ay 90++Ay 91,Ay 82++Ay 90++Ay 91,Ay 82++Ay 90++Ay 91,Ay 82++Ay 90++Ay 91,Ay 82++Ay 90++Ay 91,Ay 82++Ay 90++Ay 91,Ay 82++Ay 90++Ay 91,Ay 82++Ay 90++Ay 91,Ay 82++Ay 90++Ay 91,Ay 82++Ay 90++Ay 91,Ay 82++Ay 90++Ay 91,Ay 82++Ay 90++Ay 91,Ay 82++Ay 90++Ay 91,Ay 82++Ay 90++Ay 91,[],Ay 82++Ay 90++Ay 91++Ay 109,Ay 82++Ay 90++Ay 91++Ay 109,Ay 82++Ay 90++Ay 91++Ay 109,Ay 82++Ay 90++Ay 91++Ay 109,Ay 82++Ay 90++Ay 91++Ay 109,Ay 82++Ay 90++Ay 91++Ay 109,Ay 82++Ay 90++Ay 91++Ay 109,[],[],[],[],[]])]⟩
def fi84:FI:=⟨Tryz.f84,{shares:=true,nvars:=6,quiet:=true},[(1,[[],[],[],Ay 9,Ay 9,Ay 9,Ay 9,Ay 9,[],Ay 9++Ay 15,[],[],Ay 9++Ay 15++Ay 17++Ay 18,Ay 9++Ay 15++Ay 17++Ay 18,[],Ay 9++Ay 15++Ay 17++Ay 18++Ay 21,Ay 9++Ay 15++Ay 17++Ay 18++Ay 21,Ay 9++Ay 15++Ay 17++Ay 18++Ay 21,Ay 9++Ay 15++Ay 17++Ay 18++Ay 21,Ay 9++Ay 15++Ay 17++Ay 18++Ay 21,[],Ay 9++Ay 15++Ay 17++Ay 18++Ay 21++Ay 27,[],[],[],[]])]⟩
def adr:FI:=⟨Tryz.f85,{shares:=true,nvars:=4,quiet:=true},[(1,[[],[],[],[],[],Ay 9,Ay 9,Ay 9,Ay 9,[],[],[]])]⟩
def ads:FI:=⟨Tryz.f86,{shares:=true,nvars:=4,quiet:=true},[(1,[[],[],[],[],[],Ay 9,Ay 9,Ay 9,Ay 9,[],[],Ay 9++Ay 14++Ay 15,Ay 9++Ay 14++Ay 15,Ay 9++Ay 14++Ay 15,Ay 9++Ay 14++Ay 15,[],[],[]])]⟩
def lJ:FI:=⟨Tryz.f87,{nvars:=7,gext:=true,yk:=[(true,[.int .i64,.int .i64,.int .i64]),(true,[.int .i64,.int .i64,.int .i64])]},[]⟩
def fi88:FI:=⟨Tryz.f88,{shares:=true,rets:=[.fresh],nvars:=3},[]⟩
def fi89:FI:=⟨Tryz.f89,{byRef:=true,nvars:=4,cuts:=[(1,[0,2,3],[100000])]},[(3,Hq 16)]⟩
def fi90:FI:=⟨Tryz.f90,{nvars:=19},[(1,Hq 12),(7,[Ay 85++[15],[15],[15],[15],[15],[15],[15,15],Ay 85++Ay 86,[],[]])]⟩
def fi93:FI:=⟨Tryz.f93,{shares:=true,nvars:=10,quiet:=true},[]⟩
def fi94:FI:=⟨Tryz.f94,{nvars:=6,cuts:=[(2,[0,1,7,8],[])]},[]⟩
def fi95:FI:=⟨Tryz.f95,{nvars:=7,cuts:=[(2,[0,7,8,9],[])]},[]⟩
def fi96:FI:=⟨Tryz.f96,{nvars:=9},[]⟩
def fi97:FI:=⟨Tryz.f97,{nvars:=8},[(1,[[],[],[],Ay 10,Ay 10,[],[],[],[]])]⟩
def fi98:FI:=⟨Tryz.f98,{nvars:=7},[(1,[[5],[5],[5],[5],[5],[5],[5],[5],Ay 14++Ay 20++[5],Ay 14++Ay 20++[5],Ay 14++[5],Ay 14++[5],Ay 14++[5],[5],[5],[5],Ay 14++Ay 20++Ay 21++Ay 22,[]]),(2,[[6],[6],[6],[6],[6],[6],[6],[6],Ay 30++Ay 36++[6],Ay 30++Ay 36++[6],Ay 30++[6],Ay 30++[6],Ay 30++[6],[6],[6],[6],Ay 30++Ay 36++Ay 37++Ay 38,[]])]⟩
def fi99:FI:=⟨Tryz.f99,{nvars:=7},[(1,[[],[],[],[],Ay 10,[],[],[],Ay 19,[],[],[],[],[],[],[],[]])]⟩
def Oe:FI:=⟨Tryz.f100,{nvars:=6,yk:=[(true,[.int .i64,.int .i64,.int .i64]),(true,[.int .i64,.int .i64,.int .i64])],ys:=[0,21],cuts:=[(1,[0,1,6,7,8],[100000])]},[(3,[[5],[5],[5],[5],[5],[5],[5],[5],[],[]])]⟩
def fi101:FI:=⟨Tryz.f101,{nvars:=15,cuts:=[(3,[4,5,6,7,16],[4,5,6,7])]},[(6,[[],[],[],Ay 25,Ay 25,[],Ay 25++Ay 28,Ay 25++Ay 28,[],Ay 25++Ay 28++Ay 31,Ay 25++Ay 28++Ay 31,[],[],[],[],[]])]⟩
def fi102:FI:=⟨Tryz.f102,{nvars:=6},[]⟩
def fi103:FI:=⟨Tryz.f103,{nvars:=6},[]⟩
def YU:FI:=⟨Tryz.f104,{nvars:=7,cuts:=[(3,[2,3,4,5,6],[2,3,4,5])]},[(5,[Ay 16++Ay 21++Ay 27++Ay 32,[],[],[],[],[],Ay 16,Ay 16,Ay 16,Ay 16,[],Ay 27++Ay 32,Ay 16++Ay 21,Ay 16++Ay 21,Ay 16++Ay 21,Ay 16++Ay 21,[],Ay 16++Ay 21++Ay 27,Ay 16++Ay 21++Ay 27,Ay 16++Ay 21++Ay 27,Ay 16++Ay 21++Ay 27,[],[],[],[],[]])]⟩
def YV:FI:=⟨Tryz.f105,{nvars:=4},[(1,[Ay 7,[],[],[],[]])]⟩
def fi106:FI:=⟨Tryz.f106,{nvars:=4},[]⟩
def fi107:FI:=⟨Tryz.f107,{nvars:=5},[]⟩
def fi108:FI:=⟨Tryz.f108,{nvars:=5},[]⟩
def YW:FI:=⟨Tryz.f109,{nvars:=3},[]⟩
def fi110:FI:=⟨Tryz.f110,{nvars:=3},[]⟩
def YX:FI:=⟨Tryz.f111,{rets:=[.fresh],nvars:=6,cuts:=[(3,[0,3,12,13],[3])]},[(6,[[29],[29],[29],[29],[29],[],[],[],[],[29],[29],[29],[],[],[],[]])]⟩
def YZ:FI:=⟨Tryz.f112,{nvars:=3},[]⟩
def Y0:FI:=⟨Tryz.f113,{byRef:=true,rets:=[.alias 0],nvars:=3,cuts:=[(1,[0],[100000])]},[]⟩
def Y1:FI:=⟨Tryz.f114,{nvars:=4},[(3,[[],[],[],Ay 19,Ay 19,Ay 19,Ay 19,Ay 19,[],[],[],[],[],[]])]⟩
def Y3:FI:=⟨Tryz.f115,{nvars:=5},[]⟩
def Y5:FI:=⟨Tryz.f116,{shares:=true,nvars:=7,quiet:=true},[(1,[[],[],[],Ay 9,Ay 9,[],[],Ay 9++Ay 12++Ay 13,Ay 9++Ay 12++Ay 13,[],Ay 9++Ay 12++Ay 13++Ay 16,Ay 9++Ay 12++Ay 13++Ay 16,[],[],Ay 9++Ay 12++Ay 13++Ay 16++Ay 19++Ay 20,Ay 9++Ay 12++Ay 13++Ay 16++Ay 19++Ay 20,[],Ay 9++Ay 12++Ay 13++Ay 16++Ay 19++Ay 20++Ay 23,Ay 9++Ay 12++Ay 13++Ay 16++Ay 19++Ay 20++Ay 23,[],[],[],[],[]])]⟩
def Y6:FI:=⟨Tryz.f117,{shares:=true,nvars:=4,quiet:=true},[(2,[Ay 17,Ay 17,[],[],[],[],[],[],[]]),(4,[Ay 32,Ay 32,[],[],[],[],[],[],[]]),(5,[Ay 40,Ay 40,[],[],[],[],[],[],[]])]⟩
def Y7:FI:=⟨Tryz.f118,{shares:=true,nvars:=2,quiet:=true},[]⟩
def Y8:FI:=⟨Tryz.f119,{nvars:=3},[]⟩
def Y9:FI:=⟨Tryz.f120,{nvars:=5},[]⟩
def Za:FI:=⟨Tryz.f121,{nvars:=4},[]⟩
def Zb:FI:=⟨Tryz.f122,{nvars:=4},[(1,[Ay 12++Ay 15,Ay 12++Ay 15,Ay 12++Ay 15,Ay 12,[],[],[],Ay 12,Ay 12,[],[],Ay 12++Ay 15++Ay 16++Ay 23++Ay 26,Ay 12++Ay 15++Ay 16++Ay 23++Ay 26,Ay 12++Ay 15++Ay 16++Ay 23++Ay 26,Ay 12++Ay 15++Ay 16++Ay 23,Ay 12++Ay 15++Ay 16,Ay 12++Ay 15++Ay 16,[],Ay 12++Ay 15++Ay 16++Ay 23,Ay 12++Ay 15++Ay 16++Ay 23,[],[],[],[]])]⟩
def Zc:FI:=⟨Tryz.f123,{nvars:=6},[]⟩
def Zd:FI:=⟨Tryz.f124,{nvars:=9},[(2,[Ay 22++Ay 24++Ay 31++Ay 33,Ay 22,[],[],[],[],[],[],Ay 22,[],Ay 22++Ay 24++Ay 31,Ay 22++Ay 24,Ay 22++Ay 24,Ay 22++Ay 24,Ay 22++Ay 24,Ay 22++Ay 24,[],Ay 22++Ay 24++Ay 31,[],[],[],[]])]⟩
def Ze:FI:=⟨Tryz.f125,{nvars:=8},[]⟩
def Zf:FI:=⟨Tryz.f126,{nvars:=5},[]⟩
def Zg:FI:=⟨Tryz.f127,{shares:=true,nvars:=4,quiet:=true},[(1,[Ay 14,Ay 14,Ay 14,Ay 14,Ay 14,[],[],[],[],[],[],[]])]⟩
def Zh:FI:=⟨Tryz.f128,{rets:=[.fresh],nvars:=8,cuts:=[(4,[0,1,5,6,7],[5])]},[]⟩
def Zi:FI:=⟨Tryz.f129,{rets:=[.fresh],nvars:=5},[]⟩
def Zj:FI:=⟨Tryz.f130,{byRef:=true,rets:=[.alias 0],nvars:=3,cuts:=[(1,[0],[100000])]},[]⟩
def Zk:FI:=⟨Tryz.f131,{shares:=true,nvars:=4},[]⟩
def Zl:FI:=⟨Tryz.f132,{shares:=true,nvars:=4,quiet:=true},[(1,[Ay 7,[],[],[],[]])]⟩
def Zm:FI:=⟨Tryz.f133,{nvars:=7,vcall:=true,cuts:=[(1,[1,7,8,9],[99999,100000])]},[]⟩
def Zn:FI:=⟨Tryz.f134,{nvars:=6},[]⟩
def Zo:FI:=⟨Tryz.f135,{nvars:=5},[(3,[[],[],Ay 10,[],[],[],[],[]])]⟩
def Zp:FI:=⟨Tryz.f138,{nvars:=6},[(3,[[],[],Ay 12,[],[],[],[],[],[],[]])]⟩
def Zq:FI:=⟨Tryz.f139,{shares:=true,nvars:=2,quiet:=true},[(1,[Ay 7,Ay 7,[],[],[],[],[]])]⟩
def Zr:FI:=⟨Tryz.f140,{nvars:=11},[(1,[Ay 17++[6],Ay 17++[6],[6],[6],[6],[6],[6],[6],Ay 17,[]])]⟩
def Zt:FI:=⟨Tryz.f141,{shares:=true,nvars:=4,quiet:=true},[(1,[Ay 14,Ay 14,Ay 14,Ay 14,Ay 14,[],[],[],[],[],[],[]])]⟩
def Zu:FI:=⟨Tryz.f142,{shares:=true,nvars:=4,quiet:=true},[(2,[Ay 16,Ay 16,[],[],[],[],[],[],[]]),(4,[Ay 30,Ay 30,[],[],[],[],[],[],[]]),(5,[Ay 38,Ay 38,[],[],[],[],[],[],[]])]⟩
def Zv:FI:=⟨Tryz.f143,{nvars:=6},[(5,[[],[],Ay 16,[],[],[],[],[],[]])]⟩
def Zw:FI:=⟨Tryz.f145,{shares:=true,nvars:=4,quiet:=true},[(1,[[],[],[],[],[],Ay 9,Ay 9,Ay 9,Ay 9,[],[],Ay 9++Ay 14++Ay 15,Ay 9++Ay 14++Ay 15,Ay 9++Ay 14++Ay 15,Ay 9++Ay 14++Ay 15,[],[],[]])]⟩
def Zx:FI:=⟨Tryz.f146,{shares:=true,nvars:=9,quiet:=true,cuts:=[(2,[4,5,6],[4])]},[(1,Hq 6)]⟩
def Zy:FI:=⟨Tryz.f147,{nvars:=3},[]⟩
def Zz:FI:=⟨Tryz.f148,{shares:=true,nvars:=2,quiet:=true},[]⟩
def ZA:FI:=⟨Tryz.f149,{shares:=true,nvars:=10,quiet:=true},[(3,[Ay 28++[9],[9],[9],[9],[9],Ay 28++Ay 29,[]]),(6,[Ay 37,[],[],[]]),(7,[Ay 40,[],[],[]]),(8,[Ay 45,[],[],[],[],[]]),(10,[[],[4],[],[]])]⟩
def ZB:FI:=⟨Tryz.f150,{nvars:=8},[]⟩
def ZC:FI:=⟨Tryz.f151,{nvars:=4},[]⟩
def ZE:FI:=⟨Tryz.f152,{nvars:=2},[]⟩
def ZF:FI:=⟨Tryz.f153,{nvars:=3},[]⟩
def ZG:FI:=⟨Tryz.f154,{nvars:=6,cuts:=[(3,[0,3,12,13],[3])]},[]⟩
def ZH:FI:=⟨Tryz.f155,{rets:=[.fresh],nvars:=9,cuts:=[(6,[0,1,5,6,21,22],[5])]},[]⟩
def ZI:FI:=⟨Tryz.f156,{nvars:=6,cuts:=[(4,[0,1,5],[])]},[(6,Hq 10),(8,Hq 10)]⟩
def ZJ:FI:=⟨Tryz.f157,{rets:=[.fresh],nvars:=9,cuts:=[(4,[0,1,5,6,13,14],[5])]},[]⟩
def ZK:FI:=⟨Tryz.f158,{nvars:=6,cuts:=[(2,[0,1,7,8],[])]},[]⟩
def ZL:FI:=⟨Tryz.f159,{nvars:=6},[(3,[[],[],Ay 12,[],[],[],[],[],[],[],[]])]⟩
def ZM:FI:=⟨Tryz.f160,{rets:=[.fresh],nvars:=10,cuts:=[(3,[0,1,5,6],[5]),(7,[0,1,5,6,7,8],[5])]},[(11,Hq 12)]⟩
def ZN:FI:=⟨Tryz.f170,{nvars:=3},[]⟩
def ZO:FI:=⟨Tryz.f171,{shares:=true,rets:=[.deep],nvars:=7,quiet:=true,cuts:=[(1,[0,1],[])]},[]⟩
def ZP:FI:=⟨Tryz.f172,{shares:=true,nvars:=8,quiet:=true},[(3,[[24],[],[],[24]++Ay 25,[24]++Ay 25,[24]++Ay 25,[],[],[]])]⟩
def ZQ:FI:=⟨Tryz.f173,{rets:=[.fresh],nvars:=14,cuts:=[(3,[1,5,20,21,22],[5]),(7,[1,5,6,7,8,20,21,22,27,28,29],[5])]},[]⟩
def ZR:FI:=⟨Tryz.f174,{nvars:=6,cuts:=[(6,[0,1,5],[])]},[(8,Hq 9),(10,Hq 9)]⟩
def ZT:FI:=⟨Tryz.f175,{rets:=[.fresh],nvars:=9,cuts:=[(4,[0,1,5,6,7],[5])]},[]⟩
def ZU:FI:=⟨Tryz.f176,{shares:=true,rets:=[.fresh,.deep],nvars:=12,quiet:=true,cuts:=[(4,[0,1,6,7,8],[6,7]),(9,[0,1,6,7,8,9,10],[6,7])]},[]⟩
def ZV:FI:=⟨Tryz.f177,{nvars:=3},[]⟩
def ZW:FI:=⟨Tryz.f178,{nvars:=3},[]⟩
def U6:FI:=⟨Tryz.f179,{prim:=.carry false,nvars:=3},[]⟩
def U7:FI:=⟨Tryz.f180,{prim:=.carry true,nvars:=3},[]⟩
def ZX:FI:=⟨Tryz.f186,{shares:=true,rets:=[.fresh,.deep],nvars:=18,quiet:=true,cuts:=[(12,[8,9,10,11,12,13],[9,10,12]),(19,[8,9,10,11,12,13,14,15,16],[9,10,12,16])]},[(7,[[51],[51],[51],Ay 47,Ay 47,Ay 47,Ay 47,[51],[]]),(15,Hq 12),(16,Hq 23)]⟩
def ZY:FI:=⟨Tryz.f187,{nvars:=14},[]⟩
def Z4:FI:=⟨Tryz.f189,{rets:=[.fresh,.deep],nvars:=9,cuts:=[(4,[0,1,6,7,8],[6])]},[]⟩
def Z5:FI:=⟨Tryz.f190,{rets:=[.fresh],nvars:=10,cuts:=[(6,[5,6,7,23,24,25],[7])]},[(8,Hq 12)]⟩
def Z7:FI:=⟨Tryz.f191,{nvars:=19,cuts:=[(17,[2,8,9,10,11,13,14,15,16],[]),(24,[2,8,9,10,14,15,16,17,18],[])]},[(6,Hq 8)]⟩
def Z8:FI:=⟨Tryz.f192,{rets:=[.fresh],nvars:=9,cuts:=[(7,[0,5,6,7,24,25],[7])]},[(11,Hq 17)]⟩
def QM:FI:=⟨Tryz.f193,{shares:=true,rets:=[.fresh],nvars:=3},[]⟩
def tab:Tab:=⟨[(3,ty3),(4,ty4),(5,ty5),(9,ty9),(22,ty22),(24,ty24),(26,ac7),(29,ty29),(31,ty31),(33,ac8),(39,ac9),(43,ty43),(45,ty45),(46,ada),(50,adb),(52,ade),(54,adf),(57,adg),(58,ty58),(59,adh),(63,ty63),(66,ty66),(69,adi),(84,adk),(97,adl),(99,ty99),(109,YG),(116,ty116),(118,ty118),(122,YH),(135,YI),(136,YJ),(140,YK),(143,YL),(146,YM),(153,ty153),(155,YN),(163,YO),(164,YP),(167,YQ),(170,YR),(179,YS),(219,YT)],
 [(7,fi7),(11,fi11),(12,fi12),(13,fi13),(14,fi14),(15,fi15),(16,fi16),(17,fi17),(18,fi18),(20,fi20),(21,fi21),(22,fi22),(24,fi24),(25,fi25),(27,fi27),(28,fi28),(29,fi29),(30,fi30),(31,fi31),(32,fi32),(37,fi37),(38,fi38),(39,fi39),(40,fi40),(41,fi41),(42,fi42),(43,fi43),(44,fi44),(45,fi45),(46,fi46),(47,fi47),(48,fi48),(49,fi49),(50,fi50),(51,adn),(52,ado),(54,fi54),(55,fi55),(56,fi56),(57,fi57),(59,fi59),(60,fi60),(61,fi61),(62,fi62),(63,fi63),(64,fi64),(65,fi65),(66,fi66),(67,fi67),(68,fi68),(70,fi70),(71,fi71),(72,fi72),(73,fi73),(74,fi74),(75,fi75),(76,adp),(77,fi77),(78,adq),(79,fi79),(80,fi80),(81,fi81),(82,fi82),(83,fi83),(84,fi84),(85,adr),(86,ads),(87,lJ),(88,fi88),(89,fi89),(90,fi90),(93,fi93),(94,fi94),(95,fi95),(96,fi96),(97,fi97),(98,fi98),(99,fi99),(100,Oe),(101,fi101),(102,fi102),(103,fi103),(104,YU),(105,YV),(106,fi106),(107,fi107),(108,fi108),(109,YW),(110,fi110),(111,YX),(112,YZ),(113,Y0),(114,Y1),(115,Y3),(116,Y5),(117,Y6),(118,Y7),(119,Y8),(120,Y9),(121,Za),(122,Zb),(123,Zc),(124,Zd),(125,Ze),(126,Zf),(127,Zg),(128,Zh),(129,Zi),(130,Zj),(131,Zk),(132,Zl),(133,Zm),(134,Zn),(135,Zo),(138,Zp),(139,Zq),(140,Zr),(141,Zt),(142,Zu),(143,Zv),(145,Zw),(146,Zx),(147,Zy),(148,Zz),(149,ZA),(150,ZB),(151,ZC),(152,ZE),(153,ZF),(154,ZG),(155,ZH),(156,ZI),(157,ZJ),(158,ZK),(159,ZL),(160,ZM),(170,ZN),(171,ZO),(172,ZP),(173,ZQ),(174,ZR),(175,ZT),(176,ZU),(177,ZV),(178,ZW),(179,U6),(180,U7),(186,ZX),(187,ZY),(189,Z4),(190,Z5),(191,Z7),(192,Z8),(193,QM)],false,[],[],λ_ _=>True⟩
end
end Go.Skm.Fen
