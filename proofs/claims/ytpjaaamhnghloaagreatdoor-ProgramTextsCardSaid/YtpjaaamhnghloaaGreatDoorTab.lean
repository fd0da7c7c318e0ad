import Derived.Test.YtpjaaamhnghloaaGreatDoorProg
import Derived.Test.YtpjaaamhnghloaaGreatDoorSkmA
import Derived.Lib.ItoaNum
import Derived.Lib.LaidTab
set_option linter.all false
namespace Go.Skm.Prg
noncomputable section
def Al(d:Nat):List Nat:=[d,d+1000,d+2000,d+3000]
abbrev Ry:=List Go.Skm.AV×List Go.Skm.aH
abbrev Rz:=Option Ry
abbrev Ab(n:Int):AV:=.p (.int .i64 n)
abbrev Ai(n:Bool):AV:=.p (.bool n)
abbrev Aw(n:Int):PV:=.int .i64 n
open Go.Proofs
open Go
def Hq (n:Nat):List (List Nat):=List.replicate n []
def Ur(n:Nat):List AV:=List.replicate n .undef
def Uq:Nat->List AV->List AV
 |0,l=>l
 |n+1,l=>.undef::Uq n l
abbrev iV:List Kd:=[.int .i64,.int .i64,.int .i64,.slice false [.int .i64],.slice false [.int .i64],.slice false [.int .i64]]
abbrev yM:List Kd:=[.int .i64,.int .i64,.int .i64,.int .i64,.int .i64,.int .i64]
abbrev gY:List Kd:=[.str,.int .i64,.slice true yM]
abbrev dW:List Kd:=[.int .i64,.int .i64,.int .i64]
def oV:List (List UInt8)->List UInt8
 |[]=>[]
 |[x]=>x
 |x::y::r=>x++32::oV (y::r)
def uD(xs ys:List PV):ByteArray:=⟨(oV (xs.map (λx:PV=>x.toStr.toList)++ys.map (λy:PV=>Lib.itoa y.toInt))++[10]).toArray⟩
def ty3:TI:=⟨.int .i64,1,8,false,(false,[.int .i64]),some (Aw 0),false⟩
def ty4:TI:=⟨.bool,1,1,false,(false,[.bool]),some (.bool false),false⟩
def ty5:TI:=⟨.int .u8,1,1,false,(false,[.int .u8]),some (.int .u8 0),false⟩
def ty9:TI:=⟨.string,1,16,false,(false,[.str]),some (.str ⟨#[]⟩),false⟩
def amH:TI:=⟨.slice 9,1,24,false,(false,[.slice false [.str]]),some (.nil),false⟩
def amI:TI:=⟨.slice 66,1,24,false,(false,[.slice true [.int .i64,.int .i64,.int .i64]]),some (.nil),false⟩
def amJ:TI:=⟨.slice 72,1,24,false,(false,[.slice true [.str,.int .i64,.slice true [.int .i64,.int .i64,.int .i64,.int .i64,.int .i64,.int .i64]]]),some (.nil),false⟩
def amK:TI:=⟨.struct #[⟨ "Names",22,0,false,"","",0⟩,⟨ "Homes",23,1,false,"","",24⟩,⟨ "Acts",24,2,false,"","",48⟩],3,72,true,(true,[.slice false [.str],.slice true [.int .i64,.int .i64,.int .i64],.slice true [.str,.int .i64,.slice true [.int .i64,.int .i64,.int .i64,.int .i64,.int .i64,.int .i64]]]),some (.agg [.nil,.nil,.nil]),false⟩
def amL:TI:=⟨.int .i64,1,8,false,(false,[.int .i64]),some (Aw 0),false⟩
def amM:TI:=⟨.slice 50,1,24,false,(false,[.slice false [.slice true [.int .i64,.int .i64,.int .i64,.slice false [.int .i64],.slice false [.int .i64],.slice false [.int .i64]]]]),some (.nil),false⟩
def amN:TI:=⟨.slice 68,1,24,false,(false,[.slice true [.int .i64,.int .i64,.int .i64,.slice false [.int .i64],.slice false [.int .i64],.slice false [.int .i64]]]),some (.nil),false⟩
def amO:TI:=⟨.slice 3,1,24,false,(false,[.slice false [.int .i64]]),some (.nil),false⟩
def amP:TI:=⟨.struct #[⟨ "X",3,0,false,"","",0⟩,⟨ "Y",3,1,false,"","",8⟩,⟨ "Z",3,2,false,"","",16⟩],3,24,true,(true,[.int .i64,.int .i64,.int .i64]),some (.agg [Aw 0,Aw 0,Aw 0]),true⟩
def amQ:TI:=⟨.struct #[⟨ "From",3,0,false,"","",0⟩,⟨ "To",3,1,false,"","",8⟩,⟨ "Over",3,2,false,"","",16⟩,⟨ "X",59,3,false,"","",24⟩,⟨ "Y",59,4,false,"","",48⟩,⟨ "Z",59,5,false,"","",72⟩],6,96,true,(true,[.int .i64,.int .i64,.int .i64,.slice false [.int .i64],.slice false [.int .i64],.slice false [.int .i64]]),some (.agg [Aw 0,Aw 0,Aw 0,.nil,.nil,.nil]),false⟩
def amR:TI:=⟨.slice 82,1,24,false,(false,[.slice true [.int .i64,.int .i64,.int .i64,.int .i64,.int .i64,.int .i64]]),some (.nil),false⟩
def amS:TI:=⟨.struct #[⟨ "Name",9,0,false,"","",0⟩,⟨ "Length",3,1,false,"","",16⟩,⟨ "Moves",70,2,false,"","",24⟩],3,48,true,(true,[.str,.int .i64,.slice true [.int .i64,.int .i64,.int .i64,.int .i64,.int .i64,.int .i64]]),some (.agg [.str ⟨#[]⟩,Aw 0,.nil]),false⟩
def amT:TI:=⟨.struct #[⟨ "To",66,0,false,"","",0⟩,⟨ "Wait",3,3,false,"","",24⟩,⟨ "Flight",3,4,false,"","",32⟩,⟨ "Rise",3,5,false,"","",40⟩],6,48,true,(true,[.int .i64,.int .i64,.int .i64,.int .i64,.int .i64,.int .i64]),some (.agg [Aw 0,Aw 0,Aw 0,Aw 0,Aw 0,Aw 0]),true⟩
def amU:TI:=⟨.pointer 26,1,8,false,(false,[.other]),some (.zG),false⟩
def ahZ:TI:=⟨.func #[141] #[] false,1,8,false,(false,[.other]),some (.pz),false⟩
def ah0:TI:=⟨.func #[68] #[4] false,1,8,false,(false,[.other]),some (.pz),false⟩
def ah1:TI:=⟨.pointer 123,1,8,false,(false,[.other]),some (.zG),false⟩
def ah2:TI:=⟨.slice 5,1,24,false,(false,[.slice false [.int .u8]]),some (.nil),false⟩
def ah3:TI:=⟨.struct #[⟨ "addr",120,0,false,"","strings",0⟩,⟨ "buf",121,1,false,"","strings",8⟩],2,32,true,(true,[.other,.slice false [.int .u8]]),some (.agg [.zG,.nil]),false⟩
def ah4:TI:=⟨.struct #[⟨ "Builder",123,0,true,"","",0⟩],2,32,true,(true,[.other,.slice false [.int .u8]]),some (.agg [.zG,.nil]),false⟩
def ah5:TI:=⟨.map 9 4,1,8,false,(false,[.other]),some (.Lj),false⟩
def ah6:TI:=⟨.map 66 4,1,8,false,(false,[.other]),some (.Lj),false⟩
def ah7:TI:=⟨.func #[50,29] #[4] false,1,8,false,(false,[.other]),some (.pz),false⟩
def ah8:TI:=⟨.pointer 125,1,8,false,(false,[.other]),some (.zG),false⟩
def ah9:TI:=⟨.interface #[("Error",83)],1,16,false,(false,[.other]),some (.rU),false⟩
def aia:TI:=⟨.pointer 5,1,8,false,(false,[.other]),some (.zG),false⟩
def aib:TI:=⟨.func #[66,3,3] #[] false,1,8,false,(false,[.other]),some (.pz),false⟩
def aic:TI:=⟨.int .i64,1,8,false,(false,[.int .i64]),some (Aw 0),false⟩
def aie:TI:=⟨.func #[105] #[] false,1,8,false,(false,[.other]),some (.pz),false⟩
def aif:TI:=⟨.map 223 59,1,8,false,(false,[.other]),some (.Lj),false⟩
def fi3:FI:=⟨Tryz.f3,{nvars:=11},[]⟩
def fi5:FI:=⟨Tryz.f5,{nvars:=9,cuts:=[(4,[1,3,7],[3]),(9,[1,3,8],[3])]},[]⟩
def fi6:FI:=⟨Tryz.f6,{nvars:=18},[(15,[Al 165++Al 167++[169],[],Al 167,[],[],[],[],[],[],[],[],[]])]⟩
def fi7:FI:=⟨Tryz.f7,{nvars:=4},[]⟩
def fi8:FI:=⟨Tryz.f8,{nvars:=12,cuts:=[(5,[1,3,4],[1]),(10,[1,3,4,5],[1]),(17,[1,3,6,7,8],[1,7]),(24,[1,3,6,7,8,9,10,11],[1,7,9,10])]},[(12,Hq 24),(26,Hq 13),(28,[Al 160,Al 160,Al 160,Al 160,Al 160,Al 160,[],[],[],[],[],[],[],[],[],[],[],[],[],[],[],[],[]])]⟩
def fi9:FI:=⟨Tryz.f9,{nvars:=8,cuts:=[(3,[1,3,4],[1]),(7,[1,3,5],[1]),(11,[1,3,5,6],[1])]},[(5,[Al 29,Al 29,Al 29,Al 29,Al 29,Al 29,Al 29,Al 29,Al 29,[],[],[],[],[],[],[],[],[]]),(9,[Al 55,Al 55,Al 55,Al 55,Al 55,Al 55,Al 55,Al 55,Al 55,Al 55,[],[],[],[],[],[],[],[],[],[]]),(14,[Al 82++Al 87++Al 92++Al 97,Al 82++Al 87++Al 92++Al 97,[],[],[],Al 87++Al 92++Al 97,Al 87++Al 92++Al 97,Al 82,Al 82,[],Al 92++Al 97,Al 92++Al 97,Al 82++Al 87,Al 82++Al 87,[],Al 97,Al 97,Al 82++Al 87++Al 92,Al 82++Al 87++Al 92,[],[],[],[]])]⟩
def ad9:FI:=⟨Tryz.f10,{shares:=true,nvars:=6,quiet:=true},[]⟩
def aea:FI:=⟨Tryz.f11,{shares:=true,nvars:=12,quiet:=true},[]⟩
def amV:FI:=⟨Tryz.f12,{nvars:=10,cuts:=[(4,[2,3,5],[2,3]),(9,[2,3,6],[2,3]),(14,[2,3,7],[2,3])]},[(6,Hq 11),(11,Hq 11),(16,[[8,9],[8,9],[8,9],[8,9],[8,9],[8,9,8],[8,9,8],[8,9,8],[8,9,8],[8,9,8],[9],[8],[],[]])]⟩
def ajv:FI:=⟨Tryz.f13,{nvars:=10,cuts:=[(6,[1,2,3,4,24,25,26],[1,2,4,22]),(12,[1,2,3,4,6,7,24,25,26,59],[1,2,4,6,7,22])]},[]⟩
def amW:FI:=⟨Tryz.f14,{nvars:=7,cuts:=[(5,[4,11,12,13],[])]},[]⟩
def amX:FI:=⟨Tryz.f16,{shares:=true,rets:=[.deep,.deep],nvars:=6},[]⟩
def amY:FI:=⟨Tryz.f22,{shares:=true,nvars:=0,quiet:=true},[]⟩
def amZ:FI:=⟨Tryz.f23,{shares:=true,rets:=[.deep,.deep],nvars:=6},[]⟩
def am0:FI:=⟨Tryz.f24,{nvars:=8,cuts:=[(6,[1,2,4,5],[2])]},[]⟩
def am1:FI:=⟨Tryz.f25,{nvars:=7},[]⟩
def am2:FI:=⟨Tryz.f26,{nvars:=6,cuts:=[(4,[0,1,5],[])]},[(6,Hq 9)]⟩
def am3:FI:=⟨Tryz.f27,{nvars:=6},[]⟩
def am4:FI:=⟨Tryz.f28,{shares:=true,nvars:=7},[]⟩
def am5:FI:=⟨Tryz.f29,{nvars:=1},[]⟩
def ajw:FI:=⟨Tryz.f30,{nvars:=10,fhomes:=[39,54,79],cuts:=[(3,[1,3,11,12,13],[1,3,7990]),(8,[3,42,43,44],[3,7990]),(12,[3,42,43,44,56,57,58],[3,7990])]},[(5,[[38],[38],[19],[19],[19],[19],[19],[19],[19],[19],[19],[19],[19],[19],[19],[19],[19],[19],[19],[19],[19],[]])]⟩
def am6:FI:=⟨Tryz.f31,{nvars:=6,cuts:=[(2,[0,3],[])]},[]⟩
def am7:FI:=⟨Tryz.f32,{nvars:=3},[]⟩
def am8:FI:=⟨Tryz.f33,{rets:=[.fresh],nvars:=7,cuts:=[(5,[1,2,5,6],[2,5])]},[]⟩
def am9:FI:=⟨Tryz.f34,{nvars:=11},[]⟩
def ana:FI:=⟨Tryz.f35,{shares:=true,rets:=[.fresh],nvars:=14,quiet:=true},[(4,Hq 13)]⟩
def anb:FI:=⟨Tryz.f36,{nvars:=3},[(1,[[],[],[],Al 9++Al 14,Al 5,Al 5,[],Al 14,Al 14,Al 5++Al 9,Al 5++Al 9,[],[],[]])]⟩
def anc:FI:=⟨Tryz.f37,{nvars:=4,cuts:=[(4,[0,3],[])]},[]⟩
def ajt:FI:=⟨Tryz.f40,{nvars:=5},[]⟩
def ajo:FI:=⟨Tryz.f41,{rets:=[.fresh],nvars:=7,cuts:=[(3,[0,1,5,6],[5])]},[(7,Hq 18)]⟩
def ajp:FI:=⟨Tryz.f42,{rets:=[.fresh,.deep],nvars:=8,cuts:=[(3,[0,4,5],[4])]},[]⟩
def ane:FI:=⟨Tryz.f43,{nvars:=6,cuts:=[(4,[0,1,5],[])]},[(6,Hq 9)]⟩
def anf:FI:=⟨Tryz.f44,{nvars:=8,cuts:=[(6,[1,4,5,27,28,29],[1,24,25])]},[]⟩
def ang:FI:=⟨Tryz.f45,{nvars:=5,cuts:=[(2,[0,6,7],[])]},[]⟩
def abP:FI:=⟨Tryz.f46,{shares:=true,rets:=[.func 79 [(true,[.slice false [.str],.slice true [.int .i64,.int .i64,.int .i64],.slice true [.str,.int .i64,.slice true [.int .i64,.int .i64,.int .i64,.int .i64,.int .i64,.int .i64]]]),(true,[.int .i64]),(true,[.int .i64])]],nvars:=7},[]⟩
def Zg:FI:=⟨Tryz.f47,{shares:=true,rets:=[.fresh],nvars:=9,quiet:=true},[]⟩
def anh:FI:=⟨Tryz.f48,{shares:=true,rets:=[.deep],nvars:=8,quiet:=true,cuts:=[(5,[5,19,20,21],[5])]},[]⟩
def ani:FI:=⟨Tryz.f61,{nvars:=6,cuts:=[(2,[0,1,7,8],[])]},[]⟩
def anj:FI:=⟨Tryz.f62,{shares:=true,rets:=[.GV],nvars:=4,quiet:=true,cuts:=[(3,[1,2,18,19],[1,2,12])]},[(1,[[],[],[],Al 6,Al 6,[],Al 6++Al 9,Al 6++Al 9,[],Al 9++Al 12,[],[],[],[],[]]),(5,[Al 31,Al 31,Al 31,[],[],[],[],[],[],[],[],[],[]])]⟩
def agv:FI:=⟨Tryz.f63,{shares:=true,rets:=[.deep],nvars:=3,quiet:=true},[]⟩
def ai0:FI:=⟨Tryz.f64,{xK:=.TK uD,Iq:=[123,125],Na:=5,nvars:=8},[]⟩
def ai1:FI:=⟨Tryz.f65,{xK:=.str,Iq:=[123,125],Na:=5,nvars:=3},[]⟩
def ank:FI:=⟨Tryz.f66,{nvars:=3},[]⟩
def anl:FI:=⟨Tryz.f67,{nvars:=3},[]⟩
def anm:FI:=⟨Tryz.f68,{nvars:=6},[(4,[Al 20,[],[],[],[]])]⟩
def ano:FI:=⟨Tryz.f69,{shares:=true,rets:=[.fresh],nvars:=7,quiet:=true},[]⟩
def anp:FI:=⟨Tryz.f70,{shares:=true,nvars:=10,quiet:=true},[(1,[Al 18++Al 24++Al 30,Al 18++Al 24++Al 30,[],[],[],[],[],[],Al 18,Al 18,Al 18,Al 18,Al 18,[],Al 18++Al 24,Al 18++Al 24,Al 18++Al 24,Al 18++Al 24,Al 18++Al 24,[],[],[]])]⟩
def anq:FI:=⟨Tryz.f71,{shares:=true,rets:=[.fresh,.deep],nvars:=17,quiet:=true},[(8,[[],[],[],[],[],[],[],Al 66,Al 66,Al 66,Al 66,Al 66,Al 66,Al 66,Al 66,Al 66,[],Al 66++Al 76,Al 66++Al 76,Al 66++Al 76,Al 66++Al 76,Al 66++Al 76,Al 66++Al 76,Al 66++Al 76,[],[],[],[]])]⟩
def ad7:FI:=⟨Tryz.f74,{rets:=[.fresh],nvars:=5},[]⟩
def ajs:FI:=⟨Tryz.f75,{rets:=[.fresh,.deep],nvars:=11,cuts:=[(3,[1,6,11,12,13],[6])]},[]⟩
def anr:FI:=⟨Tryz.f76,{nvars:=5},[]⟩
def ant:FI:=⟨Tryz.f77,{nvars:=8,cuts:=[(8,[0,4,5,6,7],[])]},[(3,[[],[],[],[]])]⟩
def anu:FI:=⟨Tryz.f78,{nvars:=3},[]⟩
def adB:FI:=⟨Tryz.f79,{nvars:=8,yk:=[(false,[.slice true [.int .i64,.int .i64,.int .i64,.slice false [.int .i64],.slice false [.int .i64],.slice false [.int .i64]]]),(false,[.int .i64])],ys:=[0,22],cuts:=[(2,[0,3,5,15,16,17],[5,100000])]},[(4,[Al 32,[],[],[],[],[],[],[],[],[],[],[],[],[],[]])]⟩
def anv:FI:=⟨Tryz.f80,{shares:=true,rets:=[.fresh,.deep],nvars:=10,quiet:=true},[]⟩
def agx:FI:=⟨Tryz.f81,{shares:=true,rets:=[.deep],nvars:=3,quiet:=true},[]⟩
def agw:FI:=⟨Tryz.f99,{shares:=true,rets:=[.deep],nvars:=3,quiet:=true},[]⟩
def aaN:FI:=⟨Tryz.f100,{shares:=true,rets:=[.fresh],nvars:=3,quiet:=true},[]⟩
def aii:FI:=⟨Tryz.f104,{rets:=[.fresh],nvars:=8},[]⟩
def aij:FI:=⟨Tryz.f105,{nvars:=5},[]⟩
def aaO:FI:=⟨Tryz.f108,{shares:=true,nvars:=6},[]⟩
def aik:FI:=⟨Tryz.f109,{nvars:=5},[]⟩
def ail:FI:=⟨Tryz.f110,{nvars:=7,cuts:=[(2,[0,7,8,9],[])]},[]⟩
def ain:FI:=⟨Tryz.f111,{nvars:=3},[]⟩
def aio:FI:=⟨Tryz.f112,{nvars:=7},[]⟩
def aip:FI:=⟨Tryz.f113,{shares:=true,rets:=[.fresh],nvars:=14,quiet:=true},[]⟩
def aiq:FI:=⟨Tryz.f134,{nvars:=5},[]⟩
def ais:FI:=⟨Tryz.f135,{nvars:=5},[]⟩
def ait:FI:=⟨Tryz.f136,{nvars:=9,vcall:=true,afc:=68},[]⟩
def aiu:FI:=⟨Tryz.f137,{shares:=true,rets:=[.fresh,.deep],nvars:=8,quiet:=true},[]⟩
def aiv:FI:=⟨Tryz.f138,{shares:=true,rets:=[.fresh,.deep],nvars:=10,quiet:=true},[]⟩
def aiw:FI:=⟨Tryz.f139,{shares:=true,rets:=[.fresh,.deep],nvars:=15,quiet:=true},[(6,[[13,14],[13,14,13],[14],[13],[],[]])]⟩
def aix:FI:=⟨Tryz.f164,{shares:=true,rets:=[.fresh,.deep],nvars:=12,quiet:=true},[]⟩
def aiy:FI:=⟨Tryz.f165,{nvars:=9},[]⟩
def aiz:FI:=⟨Tryz.f166,{shares:=true,rets:=[.fresh,.deep],nvars:=11,cuts:=[(5,[0,1,6,21,22,23],[]),(15,[9,50],[9,55])]},[]⟩
def aiA:FI:=⟨Tryz.f186,{shares:=true,nvars:=12,quiet:=true},[(2,[Al 22++Al 28++Al 34,Al 22++Al 28++Al 34,[],[],[],[],[],[],Al 22,Al 22,Al 22,Al 22,Al 22,[],Al 22++Al 28,Al 22++Al 28,Al 22++Al 28,Al 22++Al 28,Al 22++Al 28,[],[],[]])]⟩
def aiB:FI:=⟨Tryz.f187,{shares:=true,rets:=[.func 205 [(true,[.slice true [.int .i64,.int .i64,.int .i64]]),(true,[.slice false [.int .i64]])]],nvars:=5},[]⟩
def aiC:FI:=⟨Tryz.f203,{shares:=true,nvars:=1,quiet:=true},[]⟩
def aiD:FI:=⟨Tryz.f204,{rets:=[.fresh],nvars:=10,cuts:=[(4,[0,1,7,15,16,17],[7])]},[]⟩
def aiE:FI:=⟨Tryz.f205,{nvars:=5,yk:=[(true,[.int .i64,.int .i64,.int .i64,.slice false [.int .i64],.slice false [.int .i64],.slice false [.int .i64]])],ys:=[0,11],cuts:=[(1,[0,1,2,4],[100000])]},[(3,[Al 30,[],[],[],[],[],[],[],[],[],[],[],[],[],[],[],[],[],[],[],[],[]])]⟩
def tab:Tab:=⟨[(3,ty3),(4,ty4),(5,ty5),(9,ty9),(22,amH),(23,amI),(24,amJ),(26,amK),(29,amL),(42,amM),(50,amN),(59,amO),(66,amP),(68,amQ),(70,amR),(72,amS),(82,amT),(95,amU),(102,ahZ),(105,ah0),(120,ah1),(121,ah2),(123,ah3),(125,ah4),(139,ah5),(140,ah6),(141,ah7),(160,ah8),(162,ah9),(166,aia),(197,aib),(223,aic),(245,aie),(268,aif)],
 [(3, fi3), (5, fi5), (6, fi6), (7, fi7), (8, fi8), (9, fi9), (10, ad9), (11, aea), (12, amV), (13, ajv), (14, amW), (16, amX), (22, amY), (23, amZ), (24, am0), (25, am1), (26, am2), (27, am3), (28, am4), (29, am5), (30, ajw), (31, am6), (32, am7), (33, am8), (34, am9), (35, ana), (36, anb), (37, anc), (40, ajt), (41, ajo), (42, ajp), (43, ane), (44, anf), (45, ang), (46, abP), (47, Zg), (48, anh), (61, ani), (62, anj), (63, agv), (64, ai0), (65, ai1), (66, ank), (67, anl), (68, anm), (69, ano), (70, anp), (71, anq), (74, ad7), (75, ajs), (76, anr), (77, ant), (78, anu), (79, adB), (80, anv), (81, agx), (99, agw), (100, aaN), (104, aii), (105, aij), (108, aaO), (109, aik), (110, ail), (111, ain), (112, aio), (113, aip), (134, aiq), (135, ais), (136, ait), (137, aiu), (138, aiv), (139, aiw), (164, aix), (165, aiy), (166, aiz), (186, aiA), (187, aiB), (203, aiC), (204, aiD), (205, aiE)], false, [], [], [19, 38, 50, 53, 62, 78, 1000002, 1000003], λb w => b = true /\ Lib.TabIs Tryz.prog w "internal/strconv.uint64pow10" .u64 Lib.pow10Tab⟩
end
end Go.Skm.Prg
