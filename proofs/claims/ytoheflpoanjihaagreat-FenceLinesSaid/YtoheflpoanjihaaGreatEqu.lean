import Derived.Test.YtoheflpoanjihaaGreatSkmD
import Derived.Test.YtoheflpoanjihaaGreatTab
import Derived.KernelRfl
set_option linter.all false
set_option maxRecDepth 100000
namespace Go.Skm.Fen
open Go Go.Skm
variable {C:CallF}{a c:Bool}{b:List PV}
theorem Xo:let e:Ry->PV:=λd:Ry=>.agg [.bool (((d.1.headD .undef).pv.cell 0).toBool),.list false [.int .i64] (((d.1.headD .undef).pv.cell 1).toList)];let f:PV:=.agg [.bool a,.list false [.int .i64] b];let g:PV:=.agg [.bool c,.nil];acallI tab C 132 [.p f,.p g] []=(C 148 [.p g] []).bind λr1=>(C 142 [.p f,.p (e r1)] []).bind λr2=>some ([.p (e r2)],[]):=by intros;kernel_rfl
theorem Xp:acallI tab C 148 [.p (.agg [.bool a,.nil])] []=(C 131 [Ac (!a),.p (.list false [.int .i64] [])] []).bind λr1=>some ([.p (.agg [.bool (((r1.1.headD .undef).pv.cell 0).toBool),.list false [.int .i64] (((r1.1.headD .undef).pv.cell 1).toList)])],[]):=by kernel_rfl
end Go.Skm.Fen
