import Derived.Test.YtoheflpoanjihaaGreatSkmE
import Derived.Test.YtoheflpoanjihaaGreatTab
import Derived.KernelRfl
set_option maxRecDepth 100000
namespace Go.Skm.Fen
open Go Go.Skm
theorem aiD (C:aS) (x_0:Bool)(x_1:List PV)(Dj:Bool):let b:PV:=.agg [.bool Dj,.nil];let c:List Kd:=[.int .i64];let a:PV:=.agg [.bool x_0,.list false c x_1];bG tab C 132 [.p a,.p b] [] = (C 148 [.p b] []).bind fun r1 => (C 142 [.p a,.p (.agg [.bool (((r1.1.headD .undef).pv.cell 0).toBool),.list false c (((r1.1.headD .undef).pv.cell 1).toList)])] []).bind fun r2 => some ([.p (.agg [.bool (((r2.1.headD .undef).pv.cell 0).toBool),.list false c (((r2.1.headD .undef).pv.cell 1).toList)])],[]):=by intros;kernel_rfl
theorem aiE (C:aS) (Dj:Bool):bG tab C 148 [.p (.agg [.bool Dj,.nil])] [] = (C 131 [.p (.bool (!Dj)),.p (.list false [.int .i64] [])] []).bind fun r1 => some ([.p (.agg [.bool (((r1.1.headD .undef).pv.cell 0).toBool),.list false [.int .i64] (((r1.1.headD .undef).pv.cell 1).toList)])],[]):=by kernel_rfl
end Go.Skm.Fen
