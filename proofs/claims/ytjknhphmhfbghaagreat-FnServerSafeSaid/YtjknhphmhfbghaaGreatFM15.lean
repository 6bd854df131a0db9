/- A function of the library by hand: RvHdo0. -/
import Derived.Test.YtjknhphmhfbghaaGreatFM14
import Derived.KernelRfl
set_option linter.unusedVariables false
set_option linter.unusedSimpArgs false
set_option linter.unusedSectionVars false
namespace Go.Rv
open Go.Proofs
abbrev Cb:List CT:=[CT.int .i64,CT.int .i64,CT.int .i64,CT.int .i64,CT.sl [CT.int .i64,CT.int .i64,CT.int .i64,CT.int .i64],CT.sl [CT.int .i64,CT.int .i64,CT.int .i64,CT.int .i64],CT.sl [CT.int .i64,CT.int .i64,CT.int .i64]]
abbrev opC:List CT:=[CT.int .i64,CT.int .i64,CT.int .i64,CT.int .i64,CT.int .i64]
abbrev ZG:List bF:=[.m Cb,.v true opC]
abbrev Zl:List (Bool×List CT):=[(true,[CT.int .i64,CT.int .i64,CT.int .i64])]
abbrev jo:=Int×Int×Int×Int×List fV×List fV×List cZ×Unit
def kL(ms:List fV)(ls:List cZ):Prop:=ls.length≤1048576∧(∀ l∈ls,kW l.1)∧∀ m∈ms,kW m.1
instance agm (ms:List fV) (ls:List cZ):Decidable (kL ms ls):=by unfold kL;infer_instance
def lF(s0 s1 s2 s3:Int)(gs ms:List fV)(ls:List cZ)(p:cZ→Bool):jo:=(s0,s1,s2,s3,gs,ms.filter (fun m=> !qj p ls m.1),ls.filter (fun l=> !p l),())
noncomputable def nX(s0 s1 s2 s3:Int)(gs ms:List fV)(ls:List cZ)(k id g a b:Int):Option (Int×Int×Int×jo):=
 if k=1 then qy (s0,s1,s2,s3,gs,ms,ls,k,id,g,a,b,())
 else if k=2 then(oZ (s3,gs,ms,id,())).bind fun y=>if y.2.1=true then(if kL ms ls then some (0,0,0,lF s0 s1 s2 s3 gs ms ls (fun l=>l.1==id))else none)else some (0,0,4,s0,s1,s2,s3,gs,ms,ls,())
 else if k=4 then(if s2=999000 then some (0,0,9,s0,s1,s2,s3,gs,ms,ls,())else if kL ms ls∧0≤s2∧s2≤1048576 then some (0,0,0,lF s0 s1 (s2+1) s3 gs ms ls (fun l=>decide (l.2.2.1≤s2+1)))else none)
 else if k=5 then some (0,0,0,s0,s2,s2,s3,gs,[],[],())
 else(nC (k,id,g,a,b,())).bind fun e=>(ng (s3,gs,ms,e)).bind fun y=>some (0,0,y.1,s0,s1,s2,y.2.1,y.2.2.1,y.2.2.2.1,ls,())
noncomputable def wO:Int×Int×Int×Int×List fV×List fV×List cZ×Int×Int×Int×Int×Int×Unit→Option (Int×Int×Int×jo):=
 fun x=>nX x.1 x.2.1 x.2.2.1 x.2.2.2.1 x.2.2.2.2.1 x.2.2.2.2.2.1 x.2.2.2.2.2.2.1 x.2.2.2.2.2.2.2.1 x.2.2.2.2.2.2.2.2.1 x.2.2.2.2.2.2.2.2.2.1 x.2.2.2.2.2.2.2.2.2.2.1 x.2.2.2.2.2.2.2.2.2.2.2.1
end Go.Rv
