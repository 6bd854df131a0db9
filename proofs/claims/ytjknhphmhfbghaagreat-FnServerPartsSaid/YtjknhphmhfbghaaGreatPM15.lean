/- A function of the library by hand: RvHdo0. -/
import Derived.Test.YtjknhphmhfbghaaGreatPM14
import Derived.KernelRfl
set_option linter.unusedVariables false
set_option linter.unusedSimpArgs false
set_option linter.unusedSectionVars false
namespace Go.Rv
open Go.Proofs
abbrev CB:List CT:=[CT.int .i64,CT.int .i64,CT.int .i64,CT.int .i64,CT.sl [CT.int .i64,CT.int .i64,CT.int .i64,CT.int .i64],CT.sl [CT.int .i64,CT.int .i64,CT.int .i64,CT.int .i64],CT.sl [CT.int .i64,CT.int .i64,CT.int .i64]]
abbrev opC:List CT:=[CT.int .i64,CT.int .i64,CT.int .i64,CT.int .i64,CT.int .i64]
abbrev QN:List bF:=[.m CB,.v true opC]
abbrev QG:List (Bool×List CT):=[(true,[CT.int .i64,CT.int .i64,CT.int .i64])]
abbrev jk:=Int×Int×Int×Int×List fQ×List fQ×List dm×Unit
def kG(ms:List fQ)(ls:List dm):Prop:=ls.length≤1048576∧(∀ l∈ls,kW l.1)∧∀ m∈ms,kW m.1
instance agR (ms:List fQ) (ls:List dm):Decidable (kG ms ls):=by unfold kG;infer_instance
def lu(s0 s1 s2 s3:Int)(gs ms:List fQ)(ls:List dm)(p:dm→Bool):jk:=(s0,s1,s2,s3,gs,ms.filter (fun m=> !qj p ls m.1),ls.filter (fun l=> !p l),())
noncomputable def nZ(s0 s1 s2 s3:Int)(gs ms:List fQ)(ls:List dm)(k id g a b:Int):Option (Int×Int×Int×jk):=
 if k=1 then qA (s0,s1,s2,s3,gs,ms,ls,k,id,g,a,b,())
 else if k=2 then(pq (s3,gs,ms,id,())).bind fun y=>if y.2.1=true then(if kG ms ls then some (0,0,0,lu s0 s1 s2 s3 gs ms ls (fun l=>l.1==id))else none)else some (0,0,4,s0,s1,s2,s3,gs,ms,ls,())
 else if k=4 then(if s2=999000 then some (0,0,9,s0,s1,s2,s3,gs,ms,ls,())else if kG ms ls∧0≤s2∧s2≤1048576 then some (0,0,0,lu s0 s1 (s2+1) s3 gs ms ls (fun l=>decide (l.2.2.1≤s2+1)))else none)
 else if k=5 then some (0,0,0,s0,s2,s2,s3,gs,[],[],())
 else(nD (k,id,g,a,b,())).bind fun e=>(ni (s3,gs,ms,e)).bind fun y=>some (0,0,y.1,s0,s1,s2,y.2.1,y.2.2.1,y.2.2.2.1,ls,())
noncomputable def oq:Int×Int×Int×Int×List fQ×List fQ×List dm×Int×Int×Int×Int×Int×Unit→Option (Int×Int×Int×jk):=
 fun x=>nZ x.1 x.2.1 x.2.2.1 x.2.2.2.1 x.2.2.2.2.1 x.2.2.2.2.2.1 x.2.2.2.2.2.2.1 x.2.2.2.2.2.2.2.1 x.2.2.2.2.2.2.2.2.1 x.2.2.2.2.2.2.2.2.2.1 x.2.2.2.2.2.2.2.2.2.2.1 x.2.2.2.2.2.2.2.2.2.2.2.1
end Go.Rv
