/- A function of the library by hand: RvHdo0. -/
import Derived.Test.YtmgahpicfjpjaaaGreatEM14
import Derived.KernelRfl
set_option linter.unusedVariables false
set_option linter.unusedSimpArgs false
set_option linter.unusedSectionVars false
namespace Go.Rv
open Go.Proofs
abbrev Cb:List CT:=[CT.int .i64,CT.int .i64,CT.int .i64,CT.int .i64,CT.sl [CT.int .i64,CT.int .i64,CT.int .i64,CT.int .i64],CT.sl [CT.int .i64,CT.int .i64,CT.int .i64,CT.int .i64],CT.sl [CT.int .i64,CT.int .i64,CT.int .i64]]
abbrev opC:List CT:=[CT.int .i64,CT.int .i64,CT.int .i64,CT.int .i64,CT.int .i64]
abbrev Rw:List bF:=[.m Cb,.v true opC]
abbrev Rn:List (Bool×List CT):=[(true,[CT.int .i64,CT.int .i64,CT.int .i64])]
abbrev jb:=Int×Int×Int×Int×List fO×List fO×List di×Unit
def jX(ms:List fO)(ls:List di):Prop:=ls.length≤1048576∧(∀ l∈ls,kW l.1)∧∀ m∈ms,kW m.1
instance ain (ms:List fO) (ls:List di):Decidable (jX ms ls):=by unfold jX;infer_instance
def kR(s0 s1 s2 s3:Int)(gs ms:List fO)(ls:List di)(p:di→Bool):jb:=(s0,s1,s2,s3,gs,ms.filter (fun m=> !qh p ls m.1),ls.filter (fun l=> !p l),())
noncomputable def nY(s0 s1 s2 s3:Int)(gs ms:List fO)(ls:List di)(k id g a b:Int):Option (Int×Int×Int×jb):=
 if k=1 then qw (s0,s1,s2,s3,gs,ms,ls,k,id,g,a,b,())
 else if k=2 then(oQ (s3,gs,ms,id,())).bind fun y=>if y.2.1=true then(if jX ms ls then some (0,0,0,kR s0 s1 s2 s3 gs ms ls (fun l=>l.1==id))else none)else some (0,0,4,s0,s1,s2,s3,gs,ms,ls,())
 else if k=4 then(if s2=999000 then some (0,0,9,s0,s1,s2,s3,gs,ms,ls,())else if jX ms ls∧0≤s2∧s2≤1048576 then some (0,0,0,kR s0 s1 (s2+1) s3 gs ms ls (fun l=>decide (l.2.2.1≤s2+1)))else none)
 else if k=5 then some (0,0,0,s0,s2,s2,s3,gs,[],[],())
 else(mY (k,id,g,a,b,())).bind fun e=>(mM (s3,gs,ms,e)).bind fun y=>some (0,0,y.1,s0,s1,s2,y.2.1,y.2.2.1,y.2.2.2.1,ls,())
noncomputable def oU:Int×Int×Int×Int×List fO×List fO×List di×Int×Int×Int×Int×Int×Unit→Option (Int×Int×Int×jb):=
 fun x=>nY x.1 x.2.1 x.2.2.1 x.2.2.2.1 x.2.2.2.2.1 x.2.2.2.2.2.1 x.2.2.2.2.2.2.1 x.2.2.2.2.2.2.2.1 x.2.2.2.2.2.2.2.2.1 x.2.2.2.2.2.2.2.2.2.1 x.2.2.2.2.2.2.2.2.2.2.1 x.2.2.2.2.2.2.2.2.2.2.2.1
end Go.Rv
