/- A function of the library by hand: RvHdo0. -/
import Derived.Test.YtjknhphmhfbghaaGreatGM14
import Derived.KernelRfl
set_option linter.unusedVariables false
set_option linter.unusedSimpArgs false
set_option linter.unusedSectionVars false
namespace Go.Rv
open Go.Proofs
abbrev BL:List CT:=[CT.int .i64,CT.int .i64,CT.int .i64,CT.int .i64,CT.sl [CT.int .i64,CT.int .i64,CT.int .i64,CT.int .i64],CT.sl [CT.int .i64,CT.int .i64,CT.int .i64,CT.int .i64],CT.sl [CT.int .i64,CT.int .i64,CT.int .i64]]
abbrev opC:List CT:=[CT.int .i64,CT.int .i64,CT.int .i64,CT.int .i64,CT.int .i64]
abbrev Zy:List bD:=[.m BL,.v true opC]
abbrev Ze:List (Bool×List CT):=[(true,[CT.int .i64,CT.int .i64,CT.int .i64])]
abbrev jf:=Int×Int×Int×Int×List fO×List fO×List cZ×Unit
def kF(ms:List fO)(ls:List cZ):Prop:=ls.length≤1048576∧(∀ l∈ls,kW l.1)∧∀ m∈ms,kW m.1
instance afU (ms:List fO) (ls:List cZ):Decidable (kF ms ls):=by unfold kF;infer_instance
def lg(s0 s1 s2 s3:Int)(gs ms:List fO)(ls:List cZ)(p:cZ→Bool):jf:=(s0,s1,s2,s3,gs,ms.filter (fun m=> !pY p ls m.1),ls.filter (fun l=> !p l),())
noncomputable def nT(s0 s1 s2 s3:Int)(gs ms:List fO)(ls:List cZ)(k id g a b:Int):Option (Int×Int×Int×jf):=
 if k=1 then qj (s0,s1,s2,s3,gs,ms,ls,k,id,g,a,b,())
 else if k=2 then(oU (s3,gs,ms,id,())).bind fun y=>if y.2.1=true then(if kF ms ls then some (0,0,0,lg s0 s1 s2 s3 gs ms ls (fun l=>l.1==id))else none)else some (0,0,4,s0,s1,s2,s3,gs,ms,ls,())
 else if k=4 then(if s2=999000 then some (0,0,9,s0,s1,s2,s3,gs,ms,ls,())else if kF ms ls∧0≤s2∧s2≤1048576 then some (0,0,0,lg s0 s1 (s2+1) s3 gs ms ls (fun l=>decide (l.2.2.1≤s2+1)))else none)
 else if k=5 then some (0,0,0,s0,s2,s2,s3,gs,[],[],())
 else(mZ (k,id,g,a,b,())).bind fun e=>(mV (s3,gs,ms,e)).bind fun y=>some (0,0,y.1,s0,s1,s2,y.2.1,y.2.2.1,y.2.2.2.1,ls,())
noncomputable def wL:Int×Int×Int×Int×List fO×List fO×List cZ×Int×Int×Int×Int×Int×Unit→Option (Int×Int×Int×jf):=
 fun x=>nT x.1 x.2.1 x.2.2.1 x.2.2.2.1 x.2.2.2.2.1 x.2.2.2.2.2.1 x.2.2.2.2.2.2.1 x.2.2.2.2.2.2.2.1 x.2.2.2.2.2.2.2.2.1 x.2.2.2.2.2.2.2.2.2.1 x.2.2.2.2.2.2.2.2.2.2.1 x.2.2.2.2.2.2.2.2.2.2.2.1
end Go.Rv
