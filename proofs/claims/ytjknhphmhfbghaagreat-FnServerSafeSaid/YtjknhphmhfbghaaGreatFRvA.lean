/- A runner of programs on pure values, proved sound against the model: part RvA. It is about every program; the law's own text is the last. -/
import Derived.Calls
import Derived.Tactics
import Derived.Below
import Derived.Deep.Quiet
import Derived.Laws.StructEq
import Derived.Laws.Sem
import Derived.Laws.Entries
import Derived.Laws.Cells
import Derived.Laws.CopyRow
import Derived.Laws.BytesString
import Derived.Laws.Tables
import Derived.Laws.MakeOwn
import Derived.Laws.OwnMore
import Derived.Great.FillDense
import Derived.Laws.AppendOwn
namespace Go.Rv
open Go.RowKit
structure Kn where
 dr:Prop
 tab:(Nat→Prop)→World→Prop
 stab:∀ {J J':Nat→Prop} {w w':World},(∀ b,J b→J' b∧w'.heap[b]? =w.heap[b]?)→tab J w→tab J' w'
def Kn.no:Kn:=⟨False,fun _ _=>True,fun _ _=>trivial⟩
def Kn.grow:Kn:=⟨True,fun _ _=>True,fun _ _=>trivial⟩
structure Below (D:Kn) (B:Nat) (w w':World):Prop extends Go.RowKit.Below B w w' where
 drawn:D.dr→w.drawn≤w'.drawn
theorem Below.refl{D:Kn}(B:Nat)(w:World):Below D B w w:=⟨Go.RowKit.Below.refl B w,fun _=>Nat.le_refl _⟩
theorem Below.trans{D:Kn}{B:Nat}{a b c:World}(h:Below D B a b)(k:Below D B b c):Below D B a c:=⟨h.toBelow.trans k.toBelow,fun d=>Nat.le_trans (h.drawn d) (k.drawn d)⟩
theorem Below.mono{D:Kn}{B B':Nat}{w w':World}(h:Below D B w w')(hB:B'≤B):Below D B' w w':=⟨h.toBelow.mono hB,h.drawn⟩
theorem Below.drew{D:Kn}{B:Nat}{a w:World}(h:Below D B a w):Below D B a w.drew:=⟨h.toBelow.drew,fun d=>Nat.le_succ_of_le (h.drawn d)⟩
theorem Below.alloc{D:Kn}{B:Nat}{a w:World}(h:Below D B a w)(hB:B≤w.heap.size)(o:Obj):Below D B a (w.alloc o):=⟨h.toBelow.alloc hB o,h.drawn⟩
inductive CT where
 |int (k:IntKind) |bool |str |sl (e:List CT) |sh (e:List CT)
mutual
def CT.V:CT→Type
 | .int _=>Int
 | .bool=>Bool
 | .str=>ByteArray
 | .sl e=>List (ah.V e)
 | .sh e=>List (ah.V e)
def ah.V:List CT→Type
 | []=>Unit
 |c::cs=>CT.V c×ah.V cs
end
mutual
def CT.beq:CT→CT→Bool
 | .int k,.int k'=>decide (k=k')
 | .bool,.bool=>true
 | .str,.str=>true
 | .sl e,.sl e'=>ah.beq e e'
 | .sh e,.sh e'=>ah.beq e e'
 |_,_=>false
def ah.beq:List CT→List CT→Bool
 | [],[]=>true
 |c::cs,d::ds=>CT.beq c d&&ah.beq cs ds
 |_,_=>false
end
mutual
theorem CT.eq_of_beq:∀ {c d:CT},CT.beq c d=true→c=d:=by
 intro c d h
 cases c <;>cases d <;>simp[CT.beq]at h <;>first
  |rfl
  | (rw[h];done)
  | (rw[ah.eq_of_beq h])
theorem ah.eq_of_beq:∀ {c d:List CT},ah.beq c d=true→c=d
 | [],[],_=>rfl
 |c::cs,d::ds,h=>by
  simp[ah.beq]at h
  rw[CT.eq_of_beq h.1,ah.eq_of_beq h.2]
 | [],_::_,h=>by simp[ah.beq]at h
 |_::_,[],h=>by simp[ah.beq]at h
end
mutual
def CT.zero:(c:CT)→c.V
 | .int _=>(0:Int)
 | .bool=>false
 | .str=>ByteArray.empty
 | .sl _=>[]
 | .sh _=>[]
def ah.zero:(cs:List CT)→ah.V cs
 | []=>()
 |c::cs=>(CT.zero c,ah.zero cs)
end
inductive PV where
 |int (k:IntKind) (z:Int)
 |bool (b:Bool)
 |str (s:ByteArray)
 |sl (e:List CT) (xs:List (ah.V e))
 |sh (e:List CT) (xs:List (ah.V e))
 |own (o:Nat)
 |ref (o:Nat) (sz off len:Nat)
 |ptr (o:Nat) (i sz j:Nat)
 |eptr (e:List CT) (x:ah.V e) (j:Nat)
 |nilp
 |nils
 |emp
 |agg (vs:List PV)
 |tup (vs:List PV)
 |fn (f:FuncId) (caps:List PV)
 |undef
 |skip
 |either
def CT.pv:(c:CT)→c.V→PV
 | .int k,z=> .int k z
 | .bool,b=> .bool b
 | .str,s=> .str s
 | .sl e,xs=> .sl e xs
 | .sh e,xs=> .sl e xs
def CT.tJ:(c:CT)→c.V→PV
 | .int k,z=> .int k z
 | .bool,b=> .bool b
 | .str,s=> .str s
 | .sl e,xs=> .sl e xs
 | .sh e,xs=> .sh e xs
def ah.get:(cs:List CT)→ah.V cs→Nat→Option PV
 | [],_,_=>none
 |c::_,x,0=>some (c.pv x.1)
 |_::cs,x,j+1=>ah.get cs x.2 j
def fH(e' e:List CT)(xs:List (ah.V e')):Option (List (ah.V e)):=
 if h:ah.beq e' e=true then some (ah.eq_of_beq h▸xs)else none
def CT.nS(c:CT)(v:PV):Option c.V:=
 match c,v with
 | .int k,.int k' z=>if k=k' then some z else none
 | .bool,.bool b=>some b
 | .str,.str s=>some s
 | .sl _,.nils=>some []
 | .sl _,.emp=>some []
 | .sl e,.sl e' xs=>fH e' e xs
 | .sl e,.sh e' xs=>fH e' e xs
 |_,_=>none
def ah.set:(cs:List CT)→ah.V cs→Nat→PV→Option (ah.V cs)
 | [],_,_,_=>none
 |c::_,x,0,v=>(c.nS v).map fun y=>(y,x.2)
 |_::cs,x,j+1,v=>(ah.set cs x.2 j v).map fun y=>(x.1,y)
inductive Ob where
 |box (cells:List PV)
 |arr (e:List CT) (xs:List (ah.V e))
 |dead
def xO:Value→PV
 | .int k n=> .int k n
 | .bool b=> .bool b
 | .string s=> .str s
 | .slice none 0 0=> .nils
 | .pointer none=> .nilp
 |_=> .undef
def EL:Value→PV
 | .agg cs=> .agg (cs.toList.map xO)
 | .func (.func f) a b=>if a.size=0∧b.size=0 then .fn f []else .undef
 |v=>xO v
def look:List (Nat×PV)→Nat→PV
 | [],_=> .undef
 | (i,v)::r,s=>if i=s then v else look r s
def ev(env:List (Nat×PV)):Operand→PV
 | .tmp t=>look env t
 | .const v=>EL v
 | .func f=> .fn f []
 | .global _=> .undef
def lay(P:Program):Nat→TypeId→Option (Bool×List CT)
 |0,_=>none
 |n+1,t=>
  match P.underlying t with
  |some (.int k)=>some (false,[.int k])
  |some .bool=>some (false,[.bool])
  |some .string=>some (false,[.str])
  |some (.slice e)=>match lay P n e with |some (_,cs)=>some (false,[.sl cs]) |none=>none
  |some (.struct fs)=>(fs.toList.foldr (fun f acc=>match lay P n f.type,acc with |some (_,cs),some r=>some (cs++r) |_,_=>none) (some [])).map fun r=>(true,r)
  |_=>none
def qU(P:Program)(t:TypeId):Option (Bool×Nat):=
 match P.underlying t,P.info? t with
 |some (.struct _),some i=>some (true,i.size)
 |some (.array _ _),some i=>some (true,i.size)
 |some _,some i=>some (false,i.size)
 |_,_=>none
def rZ(P:Program)(t:TypeId):Option (TypeId×List CT):=
 match P.underlying t with
 |some (.slice e)=>match lay P 9 e with |some (_,cs)=>if P.cellsOf e=cs.length then some (e,cs)else none |none=>none
 |_=>none
def flat:PV→Option (List PV)
 | .agg vs=>some vs
 | .tup _=>none
 | .undef=>none
 | .skip=>none
 |v=>some [v]
def tH(e:List CT)(x:ah.V e)(j:Nat):Nat→Option (List PV)
 |0=>some []
 |n+1=>match ah.get e x j,tH e x (j+1) n with |some v,some r=>some (v::r) |_,_=>none
def yO(e:List CT)(x:ah.V e)(j:Nat):List PV→Option (ah.V e)
 | []=>some x
 |v::r=>match ah.set e x j v with |some y=>yO e y (j+1) r |none=>none
def mkV:(e:List CT)→List PV→Option (ah.V e)
 | [],[]=>some ()
 |c::cs,v::vs=>match c.nS v,mkV cs vs with |some x,some r=>some (x,r) |_,_=>none
 |_,_=>none
def Oc:CT→Value→Bool
 | .int k,.int k' n=>decide (k=k')&&decide (n=0)
 | .bool,.bool b=> !b
 | .str,.string s=>s.size==0
 | .sl _,.slice none 0 0=>true
 |_,_=>false
def oJ:List CT→List Value→Bool
 | [],[]=>true
 |c::cs,v::vs=>Oc c v&&oJ cs vs
 |_,_=>false
def ES:PV→Bool
 | .agg _ | .tup _ | .undef | .skip=>false
 |_=>true
def qo(l:List PV)(j:Nat):List PV→List PV
 | []=>l
 |v::r=>qo (l.set j v) (j+1) r
inductive bF where
 |v (agg:Bool) (cs:List CT)
 |r (cs:List CT)
 |cl (h:FuncId) (caps:List (List CT))
 |w (agg:Bool) (cs:List CT)
 |c (agg:Bool) (cs:List CT)
 |m (cs:List CT)
def lY:List (List CT)→List CT
 | []=>[]
 |a::r=>a++lY r
def bF.cells:bF→List CT
 | .v _ cs=>cs
 | .r cs=>cs
 | .cl _ caps=>lY caps
 | .w _ cs=>cs
 | .c _ cs=>cs
 | .m cs=>cs
def bF.io:bF→List CT
 | .w _ cs=>cs
 | .m cs=>cs
 |_=>[]
def cu:List bF→List CT
 | []=>[]
 |p::r=>p.cells++cu r
def dZ:List bF→List CT
 | []=>[]
 |p::r=>p.io++dZ r
def dL:List (Bool×List CT)→List CT
 | []=>[]
 |p::r=>p.2++dL r
def bF.pure:bF→Bool
 | .v _ _=>true
 | .r _=>true
 | .cl _ _=>true
 |_=>false
def splitV:(cs ds:List CT)→ah.V (cs++ds)→ah.V cs×ah.V ds
 | [],_,x=>((),x)
 |_::cs,ds,x=>((x.1,(splitV cs ds x.2).1),(splitV cs ds x.2).2)
def lW:(cs ds:List CT)→ah.V cs→ah.V ds→ah.V (cs++ds)
 | [],_,_,y=>y
 |_::cs,ds,x,y=>(x.1,lW cs ds x.2 y)
structure aG where
 ins:List bF
 outs:List (Bool×List CT)
 F:ah.V (cu ins)→Option (ah.V (dL outs++dZ ins))
 pack:List (Option (FuncId×Nat))
def mM:List (Option (FuncId×Nat))→List PV→Option (List PV)
 | [],vs=>some vs
 |none::r,v::vs=>(mM r vs).map fun l=>v::l
 |some (h,n)::r,.fn h' caps::vs=>if h=h'∧caps.length=n then(mM r vs).map fun l=>caps++l else none
 |_,_=>none
def sJ:List (Option (FuncId×Nat))→List PV→List PV
 | [],vs=>vs
 |none::r,v::vs=>v::sJ r vs
 |none::_,[]=>[]
 |some (h,n)::r,vs=> .fn h (vs.take n)::sJ r (vs.drop n)
def yB:List (Option (FuncId×Nat))→List Value→List Value→Prop
 | [],a,b=>a=b
 |none::r,a,b=>∃ v a' b',a=v::a'∧b=v::b'∧yB r a' b'
 |some (h,n)::r,a,b=>∃ us a' b',a=us++a'∧us.length=n∧b= .func (.func h) #[] us.toArray::b'∧yB r a' b'
abbrev dX:=FuncId→List FuncId→Option aG
end Go.Rv
set_option linter.unusedVariables false
namespace Go.Rv
open Go.RowKit
section
variable {R:Type}
abbrev Env:=List (Nat×PV)
def put(env:Env)(dst:Option Tmp)(v:PV):Env:=match dst with |some d=>(d,v)::env |none=>env
def bn:(cs:List CT)→ah.V cs→Nat→List PV×List Ob
 | [],_,_=>([],[])
 | .sl e::cs,x,n=>let r:=bn cs x.2 (n+1);(.own n::r.1,.arr e x.1::r.2)
 |c::cs,x,n=>let r:=bn cs x.2 n;(c.tJ x.1::r.1,r.2)
def BL:(cs:List CT)→ah.V cs→List PV
 | [],_=>[]
 |c::cs,x=>c.tJ x.1::BL cs x.2
def grp(agg:Bool)(us:List PV):PV:=match agg with |true=> .agg us |false=>us.headD .undef
def yu:(caps:List (List CT))→ah.V (lY caps)→List PV
 | [],_=>[]
 |cs::r,x=> .eptr cs (splitV cs (lY r) x).1 0::yu r (splitV cs (lY r) x).2
def jF:(p:bF)→ah.V p.cells→Nat→PV×List Ob
 | .v agg cs,x,_=>(grp agg (BL cs x),[])
 | .r cs,x,_=>(.eptr cs x 0,[])
 | .cl h caps,x,_=>(.fn h (yu caps x),[])
 | .w agg cs,x,k=>(grp agg (bn cs x k).1,(bn cs x k).2)
 | .c agg cs,x,k=>(grp agg (bn cs x k).1,(bn cs x k).2)
 | .m cs,x,k=>(.ptr k 0 0 0,.box (bn cs x (k+1)).1::(bn cs x (k+1)).2)
def start:(ins:List bF)→ah.V (cu ins)→Nat→List PV×List Ob
 | [],_,_=>([],[])
 |p::r,x,k=>
  let s:=splitV p.cells (cu r) x
  let a:=jF p s.1 k
  let b:=start r s.2 (k+a.2.length)
  (a.1::b.1,a.2++b.2)
def xW(ob:List Ob)(c:CT)(v:PV):Option c.V:=
 match c,v with
 | .sl e,.own o=>match ob[o]? with
  |some (.arr e' xs)=>fH e' e xs
  |_=>none
 | .sl _,.nils=>some []
 | .sl _,.emp=>some []
 | .sl _,_=>none
 | .sh e,.sh e' xs=>fH e' e xs
 | .sh _,_=>none
 |c,v=>c.nS v
def fZ(ob:List Ob):(cs:List CT)→List PV→Option (ah.V cs)
 | [],[]=>some ()
 |c::cs,v::vs=>match xW ob c v,fZ ob cs vs with |some x,some r=>some (x,r) |_,_=>none
 |_,_=>none
def sK(ob:List Ob)(c:CT)(v:PV):Option c.V:=
 match c,v with
 | .sl e,.own o=>match ob[o]? with
  |some (.arr e' xs)=>fH e' e xs
  |_=>none
 | .sl e,.ref o _ off len=>match ob[o]? with
  |some (.arr e' xs)=>if off+len≤xs.length then fH e' e ((xs.drop off).take len)else none
  |_=>none
 | .sh e,.sh e' xs=>fH e' e xs
 | .sh _,_=>none
 |c,v=>c.nS v
def jq(ob:List Ob):(cs:List CT)→List PV→Option (ah.V cs)
 | [],[]=>some ()
 |c::cs,v::vs=>match sK ob c v,jq ob cs vs with |some x,some r=>some (x,r) |_,_=>none
 |_,_=>none
def lV(b:Bool)(cs:List CT)(v:PV):Bool:=
 match v with
 | .agg us=>b&&us.length==cs.length
 | .tup _=>false
 | .undef=>false
 | .skip=>false
 |_=> !b&&cs.length==1
def lU(ob:List Ob)(n:Nat):PV→Option (List PV)
 | .ptr q i _ j=>match ob[q]? with
  |some (.box cells)=>if i=0∧j+n≤cells.length then some ((cells.drop j).take n)else none
  |_=>none
 | .eptr e x j=>tH e x j n
 |_=>none
def qV(ob:List Ob):List (List CT)→List PV→Option (List PV)
 | [],[]=>some []
 |cs::r,v::vs=>match lU ob cs.length v,qV ob r vs with |some a,some b=>some (a++b) |_,_=>none
 |_,_=>none
def yY(ob:List Ob):(p:bF)→PV→Option (ah.V p.cells)
 | .v b cs,v=>if lV b cs v=true then(flat v).bind (jq ob cs)else none
 | .r cs,v=>(lU ob cs.length v).bind (jq ob cs)
 | .cl h caps,.fn h' ps=>if h=h' then(qV ob caps ps).bind (jq ob (lY caps))else none
 | .w b cs,v=>if lV b cs v=true then(flat v).bind (fZ ob cs)else none
 | .c b cs,v=>if lV b cs v=true then(flat v).bind (fZ ob cs)else none
 | .m cs,.ptr q i sz j=>(lU ob cs.length (.ptr q i sz j)).bind (fZ ob cs)
 |_,_=>none
def jZ(ob:List Ob):(ins:List bF)→List PV→Option (ah.V (cu ins))
 | [],[]=>some ()
 |p::r,v::vs=>match yY ob p v,jZ ob r vs with |some a,some b=>some (lW p.cells (cu r) a b) |_,_=>none
 |_,_=>none
mutual
def bI:PV→List Nat
 | .own o=>[o]
 | .ref o _ _ _=>[o]
 | .ptr o _ _ _=>[o]
 | .agg vs=>aW vs
 | .tup vs=>aW vs
 | .fn _ vs=>aW vs
 |_=>[]
def aW:List PV→List Nat
 | []=>[]
 |v::r=>bI v++aW r
end
def OJ:Option Ob→List Nat
 |some (.box cells)=>aW cells
 |_=>[]
def jY(ob:List Ob):bF→PV→List Nat
 | .w _ _,v=>bI v
 | .c _ _,v=>bI v
 | .m cs,.ptr q i sz j=>q::aW ((lU ob cs.length (.ptr q i sz j)).getD [])
 |_,_=>[]
def fK(ob:List Ob):List bF→List PV→List Nat
 |p::r,v::vs=>jY ob p v++fK ob r vs
 |_,_=>[]
def XD(ob:List Ob):bF→PV→List Nat
 | .v _ _,v=>bI v
 | .r cs,v=>bI v++aW ((lU ob cs.length v).getD [])
 | .cl _ caps,.fn _ ps=>aW ps++aW ((qV ob caps ps).getD [])
 |_,_=>[]
def BB(ob:List Ob):List bF→List PV→List Nat
 |p::r,v::vs=>XD ob p v++BB ob r vs
 |_,_=>[]
def jP:List Nat→Bool
 | []=>true
 |x::r=> !r.contains x&&jP r
def lg:List Nat→List Ob→List Ob
 | [],ob=>ob
 |i::r,ob=>lg r (ob.set i .dead)
def setRows:(cs:List CT)→ah.V cs→List PV→List Ob→List Ob
 | .sl e::cs,x,.own q::vs,ob=>setRows cs x.2 vs (ob.set q (.arr e x.1))
 |_::cs,x,_::vs,ob=>setRows cs x.2 vs ob
 |_,_,_,ob=>ob
def yX(ob0:List Ob):(p:bF)→PV→ah.V p.io→List Ob→Option (List Ob)
 | .w b cs,v,y,ob=>(flat v).map fun vs=>setRows cs y vs ob
 | .m cs,.ptr q i sz j,y,ob=>match ob0[q]? with
  |some (.box cells)=>some ((ob++(bn cs y ob.length).2).set q (.box (qo cells j (bn cs y ob.length).1)))
  |_=>none
 | .m _,_,_,_=>none
 | .v _ _,_,_,ob=>some ob
 | .r _,_,_,ob=>some ob
 | .cl _ _,_,_,ob=>some ob
 | .c _ _,_,_,ob=>some ob
def lC(ob0:List Ob):(ins:List bF)→List PV→ah.V (dZ ins)→List Ob→Option (List Ob)
 | [],[],_,ob=>some ob
 |p::r,v::vs,y,ob=>match yX ob0 p v (splitV p.io (dZ r) y).1 ob with |some ob'=>lC ob0 r vs (splitV p.io (dZ r) y).2 ob' |none=>none
 |_,_,_,_=>none
def xR:List (Bool×List CT)→List PV→Option (List PV)
 | [],_=>some []
 | (agg,cs)::r,vs=>
  match xR r (vs.drop cs.length)with
  |some rest=>match agg,vs.take cs.length with
   |true,us=>some (.agg us::rest)
   |false,[v]=>some (v::rest)
   |_,_=>none
  |none=>none
def Eu:List PV→PV
 | [v]=>v
 |vs=> .tup vs
def CT.scalar:CT→Bool
 | .sl _=>false
 | .sh _=>false
 |_=>true
def CT.flat:CT→Bool
 | .sl e=>e.all CT.scalar
 |_=>true
def bF.ok:bF→Bool
 | .w _ cs=>cs.all CT.flat
 | .c _ cs=>cs.all CT.flat
 | .m cs=>cs.all CT.flat
 |_=>true
def mO:List (Bool×List CT)→Bool
 | [(true,_),(false,[])]=>true
 |_=>false
def vM:List (Bool×List CT)→List (Bool×List CT)
 | [(true,cs),(false,[])]=>[(true,cs)]
 |l=>l
def OY(b pure:Bool)(res:List PV)(ob:List Ob)(K:PV→List Ob→Option R):Option R:=
 match b with
 |false=>K (Eu res) ob
 |true=>match pure,res with
  |true,[.agg cs]=>K (.ptr ob.length 0 0 0) (ob++[.box cs])
  |_,_=>none
def Oe(ob:List Ob)(c:CT)(v:PV):Option c.V:=
 match c,v with
 | .sl e,.ref o _ off len=>match ob[o]? with
  |some (.arr e' xs)=>fH e' e ((xs.drop off).take len)
  |_=>none
 |c,v=>sK ob c v
def BN(ob:List Ob):(cs:List CT)→List PV→Option (ah.V cs)
 | [],[]=>some ()
 |c::cs,v::vs=>match Oe ob c v,BN ob cs vs with |some x,some r=>some (x,r) |_,_=>none
 |_,_=>none
def FC(ob:List Ob):(p:bF)→PV→Option (ah.V p.cells)
 | .v b cs,v=>if lV b cs v=true then(flat v).bind (BN ob cs)else none
 |p,v=>yY ob p v
def Bg(ob:List Ob):(ins:List bF)→List PV→Option (ah.V (cu ins))
 | [],[]=>some ()
 |p::r,v::vs=>match FC ob p v,Bg ob r vs with |some a,some b=>some (lW p.cells (cu r) a b) |_,_=>none
 |_,_=>none
def qN(ob:List Ob):List PV→Option R→Option R
 | [],k=>k
 | .ref o _ off len::r,k=>match ob[o]? with
  |some (.arr _ xs)=>if off+len≤xs.length then qN ob r k else none
  |_=>none
 |_::r,k=>qN ob r k
def vG(ob:List Ob):List bF→List PV→Option R→Option R
 | .v _ _::r,v::vs,k=>match flat v with
  |some us=>qN ob us (vG ob r vs k)
  |none=>none
 |_::r,_::vs,k=>vG ob r vs k
 |_,_,k=>k
def OZ(ob:List Ob)(u:PV):Prop:=∀ o sz off len,u= .ref o sz off len→∃ e xs,ob[o]? =some (.arr e xs)∧off+len≤xs.length
theorem ab1{ob:List Ob}(c:CT)(v:PV)(h:OZ ob v):Oe ob c v=sK ob c v:=by
 cases c with
 |sl e=>
  cases v with
  |ref o sz off len=>
   obtain⟨e',xs,hq,hl⟩:=h _ _ _ _ rfl
   have e1:sK ob (.sl e) (.ref o sz off len)=(match ob[o]? with |some (.arr e' xs)=>if off+len≤xs.length then fH e' e ((xs.drop off).take len)else none |_=>none):=rfl
   have e2:Oe ob (.sl e) (.ref o sz off len)=(match ob[o]? with |some (.arr e' xs)=>fH e' e ((xs.drop off).take len) |_=>none):=rfl
   rw[e1,e2,hq]
   exact(if_pos hl).symm
  |_=>rfl
 |_=>rfl
theorem WE{ob:List Ob}:∀ (cs:List CT) (vs:List PV),(∀ v∈vs,OZ ob v)→BN ob cs vs=jq ob cs vs
 | [],[],_=>rfl
 | [],_::_,_=>rfl
 |_::_,[],_=>rfl
 |c::cs,v::vs,h=>by
  simp only[BN,jq]
  rw[ab1 c v (h v (by simp)),WE cs vs fun u hu=>h u (by simp[hu])]
theorem Me{ob:List Ob}:∀ (us:List PV) {k:Option R} {r:R},qN ob us k=some r→k=some r∧(∀ u∈us,OZ ob u)∧∀ k':Option R,qN ob us k'=k'
 | [],k,r,h=>⟨h,fun _ h=>(by cases h),fun _=>rfl⟩
 |u::us,k,r,h=>by
  cases u with
  |ref o sz off len=>
   have h':(match ob[o]? with |some (.arr _ xs)=>if off+len≤xs.length then qN ob us k else none |_=>none)=some r:=h
   split at h'
   ·rename_i e1 xs hq
    split at h'
    ·rename_i hl
     obtain⟨a,b,c⟩:=Me us h'
     refine⟨a,fun u hu=> ?_,fun k'=> ?_⟩
     ·rcases List.mem_cons.1 hu with rfl |hu
      ·intro _ _ _ _ e
       cases e
       exact⟨_,_,hq,hl⟩
      ·exact b u hu
     ·show(match ob[o]? with |some (.arr _ xs)=>if off+len≤xs.length then qN ob us k' else none |_=>none)=k'
      rw[hq]
      exact(if_pos hl).trans (c k')
    ·cases h'
   ·cases h'
  |_=>
   obtain⟨a,b,c⟩:=Me us h
   refine⟨a,fun u hu=> ?_,c⟩
   rcases List.mem_cons.1 hu with rfl |hu
   ·intro _ _ _ _ e
    cases e
   ·exact b u hu
theorem Ei{ob:List Ob}:∀ (ins:List bF) (vs:List PV) {k:Option R} {r:R},vG ob ins vs k=some r→k=some r∧Bg ob ins vs=jZ ob ins vs∧∀ k':Option R,vG ob ins vs k'=k'
 | [],[],k,r,h=>⟨h,rfl,fun _=>rfl⟩
 | [],_::_,k,r,h=>⟨h,rfl,fun _=>rfl⟩
 |_::_,[],k,r,h=>by
  rename_i p ps
  cases p <;>exact⟨h,rfl,fun _=>rfl⟩
 |p::ps,v::vs,k,r,h=>by
  cases p with
  |v b cs=>
   have h':(match flat v with |some us=>qN ob us (vG ob ps vs k) |none=>none)=some r:=h
   split at h'
   ·rename_i us hus
    obtain⟨a1,a2,a3⟩:=Me us h'
    obtain⟨b1,b2,b3⟩:=Ei ps vs a1
    refine⟨b1, ?_,fun k'=> ?_⟩
    ·have e:FC ob (.v b cs) v=yY ob (.v b cs) v:=by
      simp only[FC,yY,hus]
      have e2:(some us).bind (BN ob cs)=(some us).bind (jq ob cs):=WE cs us a2
      by_cases hs:lV b cs v=true
      ·exact(if_pos hs).trans (e2.trans (if_pos hs).symm)
      ·exact(if_neg hs).trans (if_neg hs).symm
     simp only[Bg,jZ,e,b2]
    ·show(match flat v with |some us=>qN ob us (vG ob ps vs k') |none=>none)=k'
     rw[hus]
     exact(a3 _).trans (b3 k')
   ·cases h'
  |_=>
   obtain⟨b1,b2,b3⟩:=Ei ps vs h
   refine⟨b1, ?_,b3⟩
   simp only[Bg,jZ,FC,b2]
def yK(ob:List Ob)(S:aG)(args:List PV)(K:PV→List Ob→Option R):Option R:=
 match mM S.pack args with
 |some args=>vG ob S.ins args (match Bg ob S.ins args with
  |some x=>if(jP (fK ob S.ins args)&&(BB ob S.ins args).all (fun i=> !(fK ob S.ins args).contains i)&&S.ins.all bF.ok&&(dL S.outs).all CT.flat)=true then
   (S.F x).bind fun y=>
    match xR (vM S.outs) (bn (dL S.outs) (splitV (dL S.outs) (dZ S.ins) y).1 ob.length).1,
     lC ob S.ins args (splitV (dL S.outs) (dZ S.ins) y).2 (lg (fK ob S.ins args) ob++(bn (dL S.outs) (splitV (dL S.outs) (dZ S.ins) y).1 ob.length).2)with
    |some res,some ob'=>OY (mO S.outs) (S.ins.all bF.pure) res ob' K
    |_,_=>none
  else none
  |none=>none)
 |none=>none
def XK(op:BinOp)(k:IntKind)(a b:Int)(K:PV→Option R):Option R:=
 match op with
 | .add=>K (.int k (k.wrap (a+b)))
 | .sub=>K (.int k (k.wrap (a - b)))
 | .mul=>K (.int k (k.wrap (a*b)))
 | .quo=>if b=0 then none else K (.int k (k.wrap (a.tdiv b)))
 | .rem=>if b=0 then none else K (.int k (a.tmod b))
 | .eql=>K (.bool (a==b))
 | .neq=>K (.bool (a != b))
 | .lss=>K (.bool (a<b))
 | .leq=>K (.bool (a≤b))
 | .gtr=>K (.bool (a>b))
 | .geq=>K (.bool (a≥b))
 | .and=>K (.int k (k.wrap (BitVec.ofInt k.bits a &&& BitVec.ofInt k.bits b).toNat))
 | .or=>K (.int k (k.wrap (BitVec.ofInt k.bits a ||| BitVec.ofInt k.bits b).toNat))
 | .xor=>K (.int k (k.wrap (BitVec.ofInt k.bits a ^^^ BitVec.ofInt k.bits b).toNat))
 | .andNot=>K (.int k (k.wrap (BitVec.ofInt k.bits a &&& ~~~BitVec.ofInt k.bits b).toNat))
 |_=>none
def XC(op:BinOp)(a b:ByteArray)(K:PV→Option R):Option R:=
 match op with
 | .add=>if a.size+b.size≤9223372036854775807 then K (.str (a++b))else none
 | .eql=>K (.bool (a.toList==b.toList))
 | .neq=>K (.bool !(a.toList==b.toList))
 |_=>none
def V6(op:BinOp)(k:IntKind)(a b:Int)(K:PV→Option R):Option R:=
 match op with
 | .shl=>if b<0 then none else K (.int k (k.wrap (a*2 ^ (min b.toNat k.bits))))
 | .shr=>if b<0 then none else K (.int k (a.fdiv (2 ^ (min b.toNat k.bits))))
 |_=>none
def adY:BinOp→Bool
 | .shl | .shr=>true
 |_=>false
def O1(op:BinOp)(x y:PV)(K:PV→Option R):Option R:=
 match x,y with
 | .int k a,.int k' b=>if adY op=true then V6 op k a b K else if k=k' then XK op k a b K else none
 | .str a,.str b=>XC op a b K
 |_,_=>none
def Bh(P:Program)(t:TypeId)(f:Nat):Option (Nat×Bool×Nat):=
 match P.underlying t with
 |some (.struct fs)=>match fs[f]? with
  |some fd=>match qU P fd.type with |some (a,n)=>some (fd.offset,a,n) |none=>none
  |none=>none
 |_=>none
def BG:List PV→List FuncId
 | []=>[]
 | .fn h _::r=>h::BG r
 |_::r=>BG r
def BH(places:List (Nat×Nat))(env:Env):List (Nat×Operand)→List PV→Option (List PV)
 | [],cur=>some cur
 | (i,x)::r,cur=>match places[i]?, flat (ev env x)with
  |some (off,n),some us=>if us.length=n∧off+n≤cur.length then BH places env r (qo cur off us)else none
  |_,_=>none
def FB{α:Type}(lo hi:Option Operand)(xs:List α)(l h:Nat):List α:=
 match lo,hi with
 |none,none=>xs
 |none,some _=>xs.take h
 |some _,none=>xs.drop l
 |some _,some _=>(xs.take h).drop l
def vI(lo hi:Option Operand)(env:Env)(n:Nat)(K:Nat→Nat→Option R):Option R:=
 match lo.map (ev env),hi.map (ev env)with
 |none,none=>K 0 n
 |none,some (.int _ h)=>if 0≤h∧h≤n then K 0 h.toNat else none
 |some (.int _ l),none=>if 0≤l∧l≤n then K l.toNat n else none
 |some (.int _ l),some (.int _ h)=>if 0≤l∧l≤h∧h≤n then K l.toNat h.toNat else none
 |_,_=>none
def Wh:Operand→Operand→Bool
 | .tmp a,.tmp b=>decide (a=b)
 |_,_=>false
def BK(ob:List Ob)(e:List CT)(v:PV):Option (List (ah.V e)):=sK ob (.sl e) v
def O9(ob:List Ob)(e:List CT)(v:PV):Option (List (ah.V e)):=
 match v with
 | .ref o _ off len=>match ob[o]? with
  |some (.arr e' xs)=>fH e' e ((xs.drop off).take len)
  |_=>none
 |v=>BK ob e v
def O0{R:Type}(ob:List Ob)(v:PV)(k:Option R):Option R:=
 match v with
 | .ref o _ off len=>match ob[o]? with
  |some (.arr _ xs)=>if off+len≤xs.length then k else none
  |_=>none
 |_=>k
theorem WU{R:Type}{ob:List Ob}{v:PV}{k:Option R}{r:R}(h:O0 ob v k=some r):k=some r∧(∀ e y,O9 ob e v=some y→BK ob e v=some y)∧∀ k':Option R,O0 ob v k'=k':=by
 cases v with
 |ref o sz off len=>
  have h':(match ob[o]? with |some (.arr _ xs)=>if off+len≤xs.length then k else none |_=>none)=some r:=h
  split at h'
  ·rename_i e1 xs hq
   split at h'
   ·rename_i hl
    refine⟨h',fun e y hy=> ?_,fun k'=> ?_⟩
    ·have e1:BK ob e (.ref o sz off len)=(match ob[o]? with |some (.arr e' xs)=>if off+len≤xs.length then fH e' e ((xs.drop off).take len)else none |_=>none):=rfl
     have e2:O9 ob e (.ref o sz off len)=(match ob[o]? with |some (.arr e' xs)=>fH e' e ((xs.drop off).take len) |_=>none):=rfl
     rw[e2,hq]at hy
     rw[e1,hq]
     exact(if_pos hl).trans hy
    ·show(match ob[o]? with |some (.arr _ xs)=>if off+len≤xs.length then k' else none |_=>none)=k'
     rw[hq]
     exact if_pos hl
   ·cases h'
  ·cases h'
 |_=>exact⟨h,fun e y hy=>hy,fun _=>rfl⟩
def A7(e:List CT)(env:Env):List (Nat×Operand)→Nat→Option (List (ah.V e))
 | [],_=>some []
 | (i,x)::r,n=>if i=n then match (flat (ev env x)).bind (mkV e),A7 e env r (n+1)with |some y,some ys=>some (y::ys) |_,_=>none else none
def bytesOf(xs:List (Int×Unit)):ByteArray:=xs.foldl (fun r n=>r.push (UInt8.ofNat n.1.toNat)) ByteArray.empty
def maxRow:Nat:=4294967296
def tV(P:Program)(a b:List PV):List Field→Option Bool
 | []=>some true
 |f::r=>
  if f.name= "_" then none else
  match P.underlying f.type,a.getD f.offset .undef,b.getD f.offset .undef with
  |some (.int _),.int k x,.int k' y=>if k=k' then(tV P a b r).map fun q=>(x==y)&&q else none
  |some .bool,.bool x,.bool y=>(tV P a b r).map fun q=>(x==y)&&q
  |some .string,.str x,.str y=>(tV P a b r).map fun q=>(x.toList==y.toList)&&q
  |_,_,_=>none
def bP(P:Program)(tbl:dX)(env:Env)(ob:List Ob)(o:Op)(K:PV→List Ob→Option R):Option R:=
 match o with
 | .move x | .assign x=>K (ev env x) ob
 | .nilCheck x=>match ev env x with
  | .ptr q i sz j=>K (.ptr q i sz j) ob
  | .eptr e y j=>K (.eptr e y j) ob
  | .fn f cs=>K (.fn f cs) ob
  |_=>none
 | .pick c a b=>match ev env c with
  | .bool t=>cond t (K (ev env a) ob) (K (ev env b) ob)
  |_=>none
 | .box t x=>match flat (ev env x)with
  |some vs=>K (.ptr ob.length 0 0 0) (ob++[.box vs])
  |none=>none
 | .alloc t=>match P.info? t with
  |some i=>match i.zero with
   |some z=>match flat (EL z)with
    |some vs=>K (.ptr ob.length 0 0 0) (ob++[.box vs])
    |none=>none
   |none=>none
  |none=>none
 | .makeFunc (.func f) first caps=>if first.size=0 then K (.fn f (caps.toList.map (ev env))) ob else none
 | .load t x=>match qU P t,ev env x with
  |some (agg,n),.ptr q i sz j=>match ob[q]? with
   |some (.box cells)=>if i=0 then(if agg then(if j+n≤cells.length then K (.agg ((cells.drop j).take n)) ob else none)else(if j<cells.length then K (cells.getD j .undef) ob else none))else none
   |some (.arr e xs)=>match tH e (xs.getD i (ah.zero e)) j n with
    |some vs=>if agg then K (.agg vs) ob else(match vs with | [v]=>K v ob |_=>none)
    |none=>none
   |_=>none
  |some (agg,n),.eptr e x j=>match tH e x j n with
   |some vs=>if agg then K (.agg vs) ob else(match vs with | [v]=>K v ob |_=>none)
   |none=>none
  |_,_=>none
 | .store t x y=>match qU P t,ev env x,flat (ev env y)with
  |some (_,n),.ptr q i sz j,some vs=>if vs.length=n∧vs.all ES=true then(match ob[q]? with
   |some (.box cells)=>if i=0∧j+n≤cells.length then K .undef (ob.set q (.box (qo cells j vs)))else none
   |some (.arr e xs)=>match yO e (xs.getD i (ah.zero e)) j vs with
    |some y=>K .undef (ob.set q (.arr e (xs.set i y)))
    |none=>none
   |_=>none)else none
  |_,_,_=>none
 | .fieldAddr t x f=>match Bh P t f,ev env x with
  |some (off,_,n),.ptr q i sz j=>if n=0 then none else K (.ptr q i sz (j+off)) ob
  |some (off,_,n),.eptr e y j=>if n=0 then none else K (.eptr e y (j+off)) ob
  |_,_=>none
 | .field t x f=>match Bh P t f,ev env x with
  |some (off,agg,n),.agg vs=>if agg then K (.agg ((vs.drop off).take n)) ob else(if off<vs.length then K (vs.getD off .undef) ob else none)
  |_,_=>none
 | .indexAddr t x ix=>match rZ P t,ev env ix with
  |some (et,cs),.int _ i=>if(P.info? et).isSome=true then match ev env x with
   | .sl e xs=>if ah.beq e cs then(if 0≤i∧i<xs.length then K (.eptr e (xs.getD i.toNat (ah.zero e)) 0) ob else none)else none
   | .sh e xs=>if ah.beq e cs then(if 0≤i∧i<xs.length then K (.eptr e (xs.getD i.toNat (ah.zero e)) 0) ob else none)else none
   | .own q=>match ob[q]? with
    |some (.arr e xs)=>if ah.beq e cs then(if 0≤i∧i<xs.length then K (.ptr q i.toNat cs.length 0) ob else none)else none
    |_=>none
   | .ref q sz off len=>match ob[q]? with
    |some (.arr e xs)=>if ah.beq e cs then(if off+len≤xs.length then(if 0≤i∧i<len then K (.ptr q (off+i.toNat) cs.length 0) ob else none)else none)else none
    |_=>none
   |_=>none
   else none
  |_,_=>none
 | .index t x ix=>match P.underlying t,ev env x,ev env ix with
  |some .string,.str s,.int _ i=>if 0≤i∧i<s.size then K (.int .u8 ((s.get! i.toNat).toNat)) ob else none
  |_,_,_=>none
 | .binOp op t x y _=>match P.underlying t with
  |some (.int _) |some .string=>O1 op (ev env x) (ev env y) fun v=>K v ob
  |some .bool=>match op,ev env x,ev env y with
   | .eql,.bool a,.bool b=>K (.bool (a==b)) ob
   | .neq,.bool a,.bool b=>K (.bool (!(a==b))) ob
   |_,_,_=>none
  |some (.slice _)=>match op,ev env x,ev env y with
   | .eql,.sl _ xs,.nils=>if xs.length=0 then K .either ob else K (.bool false) ob
   |_,_,_=>none
  |some (.struct _)=>match ev env x,ev env y with
   | .agg a,.agg b=>if P.stoodInHeld t=false∧P.eqGuardType P.depth t=false then(match tV P a b (P.fieldsOf t).toList with
    |some q=>(match op with
     | .eql=>K (.bool q) ob
     | .neq=>K (.bool !q) ob
     |_=>none)
    |none=>none)else none
   |_,_=>none
  |_=>none
 | .unOp .not _ x=>match ev env x with | .bool b=>K (.bool !b) ob |_=>none
 | .unOp .neg _ x=>match ev env x with | .int k n=>K (.int k (k.wrap (0 - n))) ob |_=>none
 | .convert s d x=>match P.underlying s,P.underlying d with
  |some _,some (.int k)=>match ev env x with
   | .int _ n=>K (.int k (k.wrap n)) ob
   |_=>none
  |some (.slice e),some .string=>match P.underlying e,BK ob [.int .u8] (ev env x)with
   |some (.int .u8),some xs=>K (.str (bytesOf xs)) ob
   |_,_=>none
  |some .string,some .string=>match ev env x with
   | .str a=>K (.str a) ob
   |_=>none
  |_,_=>none
 | .build t parts=>match P.info? t,P.underlying t with
  |some it,some (.struct fields)=>match it.zero,fields.toList.mapM (fun f=>(P.info? f.type).map fun i=>(f.offset,i.size))with
   |some (.agg z),some places=>match BH places env parts.toList (z.toList.map xO)with
    |some us=>K (.agg us) ob
    |none=>none
   |_,_=>none
  |_,_=>none
 | .makeSlice t l c=>match rZ P t,ev env l,ev env c with
  |some (e,cs),.int _ n,.int _ m=>match P.info? e with
   |some i=>match i.zero with
    |some z=>if oJ cs z.cells.toList=true∧(Wh l c=true∨n=m)then(if 0≤n∧(i.bytes:Int)*n≤281474976710656∧n≤9223372036854775807 then K (.own ob.length) (ob++[.arr cs (List.replicate n.toNat (ah.zero cs))])else none)else none
    |none=>none
   |none=>none
  |_,_,_=>none
 | .buildSlice t len parts=>match rZ P t with
  |some (e,cs)=>match P.info? e with
   |some i=>match i.zero,A7 cs env parts.toList 0 with
    |some z,some rows=>if oJ cs z.cells.toList=true∧rows.length=len∧0<cs.length∧len*cs.length≤65536 then K (.own ob.length) (ob++[.arr cs rows])else none
    |_,_=>none
   |none=>none
  |none=>none
 | .slice t x lo hi none=>match P.underlying t,ev env x with
  |some (.slice et),.sl e xs=>if P.cellsOf et=e.length∧(P.info? et).isSome=true then vI lo hi env xs.length fun l h=>K (.sl e (FB lo hi xs l h)) ob else none
  |some (.slice et),.sh e xs=>if P.cellsOf et=e.length∧(P.info? et).isSome=true then vI lo hi env xs.length fun l h=>K (.sh e (FB lo hi xs l h)) ob else none
  |some (.slice et),.own q=>match ob[q]? with
   |some (.arr e xs)=>if P.cellsOf et=e.length∧(P.info? et).isSome=true then vI lo hi env xs.length fun l h=>K (.ref q e.length l (h - l)) ob else none
   |_=>none
  |some (.slice et),.ref q sz off len=>match ob[q]? with
   |some (.arr e xs)=>if P.cellsOf et=e.length∧(P.info? et).isSome=true then(if off+len≤xs.length then vI lo hi env len fun l h=>K (.ref q sz (off+l) (h - l)) ob else none)else none
   |_=>none
  |some .string,.str s=>vI lo hi env s.size fun l h=>K (.str (s.extract l h)) ob
  |_,_=>none
 | .slice t x none (some h) (some m)=>match P.underlying t,ev env h,ev env m with
  |some (.slice et),.int _ 0,.int _ 0=>if(P.info? et).isSome=true then(match ev env x with
   | .sl _ _=>K .emp ob
   | .sh _ _=>K .emp ob
   | .own _=>K .emp ob
   | .ref _ _ _ _=>K .emp ob
   | .nils=>K .emp ob
   | .emp=>K .emp ob
   |_=>none)else none
  |_,_,_=>none
 | .extract x ix=>match ev env x with
  | .tup vs=>if ix<vs.length then K (vs.getD ix .undef) ob else none
  |_=>none
 | .call c=>match c.callee with
  | .builtin .len=>match (c.args.toList.map (ev env)),c.argTypes.toList.map P.underlying with
   | [.str s],[some .string]=>K (.int .i64 s.size) ob
   | [.sl _ xs],[some (.slice _)]=>K (.int .i64 xs.length) ob
   | [.sh _ xs],[some (.slice _)]=>K (.int .i64 xs.length) ob
   | [.nils],[some (.slice _)]=>K (.int .i64 0) ob
   | [.emp],[some (.slice _)]=>K (.int .i64 0) ob
   | [.ref _ _ _ n],[some (.slice _)]=>K (.int .i64 n) ob
   | [.own q],[some (.slice _)]=>match ob[q]? with |some (.arr _ xs)=>K (.int .i64 xs.length) ob |_=>none
   |_,_=>none
  | .builtin .min=>match c.args.toList.map (ev env)with
   | [.int k x,.int _ y]=>K (.int k (if y<x then y else x)) ob
   |_=>none
  | .builtin .max=>match c.args.toList.map (ev env)with
   | [.int k x,.int _ y]=>K (.int k (if y>x then y else x)) ob
   |_=>none
  | .builtin .append=>match c.args.toList,c.argTypes.toList with
   | [b,x],[t,t']=>match rZ P t,P.underlying t' with
    |some (e,cs),some (.slice _)=>match P.info? e with
     |some i=>match i.zero,O9 ob cs (ev env x)with
      |some z,some ys=>if oJ cs z.cells.toList=true∧0<cs.length∧i.bytes≤4096 then O0 ob (ev env x) (match ev env b with
       | .nils=>if ys.length≤maxRow then K (.own ob.length) (ob++[.arr cs ys])else none
       | .emp=>if ys.length≤maxRow then K (.own ob.length) (ob++[.arr cs ys])else none
       | .own q=>match ob[q]? with
        |some (.arr e' xs)=>if h:ah.beq e' cs=true then(if(bI (ev env x)).contains q=false then(if xs.length+ys.length≤maxRow then
          K (.own ob.length) (ob.set q .dead++[.arr cs ((ah.eq_of_beq h▸xs)++ys)])else none)else none)else none
        |_=>none
       |_=>none)else none
      |_,_=>none
     |none=>none
    |_,_=>none
   |_,_=>none
  | .value f=>match ev env f with
   | .fn g caps=>(match tbl g (BG (c.args.toList.map (ev env)++caps))with
    |some S=>yK ob S (c.args.toList.map (ev env)++caps) K
    |none=>none)
   |_=>none
  |_=>none
 |_=>none
def yH(ops:Array Oper)(g:Nat):Option Tmp:=(ops[g]?).bind (·.dst)
def vO(N:Nat)(dst:Option Tmp):Bool:=match dst with |some d=>decide (d<N) |none=>true
def qh(P:Program)(tbl:dX)(N:Nat)(ops:Array Oper):List Oper→Env→List Ob→(Env→List Ob→Option R)→Option R
 | [],env,ob,K=>K env ob
 |o::r,env,ob,K=>
  if vO N o.dst=true then
  match o.guard with
  |none=>bP P tbl env ob o.op fun v ob'=>qh P tbl N ops r (put env o.dst v) ob' K
  |some (g,want)=>
   match yH ops g with
   |some s=>match look env s with
    | .bool b=>
     let go (t:Bool):Option R:=
      let env':=(s,.bool t)::env
      if t=want then bP P tbl env' ob o.op fun v ob'=>qh P tbl N ops r (put env' o.dst v) ob' K
      else qh P tbl N ops r (put env' o.dst .skip) ob K
     cond b (go true) (go false)
    | .skip=>qh P tbl N ops r (put env o.dst .skip) ob K
    |_=>none
   |none=>none
  else none
inductive Ex where
 |normal |exit (id:Nat) |ret
def impure(tbl:dX)(env:Env)(o:Op):Bool:=
 match o with
 | .store .. =>true
 | .call c=>match c.callee with
  | .builtin .append=>match c.args.toList.map (ev env)with
   | .own _::_=>true
   |_=>false
  | .builtin _=>false
  | .value f=>match ev env f with
   | .fn g caps=>(match tbl g (BG (c.args.toList.map (ev env)++caps))with
    |some S=> !S.ins.all bF.pure
    |none=>true)
   |_=>true
  |_=>true
 |_=>false
def Bl:List Oper→List Nat→List Nat
 | [],tab=>tab
 |o::r,tab=>Bl r (tab++[o.after.toList.foldl (fun m e=>if Region.binds .any e=true then m ||| (1 <<< e.on) ||| tab.getD e.on 0 else m) 0])
def valOf:List (Nat×PV)→Nat→PV
 | [],_=> .undef
 | (i,v)::r,k=>if i=k then v else valOf r k
def gJ(vals:List (Nat×PV))(u:Nat→Nat→PV)(m:Nat):List Oper→Nat→Env
 | [],_=>[]
 |o::r,k=>match o.dst with
  |some d=>(d,if m.testBit k=true then valOf vals k else u k d)::gJ vals u m r (k+1)
  |none=>gJ vals u m r (k+1)
def iw(tab:List Nat)(env0:Env)(k:Nat):Nat→Nat→PV:=fun j d=>if(tab.getD j 0).testBit k=true then look env0 d else .undef
def yP(env0:Env):Nat→Nat→PV:=fun _ d=>look env0 d
def jQ:List Ob→List Ob
 | []=>[]
 |_::r=> .dead::jQ r
def yF(m:Nat):List (Nat×List Ob)→List Ob
 | []=>[]
 | (k,os)::r=>(if m.testBit k=true then os else jQ os)++yF m r
def nN:List Oper→Nat→List (Nat×Oper)
 | [],_=>[]
 |o::r,k=>(k,o)::nN r (k+1)
def jM:List Oper→List Nat
 | []=>[]
 |o::r=>match o.dst with |some d=>d::jM r |none=>jM r
def total:List (Nat×List Ob)→Nat
 | []=>0
 | (_,os)::r=>os.length+total r
def iD:List (Nat×List Ob)→Nat→Option Nat
 | [],_=>none
 | (k,os)::r,i=>if i<os.length then some k else iD r (i - os.length)
def rX:Op→Bool
 | .call c=>match c.callee with | .builtin _=>false |_=>true
 |_=>false
def adS(env:Env)(o:Op):Option (List Nat):=
 match o with
 | .load _ x=>some (bI (ev env x))
 | .store _ x _=>some (bI (ev env x))
 | .index _ x _=>some (bI (ev env x))
 | .indexAddr _ x _=>some (bI (ev env x))
 | .slice _ x _ _ _=>some (bI (ev env x))
 | .convert _ _ x=>some (bI (ev env x))
 | .call c=>match c.callee with
  | .builtin _=>some (aW (c.args.toList.map (ev env)))
  |_=>none
 |_=>some []
def sZ:List bF→List PV→List Nat
 | .w _ _::r,v::vs=>bI v++sZ r vs
 | .c _ _::r,v::vs=>bI v++sZ r vs
 | .m _::r,v::vs=>bI v++sZ r vs
 |_::r,_::vs=>sZ r vs
 |_,_=>[]
def Fp(tbl:dX)(env:Env)(c:Call):Option (aG×List PV):=
 match c.callee with
 | .value f=>match ev env f with
  | .fn g caps=>match tbl g (BG (c.args.toList.map (ev env)++caps))with
   |some S=>match mM S.pack (c.args.toList.map (ev env)++caps)with
    |some as=>some (S,as)
    |none=>none
   |none=>none
  |_=>none
 |_=>none
def mD(tbl:dX)(env:Env)(o:Op):List Nat:=
 match o with
 | .store _ x _=>bI (ev env x)
 | .call c=>match c.callee with
  | .builtin .append=>match c.args.toList.map (ev env)with
   | .own q::_=>[q]
   |_=>[]
  | .builtin _=>[]
  |_=>match Fp tbl env c with
   |some (S,as)=>sZ S.ins as
   |none=>[]
 |_=>[]
def yw(tbl:dX)(env:Env)(ob:List Ob)(o:Op):Bool:=
 match o with
 | .call c=>match Fp tbl env c with
  |some (S,as)=>(fK ob S.ins as).all fun i=>(sZ S.ins as).contains i
  |none=>false
 |_=>false
abbrev iq:=Nat×List Nat×List (Nat×Ob)
def vz(l:List Ob):List (Nat×Ob)→List Ob
 | []=>l
 | (i,Y)::r=>vz (l.set i Y) r
def jR(f:Nat→Bool):List iq→List Ob→List Ob
 | [],l=>l
 |h::r,l=>jR f r (if f h.1=true then vz l h.2.2 else l)
def keepD(need:List Nat):List Ob→Nat→List Ob
 | [],_=>[]
 |Y::r,i=>(if need.contains i=true then Y else .dead)::keepD need r (i+1)
def EY(hist:List iq)(m i:Nat):Bool:=hist.all fun h=> !(h.2.2.any fun p=>p.1==i)||m.testBit h.1
def BF(n0:Nat)(objs:List (Nat×List Ob))(m i:Nat):Bool:=decide (i<n0)||match iD objs (i - n0)with |some d=>m.testBit d |none=>false
def EQ(n0 c c':Nat)(objs:List (Nat×List Ob))(m:Nat)(ids:List Nat):Bool:=ids.all fun i=>decide (i<c')&&(decide (c≤i)||BF n0 objs m i)
def BD(n0 c c':Nat)(objs:List (Nat×List Ob))(m:Nat):Ob→Bool
 | .box cells=>EQ n0 c c' objs m (aW cells)
 |_=>true
def qi(env:Env)(n0:Nat)(objs:List (Nat×List Ob))(hist:List iq)(m:Nat)(o:Op):List Nat:=
 ((adS env o).getD (List.range (n0+total objs))).filter fun i=>decide (i<n0+total objs)&&(BF n0 objs m i&&EY hist m i)
def sU(ob0:List Ob)(objs:List (Nat×List Ob))(hist:List iq)(m:Nat)(need:List Nat):List Ob:=keepD need (jR (fun j=>m.testBit j) hist (ob0++yF m objs)) 0
def OL(hist:List iq)(m:Nat)(T need:List Nat):Bool:=T.all (fun i=>need.contains i)&&hist.all fun h=>m.testBit h.1||h.2.1.all fun i=> !T.contains i
def rf(P:Program)(tbl:dX)(N:Nat)(ops:List Oper)(tab:List Nat)(env0:Env)(ob0:List Ob):List (Nat×Oper)→List (Nat×PV)→List (Nat×List Ob)→List iq→(List (Nat×PV)→List (Nat×List Ob)→List iq→Option R)→Option R
 | [],vals,objs,hist,K=>K vals objs hist
 | (k,o)::r,vals,objs,hist,K=>
  if vO N o.dst=true then
  let go (vals:List (Nat×PV)):Option R:=
   if(rX o.op&&(impure tbl (gJ vals (iw tab env0 k) (tab.getD k 0) ops 0++env0) o.op&& !yw tbl (gJ vals (iw tab env0 k) (tab.getD k 0) ops 0++env0) (sU ob0 objs hist (tab.getD k 0) (qi (gJ vals (iw tab env0 k) (tab.getD k 0) ops 0++env0) ob0.length objs hist (tab.getD k 0) o.op)) o.op))=true then none else
   if OL hist (tab.getD k 0) (mD tbl (gJ vals (iw tab env0 k) (tab.getD k 0) ops 0++env0) o.op) (qi (gJ vals (iw tab env0 k) (tab.getD k 0) ops 0++env0) ob0.length objs hist (tab.getD k 0) o.op)=true then
    bP P tbl (gJ vals (iw tab env0 k) (tab.getD k 0) ops 0++env0) (sU ob0 objs hist (tab.getD k 0) (qi (gJ vals (iw tab env0 k) (tab.getD k 0) ops 0++env0) ob0.length objs hist (tab.getD k 0) o.op)) o.op fun v ob'=>
     if(decide (ob0.length+total objs≤ob'.length)&&EQ ob0.length (ob0.length+total objs) ob'.length objs (tab.getD k 0) (bI v)&&(ob'.drop (ob0.length+total objs)).all (BD ob0.length (ob0.length+total objs) ob'.length objs (tab.getD k 0))&&
       (mD tbl (gJ vals (iw tab env0 k) (tab.getD k 0) ops 0++env0) o.op).all fun i=>BD ob0.length (ob0.length+total objs) ob'.length objs (tab.getD k 0) (ob'.getD i .dead))=true then
      rf P tbl N ops tab env0 ob0 r ((k,v)::vals) (objs++[(k,ob'.drop (ob0.length+total objs))])
       (hist++[(k,qi (gJ vals (iw tab env0 k) (tab.getD k 0) ops 0++env0) ob0.length objs hist (tab.getD k 0) o.op,(mD tbl (gJ vals (iw tab env0 k) (tab.getD k 0) ops 0++env0) o.op).map fun i=>(i,ob'.getD i .dead))]) K
     else none
   else none
  match o.guard with
  |none=>go vals
  |some (g,want)=>
   if(tab.getD k 0).testBit g=true then
    match (ops[g]?).bind (·.dst),valOf vals g with
    |some _,.bool b=>
     let br (t:Bool):Option R:=if t=want then go ((g,.bool t)::vals)else rf P tbl N ops tab env0 ob0 r ((k,.skip)::(g,.bool t)::vals) (objs++[(k,[])]) (hist++[(k,[],[])]) K
     cond b (br true) (br false)
    |some _,.skip=>rf P tbl N ops tab env0 ob0 r ((k,.skip)::vals) (objs++[(k,[])]) (hist++[(k,[],[])]) K
    |_,_=>none
   else none
  else none
def oK(l:List (Nat×Oper)):Nat:=l.foldl (fun m p=>m ||| (1 <<< p.1)) 0
def MG(P:Program)(tbl:dX)(N:Nat)(ops:Array Oper)(env:Env)(ob:List Ob)(K:Env→List Ob→Option R):Option R:=
 if(jP (jM ops.toList)&&(nN ops.toList 0).all (fun p=>p.2.after.all fun e=> !Region.binds .any e||decide (e.on<p.1)))=true then
  rf P tbl N ops.toList (Bl ops.toList []) env ob (nN ops.toList 0) [] [] [] fun vals objs hist=>
   K (gJ vals (yP env) (oK (nN ops.toList 0)) ops.toList 0++env) (jR (fun j=>(oK (nN ops.toList 0)).testBit j) hist (ob++yF (oK (nN ops.toList 0)) objs))
 else none
def BI:List Nat→List Nat→List Nat
 |acc,[]=>acc.reverse
 |acc,x::r=>if acc.contains x then BI acc r else BI (x::acc) r
def reach(n0:Nat)(env:List PV)(ob:List Ob):List Nat:=
 let l1:=BI [] (List.range n0++aW env)
 let l2:=BI [] (l1++l1.flatMap fun i=>OJ ob[i]?)
 BI [] (l2++l2.flatMap fun i=>OJ ob[i]?)
def place(ids:List Nat)(o:Nat):Nat:=ids.findIdx (· ==o)
mutual
def ren(ids:List Nat):PV→PV
 | .own o=> .own (place ids o)
 | .ref o a b c=> .ref (place ids o) a b c
 | .ptr o i sz j=> .ptr (place ids o) i sz j
 | .agg vs=> .agg (tq ids vs)
 | .tup vs=> .tup (tq ids vs)
 | .fn f vs=> .fn f (tq ids vs)
 |v=>v
def tq(ids:List Nat):List PV→List PV
 | []=>[]
 |v::r=>ren ids v::tq ids r
end
def jX(ids:List Nat):Option Ob→Ob
 |some (.box cells)=> .box (tq ids cells)
 |some (.arr e xs)=> .arr e xs
 |_=> .dead
def WT(n0:Nat)(ids:List Nat)(vs:List PV)(ob:List Ob):Bool:=
 jP ids&&(aW vs).all (ids.contains ·)&&(ids.all fun i=>(OJ ob[i]?).all (ids.contains ·))&&(List.range n0).all fun i=>ids[i]? ==some i
def AU(ids:List Nat)(env:Env):List Nat→Env
 | []=>[]
 |s::r=>(s,ren ids (look env s))::AU ids env r
def clean(n0:Nat)(keep:List Nat)(env:Env)(ob:List Ob)(K:Env→List Ob→Option R):Option R:=
 if WT n0 (reach n0 (keep.map (look env)) ob) (keep.map (look env)) ob=true then
  K (AU (reach n0 (keep.map (look env)) ob) env keep) ((reach n0 (keep.map (look env)) ob).map fun i=>jX (reach n0 (keep.map (look env)) ob) ob[i]?)
 else none
abbrev au(R:Type):=Ex→Env→List Ob→Option R
def sV(n0:Nat)(keep out:List Nat)(next:Env→List Ob→Option R)(K:au R):au R:=fun e env ob=>
 match e with
 | .normal=>clean n0 keep env ob next
 |e=>clean n0 out env ob (K e)
def iter(n0:Nat)(keep out:List Nat)(step:Env→List Ob→au R→Option R):Nat→Env→List Ob→au R→Option R
 |0,_,_,_=>none
 |k+1,env,ob,K=>step env ob (sV n0 keep out (fun env ob=>iter n0 keep out step k env ob K) K)
def qM:Code→Nat
 | .region id _ _=>id
 | .seq a _=>qM a
 | .block _ c=>qM c
 | .loop c=>qM c
 | .cond _ a _=>qM a
 |_=>0
def bG(next:Env→List Ob→Option R)(K:au R):au R:=fun e env ob=>
 match e with
 | .normal=>next env ob
 |e=>K e env ob
def bg(id:Nat)(K:au R):au R:=fun e env ob=>
 match e with
 | .exit i=>if i=id then K .normal env ob else K (.exit i) env ob
 |e=>K e env ob
noncomputable def bJ(P:Program)(tbl:dX)(N n0:Nat)(cfg:Nat→List Nat×List Nat)(k:Nat):Code→Env→List Ob→(Ex→Env→List Ob→Option R)→Option R
 | .skip,env,ob,K=>K .normal env ob
 | .region _ ops draw,env,ob,K=>
  if draw=true then MG P tbl N ops env ob fun env ob=>K .normal env ob
  else qh P tbl N ops ops.toList env ob fun env ob=>K .normal env ob
 | .seq a b,env,ob,K=>bJ P tbl N n0 cfg k a env ob (bG (fun env ob=>bJ P tbl N n0 cfg k b env ob K) K)
 | .cond (.tmp s) a b,env,ob,K=>
  match look env s with
  | .bool t=>cond t (bJ P tbl N n0 cfg k a ((s,.bool true)::env) ob K) (bJ P tbl N n0 cfg k b ((s,.bool false)::env) ob K)
  | .either=> @ite _ (bJ P tbl N n0 cfg k a ((s,.bool true)::env) ob K=bJ P tbl N n0 cfg k b ((s,.bool false)::env) ob K) (Classical.propDecidable _) (bJ P tbl N n0 cfg k b ((s,.bool false)::env) ob K) none
  |_=>none
 | .block id c,env,ob,K=>bJ P tbl N n0 cfg k c env ob (bg id K)
 | .loop c,env,ob,K=>clean n0 (cfg (qM c)).1 env ob fun env ob=>iter n0 (cfg (qM c)).1 (cfg (qM c)).2 (fun env ob K=>bJ P tbl N n0 cfg k c env ob K) k env ob K
 | .exit id,env,ob,K=>K (.exit id) env ob
 | .ret,env,ob,K=>K .ret env ob
 |_,_,_,_=>none
def Ff(P:Program)(env:Env)(ob:List Ob):ResultVar→Option PV
 | .tmp t=>some (look env t)
 | .cell a t=>match qU P t,look env a with
  |some (agg,n),.ptr q i _ j=>match ob[q]? with
   |some (.box cells)=>if i=0 then(if agg then(if j+n≤cells.length then some (.agg ((cells.drop j).take n))else none)else(if j<cells.length then some (cells.getD j .undef)else none))else none
   |_=>none
  |_,_=>none
def yj(P:Program)(env:Env)(ob:List Ob):List ResultVar→Option (List PV)
 | []=>some []
 |x::r=>match Ff P env ob x,yj P env ob r with |some v,some vs=>some (v::vs) |_,_=>none
def vk:List (Bool×List CT)→List PV→Option (List PV)
 | [],[]=>some []
 | (b,cs)::r,v::vs=>if lV b cs v=true then match flat v,vk r vs with |some a,some c=>some (a++c) |_,_=>none else none
 |_,_=>none
def X8(ob:List Ob):(p:bF)→ah.V p.cells→Nat→Option (ah.V p.io×List Nat)
 | .w b cs,x,k=>(fZ ob cs (bn cs x k).1).map fun y=>(y,aW (bn cs x k).1)
 | .m cs,x,k=>match ob[k]? with
  |some (.box cells)=>(fZ ob cs cells).map fun y=>(y,k::aW cells)
  |_=>none
 | .v _ _,_,_=>some ((),[])
 | .r _,_,_=>some ((),[])
 | .cl _ _,_,_=>some ((),[])
 | .c _ _,_,_=>some ((),[])
def yI(ob:List Ob):(ins:List bF)→ah.V (cu ins)→Nat→Option (ah.V (dZ ins)×List Nat)
 | [],_,_=>some ((),[])
 |p::r,x,k=>
  match X8 ob p (splitV p.cells (cu r) x).1 k,yI ob r (splitV p.cells (cu r) x).2 (k+(jF p (splitV p.cells (cu r) x).1 k).2.length)with
  |some a,some b=>some (lW p.io (dZ r) a.1 b.1,a.2++b.2)
  |_,_=>none
def Ns(ob:List Ob)(c:CT)(v:PV):Option c.V:=
 match c,v with
 | .sl e,.ref o _ 0 len=>match ob[o]? with
  |some (.arr e' xs)=>fH e' e (xs.take len)
  |_=>none
 |c,v=>xW ob c v
def vN(ob:List Ob):(cs:List CT)→List PV→Option (ah.V cs)
 | [],[]=>some ()
 |c::cs,v::vs=>match Ns ob c v,vN ob cs vs with |some x,some r=>some (x,r) |_,_=>none
 |_,_=>none
def yD(ob:List Ob):List PV→Option R→Option R
 | .ref o _ 0 len::vs,k=>match ob[o]? with
  |some (.arr _ xs)=>if len≤xs.length then yD ob vs k else none
  |_=>none
 |_::vs,k=>yD ob vs k
 | [],k=>k
def OH(ob:List Ob)(v:PV):Prop:=∀ o sz len,v= .ref o sz 0 len→∀ e xs,ob[o]? =some (.arr e xs)→len≤xs.length
theorem Nl{ob:List Ob}:∀ (vs:List PV) {k:Option R} {r:R},yD ob vs k=some r→(∀ v∈vs,OH ob v)∧k=some r
 | [],k,r,h=>⟨by simp,h⟩
 |v::vs,k,r,h=>by
  unfold yD at h
  split at h
  ·rename_i o sz len vs' k' heq
   obtain⟨rfl,rfl⟩:=List.cons.inj heq
   split at h <;>try (cases h;done)
   rename_i e xs hq
   split at h <;>try (cases h;done)
   rename_i hl
   obtain⟨h1,h2⟩:=Nl _ h
   refine⟨fun v hv=> ?_,h2⟩
   rcases List.mem_cons.1 hv with rfl |hv
   ·intro o' sz' len' e1 e2 xs2 hq2
    cases e1
    rw[hq]at hq2
    cases hq2
    exact hl
   ·exact h1 v hv
  ·rename_i v' vs' k' hne heq
   obtain⟨rfl,rfl⟩:=List.cons.inj heq
   obtain⟨h1,h2⟩:=Nl _ h
   refine⟨fun v hv=> ?_,h2⟩
   rcases List.mem_cons.1 hv with rfl |hv
   ·intro o' sz' len' e1 e2 xs2 hq2
    exact absurd e1 (hne _ _ _)
   ·exact h1 v hv
  ·rename_i heq;cases heq
def Az(b pure:Bool)(ob:List Ob)(outs:List (Bool×List CT))(ps:List PV):Option (List PV×List Nat):=
 match b with
 |false=>match vk outs ps with |some vs=>some (vs,aW vs) |none=>none
 |true=>match pure,ps with
  |true,[.ptr q 0 0 0]=>match ob[q]? with
   |some (.box cells)=>some (cells,q::aW cells)
   |_=>none
  |_,_=>none
def di(P:Program)(rs:List ResultVar)(ins:List bF)(outs:List (Bool×List CT))(x:ah.V (cu ins)):au (ah.V (dL outs++dZ ins)):=fun e env ob=>
 match e with
 | .exit _=>none
 |_=>match yj P env ob rs with
  |some ps=>match Az (mO outs) (ins.all bF.pure) ob outs ps with
   |some vs=>match yI ob ins x 0 with
    |some io=>if jP (vs.2++io.2)=true then yD ob vs.1 ((vN ob (dL outs) vs.1).map fun y=>lW (dL outs) (dZ ins) y io.1)else none
    |none=>none
   |none=>none
  |none=>none
def yJ:Nat→List PV→Env
 |_,[]=>[]
 |i,v::r=>(i,v)::yJ (i+1) r
def Ba (P:Program) (f:FuncId):Bool:=match P.funcs[f]? with |some fn=>fn.name != "runtime.NumGoroutine" &&fn.body.isSome |none=>false
noncomputable def dw(P:Program)(tbl:dX)(cfg:Nat→List Nat×List Nat)(k:Nat)(f:FuncId)(ins:List bF)(outs:List (Bool×List CT))(pk:List (Option (FuncId×Nat)))(x:ah.V (cu ins)):Option (ah.V (dL outs++dZ ins)):=
 match P.funcs[f]? with
 |some fn=>match fn.body with
  |some c=>if((sJ pk (start ins x 0).1).length≤fn.ntmps∧(dL outs).all CT.flat=true∧ins.all bF.ok=true)then
    bJ P tbl fn.ntmps (start ins x 0).2.length cfg k c (yJ 0 (sJ pk (start ins x 0).1)) (start ins x 0).2 (di P fn.results.toList ins outs x)else none
  |none=>none
 |none=>none
def cO:List Nat→Code→Code
 | [],c=>c
 |0::p,.seq a _=>cO p a
 |_::p,.seq _ b=>cO p b
 |0::p,.cond _ a _=>cO p a
 |_::p,.cond _ _ b=>cO p b
 |_::p,.block _ c=>cO p c
 |_::p,.loop c=>cO p c
 |_,c=>c
end
end Go.Rv
set_option linter.unusedVariables false
set_option linter.unusedSimpArgs false
namespace Go.Rv
open Go.RowKit
variable {Dr:Kn}
theorem lG(a:Addr)(m n:Nat):(a.add m).add n=a.add (m+n):=by
 unfold Addr.add
 by_cases hm:m=0 <;>by_cases hn:n=0 <;>simp[hm,hn,Nat.add_assoc]
theorem ru(a:Addr)(n:Nat):(a.add n).block=a.block:=by unfold Addr.add;split <;>rfl
theorem dU(g o j:Nat):(⟨g,o,none⟩:Addr).add j=⟨g,o+j,none⟩:=by unfold Addr.add;split <;>simp_all
abbrev lst(e:List CT)(xs:CT.V (.sl e)):List (ah.V e):=xs
mutual
def aZ(I:Nat→Prop)(w:World):(c:CT)→c.V→Value→Prop
 | .int k,z,u=>u= .int k z
 | .bool,b,u=>u= .bool b
 | .str,s,u=>u= .string s
 | .sl e,xs,u=>∃ a cap,u= .slice a (lst e xs).length cap∧(lst e xs).length≤cap∧((lst e xs).length=0∨∃ ad,a=some ad∧I ad.block∧∀ i x,(lst e xs)[i]? =some x→bH I w e x (ad.add (i*e.length)))
 | .sh e,xs,u=>∃ a cap,u= .slice a (lst e xs).length cap∧(lst e xs).length≤cap∧((lst e xs).length=0∨∃ ad,a=some ad∧I ad.block∧∀ i x,(lst e xs)[i]? =some x→bH I w e x (ad.add (i*e.length)))
def bH(I:Nat→Prop)(w:World):(cs:List CT)→ah.V cs→Addr→Prop
 | [],_,_=>True
 |c::cs,x,a=>(∃ u,w.cell? a=some u∧aZ I w c x.1 u)∧bH I w cs x.2 (a.add 1)
end
structure Gh where
 A:Nat→Nat
 H:Nat→Value
 L:Nat→Nat
 S:Nat→Nat
 pre:Nat→List Value
 post:Nat→List Value
 J:Nat→Prop
mutual
def aj(g:Gh)(n:Nat)(I:Nat→Prop)(w:World):PV→Value→Prop
 | .int k z,v=>v= .int k z
 | .bool b,v=>v= .bool b
 | .str s,v=>v= .string s
 | .sl e xs,v=>aZ I w (.sl e) xs v
 | .sh e xs,v=>aZ g.J w (.sl e) xs v
 | .own o,v=>o<n∧v=g.H o∧∃ a l c,v= .slice a l c
 | .ref o sz off len,v=>o<n∧sz=g.S o∧∃ a l c a' c',g.H o= .slice a l c∧v= .slice a' len c'∧len≤c'∧(len=0∨∃ ad,a=some ad∧a'=some (ad.add (off*sz)))∧(off=0→a'=a∧c'=c)
 | .ptr o i sz j,v=>o<n∧i<g.L o∧sz=g.S o∧v= .pointer (some ⟨g.A o,(g.pre o).length+(i*sz+j),none⟩)
 | .eptr e x j,v=>∃ ad,v= .pointer (some (ad.add j))∧I ad.block∧bH I w e x ad
 | .nilp,v=>v= .pointer none
 | .nils,v=>v= .slice none 0 0
 | .emp,v=>∃ a,v= .slice a 0 0
 | .agg vs,v=>∃ us,v= .agg us.toArray∧ay g n I w vs us
 | .tup vs,v=>∃ us,v= .tuple us.toArray∧ay g n I w vs us
 | .fn f caps,v=>∃ us,v= .func (.func f) #[] us.toArray∧ay g n I w caps us
 | .undef,_=>True
 | .skip,v=>v=Go.undef
 | .either,v=>∃ b,v= .bool b
def ay(g:Gh)(n:Nat)(I:Nat→Prop)(w:World):List PV→List Value→Prop
 | [],us=>us=[]
 |v::r,us=>∃ u t,us=u::t∧aj g n I w v u∧ay g n I w r t
end
def ig(v:Value):Prop:=∃ a,v= .slice a 0 0
def aJ(g:Gh)(ob:List Ob)(o:Nat):Prop:=
 (∃ cells,ob[o]? =some (.box cells))∨∃ e xs,ob[o]? =some (.arr e xs)∧¬ ig (g.H o)
def sW(g:Gh)(I:Nat→Prop)(w:World)(o:Nat)(e:List CT)(xs:List (ah.V e)):Prop:=
 (xs=[]∧ig (g.H o))∨
 (¬ ig (g.H o)∧∃ cap us t,g.H o= .slice (some ⟨g.A o,0,none⟩) xs.length cap∧xs.length≤cap∧cap≤maxLen∧w.heap[g.A o]? =some (.cells us t (0,0))∧us.size=cap*e.length∧
  (∀ i x,xs[i]? =some x→bH I w e x ⟨g.A o,i*e.length,none⟩)∧¬ I (g.A o))
structure aO (D:Kn) (B:Nat) (T:List Nat) (w w':World):Prop where
 os:w'.os=w.os
 tape:w'.tape=w.tape
 output:w'.output=w.output
 size:w.heap.size≤w'.heap.size
 block:∀ k,k<B→k∉T→w'.heap[k]? =w.heap[k]?
 drawn:D.dr→w.drawn≤w'.drawn
theorem aO.refl{D:Kn}(B:Nat)(T:List Nat)(w:World):aO D B T w w:=⟨rfl,rfl,rfl,Nat.le_refl _,fun _ _ _=>rfl,fun _=>Nat.le_refl _⟩
theorem aO.trans{D:Kn}{B:Nat}{T:List Nat}{a b c:World}(h:aO D B T a b)(k:aO D B T b c):aO D B T a c:=
 ⟨k.os.trans h.os,k.tape.trans h.tape,k.output.trans h.output,Nat.le_trans h.size k.size,fun i hi hn=>(k.block i hi hn).trans (h.block i hi hn),fun d=>Nat.le_trans (h.drawn d) (k.drawn d)⟩
theorem aO.of_below{D:Kn}{B:Nat}{w w':World}(h:Below D B w w')(T:List Nat):aO D B T w w':=⟨h.os,h.tape,h.output,h.size,fun k hk _=>h.block k hk,h.drawn⟩
theorem aO.below{D:Kn}{B:Nat}{w w':World}(h:aO D B [] w w'):Below D B w w':=⟨⟨h.os,h.tape,h.output,h.size,fun k hk=>h.block k hk (by simp)⟩,h.drawn⟩
structure Cx (Dr:Kn) where
 B:Nat
 W0:World
 T:List Nat
 I:Nat→Prop
 n0:Nat
 g0:Gh
 tb:Dr.tab g0.J W0
 tj:∀ b,g0.J b→b<B∧b∉T
structure Agree (g g':Gh) (o:Nat):Prop where
 A:g'.A o=g.A o
 H:g'.H o=g.H o
 L:g'.L o=g.L o
 S:g'.S o=g.S o
 pre:g'.pre o=g.pre o
 post:g'.post o=g.post o
theorem Agree.refl(g:Gh)(o:Nat):Agree g g o:=⟨rfl,rfl,rfl,rfl,rfl,rfl⟩
theorem Agree.trans{g g' g'':Gh}{o:Nat}(h:Agree g g' o)(k:Agree g' g'' o):Agree g g'' o:=
 ⟨k.A.trans h.A,k.H.trans h.H,k.L.trans h.L,k.S.trans h.S,k.pre.trans h.pre,k.post.trans h.post⟩
structure aK (X:Cx Dr) (g:Gh) (ob:List Ob) (w:World):Prop where
 box:∀ o cells,ob[o]? =some (.box cells)→∃ us t,w.heap[g.A o]? =some (.cells (g.pre o++us++g.post o).toArray t (0,0))∧ay g ob.length X.I w cells us∧¬ X.I (g.A o)∧g.S o=0∧g.L o=1
 arr:∀ o e xs,ob[o]? =some (.arr e xs)→g.S o=e.length∧g.L o=xs.length∧g.pre o=[]∧sW g X.I w o e xs
 inj:∀ o o',aJ g ob o→aJ g ob o'→g.A o=g.A o'→o=o'
 base:∀ o,aJ g ob o→X.B≤g.A o∨g.A o∈X.T
 bnd:∀ b,X.I b→b<w.heap.size
 jI:∀ b,g.J b→X.I b
 upd:aO Dr X.B X.T X.W0 w
 bsz:X.B≤w.heap.size
 nle:X.n0≤ob.length
 kept:∀ o,o<X.n0→Agree X.g0 g o
 keptJ:g.J=X.g0.J
theorem aK.tab{X:Cx Dr}{g:Gh}{ob:List Ob}{w:World}(s:aK X g ob w):Dr.tab g.J w:=
 Dr.stab (fun b hb=>⟨by rw[s.keptJ];exact hb,s.upd.block b (X.tj b hb).1 (X.tj b hb).2⟩) X.tb
theorem MV{w w':World}{a:Addr}(h:w'.heap[a.block]? =w.heap[a.block]?):w'.cell? a=w.cell? a:=by
 unfold World.cell?; rw[h]
mutual
theorem aZ.keep{I I':Nat→Prop}{w w':World}(hI:∀ b,I b→I' b)(hh:∀ b,I b→w'.heap[b]? =w.heap[b]?):∀ (c:CT) (x:c.V) (u:Value),aZ I w c x u→aZ I' w' c x u
 | .int k,z,u,h=>by simpa [aZ]using h
 | .bool,b,u,h=>by simpa [aZ]using h
 | .str,s,u,h=>by simpa [aZ]using h
 | .sl e,xs,u,h=>by
  simp only[aZ]at h ⊢
  obtain⟨a,cap,rfl,hc,h⟩:=h
  refine⟨a,cap,rfl,hc, ?_⟩
  rcases h with h | ⟨ad,rfl,hb,h⟩
  ·exact Or.inl h
  ·exact Or.inr ⟨ad,rfl,hI _ hb,fun i x hx=>bH.keep hI hh e x _ (by rw[ru];exact hh _ hb) (h i x hx)⟩
 | .sh e,xs,u,h=>by
  simp only[aZ]at h ⊢
  obtain⟨a,cap,rfl,hc,h⟩:=h
  refine⟨a,cap,rfl,hc, ?_⟩
  rcases h with h | ⟨ad,rfl,hb,h⟩
  ·exact Or.inl h
  ·exact Or.inr ⟨ad,rfl,hI _ hb,fun i x hx=>bH.keep hI hh e x _ (by rw[ru];exact hh _ hb) (h i x hx)⟩
theorem bH.keep{I I':Nat→Prop}{w w':World}(hI:∀ b,I b→I' b)(hh:∀ b,I b→w'.heap[b]? =w.heap[b]?):∀ (cs:List CT) (x:ah.V cs) (a:Addr),w'.heap[a.block]? =w.heap[a.block]? →bH I w cs x a→bH I' w' cs x a
 | [],_,_,_,_=>by simp[bH]
 |c::cs,x,a,ha,h=>by
  simp only[bH]at h ⊢
  obtain⟨⟨u,hu,hr⟩,h⟩:=h
  exact⟨⟨u,by rw[MV ha];exact hu,aZ.keep hI hh c _ _ hr⟩,bH.keep hI hh cs _ _ (by rw[ru];exact ha) h⟩
end
structure Keep (g:Gh) (n:Nat) (I:Nat→Prop) (w:World) (g':Gh) (n':Nat) (w':World):Prop where
 le:n≤n'
 agr:∀ o,o<n→Agree g g' o
 J:g'.J=g.J
 jI:∀ b,g.J b→I b
 heap:∀ b,I b→w'.heap[b]? =w.heap[b]?
theorem Keep.refl{g:Gh}{I:Nat→Prop}(hj:∀ b,g.J b→I b)(n:Nat)(w:World):Keep g n I w g n w:=⟨Nat.le_refl _,fun _ _=>Agree.refl _ _,rfl,hj,fun _ _=>rfl⟩
theorem Keep.trans{g g' g'':Gh}{n n' n'':Nat}{I:Nat→Prop}{w w' w'':World}(h:Keep g n I w g' n' w')(k:Keep g' n' I w' g'' n'' w''):Keep g n I w g'' n'' w'':=
 ⟨Nat.le_trans h.le k.le,fun o ho=>(h.agr o ho).trans (k.agr o (Nat.lt_of_lt_of_le ho h.le)),k.J.trans h.J,h.jI,fun b hb=>(k.heap b hb).trans (h.heap b hb)⟩
mutual
theorem aj.agree{g g':Gh}{n n':Nat}{I:Nat→Prop}{w w':World}(hJ:g'.J=g.J)(hj:∀ b,g.J b→I b)(hh:∀ b,I b→w'.heap[b]? =w.heap[b]?):
  ∀ (v:PV) (u:Value),(∀ o∈bI v,o<n→o<n'∧Agree g g' o)→aj g n I w v u→aj g' n' I w' v u
 | .int _ _,_,_,h=>by simpa [aj]using h
 | .bool _,_,_,h=>by simpa [aj]using h
 | .str _,_,_,h=>by simpa [aj]using h
 | .sl e xs,u,_,h=>by
  simp only[aj]at h ⊢
  exact aZ.keep (fun _ h=>h) hh (.sl e) xs u h
 | .sh e xs,u,_,h=>by
  simp only[aj]at h ⊢
  rw[hJ]
  exact aZ.keep (fun _ h=>h) (fun b hb=>hh b (hj b hb)) (.sl e) xs u h
 | .own o,u,ha,h=>by
  simp only[aj]at h ⊢
  obtain⟨h1,h2⟩:=ha o (by simp[bI]) h.1
  exact⟨h1,by rw[h2.H];exact h.2.1,h.2.2⟩
 | .ref o _ _ _,u,ha,h=>by
  simp only[aj]at h ⊢
  obtain⟨h1,h2⟩:=ha o (by simp[bI]) h.1
  refine⟨h1,by rw[h2.S];exact h.2.1, ?_⟩
  rw[h2.H]
  exact h.2.2
 | .ptr o i sz j,u,ha,h=>by
  simp only[aj]at h ⊢
  obtain⟨h1,h2⟩:=ha o (by simp[bI]) h.1
  exact⟨h1,by rw[h2.L];exact h.2.1,by rw[h2.S];exact h.2.2.1,by rw[h2.A,h2.pre];exact h.2.2.2⟩
 | .eptr e x j,u,_,h=>by
  simp only[aj]at h ⊢
  obtain⟨ad,hu,hb,hr⟩:=h
  exact⟨ad,hu,hb,bH.keep (fun _ h=>h) hh e x ad (hh _ hb) hr⟩
 | .nilp,_,_,h=>by simpa [aj]using h
 | .nils,_,_,h=>by simpa [aj]using h
 | .emp,_,_,h=>by simpa [aj]using h
 | .agg vs,u,ha,h=>by
  simp only[aj]at h ⊢
  obtain⟨us,hu,hr⟩:=h
  exact⟨us,hu,ay.agree hJ hj hh vs us (by simpa [bI]using ha) hr⟩
 | .tup vs,u,ha,h=>by
  simp only[aj]at h ⊢
  obtain⟨us,hu,hr⟩:=h
  exact⟨us,hu,ay.agree hJ hj hh vs us (by simpa [bI]using ha) hr⟩
 | .fn f vs,u,ha,h=>by
  simp only[aj]at h ⊢
  obtain⟨us,hu,hr⟩:=h
  exact⟨us,hu,ay.agree hJ hj hh vs us (by simpa [bI]using ha) hr⟩
 | .undef,_,_,_=>by simp[aj]
 | .skip,_,_,h=>by simpa [aj]using h
 | .either,_,_,h=>by simpa [aj]using h
theorem ay.agree{g g':Gh}{n n':Nat}{I:Nat→Prop}{w w':World}(hJ:g'.J=g.J)(hj:∀ b,g.J b→I b)(hh:∀ b,I b→w'.heap[b]? =w.heap[b]?):
  ∀ (vs:List PV) (us:List Value),(∀ o∈aW vs,o<n→o<n'∧Agree g g' o)→ay g n I w vs us→ay g' n' I w' vs us
 | [],_,_,h=>by simpa [ay]using h
 |v::r,us,ha,h=>by
  simp only[ay]at h ⊢
  obtain⟨u,t,hu,h1,h2⟩:=h
  exact⟨u,t,hu,aj.agree hJ hj hh v u (fun o ho=>ha o (by simp[aW,ho])) h1,ay.agree hJ hj hh r t (fun o ho=>ha o (by simp[aW,ho])) h2⟩
end
theorem aj.keep{g g':Gh}{n n':Nat}{I:Nat→Prop}{w w':World}(k:Keep g n I w g' n' w')(v:PV)(u:Value)(h:aj g n I w v u):aj g' n' I w' v u:=
 aj.agree k.J k.jI k.heap v u (fun o _ hn=>⟨Nat.lt_of_lt_of_le hn k.le,k.agr o hn⟩) h
theorem ay.keep{g g':Gh}{n n':Nat}{I:Nat→Prop}{w w':World}(k:Keep g n I w g' n' w')(vs:List PV)(us:List Value)(h:ay g n I w vs us):ay g' n' I w' vs us:=
 ay.agree k.J k.jI k.heap vs us (fun o _ hn=>⟨Nat.lt_of_lt_of_le hn k.le,k.agr o hn⟩) h
theorem lt_of_heap{w:World}{b:Nat}{o:Obj}(h:w.heap[b]? =some o):b<w.heap.size:=(Array.getElem?_eq_some_iff.1 h).1
theorem aJ.lt{g:Gh}{ob:List Ob}{o:Nat}(h:aJ g ob o):o<ob.length:=by
 rcases h with ⟨_,h⟩ | ⟨_,_,h,_⟩ <;>exact(List.getElem?_eq_some_iff.1 h).1
theorem aK.blk{X:Cx Dr}{g:Gh}{ob:List Ob}{w:World}(s:aK X g ob w){o:Nat}(h:aJ g ob o):g.A o<w.heap.size∧¬ X.I (g.A o):=by
 rcases h with ⟨cells,h⟩ | ⟨e,xs,h,hn⟩
 ·obtain⟨us,t,h1,_,h3,_⟩:=s.box o cells h
  exact⟨lt_of_heap h1,h3⟩
 ·obtain⟨_,_,_,h | ⟨_,cap,us,t,_,_,_,h1,_,_,h3⟩⟩:=s.arr o e xs h
  ·exact absurd h.2 hn
  ·exact⟨lt_of_heap h1,h3⟩
theorem aK.refl{X:Cx Dr}{g:Gh}{ob:List Ob}{w:World}(s:aK X g ob w):Keep g ob.length X.I w g ob.length w:=Keep.refl s.jI _ _
theorem aK.up{X:Cx Dr}{g:Gh}{ob:List Ob}{w w':World}(s:aK X g ob w)(h:Below Dr w.heap.size w w'):aK X g ob w'∧Keep g ob.length X.I w g ob.length w':=by
 have hk:Keep g ob.length X.I w g ob.length w':=⟨Nat.le_refl _,fun _ _=>Agree.refl _ _,rfl,s.jI,fun b hb=>h.block b (s.bnd b hb)⟩
 refine⟨⟨?_, ?_,s.inj,s.base,fun b hb=>Nat.lt_of_lt_of_le (s.bnd b hb) h.size,s.jI,s.upd.trans (aO.of_below (h.mono s.bsz) _),Nat.le_trans s.bsz h.size,s.nle,s.kept,s.keptJ⟩,hk⟩
 ·intro o cells ho
  obtain⟨us,t,h1,h2,h3⟩:=s.box o cells ho
  exact⟨us,t,by rw[h.block _ (lt_of_heap h1)];exact h1,ay.keep hk _ _ h2,h3⟩
 ·intro o e xs ho
  obtain⟨h0,h0',hp,h1⟩:=s.arr o e xs ho
  refine⟨h0,h0',hp, ?_⟩
  rcases h1 with h1 | ⟨h1,cap,us,t,k1,k2,k2',k3,k4,k5,k6⟩
  ·exact Or.inl h1
  ·refine Or.inr ⟨h1,cap,us,t,k1,k2,k2',by rw[h.block _ (lt_of_heap k3)];exact k3,k4,fun i x hx=> ?_,k6⟩
   exact bH.keep (fun _ h=>h) hk.heap e x _ (h.block _ (lt_of_heap k3)) (k5 i x hx)
def dG(N:Nat)(g:Gh)(n:Nat)(I:Nat→Prop)(w:World)(env:Env)(a:Act):Prop:=
 a.tmps.size=N∧a.defers=[]∧∀ s,aj g n I w (look env s) (a.tmps.getD s undef)
theorem dG.keep{N:Nat}{g g':Gh}{n n':Nat}{I:Nat→Prop}{w w':World}{env:Env}{a:Act}(k:Keep g n I w g' n' w')(h:dG N g n I w env a):dG N g' n' I w' env a:=
 ⟨h.1,h.2.1,fun s=>aj.keep k _ _ (h.2.2 s)⟩
theorem dG.put{N:Nat}{g:Gh}{n:Nat}{I:Nat→Prop}{w:World}{env:Env}{a:Act}(h:dG N g n I w env a){dst:Option Tmp}{pv:PV}{v:Value}(hd:vO N dst=true)(hv:aj g n I w pv v):
  dG N g n I w (put env dst pv) (a.put dst v):=by
 cases dst with
 |none=>exact h
 |some d=>
  have hd':d<N:=by simpa [vO]using hd
  refine⟨by simp[Act.put,h.1],h.2.1,fun s=> ?_⟩
  simp only[Rv.put,look,Act.put]
  by_cases hs:d=s
  ·subst hs
   rw[if_pos rfl]
   have:(a.tmps.setIfInBounds d v).getD d undef=v:=by simp[Array.getD_eq_getD_getElem?, h.1,hd']
   rw[this];exact hv
  ·rw[if_neg hs]
   have:(a.tmps.setIfInBounds d v).getD s undef=a.tmps.getD s undef:=by simp[Array.getD_eq_getD_getElem?, Array.getElem?_setIfInBounds,hs]
   rw[this];exact h.2.2 s
theorem dG.lit{N:Nat}{g:Gh}{n:Nat}{I:Nat→Prop}{w:World}{env:Env}{a:Act}(h:dG N g n I w env a){s:Nat}{b:Bool}(hs:look env s= .bool b):dG N g n I w ((s,.bool b)::env) a:=by
 refine⟨h.1,h.2.1,fun s'=> ?_⟩
 simp only[look]
 by_cases e:s=s'
 ·subst e;rw[if_pos rfl, ←hs];exact h.2.2 s
 ·rw[if_neg e];exact h.2.2 s'
theorem Ua{g:Gh}{n:Nat}{I:Nat→Prop}{w:World}(v:Value):aj g n I w (xO v) v:=by
 unfold xO
 split <;>simp[aj]
theorem LZ{g:Gh}{n:Nat}{I:Nat→Prop}{w:World}:∀ (vs:List Value),ay g n I w (vs.map xO) vs
 | []=>by simp[ay]
 |v::r=>by simp only[List.map_cons,ay];exact⟨v,r,rfl,Ua v,LZ r⟩
theorem UG{g:Gh}{n:Nat}{I:Nat→Prop}{w:World}(v:Value):aj g n I w (EL v) v:=by
 unfold EL
 split
 ·simp only[aj];exact⟨_,by simp,LZ _⟩
 ·split
  ·rename_i h
   simp only[aj]
   exact⟨[],by rw[Array.eq_empty_of_size_eq_zero h.1,Array.eq_empty_of_size_eq_zero h.2],by simp[ay]⟩
  ·simp[aj]
 ·exact Ua v
theorem dG.ev{N:Nat}{g:Gh}{n:Nat}{I:Nat→Prop}{w:World}{env:Env}{a:Act}(h:dG N g n I w env a)(x:Operand):aj g n I w (ev env x) (a.eval x):=by
 cases x with
 |tmp t=>exact h.2.2 t
 |const v=>exact UG v
 |func f=>simp only[Rv.ev,aj,Act.eval];exact⟨[],by simp,by simp[ay]⟩
 |global q=>simp[Rv.ev,aj]
end Go.Rv
set_option linter.unusedVariables false
set_option linter.unusedSimpArgs false
namespace Go.Rv
open Go.RowKit
variable {Dr:Kn}
theorem qJ{P:Program}{t:TypeId}{b:Bool}{n:Nat}(h:qU P t=some (b,n))(w:World):(isAgg t).run P w= .ok b w∧(sizeOf t).run P w= .ok n w:=by
 unfold qU at h
 unfold isAgg sizeOf underlying typeInfo
 split at h <;>simp_all
theorem jJ{g:Gh}{n:Nat}{I:Nat→Prop}{w:World}:∀ (vs:List PV) (us:List Value),ay g n I w vs us→us.length=vs.length
 | [],us,h=>by simp[ay]at h;simp[h]
 |v::r,us,h=>by
  simp only[ay]at h
  obtain⟨u,t,rfl,_,h2⟩:=h
  simp[jJ r t h2]
theorem ve{g:Gh}{n:Nat}{I:Nat→Prop}{w:World}:∀ (vs:List PV) (us:List Value),ay g n I w vs us→∀ i,i<vs.length→∃ u,us[i]? =some u∧aj g n I w (vs.getD i .undef) u
 | [],us,h,i,hi=>by simp at hi
 |v::r,us,h,i,hi=>by
  simp only[ay]at h
  obtain⟨u,t,rfl,h1,h2⟩:=h
  cases i with
  |zero=>exact⟨u,rfl,h1⟩
  |succ i=>
   obtain⟨x,hx,hr⟩:=ve r t h2 i (by simpa using hi)
   exact⟨x,by simpa using hx,by simpa using hr⟩
theorem uX{g:Gh}{n:Nat}{I:Nat→Prop}{w:World}:∀ (vs:List PV) (us:List Value) (i:Nat),ay g n I w vs us→ay g n I w (vs.drop i) (us.drop i)
 |vs,us,0,h=>by simpa using h
 | [],us,i+1,h=>by simp[ay]at h;simp[h,ay]
 |v::r,us,i+1,h=>by
  simp only[ay]at h
  obtain⟨u,t,rfl,h1,h2⟩:=h
  simpa using uX r t i h2
theorem uV{g:Gh}{n:Nat}{I:Nat→Prop}{w:World}:∀ (vs:List PV) (us:List Value) (i:Nat),ay g n I w vs us→ay g n I w (vs.take i) (us.take i)
 |vs,us,0,h=>by simp[ay]
 | [],us,i+1,h=>by simp[ay]at h;simp[h,ay]
 |v::r,us,i+1,h=>by
  simp only[ay]at h
  obtain⟨u,t,rfl,h1,h2⟩:=h
  simp only[List.take_succ_cons,ay]
  exact⟨u,t.take i,rfl,h1,uV r t i h2⟩
theorem MK{g:Gh}{n:Nat}{I:Nat→Prop}{w:World}:∀ (vs vs':List PV) (us us':List Value),ay g n I w vs us→ay g n I w vs' us'→ay g n I w (vs++vs') (us++us')
 | [],vs',us,us',h,h'=>by simp[ay]at h;simpa [h]using h'
 |v::r,vs',us,us',h,h'=>by
  simp only[ay]at h
  obtain⟨u,t,rfl,h1,h2⟩:=h
  simp only[List.cons_append,ay]
  exact⟨u,t++us',rfl,h1,MK r vs' t us' h2 h'⟩
theorem aey{g:Gh}{n:Nat}{I:Nat→Prop}{w:World}(c:CT)(x:c.V)(u:Value)(h:aZ I w c x u):aj g n I w (c.pv x) u:=by
 cases c <;>simpa [CT.pv,aj,aZ]using h
theorem Xv{I:Nat→Prop}{w:World}:∀ (e:List CT) (x:ah.V e) (ad:Addr) (j:Nat) (v:PV),bH I w e x ad→ah.get e x j=some v→
  ∃ u,w.cell? (ad.add j)=some u∧∀ g n,aj g n I w v u
 | [],x,ad,j,v,h,hg=>by simp[ah.get]at hg
 |c::cs,x,ad,0,v,h,hg=>by
  simp only[ah.get,Option.some.injEq]at hg
  simp only[bH]at h
  obtain⟨⟨u,hu,hr⟩,_⟩:=h
  exact⟨u,by simpa [Addr.add]using hu,fun g n=>by rw[←hg];exact aey c _ _ hr⟩
 |c::cs,x,ad,j+1,v,h,hg=>by
  simp only[ah.get]at hg
  simp only[bH]at h
  obtain⟨u,hu,hr⟩:=Xv cs x.2 (ad.add 1) j v h.2 hg
  exact⟨u,by rw[lG,Nat.add_comm]at hu;exact hu,hr⟩
theorem EI{I:Nat→Prop}{w:World}(e:List CT)(x:ah.V e)(ad:Addr)(h:bH I w e x ad):∀ (n j:Nat) (vs:List PV),tH e x j n=some vs→
  ∃ us,us.length=n∧(∀ g m,ay g m I w vs us)∧∀ i u,us[i]? =some u→w.cell? (ad.add (j+i))=some u
 |0,j,vs,hg=>by
  simp only[tH,Option.some.injEq]at hg
  subst hg
  exact⟨[],rfl,fun _ _=>by simp[ay],fun i u hu=>by simp at hu⟩
 |n+1,j,vs,hg=>by
  simp only[tH]at hg
  split at hg
  ·rename_i v r h1 h2
   obtain rfl:=Option.some.inj hg
   obtain⟨u,hu,hr⟩:=Xv e x ad j v h h1
   obtain⟨us,hl,hrs,hc⟩:=EI e x ad h n (j+1) r h2
   refine⟨u::us,by simp[hl],fun g m=>by simp only[ay];exact⟨u,us,rfl,hr g m,hrs g m⟩,fun i z hz=> ?_⟩
   cases i with
   |zero=>simp at hz;subst hz;simpa using hu
   |succ i=>have:=hc i z (by simpa using hz);rw[show j+(i+1)=j+1+i by omega];exact this
  ·simp at hg
theorem vF{g:Gh}{n:Nat}{I:Nat→Prop}{w:World}{v:PV}{u:Value}{vs:List PV}(h:aj g n I w v u)(hf:flat v=some vs):∃ us,u.cells=us.toArray∧ay g n I w vs us:=by
 unfold flat at hf
 split at hf <;>simp at hf
 ·subst hf;simp only[aj]at h;obtain⟨us,rfl,hr⟩:=h;exact⟨us,rfl,hr⟩
 ·rename_i h1 h2 h3 h4
  subst hf
  refine⟨[u], ?_,by simp only[ay];exact⟨u,[],rfl,h,rfl⟩⟩
  cases v <;>simp only[aj,aZ]at h <;>first
   | (exact absurd rfl (h1 _)) | (exact absurd rfl (h2 _)) | (exact absurd rfl h3) | (exact absurd rfl h4) | (subst h;rfl) | (obtain⟨_,rfl⟩:=h;rfl) |skip
  all_goals first
   | (obtain⟨_,_,_,_,_,rfl⟩:=h;rfl)
   | (obtain⟨_,_,_,_,_,_,_,_,rfl,_⟩:=h;rfl)
   | (obtain⟨_,_,rfl,_⟩:=h;rfl)
   | (obtain⟨_,rfl,_⟩:=h;rfl)
   | (obtain⟨_,_,_,rfl⟩:=h;rfl)
   | (exact h.elim)
   |skip
end Go.Rv
set_option linter.unusedVariables false
set_option linter.unusedSimpArgs false
namespace Go.Rv
open Go.RowKit
variable {Dr:Kn}
variable {R:Type} {P:Program} {tbl:dX} {env:Env} {ob:List Ob} {o:Oper} {K:PV→List Ob→Option R} {r:R}
def QV(Dr:Kn)(P:Program)(ob:List Ob)(env:Env)(o:Oper)(pv:PV):Prop:=
 ∀ (X:Cx Dr) (N:Nat) (g:Gh) (w:World) (a:Act),aK X g ob w→dG N g ob.length X.I w env a→
  ∃ v,aj g ob.length X.I w pv v∧∀ w',Go.RowKit.Below w.heap.size w w'→(execOp a.eval o).run P w'= .ok (.value v) w'
theorem yc{w w':World}(h:Go.RowKit.Below w.heap.size w w'){a:Addr}{v:Value}(hc:w.cell? a=some v):w'.cell? a=some v:=by
 have hb:a.block<w.heap.size:=World.block_lt_of_cell? w a hc
 rw[MV (h.block _ hb)];exact hc
theorem Xi{x:Operand}(hop:o.op= .move x∨o.op= .assign x)(h:K (ev env x) ob=some r):∃ pv,K pv ob=some r∧QV Dr P ob env o pv:=
 ⟨_,h,fun X N g w a hs he=>⟨a.eval x,he.ev x,fun w' _=>by rcases hop with hop |hop <;>simp[execOp,hop]⟩⟩
theorem abV{x:Operand}(hop:o.op= .nilCheck x)(h:bP P tbl env ob o.op K=some r):∃ pv,K pv ob=some r∧QV Dr P ob env o pv:=by
 rw[hop]at h
 simp only[bP]at h
 have go:K (ev env x) ob=some r→(∀ g n I w u,aj g n I w (ev env x) u→(∃ a,u= .pointer (some a))∨∃ f us,u= .func (.func f) #[] us)→∃ pv,K pv ob=some r∧QV Dr P ob env o pv:=fun h1 h2=>by
  refine⟨_,h1,fun X N g w a hs he=>⟨a.eval x,he.ev x,fun w' _=> ?_⟩⟩
  rcases h2 _ _ _ _ _ (he.ev x)with ⟨ad,hu⟩ | ⟨f,us,hu⟩ <;>simp[execOp,hop,hu]
 split at h <;>try (simp at h;done)
 ·rename_i q i sz j hx
  refine go (by rw[hx];exact h) fun g n I w u hu=> ?_
  rw[hx]at hu
  simp only[aj]at hu
  exact Or.inl ⟨_,hu.2.2.2⟩
 ·rename_i e y j hx
  refine go (by rw[hx];exact h) fun g n I w u hu=> ?_
  rw[hx]at hu
  simp only[aj]at hu
  obtain⟨ad,hu,_⟩:=hu
  exact Or.inl ⟨_,hu⟩
 ·rename_i f cs hx
  refine go (by rw[hx];exact h) fun g n I w u hu=> ?_
  rw[hx]at hu
  simp only[aj]at hu
  obtain⟨us,hu,_⟩:=hu
  exact Or.inr ⟨_,_,hu⟩
theorem aeB{c x y:Operand}(hop:o.op= .pick c x y)(h:bP P tbl env ob o.op K=some r):∃ pv,K pv ob=some r∧QV Dr P ob env o pv:=by
 rw[hop]at h
 simp only[bP]at h
 split at h
 ·rename_i t ht
  cases t
  ·refine⟨_,h,fun X N g w a hs he=>⟨a.eval y,he.ev y,fun w' _=> ?_⟩⟩
   have:=he.ev c
   rw[ht]at this
   simp only[aj]at this
   simp[execOp,hop,this,asBool]
  ·refine⟨_,h,fun X N g w a hs he=>⟨a.eval x,he.ev x,fun w' _=> ?_⟩⟩
   have:=he.ev c
   rw[ht]at this
   simp only[aj]at this
   simp[execOp,hop,this,asBool]
 ·simp at h
theorem MJ{N:Nat}{g:Gh}{n:Nat}{I:Nat→Prop}{w:World}{a:Act}(he:dG N g n I w env a):∀ (xs:List Operand),ay g n I w (xs.map (ev env)) (xs.map a.eval)
 | []=>by simp[ay]
 |x::r=>by simp only[List.map_cons,ay];exact⟨_,_,rfl,he.ev x,MJ he r⟩
theorem abW{f:Fn}{first caps:Array Operand}(hop:o.op= .makeFunc f first caps)(h:bP P tbl env ob o.op K=some r):∃ pv,K pv ob=some r∧QV Dr P ob env o pv:=by
 rw[hop]at h
 cases f <;>simp only[bP]at h <;>try (simp at h;done)
 rename_i f
 split at h <;>try (simp at h;done)
 rename_i hf
 refine⟨_,h,fun X N g w a hs he=>⟨.func (.func f) #[] (caps.map a.eval), ?_,fun w' _=> ?_⟩⟩
 ·simp only[aj]
  exact⟨caps.toList.map a.eval,by rw[←Array.toList_map,Array.toArray_toList],MJ he _⟩
 ·have:first= #[]:=Array.eq_empty_of_size_eq_zero hf
  subst this
  simp[execOp,hop,Instr.makeFunc]
theorem acL{X:Cx Dr}{g:Gh}{w:World}(hs:aK X g ob w){q:Nat}{e:List CT}{xs:List (ah.V e)}(hq:ob[q]? =some (.arr e xs)){i:Nat}(hi:i<xs.length):
  bH X.I w e (xs.getD i (ah.zero e)) ⟨g.A q,i*e.length,none⟩:=by
 obtain⟨_,_,_,h | ⟨_,cap,us,t,_,_,_,_,_,h,_⟩⟩:=hs.arr q e xs hq
 ·rw[h.1]at hi;simp at hi
 ·exact h i _ (by simp[hi])
theorem Em{t:TypeId}{n:Nat}(hl:qU P t=some (false,n)){ad:Addr}{u:Value}{w:World}(hc:w.cell? ad=some u):(Instr.loadAt t (.pointer (some ad))).run P w= .ok u w:=by
 simp[Instr.loadAt,Instr.sureAddr,loadVar,(qJ hl w).1,hc]
theorem Ej{t:TypeId}{n:Nat}(hl:qU P t=some (true,n)){ad:Addr}{us:List Value}(hn:us.length=n){w:World}(hc:∀ i u,us[i]? =some u→w.cell? (ad.add i)=some u):
  (Instr.loadAt t (.pointer (some ad))).run P w= .ok (.agg us.toArray) w:=by
 subst hn
 simp[Instr.loadAt,Instr.sureAddr,loadVar,(qJ hl w).1,(qJ hl w).2,run_loadCells_list w ad us hc]
theorem AV{X:Cx Dr}{g:Gh}{w:World}{q:Nat}{us:List Value}{t:TypeId}(h:w.heap[g.A q]? =some (.cells (g.pre q++us++g.post q).toArray t (0,0))){j:Nat}{u:Value}(hu:us[j]? =some u):
  w.cell? ⟨g.A q,(g.pre q).length+j,none⟩=some u:=by
 have hj:j<us.length:=(List.getElem?_eq_some_iff.1 hu).1
 simp only[World.cell?, h]
 simp only[List.getElem?_toArray,List.append_assoc]
 rw[List.getElem?_append_right (by omega),Nat.add_sub_cancel_left,List.getElem?_append_left hj,hu]
 rfl
theorem Bo{X:Cx Dr}{N:Nat}{g:Gh}{w:World}{q i sz j:Nat}{u:Value}(hs:aK X g ob w){cells:List PV}(hq:ob[q]? =some (.box cells))(hi:i=0)(h:aj g ob.length X.I w (.ptr q i sz j) u):
  ∃ us t,u= .pointer (some ⟨g.A q,(g.pre q).length+j,none⟩)∧w.heap[g.A q]? =some (.cells (g.pre q++us++g.post q).toArray t (0,0))∧ay g ob.length X.I w cells us:=by
 subst hi
 simp only[aj]at h
 obtain⟨us,t,h1,h2,_⟩:=hs.box q cells hq
 exact⟨us,t,by simpa using h.2.2.2,h1,h2⟩
theorem aeC{t:TypeId}{x:Operand}(hop:o.op= .load t x)(h:bP P tbl env ob o.op K=some r):∃ pv,K pv ob=some r∧QV Dr P ob env o pv:=by
 rw[hop]at h
 simp only[bP]at h
 split at h
 ·rename_i agg n q i sz j hl hx
  split at h
  ·rename_i cells hq
   split at h <;>try (simp at h;done)
   rename_i hi
   have key:∀ (X:Cx Dr) (N:Nat) (g:Gh) (w:World) (a:Act),aK X g ob w→dG N g ob.length X.I w env a→
     ∃ us t,a.eval x= .pointer (some ⟨g.A q,(g.pre q).length+j,none⟩)∧w.heap[g.A q]? =some (.cells (g.pre q++us++g.post q).toArray t (0,0))∧ay g ob.length X.I w cells us:=fun X N g w a hs he=>by
    have:=he.ev x
    rw[hx]at this
    exact Bo (N:=N) hs hq hi this
   cases agg with
   |true=>
    simp only[if_true]at h
    split at h <;>try (simp at h;done)
    rename_i hb
    refine⟨_,h,fun X N g w a hs he=> ?_⟩
    obtain⟨us,t',h1,h2,h3⟩:=key X N g w a hs he
    have hlen:=jJ _ _ h3
    refine⟨.agg ((us.drop j).take n).toArray,by simp only[aj];exact⟨_,rfl,uV _ _ _ (uX _ _ _ h3)⟩,fun w' hw=> ?_⟩
    simp only[execOp,hop,h1]
    rw[Sem.run_bind,Ej hl (us:=(us.drop j).take n) (by simp;omega)]
    ·rfl
    ·intro i u hu
     refine yc hw ?_
     rw[dU]
     have hi:i<n:=by
      rcases Nat.lt_or_ge i n with h |h
      ·exact h
      ·rw[List.getElem?_eq_none (by simp;omega)]at hu;simp at hu
     rw[List.getElem?_take_of_lt hi,List.getElem?_drop]at hu
     rw[Nat.add_assoc]
     exact AV (X:=X) h2 hu
   |false=>
    simp only[Bool.false_eq_true,if_false]at h
    split at h <;>try (simp at h;done)
    rename_i hb
    refine⟨_,h,fun X N g w a hs he=> ?_⟩
    obtain⟨us,t',h1,h2,h3⟩:=key X N g w a hs he
    obtain⟨u,hu,hr⟩:=ve _ _ h3 j hb
    refine⟨u,hr,fun w' hw=> ?_⟩
    simp only[execOp,hop,h1]
    rw[Sem.run_bind,Em hl (u:=u)]
    ·rfl
    ·exact yc hw (AV (X:=X) h2 hu)
  ·rename_i e xs hq
   split at h
   ·rename_i vs hg
    have key:∀ (X:Cx Dr) (N:Nat) (g:Gh) (w:World) (a:Act),aK X g ob w→dG N g ob.length X.I w env a→
      ∃ us:List Value,us.length=n∧ay g ob.length X.I w vs us∧a.eval x= .pointer (some ⟨g.A q,i*e.length+j,none⟩)∧∀ k u,us[k]? =some u→w.cell? ⟨g.A q,i*e.length+j+k,none⟩=some u:=fun X N g w a hs he=>by
     have:=he.ev x
     rw[hx]at this
     simp only[aj]at this
     obtain⟨_,h2,h3,h4⟩:=this
     obtain⟨k1,k2,kp,_⟩:=hs.arr q e xs hq
     rw[k2]at h2
     rw[h3,k1,kp]at h4
     obtain⟨us,m1,m2,m3⟩:=EI e _ _ (acL hs hq h2) n j vs hg
     exact⟨us,m1,m2 _ _,by simpa using h4,fun k u hu=>by have:=m3 k u hu;rw[dU]at this;rw[show i*e.length+j+k=i*e.length+(j+k) by omega];exact this⟩
    cases agg with
    |true=>
     simp only[if_true]at h
     refine⟨_,h,fun X N g w a hs he=> ?_⟩
     obtain⟨us,m1,m2,m3,m4⟩:=key X N g w a hs he
     refine⟨.agg us.toArray,by simp only[aj];exact⟨_,rfl,m2⟩,fun w' hw=> ?_⟩
     simp only[execOp,hop,m3]
     rw[Sem.run_bind,Ej hl m1 (fun k u hu=>by rw[dU];exact yc hw (m4 k u hu))]
     rfl
    |false=>
     simp only[Bool.false_eq_true,if_false]at h
     split at h <;>try (simp at h;done)
     rename_i v
     refine⟨_,h,fun X N g w a hs he=> ?_⟩
     obtain⟨us,m1,m2,m3,m4⟩:=key X N g w a hs he
     simp only[ay]at m2
     obtain⟨u,t',rfl,hr,rfl⟩:=m2
     refine⟨u,hr,fun w' hw=> ?_⟩
     simp only[execOp,hop,m3]
     rw[Sem.run_bind,Em hl (u:=u) (yc hw (by simpa using m4 0 u rfl))]
     rfl
   ·simp at h
  ·simp at h
 ·rename_i agg n e y j hl hx
  split at h
  ·rename_i vs hg
   have key:∀ (X:Cx Dr) (N:Nat) (g:Gh) (w:World) (a:Act),aK X g ob w→dG N g ob.length X.I w env a→
     ∃ (us:List Value) (ad:Addr),us.length=n∧ay g ob.length X.I w vs us∧a.eval x= .pointer (some (ad.add j))∧∀ k u,us[k]? =some u→w.cell? ((ad.add j).add k)=some u:=fun X N g w a hs he=>by
    have:=he.ev x
    rw[hx]at this
    simp only[aj]at this
    obtain⟨ad,h1,_,h3⟩:=this
    obtain⟨us,m1,m2,m3⟩:=EI e _ _ h3 n j vs hg
    exact⟨us,ad,m1,m2 _ _,h1,fun k u hu=>by rw[lG];exact m3 k u hu⟩
   cases agg with
   |true=>
    simp only[if_true]at h
    refine⟨_,h,fun X N g w a hs he=> ?_⟩
    obtain⟨us,ad,m1,m2,m3,m4⟩:=key X N g w a hs he
    refine⟨.agg us.toArray,by simp only[aj];exact⟨_,rfl,m2⟩,fun w' hw=> ?_⟩
    simp only[execOp,hop,m3]
    rw[Sem.run_bind,Ej hl m1 (fun k u hu=>yc hw (m4 k u hu))]
    rfl
   |false=>
    simp only[Bool.false_eq_true,if_false]at h
    split at h <;>try (simp at h;done)
    rename_i v
    refine⟨_,h,fun X N g w a hs he=> ?_⟩
    obtain⟨us,ad,m1,m2,m3,m4⟩:=key X N g w a hs he
    simp only[ay]at m2
    obtain⟨u,t',rfl,hr,rfl⟩:=m2
    refine⟨u,hr,fun w' hw=> ?_⟩
    simp only[execOp,hop,m3]
    rw[Sem.run_bind,Em hl (u:=u) (yc hw (by simpa [Addr.add]using m4 0 u rfl))]
    rfl
  ·simp at h
 ·simp at h
end Go.Rv
set_option linter.unusedVariables false
set_option linter.unusedSimpArgs false
namespace Go.Rv
open Go.RowKit
variable {Dr:Kn}
variable {R:Type} {P:Program} {tbl:dX} {env:Env} {ob:List Ob} {o:Oper} {K:PV→List Ob→Option R} {r:R}
theorem VH{t:TypeId}{f off n:Nat}{agg:Bool}(h:Bh P t f=some (off,agg,n)):∃ fs fd,P.underlying t=some (.struct fs)∧fs[f]? =some fd∧fd.offset=off∧qU P fd.type=some (agg,n):=by
 unfold Bh at h
 split at h <;>try (simp at h;done)
 rename_i fs hu
 split at h <;>try (simp at h;done)
 rename_i fd hf
 split at h <;>try (simp at h;done)
 rename_i a m ha
 simp only[Option.some.injEq,Prod.mk.injEq]at h
 obtain⟨rfl,rfl,rfl⟩:=h
 exact⟨fs,fd,hu,hf,rfl,ha⟩
theorem TA{t:TypeId}{f off n:Nat}{agg:Bool}(h:Bh P t f=some (off,agg,n))(hn:n≠0)(ad:Addr)(w:World):(Instr.fieldAt t (.pointer (some ad)) f).run P w= .ok (.pointer (some (ad.add off))) w:=by
 obtain⟨fs,fd,h1,h2,rfl,h4⟩:=VH h
 simp[Instr.fieldAt,run_underlying h1,h2,Instr.sureAddr,fieldPlace,(qJ h4 w).2,hn]
theorem abJ{t:TypeId}{x:Operand}{f:Nat}(hop:o.op= .fieldAddr t x f)(h:bP P tbl env ob o.op K=some r):∃ pv,K pv ob=some r∧QV Dr P ob env o pv:=by
 rw[hop]at h
 simp only[bP]at h
 split at h
 ·rename_i off agg n q i sz j hf hx
  split at h <;>try (simp at h;done)
  rename_i hn
  refine⟨_,h,fun X N g w a hs he=> ?_⟩
  have:=he.ev x
  rw[hx]at this
  simp only[aj]at this
  obtain⟨h1,h2,h3,h4⟩:=this
  refine⟨.pointer (some ⟨g.A q,(g.pre q).length+(i*sz+(j+off)),none⟩),⟨h1,h2,h3,rfl⟩,fun w' hw=> ?_⟩
  simp only[execOp,hop,h4]
  rw[Sem.run_bind,TA hf hn,dU,Nat.add_assoc,Nat.add_assoc]
  rfl
 ·rename_i off agg n e y j hf hx
  split at h <;>try (simp at h;done)
  rename_i hn
  refine⟨_,h,fun X N g w a hs he=> ?_⟩
  have:=he.ev x
  rw[hx]at this
  simp only[aj]at this
  obtain⟨ad,h1,h2,h3⟩:=this
  refine⟨.pointer (some (ad.add (j+off))),by simp only[aj];exact⟨ad,rfl,h2,h3⟩,fun w' hw=> ?_⟩
  simp only[execOp,hop,h1]
  rw[Sem.run_bind,TA hf hn,lG]
  rfl
 ·simp at h
theorem adM{t:TypeId}{x:Operand}{f:Nat}(hop:o.op= .field t x f)(h:bP P tbl env ob o.op K=some r):∃ pv,K pv ob=some r∧QV Dr P ob env o pv:=by
 rw[hop]at h
 simp only[bP]at h
 split at h <;>try (simp at h;done)
 rename_i off agg n vs hf hx
 obtain⟨fs,fd,h1,h2,rfl,h4⟩:=VH hf
 have key:∀ (X:Cx Dr) (N:Nat) (g:Gh) (w:World) (a:Act),aK X g ob w→dG N g ob.length X.I w env a→
   ∃ us:List Value,a.eval x= .agg us.toArray∧ay g ob.length X.I w vs us:=fun X N g w a hs he=>by
  have:=he.ev x
  rw[hx]at this
  simpa only[aj]using this
 cases agg with
 |true=>
  simp only[if_true]at h
  refine⟨_,h,fun X N g w a hs he=> ?_⟩
  obtain⟨us,m1,m2⟩:=key X N g w a hs he
  refine⟨.agg ((us.drop fd.offset).take n).toArray,by simp only[aj];exact⟨_,rfl,uV _ _ _ (uX _ _ _ m2)⟩,fun w' hw=> ?_⟩
  simp only[execOp,hop,m1]
  simp[Instr.field,run_underlying h1,h2,part,asAgg,(qJ h4 w').1,(qJ h4 w').2,List.extract_eq_take_drop]
 |false=>
  simp only[Bool.false_eq_true,if_false]at h
  split at h <;>try (simp at h;done)
  rename_i hb
  refine⟨_,h,fun X N g w a hs he=> ?_⟩
  obtain⟨us,m1,m2⟩:=key X N g w a hs he
  obtain⟨u,hu,hr⟩:=ve _ _ m2 fd.offset hb
  refine⟨u,hr,fun w' hw=> ?_⟩
  simp only[execOp,hop,m1]
  simp[Instr.field,run_underlying h1,h2,part,asAgg,(qJ h4 w').1,hu]
theorem WR{t e:TypeId}{cs:List CT}(h:rZ P t=some (e,cs)):P.underlying t=some (.slice e)∧P.cellsOf e=cs.length:=by
 unfold rZ at h
 split at h <;>try (simp at h;done)
 rename_i e' hu
 split at h <;>try (simp at h;done)
 split at h <;>simp at h
 rename_i hc
 obtain⟨rfl,rfl⟩:=h
 exact⟨hu,hc⟩
theorem run_indexAt{t e:TypeId}{cs:List CT}(h:rZ P t=some (e,cs))(hi:(P.info? e).isSome=true)(ad:Addr)(n c:Nat)(k:IntKind)(i:Int)(h0:0≤i)(h1:i<n)(w:World):
  (Instr.indexAt t (.slice (some ad) n c) (.int k i)).run P w= .ok (.pointer (some (ad.add (i.toNat*cs.length)))) w:=by
 obtain⟨hu,hc⟩:=WR h
 obtain⟨inf,hinf⟩:=Option.isSome_iff_exists.1 hi
 have hs:(sizeOf e).run P w= .ok cs.length w:=by
  unfold Program.cellsOf at hc
  simp[hinf]at hc
  simp[sizeOf,typeInfo,hinf,hc]
 have h2:0≤i∧i<(n:Int):=⟨h0,h1⟩
 simp[Instr.indexAt,asIntOf,run_underlying hu,h2,hs]
theorem abI{t:TypeId}{x ix:Operand}(hop:o.op= .indexAddr t x ix)(h:bP P tbl env ob o.op K=some r):∃ pv,K pv ob=some r∧QV Dr P ob env o pv:=by
 rw[hop]at h
 simp only[bP]at h
 split at h <;>try (simp at h;done)
 rename_i et cs k i he0 hix
 split at h <;>try (simp at h;done)
 rename_i hinf
 have imm:∀ (e:List CT) (xs:List (ah.V e)),ah.beq e cs=true→0≤i∧i<(xs.length:Int)→K (.eptr e (xs.getD i.toNat (ah.zero e)) 0) ob=some r→
   (∀ (X:Cx Dr) (g:Gh) (w:World) (u:Value),aK X g ob w→aj g ob.length X.I w (ev env x) u→aZ X.I w (.sl e) xs u)→∃ pv,K pv ob=some r∧QV Dr P ob env o pv:=by
  intro e xs hcs hi hK hrep
  obtain rfl:=ah.eq_of_beq hcs
  refine⟨_,hK,fun X N g w a hs he=> ?_⟩
  have h1:=hrep X g w _ hs (he.ev x)
  have h2:=he.ev ix
  rw[hix]at h2
  simp only[aj,aZ]at h1 h2
  obtain⟨ad,cap,h1,hc,h3⟩:=h1
  rcases h3 with h3 | ⟨ad,rfl,hI,h3⟩
  ·have:xs.length=0:=h3
   omega
  ·refine⟨.pointer (some (ad.add (i.toNat*e.length))), ?_,fun w' hw=> ?_⟩
   ·simp only[aj]
    refine⟨ad.add (i.toNat*e.length),by simp[Addr.add],by rw[ru];exact hI, ?_⟩
    refine h3 i.toNat _ ?_
    have:i.toNat<xs.length:=by omega
    show xs[i.toNat]? =_
    simp[this]
   ·simp only[execOp,hop,h1,h2]
    rw[Sem.run_bind,run_indexAt he0 hinf ad _ _ k i hi.1 hi.2]
    rfl
 split at h
 ·rename_i e xs hx
  split at h <;>try (simp at h;done)
  rename_i hcs
  split at h <;>try (simp at h;done)
  rename_i hi
  exact imm e xs hcs hi h fun X g w u hs hu=>by rw[hx]at hu;simpa only[aj]using hu
 ·rename_i e xs hx
  split at h <;>try (simp at h;done)
  rename_i hcs
  split at h <;>try (simp at h;done)
  rename_i hi
  exact imm e xs hcs hi h fun X g w u hs hu=>by
   rw[hx]at hu
   simp only[aj]at hu
   exact aZ.keep hs.jI (fun _ _=>rfl) (.sl e) xs u hu
 ·rename_i q hx
  split at h <;>try (simp at h;done)
  rename_i e xs hq
  split at h <;>try (simp at h;done)
  rename_i hcs
  obtain rfl:=ah.eq_of_beq hcs
  split at h <;>try (simp at h;done)
  rename_i hi
  refine⟨_,h,fun X N g w a hs he=> ?_⟩
  have h1:=he.ev x
  have h2:=he.ev ix
  rw[hx]at h1
  rw[hix]at h2
  simp only[aj]at h1 h2
  obtain⟨hqn,h1,_⟩:=h1
  obtain⟨k1,k2,kp,h3⟩:=hs.arr q e xs hq
  rcases h3 with h3 | ⟨_,cap,us,t',h3,hc,_⟩
  ·rw[h3.1]at hi
   simp at hi
   omega
  ·rw[h3]at h1
   refine⟨.pointer (some ⟨g.A q,i.toNat*e.length,none⟩), ?_,fun w' hw=> ?_⟩
   ·simp only[aj]
    exact⟨hqn,by rw[k2];omega,k1.symm,by rw[kp];simp⟩
   ·simp only[execOp,hop,h1,h2]
    rw[Sem.run_bind,run_indexAt he0 hinf _ _ _ k i hi.1 hi.2,dU]
    simp
 ·rename_i q sz off len hx
  split at h <;>try (simp at h;done)
  rename_i e xs hq
  split at h <;>try (simp at h;done)
  rename_i hcs
  obtain rfl:=ah.eq_of_beq hcs
  split at h <;>try (simp at h;done)
  rename_i hol
  split at h <;>try (simp at h;done)
  rename_i hi
  refine⟨_,h,fun X N g w a hs he=> ?_⟩
  have h1:=he.ev x
  have h2:=he.ev ix
  rw[hx]at h1
  rw[hix]at h2
  simp only[aj]at h1 h2
  obtain⟨hqn,hsz,aq,l,c,a',c',hH,h1,hlc,h4⟩:=h1
  obtain⟨k1,k2,kp,h3⟩:=hs.arr q e xs hq
  rcases h3 with h3 | ⟨_,cap,us,t',h3,hc,_⟩
  ·rw[h3.1]at hol
   simp at hol
   omega
  ·rw[h3]at hH
   simp only[Value.slice.injEq]at hH
   obtain⟨rfl,_,_⟩:=hH
   rcases h4 with h4 | ⟨ad,had,ha'⟩
   ·omega
   ·simp only[Option.some.injEq]at had
    subst had
    subst ha'
    refine⟨.pointer (some ⟨g.A q,(off+i.toNat)*e.length,none⟩), ?_,fun w' hw=> ?_⟩
    ·simp only[aj]
     exact⟨hqn,by rw[k2];omega,k1.symm,by rw[kp];simp⟩
    ·simp only[execOp,hop,h1,h2]
     rw[Sem.run_bind,run_indexAt he0 hinf _ _ _ k i hi.1 hi.2,dU,dU,hsz,k1]
     simp[Nat.add_mul]
 ·simp at h
theorem adL{t:TypeId}{x ix:Operand}(hop:o.op= .index t x ix)(h:bP P tbl env ob o.op K=some r):∃ pv,K pv ob=some r∧QV Dr P ob env o pv:=by
 rw[hop]at h
 simp only[bP]at h
 split at h <;>try (simp at h;done)
 rename_i s k i hu hx hix
 split at h <;>try (simp at h;done)
 rename_i hi
 refine⟨_,h,fun X N g w a hs he=> ?_⟩
 have h1:=he.ev x
 have h2:=he.ev ix
 rw[hx]at h1
 rw[hix]at h2
 simp only[aj]at h1 h2
 refine⟨.int .u8 ((s.get! i.toNat).toNat),rfl,fun w' hw=> ?_⟩
 simp only[execOp,hop,h1,h2]
 have h3:i.toNat<s.size:=by omega
 have h4:s[i.toNat]? =some (s.get! i.toNat):=by
  rw[getElem?_pos s i.toNat h3]
  have h5:i.toNat<s.data.size:=h3
  simp only[ByteArray.get!, getElem!_pos s.data i.toNat h5]
  rfl
 simp[Instr.index,asIntOf,run_underlying hu,hi.1,h4]
theorem aeA{op:UnOp}{t:TypeId}{x:Operand}(hop:o.op= .unOp op t x)(h:bP P tbl env ob o.op K=some r):∃ pv,K pv ob=some r∧QV Dr P ob env o pv:=by
 rw[hop]at h
 cases op <;>simp only[bP]at h
 all_goals try (simp at h;done)
 ·split at h <;>try (simp at h;done)
  rename_i k n hx
  refine⟨_,h,fun X N g w a hs he=> ?_⟩
  have h1:=he.ev x
  rw[hx]at h1
  simp only[aj]at h1
  refine⟨.int k (k.wrap (0 - n)),rfl,fun w' hw=> ?_⟩
  simp only[execOp,hop,h1]
  simp[Op.unary,Op.intArith]
 ·split at h <;>try (simp at h;done)
  rename_i b hx
  refine⟨_,h,fun X N g w a hs he=> ?_⟩
  have h1:=he.ev x
  rw[hx]at h1
  simp only[aj]at h1
  refine⟨.bool !b,rfl,fun w' hw=> ?_⟩
  simp only[execOp,hop,h1]
  simp[Op.unary]
theorem ac2{I:Nat→Prop}{w:World}:∀ (xs:List (Int×Unit)) (a:Addr),(∀ i x,xs[i]? =some x→bH I w [.int .u8] x (a.add (i*1)))→∀ i u,(xs.map fun x=>Value.int .u8 x.1)[i]? =some u→w.cell? (a.add i)=some u:=by
 intro xs a h i u hu
 rw[List.getElem?_map,Option.map_eq_some_iff]at hu
 obtain⟨x,hx,rfl⟩:=hu
 have:=h i x hx
 simp only[bH,aZ,Nat.mul_one]at this
 obtain⟨⟨u,hu,rfl⟩,_⟩:=this
 exact hu
theorem EF{e' e:List CT}{xs:List (ah.V e')}{ys:List (ah.V e)}(h:fH e' e xs=some ys):∃ he:e'=e,ys=he▸xs:=by
 unfold fH at h
 split at h
 ·rename_i hb
  exact⟨ah.eq_of_beq hb,(Option.some.inj h).symm⟩
 ·cases h
theorem pU{e' e:List CT}{xs:List (ah.V e')}{ys:List (ah.V e)}(h:fH e' e xs=some ys)(M:(e:List CT)→List (ah.V e)→Prop)(hm:M e' xs):M e ys:=by
 obtain⟨he,hy⟩:=EF h
 subst he
 subst hy
 exact hm
def mQ(I:Nat→Prop)(w:World)(e:List CT)(ys:List (ah.V e))(u:Value):Prop:=
 ∃ a cap,u= .slice a ys.length cap∧ys.length≤cap∧(ys.length=0∨∃ ad,a=some ad∧∀ i x,ys[i]? =some x→bH I w e x (ad.add (i*e.length)))
theorem Nh{I:Nat→Prop}{w:World}{e:List CT}(a:Option Addr):mQ I w e [] (.slice a 0 0):=⟨a,0,rfl,Nat.le_refl _,Or.inl rfl⟩
theorem Vh{I:Nat→Prop}{w:World}{e:List CT}{ys:List (ah.V e)}{u:Value}(h:aZ I w (.sl e) ys u):mQ I w e ys u:=by
 simp only[aZ]at h
 obtain⟨a,cap,k1,k2,k3⟩:=h
 refine⟨a,cap,k1,k2, ?_⟩
 rcases k3 with k3 | ⟨ad,k4,_,k5⟩
 ·exact Or.inl k3
 ·exact Or.inr ⟨ad,k4,k5⟩
theorem Nc{X:Cx Dr}{g:Gh}{w:World}(s:aK X g ob w){q:Nat}{e:List CT}{xs:List (ah.V e)}(hq:ob[q]? =some (.arr e xs)):mQ X.I w e xs (g.H q):=by
 obtain⟨k1,k2,kp,h3⟩:=s.arr q e xs hq
 rcases h3 with h3 | ⟨_,cap,us,t',h3,hc,_,h5,h6,h7,_⟩
 ·obtain⟨a,ha⟩:=h3.2
  rw[ha,h3.1]
  exact Nh a
 ·rw[h3]
  exact⟨_,cap,rfl,hc,Or.inr ⟨_,rfl,fun i x hx=>by rw[dU,Nat.zero_add];exact h7 i x hx⟩⟩
theorem acX{X:Cx Dr}{g:Gh}{w:World}(s:aK X g ob w){q sz off len:Nat}{e:List CT}{xs:List (ah.V e)}{u:Value}(hq:ob[q]? =some (.arr e xs))(hol:off+len≤xs.length)
  (hr:aj g ob.length X.I w (.ref q sz off len) u):mQ X.I w e ((xs.drop off).take len) u:=by
 simp only[aj]at hr
 obtain⟨_,hsz,aq,l,c,a',c',hH,h1,hlc,h4,_⟩:=hr
 obtain⟨k1,k2,kp,h3⟩:=s.arr q e xs hq
 have hlen:((xs.drop off).take len).length=len:=by simp;omega
 refine⟨a',c',by rw[h1,hlen],by rw[hlen];exact hlc, ?_⟩
 rw[hlen]
 rcases h4 with h4 | ⟨ad,had,ha'⟩
 ·exact Or.inl h4
 ·by_cases h0:len=0
  ·exact Or.inl h0
  right
  refine⟨_,ha',fun i x hx=> ?_⟩
  rcases h3 with h3 | ⟨_,cap,us,t',h3,hc,_,h5,h6,h7,_⟩
  ·have:xs.length=0:=by rw[h3.1];rfl
   omega
  ·rw[h3]at hH
   simp only[Value.slice.injEq]at hH
   have had':ad=⟨g.A q,0,none⟩:=by rw[had]at hH;exact(Option.some.inj hH.1).symm
   subst had'
   have hi:i<len:=by have:=(List.getElem?_eq_some_iff.1 hx).1;omega
   rw[List.getElem?_take_of_lt hi,List.getElem?_drop]at hx
   rw[dU,dU,hsz,k1,Nat.zero_add, ←Nat.add_mul]
   exact h7 _ x hx
theorem AY{X:Cx Dr}{g:Gh}{w:World}(s:aK X g ob w){e:List CT}{v:PV}{ys:List (ah.V e)}{u:Value}(h:BK ob e v=some ys)(hr:aj g ob.length X.I w v u):mQ X.I w e ys u:=by
 cases v with
 |sl e1 xs=>
  have h':fH e1 e xs=some ys:=h
  exact pU h' (fun e ys=>mQ X.I w e ys u) (Vh (by simpa only[aj]using hr))
 |sh e1 xs=>
  have h':fH e1 e xs=some ys:=h
  simp only[aj]at hr
  exact pU h' (fun e ys=>mQ X.I w e ys u) (Vh (aZ.keep s.jI (fun _ _=>rfl) (.sl e1) xs u hr))
 |own q=>
  have h':(match ob[q]? with |some (.arr e' xs)=>fH e' e xs |_=>none)=some ys:=h
  clear h
  split at h'
  ·rename_i e' xs hq
   simp only[aj]at hr
   rw[hr.2.1]
   exact pU h' (fun e ys=>mQ X.I w e ys (g.H q)) (Nc s hq)
  ·cases h'
 |ref q sz off len=>
  have h':(match ob[q]? with |some (.arr e' xs)=>if off+len≤xs.length then fH e' e ((xs.drop off).take len)else none |_=>none)=some ys:=h
  clear h
  split at h'
  ·rename_i e' xs hq
   split at h'
   ·rename_i hol
    exact pU h' (fun e ys=>mQ X.I w e ys u) (acX s hq hol hr)
   ·cases h'
  ·cases h'
 |nils=>
  have h':some ([]:List (ah.V e))=some ys:=h
  obtain rfl:=Option.some.inj h'
  simp only[aj]at hr
  rw[hr]
  exact Nh _
 |emp=>
  have h':some ([]:List (ah.V e))=some ys:=h
  obtain rfl:=Option.some.inj h'
  simp only[aj]at hr
  obtain⟨a,hr⟩:=hr
  rw[hr]
  exact Nh _
 |_=>cases h
theorem bH.up{X:Cx Dr}{g:Gh}{w w':World}(s:aK X g ob w)(hw:Go.RowKit.Below w.heap.size w w'){e:List CT}{x:ah.V e}{a:Addr}(h:bH X.I w e x a):bH X.I w' e x a:=by
 cases e with
 |nil=>simp[bH]
 |cons c cs=>
  have hb:a.block<w.heap.size:=by
   simp only[bH]at h
   obtain⟨⟨u,hu,_⟩,_⟩:=h
   exact World.block_lt_of_cell? w a hu
  exact bH.keep (fun _ h=>h) (fun b hb=>hw.block b (s.bnd b hb)) _ x a (hw.block _ hb) h
theorem aco{s d:TypeId}{x:Operand}(hop:o.op= .convert s d x)(h:bP P tbl env ob o.op K=some r):∃ pv,K pv ob=some r∧QV Dr P ob env o pv:=by
 rw[hop]at h
 simp only[bP]at h
 split at h
 ·rename_i ds k hds hd
  split at h <;>try (simp at h;done)
  rename_i k' n hx
  refine⟨_,h,fun X N g w a hs he=> ?_⟩
  have h1:=he.ev x
  rw[hx]at h1
  simp only[aj]at h1
  refine⟨.int k (k.wrap n),rfl,fun w' hw=> ?_⟩
  simp only[execOp,hop,h1]
  simp[convert,run_underlying hd,run_underlying hds,Conv.intToInt]
 ·rename_i e hsrc hd
  split at h <;>try (simp at h;done)
  rename_i xs he0 hxs
  refine⟨_,h,fun X N g w a hs he=> ?_⟩
  obtain⟨ad,cap,hu,_,hc⟩:=AY hs hxs (he.ev x)
  refine⟨.string (bytesOf xs),rfl,fun w' hw=> ?_⟩
  simp only[execOp,hop,hu]
  rw[Sem.run_bind,run_convert_bytes_string w' s d e ad _ cap hsrc he0 hd]
  by_cases h0:xs.length=0
  ·have hx0:xs=[]:=List.eq_nil_of_length_eq_zero h0
   subst hx0
   cases ad with
   |none=>simp[Conv.bytesToString,bytesOf];rfl
   |some ad=>
    rw[run_bytesToString (P:=P) w' ad ([]:List (ah.V [CT.int .u8])).length cap [] (by simp[loadCells,loadCellsFrom])]
    rfl
  ·rcases hc with hc | ⟨ad',rfl,hc⟩
   ·exact absurd hc h0
   ·have hl:(loadCells ad' xs.length).run P w'= .ok ((xs.map fun x:Int×Unit=>x.1).map (Value.int .u8)).toArray w':=by
     have:=run_loadCells_list (P:=P) w' ad' ((xs.map fun x:Int×Unit=>Value.int .u8 x.1)) (ac2 xs ad' fun i x hx=>by
      exact bH.up hs hw (hc i x hx))
     have hlm:(List.map (fun x:Int×Unit=>Value.int .u8 x.1) xs).length=xs.length:=List.length_map _
     rw[hlm]at this
     rw[this]
     congr 2
     exact(List.map_map).symm
    rw[run_bytesToString (P:=P) w' ad' xs.length cap _ hl]
    simp only[Result.andThen_ok,Sem.run_pure]
    congr 3
    exact List.foldl_map
 ·rename_i hsrc hd
  split at h <;>try (simp at h;done)
  rename_i b hx
  refine⟨_,h,fun X N g w a hs he=> ?_⟩
  have h1:=he.ev x
  rw[hx]at h1
  simp only[aj]at h1
  refine⟨.string b,rfl,fun w' hw=> ?_⟩
  simp only[execOp,hop,h1]
  simp[convert,run_underlying hd,run_underlying hsrc]
 ·simp at h
theorem Oy{g:Gh}{n:Nat}{I:Nat→Prop}{w0:World}(d:Nat){as bs:List PV}{us vs:List Value}(ha:ay g n I w0 as us)(hb:ay g n I w0 bs vs):∀ (fs:List Field) (q:Bool),tV P as bs fs=some q→∀ w,(Op.eqFields (d+1) us.toArray vs.toArray fs).run P w= .ok q w
 | [],q,h,w=>by
  simp only[tV,Option.some.injEq]at h
  subst h
  simp[Op.eqFields]
 |f::r,q,h,w=>by
  simp only[tV]at h
  split at h <;>try (simp at h;done)
  rename_i hn
  have get:∀ {zs:List PV} {ws:List Value} {p:PV},ay g n I w0 zs ws→zs.getD f.offset .undef=p→p≠ .undef→∃ u,ws[f.offset]? =some u∧aj g n I w0 p u:=fun {zs ws p} hz hp hne=>by
   have hlt:f.offset<zs.length:=by
    rcases Nat.lt_or_ge f.offset zs.length with h |h
    ·exact h
    ·exfalso
     rw[List.getD_eq_getElem?_getD,List.getElem?_eq_none h]at hp
     exact hne hp.symm
   obtain⟨u,h1,h2⟩:=ve _ _ hz f.offset hlt
   exact⟨u,h1,by rw[←hp];exact h2⟩
  have step:∀ {x y:Value} {b q':Bool},us[f.offset]? =some x→vs[f.offset]? =some y→(∀ w,(isAgg f.type).run P w= .ok false w)→(∀ w,(Op.equalIn (d+1) f.type x y).run P w= .ok b w)→tV P as bs r=some q'→(b&&q')=q→
    (Op.eqFields (d+1) us.toArray vs.toArray (f::r)).run P w= .ok q w:=by
   intro x y b q' h1 h2 h3 h4 h5 h6
   have ih:=Oy d ha hb r q' h5 w
   simp only[Op.eqFields]
   rw[Sem.run_ite,if_pos hn]
   simp only[part,Sem.run_bind,h3,Result.andThen_ok,h4]
   simp[h1,h2,h4]
   cases b <;>simp_all
  split at h <;>try (simp at h;done)
  ·rename_i k k1 x k2 y hu hx hy
   split at h <;>try (simp at h;done)
   rename_i hk
   subst hk
   obtain⟨q',h5,h6⟩:=Option.map_eq_some_iff.1 h
   obtain⟨u,hu1,hu2⟩:=get ha hx (by simp)
   obtain⟨v,hv1,hv2⟩:=get hb hy (by simp)
   simp only[aj]at hu2 hv2
   subst hu2;subst hv2
   exact step hu1 hv1 (fun w=>by simp[isAgg,run_underlying hu]) (fun w=>run_equalIn_int w d _ _ _ _ _ hu) h5 h6
  ·rename_i x y hu hx hy
   obtain⟨q',h5,h6⟩:=Option.map_eq_some_iff.1 h
   obtain⟨u,hu1,hu2⟩:=get ha hx (by simp)
   obtain⟨v,hv1,hv2⟩:=get hb hy (by simp)
   simp only[aj]at hu2 hv2
   subst hu2;subst hv2
   exact step hu1 hv1 (fun w=>by simp[isAgg,run_underlying hu]) (fun w=>run_equalIn_bool' w d _ _ _ hu) h5 h6
  ·rename_i x y hu hx hy
   obtain⟨q',h5,h6⟩:=Option.map_eq_some_iff.1 h
   obtain⟨u,hu1,hu2⟩:=get ha hx (by simp)
   obtain⟨v,hv1,hv2⟩:=get hb hy (by simp)
   simp only[aj]at hu2 hv2
   subst hu2;subst hv2
   exact step hu1 hv1 (fun w=>by simp[isAgg,run_underlying hu]) (fun w=>run_equalIn_string w d _ _ _ hu) h5 h6
theorem acn{x:Operand}{ix:Nat}(hop:o.op= .extract x ix)(h:bP P tbl env ob o.op K=some r):∃ pv,K pv ob=some r∧QV Dr P ob env o pv:=by
 rw[hop]at h
 simp only[bP]at h
 split at h <;>try (simp at h;done)
 rename_i vs hx
 split at h <;>try (simp at h;done)
 rename_i hb
 refine⟨_,h,fun X N g w a hs he=> ?_⟩
 have h1:=he.ev x
 rw[hx]at h1
 simp only[aj]at h1
 obtain⟨us,h1,h2⟩:=h1
 obtain⟨u,hu,hr⟩:=ve _ _ h2 ix hb
 refine⟨u,hr,fun w' hw=> ?_⟩
 simp only[execOp,hop,h1]
 simp[Instr.extract,hu]
theorem abE{t:TypeId}(hu:P.underlying t=some .bool)(a b:Bool)(w:World)(d:Nat):(Op.equalIn (d+1) t (.bool a) (.bool b)).run P w= .ok (a==b) w:=by
 simp[Op.equalIn,run_underlying hu]
theorem TW{t:TypeId}(hu:P.underlying t=some .bool)(a b:Bool)(w:World):(Op.equal t (.bool a) (.bool b)).run P w= .ok (a==b) w:=abE hu a b w 9999
theorem abT{t et:TypeId}(hu:P.underlying t=some (.slice et))(ad:Option Addr)(n c:Nat)(w:World)(d:Nat):(Op.equalIn (d+1) t (.slice ad n c) (.slice none 0 0)).run P w= .ok ad.isNone w:=by
 cases ad <;>simp[Op.equalIn,run_underlying hu]
theorem adO{op:BinOp}{t t':TypeId}{x y:Operand}(hop:o.op= .binOp op t x y t')(h:bP P tbl env ob o.op K=some r):∃ pv,K pv ob=some r∧QV Dr P ob env o pv:=by
 rw[hop]at h
 simp only[bP]at h
 have main:∀ (k:BinOp→PV→PV→(PV→Option R)→Option R),k=O1→k op (ev env x) (ev env y) (fun v=>K v ob)=some r→∃ pv,K pv ob=some r∧QV Dr P ob env o pv:=by
  rintro _ rfl h
  unfold O1 at h
  split at h
  ·rename_i k a k' b hx hy
   split at h
   ·rename_i hsh
    unfold V6 at h
    have go:∀ (pv:PV) (v:Value),K pv ob=some r→(∀ g n I w,aj g n I w pv v)→(∀ w',(do eqGuard op t x y (.int k a) (.int k' b);binOp op t (.int k a) (.int k' b):Sem Value).run P w'= .ok v w')→∃ pv,K pv ob=some r∧QV Dr P ob env o pv:=fun pv v h1 h2 h3=>by
     refine⟨pv,h1,fun X N g w a' hs he=>⟨v,h2 _ _ _ _,fun w' hw=> ?_⟩⟩
     have e1:=he.ev x
     have e2:=he.ev y
     rw[hx]at e1
     rw[hy]at e2
     simp only[aj]at e1 e2
     simp only[execOp,hop,e1,e2]
     rw[Sem.run_bind,h3 w']
     rfl
    split at h
    ·split at h <;>try (simp at h;done)
     rename_i hb
     exact go _ _ h (fun _ _ _ _=>rfl) (fun w'=>by simp[eqGuard,binOp,Op.shift,hb])
    ·split at h <;>try (simp at h;done)
     rename_i hb
     exact go _ _ h (fun _ _ _ _=>rfl) (fun w'=>by simp[eqGuard,binOp,Op.shift,hb])
    ·simp at h
   split at h <;>try (simp at h;done)
   rename_i hk
   subst hk
   unfold XK at h
   have go:∀ (pv:PV) (v:Value),K pv ob=some r→(∀ g n I w,aj g n I w pv v)→(∀ w',(do eqGuard op t x y (.int k a) (.int k b);binOp op t (.int k a) (.int k b):Sem Value).run P w'= .ok v w')→∃ pv,K pv ob=some r∧QV Dr P ob env o pv:=fun pv v h1 h2 h3=>by
    refine⟨pv,h1,fun X N g w a' hs he=>⟨v,h2 _ _ _ _,fun w' hw=> ?_⟩⟩
    have e1:=he.ev x
    have e2:=he.ev y
    rw[hx]at e1
    rw[hy]at e2
    simp only[aj]at e1 e2
    simp only[execOp,hop,e1,e2]
    rw[Sem.run_bind,h3 w']
    rfl
   split at h <;>first
    | (split at h <;>try (simp at h;done))
    |skip
   all_goals first
    |exact go _ _ h (fun _ _ _ _=>rfl) (fun w'=>by simp[eqGuard,binOp,Op.intArith,Op.intCmp,Op.intDiv,Op.intBits] <;>simp[*, Op.intDiv])
    | (simp at h;done)
  ·rename_i a b hx hy
   unfold XC at h
   have go:∀ (pv:PV) (v:Value),K pv ob=some r→(∀ g n I w,aj g n I w pv v)→(∀ w',(do eqGuard op t x y (.string a) (.string b);binOp op t (.string a) (.string b):Sem Value).run P w'= .ok v w')→∃ pv,K pv ob=some r∧QV Dr P ob env o pv:=fun pv v h1 h2 h3=>by
    refine⟨pv,h1,fun X N g w a' hs he=>⟨v,h2 _ _ _ _,fun w' hw=> ?_⟩⟩
    have e1:=he.ev x
    have e2:=he.ev y
    rw[hx]at e1
    rw[hy]at e2
    simp only[aj]at e1 e2
    simp only[execOp,hop,e1,e2]
    rw[Sem.run_bind,h3 w']
    rfl
   split at h
   ·split at h <;>try (simp at h;done)
    rename_i hb
    refine go _ _ h (fun _ _ _ _=>rfl) (fun w'=> ?_)
    have hb':¬ ((a.size+b.size:Nat):Int)>IntKind.i64.max:=by
     have:IntKind.i64.max=9223372036854775807:=by decide
     rw[this];omega
    simp only[eqGuard,binOp,Op.stringOp]
    simp[hb']
    omega
   ·exact go _ _ h (fun _ _ _ _=>rfl) (fun w'=>by simp[eqGuard,binOp,Op.stringOp])
   ·exact go _ _ h (fun _ _ _ _=>rfl) (fun w'=>by simp[eqGuard,binOp,Op.stringOp])
   ·simp at h
  ·simp at h
 split at h
 ·exact main _ rfl h
 ·exact main _ rfl h
 ·rename_i hu
  split at h <;>try (simp at h;done)
  ·rename_i a b hx hy
   refine⟨_,h,fun X N g w a' hs he=>⟨.bool (a==b),rfl,fun w' hw=> ?_⟩⟩
   have e1:=he.ev x
   have e2:=he.ev y
   rw[hx]at e1
   rw[hy]at e2
   simp only[aj]at e1 e2
   simp only[execOp,hop,e1,e2]
   rw[show binOp .eql t (.bool a) (.bool b)=(do pure (.bool (←Op.equal t (.bool a) (.bool b))))from rfl]
   simp[eqGuard,TW hu]
  ·rename_i a b hx hy
   refine⟨_,h,fun X N g w a' hs he=>⟨.bool (!(a==b)),rfl,fun w' hw=> ?_⟩⟩
   have e1:=he.ev x
   have e2:=he.ev y
   rw[hx]at e1
   rw[hy]at e2
   simp only[aj]at e1 e2
   simp only[execOp,hop,e1,e2]
   rw[show binOp .neq t (.bool a) (.bool b)=(do pure (.bool (!(←Op.equal t (.bool a) (.bool b)))))from rfl]
   simp[eqGuard,TW hu]
 ·rename_i et hu
  split at h <;>try (simp at h;done)
  rename_i e xs hx hy
  have go:∀ (X:Cx Dr) (N:Nat) (g:Gh) (w:World) (a:Act),aK X g ob w→dG N g ob.length X.I w env a→∃ ad cap,a.eval x= .slice ad xs.length cap∧(xs.length=0∨ad.isNone=false)∧∀ w',(execOp a.eval o).run P w'= .ok (.value (.bool ad.isNone)) w':=by
   intro X N g w a hs he
   have e1:=he.ev x
   have e2:=he.ev y
   rw[hx]at e1
   rw[hy]at e2
   simp only[aj,aZ]at e1 e2
   obtain⟨ad,cap,e1,_,h3⟩:=e1
   refine⟨ad,cap,e1, ?_,fun w'=> ?_⟩
   ·rcases h3 with h3 | ⟨ad',h3,_⟩
    ·exact Or.inl h3
    ·right;rw[h3];rfl
   ·simp only[execOp,hop,e1,e2]
    rw[show binOp .eql t (.slice ad xs.length cap) (.slice none 0 0)=(do pure (.bool (←Op.equal t (.slice ad xs.length cap) (.slice none 0 0))))from rfl]
    have hq:(Op.equal t (.slice ad xs.length cap) (.slice none 0 0)).run P w'= .ok ad.isNone w':=abT hu ad _ _ w' 9999
    simp[eqGuard,hq]
  split at h
  ·exact⟨_,h,fun X N g w a hs he=>by
    obtain⟨ad,cap,_,_,hr⟩:=go X N g w a hs he
    exact⟨_,⟨_,rfl⟩,fun w' _=>hr w'⟩⟩
  ·rename_i h0
   exact⟨_,h,fun X N g w a hs he=>by
    obtain⟨ad,cap,_,h1,hr⟩:=go X N g w a hs he
    have h1:ad.isNone=false:=by rcases h1 with h1 |h1;exact absurd h1 h0;exact h1
    rw[h1]at hr
    exact⟨_,rfl,fun w' _=>hr w'⟩⟩
 ·rename_i fs hu
  split at h <;>try (simp at h;done)
  rename_i as bs hx hy
  split at h <;>try (simp at h;done)
  rename_i hok
  obtain⟨hok1,hok2⟩:=hok
  split at h <;>try (simp at h;done)
  rename_i q hq
  have hfs:P.underlying t=some (.struct (P.fieldsOf t)):=by simp[Program.fieldsOf,hu]
  split at h <;>try (simp at h;done)
  ·refine⟨_,h,fun X N g w a' hs he=> ?_⟩
   have e1:=he.ev x
   have e2:=he.ev y
   rw[hx]at e1
   rw[hy]at e2
   simp only[aj]at e1 e2
   obtain⟨us,e1,r1⟩:=e1
   obtain⟨vs,e2,r2⟩:=e2
   refine⟨.bool q,rfl,fun w' hw=> ?_⟩
   simp only[execOp,hop,e1,e2]
   rw[Sem.run_bind,Sem.run_bind,run_eqGuard_agg w' _ t x y _ _ hok2]
   simp only[Result.andThen_ok]
   rw[run_eql_struct,run_equalIn_struct w' 9999 t _ _ hfs hok1,Oy 9998 r1 r2 _ q hq w']
   rfl
  ·refine⟨_,h,fun X N g w a' hs he=> ?_⟩
   have e1:=he.ev x
   have e2:=he.ev y
   rw[hx]at e1
   rw[hy]at e2
   simp only[aj]at e1 e2
   obtain⟨us,e1,r1⟩:=e1
   obtain⟨vs,e2,r2⟩:=e2
   refine⟨.bool !q,rfl,fun w' hw=> ?_⟩
   simp only[execOp,hop,e1,e2]
   rw[Sem.run_bind,Sem.run_bind,run_eqGuard_agg w' _ t x y _ _ hok2]
   simp only[Result.andThen_ok]
   rw[run_neq_struct,run_equalIn_struct w' 9999 t _ _ hfs hok1,Oy 9998 r1 r2 _ q hq w']
   rfl
 ·simp at h
theorem Am(isSl:Bool)(n:Nat){lo hi:Option Operand}{K:Nat→Nat→Option R}(hk:vI lo hi env n K=some r):
  ∃ l h,l≤h∧h≤n∧(lo=none→l=0)∧(hi=none→h=n)∧K l h=some r∧∀ (N:Nat) (g:Gh) (m:Nat) (I:Nat→Prop) (w:World) (a:Act),dG N g m I w env a→∀ cap,n≤cap→∀ w',(Instr.sliceBounds isSl n cap (lo.map a.eval) (hi.map a.eval) none).run P w'= .ok (l,h,cap) w':=by
 unfold vI at hk
 cases lo with
 |none=>
  cases hi with
  |none=>
   simp only[Option.map_none]at hk
   exact⟨0,n,Nat.zero_le _,Nat.le_refl _,fun _=>rfl,fun _=>rfl,hk,fun N g m I w a he cap hn w'=>by simp[Instr.sliceBounds]⟩
  |some y=>
   simp only[Option.map_none,Option.map_some]at hk
   split at hk
   ·rename_i h1 h2;first | (simp at h1;done) | (simp at h2;done)
   ·rename_i k h h1 h2
    split at hk <;>try (simp at hk;done)
    rename_i hb
    refine⟨0,h.toNat,Nat.zero_le _,by omega,fun _=>rfl,fun h=>by simp at h,hk,fun N g m I w a he cap hn w'=> ?_⟩
    have hy:=he.ev y
    rw[Option.some.inj h2]at hy
    simp only[aj]at hy
    simp[Instr.sliceBounds,Instr.sliceBound,hy,asIntOf,hb.1,show h≤(cap:Int) by omega]
   ·rename_i h1 h2;first | (simp at h1;done) | (simp at h2;done)
   ·rename_i h1 h2;first | (simp at h1;done) | (simp at h2;done)
   ·simp at hk
 |some x=>
  cases hi with
  |none=>
   simp only[Option.map_none,Option.map_some]at hk
   split at hk
   ·rename_i h1 h2;first | (simp at h1;done) | (simp at h2;done)
   ·rename_i h1 h2;first | (simp at h1;done) | (simp at h2;done)
   ·rename_i k l h1 h2
    split at hk <;>try (simp at hk;done)
    rename_i hb
    refine⟨l.toNat,n,by omega,Nat.le_refl _,fun h=>by simp at h,fun _=>rfl,hk,fun N g m I w a he cap hn w'=> ?_⟩
    have hx:=he.ev x
    rw[Option.some.inj h1]at hx
    simp only[aj]at hx
    simp[Instr.sliceBounds,Instr.sliceBound,hx,asIntOf,hb.1,hb.2]
   ·rename_i h1 h2;first | (simp at h1;done) | (simp at h2;done)
   ·simp at hk
  |some y=>
   simp only[Option.map_some]at hk
   split at hk
   ·rename_i h1 h2;first | (simp at h1;done) | (simp at h2;done)
   ·rename_i h1 h2;first | (simp at h1;done) | (simp at h2;done)
   ·rename_i h1 h2;first | (simp at h1;done) | (simp at h2;done)
   ·rename_i k l k' h h1 h2
    split at hk <;>try (simp at hk;done)
    rename_i hb
    refine⟨l.toNat,h.toNat,by omega,by omega,fun h=>by simp at h,fun h=>by simp at h,hk,fun N g m I w a he cap hn w'=> ?_⟩
    have hx:=he.ev x
    have hy:=he.ev y
    rw[Option.some.inj h1]at hx
    rw[Option.some.inj h2]at hy
    simp only[aj]at hx hy
    have h0:0≤h:=by omega
    have h3:h≤(cap:Int):=by omega
    have h4:l≤max h 0:=by omega
    simp[Instr.sliceBounds,Instr.sliceBound,hx,hy,asIntOf,hb.1,h0,h3,h4]
   ·simp at hk
theorem Ap{et:TypeId}{n:Nat}(hcs:P.cellsOf et=n)(hinf:(P.info? et).isSome=true)(w':World):(sizeOf et).run P w'= .ok n w':=by
 obtain⟨inf,hinf⟩:=Option.isSome_iff_exists.1 hinf
 unfold Program.cellsOf at hcs
 simp[hinf]at hcs
 simp[sizeOf,typeInfo,hinf,hcs]
theorem VY{α:Type}{lo hi:Option Operand}{xs:List α}{l h:Nat}(hlo:lo=none→l=0)(hhi:hi=none→h=xs.length):FB lo hi xs l h=(xs.take h).drop l:=by
 unfold FB
 cases lo <;>cases hi <;>simp_all
theorem Uy{I:Nat→Prop}{w:World}{e:List CT}{xs:List (ah.V e)}{l hh cap:Nat}{ad:Option Addr}(hlh:l≤hh)(hhn:hh≤xs.length)(hcap:xs.length≤cap)
  (h3:xs.length=0∨∃ a,ad=some a∧I a.block∧∀ i x,xs[i]? =some x→bH I w e x (a.add (i*e.length))):
  aZ I w (.sl e) ((xs.take hh).drop l) (.slice (if cap=l then ad else ad.map (·.add (l*e.length))) (hh - l) (cap - l)):=by
 have hlen:((xs.take hh).drop l).length=hh - l:=by rw[List.length_drop,List.length_take,Nat.min_eq_left hhn]
 simp only[aZ]
 refine⟨_,cap - l,by show Value.slice _ _ _= .slice _ ((xs.take hh).drop l).length _;rw[hlen],by show((xs.take hh).drop l).length≤_;rw[hlen];omega, ?_⟩
 by_cases h0:hh=l
 ·left;show((xs.take hh).drop l).length=0;rw[hlen];omega
 ·right
  rcases h3 with h3 | ⟨ad',rfl,hI,h3⟩
  ·omega
  ·refine⟨ad'.add (l*e.length),by rw[if_neg (by omega)];rfl,by rw[ru];exact hI,fun i y hy=> ?_⟩
   rw[lG, ←Nat.add_mul]
   refine h3 (l+i) y ?_
   have hy':((xs.take hh).drop l)[i]? =some y:=hy
   rw[List.getElem?_drop]at hy'
   have:l+i<hh:=by
    have:=(List.getElem?_eq_some_iff.1 hy').1
    simp at this
    omega
   rw[List.getElem?_take_of_lt this]at hy'
   exact hy'
theorem Vw(cap:Nat)(ad:Option Addr)(n:Nat):(if cap=0 then ad else ad.map (·.add (0*n)))=ad:=by
 split
 ·rfl
 ·cases ad <;>simp[Addr.add]
theorem adK{t:TypeId}{x:Operand}{lo hi mx:Option Operand}(hop:o.op= .slice t x lo hi mx)(h:bP P tbl env ob o.op K=some r):∃ pv,K pv ob=some r∧QV Dr P ob env o pv:=by
 rw[hop]at h
 cases mx with
 |some m=>
  cases lo with
  |some l=>cases hi <;>simp[bP]at h
  |none=>
  cases hi with
  |none=>simp[bP]at h
  |some hx0=>
  simp only[bP]at h
  split at h <;>try (simp at h;done)
  rename_i et k1 k2 hu hh hm
  split at h <;>try (simp at h;done)
  rename_i hinf
  have hsz:∀ w',(sizeOf et).run P w'= .ok (P.cellsOf et) w':=Ap rfl hinf
  have go:K .emp ob=some r→(∀ (X:Cx Dr) (g:Gh) (w:World) (u:Value),aK X g ob w→aj g ob.length X.I w (ev env x) u→∃ a l c,u= .slice a l c)→∃ pv,K pv ob=some r∧QV Dr P ob env o pv:=fun h1 h2=>by
   refine⟨_,h1,fun X N g w a hs he=> ?_⟩
   obtain⟨ad,l,c,hv⟩:=h2 X g w _ hs (he.ev x)
   have e1:=he.ev hx0
   have e2:=he.ev m
   rw[hh]at e1
   rw[hm]at e2
   simp only[aj]at e1 e2
   refine⟨.slice ad 0 0,by simp only[aj];exact⟨ad,rfl⟩,fun w' hw=> ?_⟩
   simp only[execOp,hop,hv,Option.map_none,Option.map_some,e1,e2]
   simp[Instr.sliceAt,Instr.slice,run_underlying hu,Instr.sliceBounds,Instr.sliceBound,asIntOf,hsz]
  split at h
  ·rename_i e' xs' hx
   exact go h fun X g w u hs hu'=>by
    rw[hx]at hu';simp only[aj,aZ]at hu';obtain⟨a,c,h,_⟩:=hu';exact⟨a,_,c,h⟩
  ·rename_i e' xs' hx
   exact go h fun X g w u hs hu'=>by
    rw[hx]at hu';simp only[aj,aZ]at hu';obtain⟨a,c,h,_⟩:=hu';exact⟨a,_,c,h⟩
  ·rename_i q hx
   exact go h fun X g w u hs hu'=>by
    rw[hx]at hu';simp only[aj]at hu';exact hu'.2.2
  ·rename_i q sz off len hx
   exact go h fun X g w u hs hu'=>by
    rw[hx]at hu';simp only[aj]at hu';obtain⟨_,_,_,_,_,a,c,_,h,_⟩:=hu';exact⟨a,_,c,h⟩
  ·rename_i hx
   exact go h fun X g w u hs hu'=>by
    rw[hx]at hu';simp only[aj]at hu';exact⟨none,0,0,hu'⟩
  ·rename_i hx
   exact go h fun X g w u hs hu'=>by
    rw[hx]at hu';simp only[aj]at hu';obtain⟨a,h⟩:=hu';exact⟨a,0,0,h⟩
  ·simp at h
 |none=>
 simp only[bP]at h
 split at h <;>try (simp at h;done)
 ·rename_i et e xs hu hx
  split at h <;>try (simp at h;done)
  rename_i hc
  have hsz:=Ap hc.1 hc.2
  obtain⟨l,hh,hlh,hhn,hlo,hhi,hK,hrun⟩:=Am (P:=P) true xs.length h
  rw[VY hlo hhi]at hK
  refine⟨_,hK,fun X N g w a hs he=> ?_⟩
  have h1:=he.ev x
  rw[hx]at h1
  simp only[aj,aZ]at h1
  obtain⟨ad,cap,h1,hcap,h3⟩:=h1
  refine⟨.slice (if cap=l then ad else ad.map (·.add (l*e.length))) (hh - l) (cap - l),by simp only[aj];exact Uy hlh hhn hcap h3,fun w' hw=> ?_⟩
  simp only[execOp,hop,h1]
  have hr:=hrun N g ob.length X.I w a he cap hcap w'
  simp[Instr.sliceAt,Instr.slice,run_underlying hu,hr,hsz]
 ·rename_i et e xs hu hx
  split at h <;>try (simp at h;done)
  rename_i hc
  have hsz:=Ap hc.1 hc.2
  obtain⟨l,hh,hlh,hhn,hlo,hhi,hK,hrun⟩:=Am (P:=P) true xs.length h
  rw[VY hlo hhi]at hK
  refine⟨_,hK,fun X N g w a hs he=> ?_⟩
  have h1:=he.ev x
  rw[hx]at h1
  simp only[aj,aZ]at h1
  obtain⟨ad,cap,h1,hcap,h3⟩:=h1
  refine⟨.slice (if cap=l then ad else ad.map (·.add (l*e.length))) (hh - l) (cap - l),by simp only[aj];exact Uy hlh hhn hcap h3,fun w' hw=> ?_⟩
  simp only[execOp,hop,h1]
  have hr:=hrun N g ob.length X.I w a he cap hcap w'
  simp[Instr.sliceAt,Instr.slice,run_underlying hu,hr,hsz]
 ·rename_i et q hu hx
  split at h <;>try (simp at h;done)
  rename_i e xs hq
  split at h <;>try (simp at h;done)
  rename_i hc
  have hsz:=Ap hc.1 hc.2
  obtain⟨l,hh,hlh,hhn,hlo,hhi,hK,hrun⟩:=Am (P:=P) true xs.length h
  refine⟨_,hK,fun X N g w a hs he=> ?_⟩
  have h1:=he.ev x
  rw[hx]at h1
  simp only[aj]at h1
  obtain⟨hqn,h1,hsl⟩:=h1
  obtain⟨k1,k2,kp,h3⟩:=hs.arr q e xs hq
  obtain⟨ad,cap,hH,hcap⟩:∃ ad cap,g.H q= .slice ad xs.length cap∧xs.length≤cap:=by
   rcases h3 with h3 | ⟨_,cap,us,t',h3,hc,_⟩
   ·obtain⟨a,ha⟩:=h3.2
    exact⟨a,0,by rw[ha,h3.1];rfl,by rw[h3.1];exact Nat.le_refl _⟩
   ·exact⟨_,cap,h3,hc⟩
  rw[hH]at h1
  refine⟨.slice (if cap=l then ad else ad.map (·.add (l*e.length))) (hh - l) (cap - l), ?_,fun w' hw=> ?_⟩
  ·simp only[aj]
   refine⟨hqn,k1.symm,ad,xs.length,cap,_,_,hH,rfl,by omega, ?_,fun hl0=>by subst hl0;exact⟨Vw cap ad _,by omega⟩⟩
   by_cases h0:hh - l=0
   ·exact Or.inl h0
   ·right
    rcases h3 with h3 | ⟨_,cap',us,t',h3,_⟩
    ·rw[h3.1]at hhn;simp at hhn;omega
    ·rw[h3]at hH
     simp only[Value.slice.injEq]at hH
     obtain⟨rfl,_,rfl⟩:=hH
     exact⟨_,rfl,by rw[if_neg (by omega)];rfl⟩
  ·simp only[execOp,hop,h1]
   have hr:=hrun N g ob.length X.I w a he cap hcap w'
   simp[Instr.sliceAt,Instr.slice,run_underlying hu,hr,hsz]
 ·rename_i et q sz off len hu hx
  split at h <;>try (simp at h;done)
  rename_i e xs hq
  split at h <;>try (simp at h;done)
  rename_i hc
  split at h <;>try (simp at h;done)
  rename_i hc'
  have hsz:=Ap hc.1 hc.2
  obtain⟨l,hh,hlh,hhn,hlo,hhi,hK,hrun⟩:=Am (P:=P) true len h
  refine⟨_,hK,fun X N g w a hs he=> ?_⟩
  have h1:=he.ev x
  rw[hx]at h1
  simp only[aj]at h1
  obtain⟨hqn,hs1,aq,ql,qc,a',c',hH,h1,hlc,h4,h5⟩:=h1
  obtain⟨k1,k2,kp,h3⟩:=hs.arr q e xs hq
  refine⟨.slice (if c'=l then a' else a'.map (·.add (l*e.length))) (hh - l) (c' - l), ?_,fun w' hw=> ?_⟩
  ·simp only[aj]
   refine⟨hqn,hs1,aq,ql,qc,_,_,hH,rfl,by omega, ?_,fun hl0=>by
    obtain rfl:l=0:=by omega
    obtain⟨rfl,rfl⟩:=h5 (by omega)
    exact⟨Vw _ _ _,by omega⟩⟩
   by_cases h0:hh - l=0
   ·exact Or.inl h0
   ·right
    rcases h4 with h4 | ⟨ad,had,ha'⟩
    ·omega
    ·refine⟨ad,had, ?_⟩
     rw[if_neg (by omega),ha']
     simp[lG,Nat.add_mul,hs1,k1]
  ·simp only[execOp,hop,h1]
   have hr:=hrun N g ob.length X.I w a he c' hlc w'
   simp[Instr.sliceAt,Instr.slice,run_underlying hu,hr,hsz]
 ·rename_i s hu hx
  obtain⟨l,hh,hlh,hhn,hlo,hhi,hK,hrun⟩:=Am (P:=P) false s.size h
  refine⟨_,hK,fun X N g w a hs he=> ?_⟩
  have h1:=he.ev x
  rw[hx]at h1
  simp only[aj]at h1
  refine⟨.string (s.extract l hh),rfl,fun w' hw=> ?_⟩
  simp only[execOp,hop,h1]
  have hr:=hrun N g ob.length X.I w a he s.size (Nat.le_refl _) w'
  simp[Instr.sliceAt,Instr.slice,run_underlying hu,hr]
end Go.Rv
set_option linter.unusedVariables false
set_option linter.unusedSimpArgs false
namespace Go.Rv
open Go.RowKit
variable {Dr:Kn}
variable {R:Type} {P:Program} {tbl:dX} {env:Env} {ob:List Ob} {o:Oper} {K:PV→List Ob→Option R} {r:R}
theorem UD{g:Gh}{n:Nat}{I:Nat→Prop}{w:World}{v:PV}{u:Value}(hv:aj g n I w v u):∀ (vs:List PV) (us:List Value) (i:Nat),ay g n I w vs us→ay g n I w (vs.set i v) (us.set i u)
 | [],us,i,h=>by simp[ay]at h;simp[h,ay]
 |x::r,us,0,h=>by
  simp only[ay]at h
  obtain⟨y,t,rfl,h1,h2⟩:=h
  simp only[List.set_cons_zero,ay]
  exact⟨u,t,rfl,hv,h2⟩
 |x::r,us,i+1,h=>by
  simp only[ay]at h
  obtain⟨y,t,rfl,h1,h2⟩:=h
  simp only[List.set_cons_succ,ay]
  exact⟨y,t.set i u,rfl,h1,UD hv r t i h2⟩
def lX(l:List Value)(j:Nat):List Value→List Value
 | []=>l
 |v::r=>lX (l.set j v) (j+1) r
theorem Eb{g:Gh}{n:Nat}{I:Nat→Prop}{w:World}:∀ (ps:List PV) (us:List Value) (cur:List PV) (cs:List Value) (j:Nat),ay g n I w ps us→ay g n I w cur cs→ay g n I w (qo cur j ps) (lX cs j us)
 | [],us,cur,cs,j,h,h'=>by simp[ay]at h;subst h;simpa [qo,lX]using h'
 |p::r,us,cur,cs,j,h,h'=>by
  simp only[ay]at h
  obtain⟨u,t,rfl,h1,h2⟩:=h
  simp only[qo,lX]
  exact Eb r t _ _ (j+1) h2 (UD h1 _ _ j h')
theorem Uz(off:Nat):∀ (us cs:List Value) (k:Nat),(us.zipIdx k).foldl (fun(acc:Array Value) p=>acc.setIfInBounds (off+p.2) p.1) cs.toArray=(lX cs (off+k) us).toArray
 | [],cs,k=>rfl
 |u::r,cs,k=>by
  simp only[List.zipIdx_cons,List.foldl_cons,lX]
  rw[List.setIfInBounds_toArray,Uz off r _ (k+1)]
  simp[Nat.add_assoc]
theorem WO{g:Gh}{n:Nat}{I:Nat→Prop}{w:World}{a:Act}{N:Nat}(he:dG N g n I w env a)(places:List (Nat×Nat)):∀ (parts:List (Nat×Operand)) (cur us:List PV) (cs:List Value),
  ay g n I w cur cs→BH places env parts cur=some us→∃ cells:List Value,Instr.fill (places.toArray[·]?) cs.toArray (parts.map fun p=>(p.1,a.eval p.2))=some cells.toArray∧ay g n I w us cells
 | [],cur,us,cs,h,hf=>by
  simp only[BH,Option.some.injEq]at hf
  subst hf
  exact⟨cs,rfl,h⟩
 | (i,x)::rest,cur,us,cs,h,hf=>by
  simp only[BH]at hf
  split at hf <;>try (simp at hf;done)
  rename_i off m ps hp hfl
  split at hf <;>try (simp at hf;done)
  rename_i hb
  obtain⟨zs,hz1,hz2⟩:=vF (he.ev x) hfl
  have hzl:=jJ _ _ hz2
  have hcl:=jJ _ _ h
  obtain⟨cells,hc1,hc2⟩:=WO he places rest _ us (lX cs off zs) (Eb _ _ _ _ off hz2 h) hf
  refine⟨cells, ?_,hc2⟩
  simp only[List.map_cons,Instr.fill,List.getElem?_toArray,hp,hz1]
  rw[if_neg (by simp;omega)]
  have:(zs.toArray.zipIdx.foldl (fun cs x=>cs.setIfInBounds (off+x.2) x.1) cs.toArray)=(lX cs off zs).toArray:=by
   rw[←Array.foldl_toList]
   simp only[Array.toList_zipIdx]
   have:=Uz off zs cs 0
   simpa using this
  rw[this]
  simpa using hc1
theorem adN{t:TypeId}{parts:Array (Nat×Operand)}(hop:o.op= .build t parts)(h:bP P tbl env ob o.op K=some r):∃ pv,K pv ob=some r∧QV Dr P ob env o pv:=by
 rw[hop]at h
 simp only[bP]at h
 split at h <;>try (simp at h;done)
 rename_i it fields hit hu
 split at h <;>try (simp at h;done)
 rename_i z places hz hp
 split at h <;>try (simp at h;done)
 rename_i us hf
 refine⟨_,h,fun X N g w a hs he=> ?_⟩
 obtain⟨cells,h1,h2⟩:=WO he places parts.toList _ us z.toList (LZ _) hf
 refine⟨.agg cells.toArray,by simp only[aj];exact⟨_,rfl,h2⟩,fun w' hw=> ?_⟩
 simp only[execOp,hop]
 rw[Sem.run_bind,run_build w' t _ cells.toArray]
 ·rfl
 ·unfold Program.built
  rw[hit,hu]
  simp only[hz,hp,Value.cells]
  have:(parts.map fun x=>(x.1,a.eval x.2)).toList=parts.toList.map fun p=>(p.1,a.eval p.2):=by simp
  simpa [this]using h1
theorem q_len{c:Call}(hc:c.callee= .builtin .len)(hop:o.op= .call c)(h:bP P tbl env ob o.op K=some r):∃ pv,K pv ob=some r∧QV Dr P ob env o pv:=by
 rw[hop]at h
 simp only[bP,hc]at h
 have key:∀ {x:Operand} {t:TypeId} {n:Nat},c.args.toList=[x]→c.argTypes.toList=[t]→K (.int .i64 n) ob=some r→
   (∀ (X:Cx Dr) (N:Nat) (g:Gh) (w:World) (a:Act),aK X g ob w→dG N g ob.length X.I w env a→∀ w',(Builtin.len_ #[t] o.type #[a.eval x]).run P w'= .ok (.int .i64 n) w')→∃ pv,K pv ob=some r∧QV Dr P ob env o pv:=fun {x t n} h1 h2 h3 h4=>by
  refine⟨_,h3,fun X N g w a hs he=>⟨.int .i64 n,rfl,fun w' hw=> ?_⟩⟩
  have e1:c.args= #[x]:=by rw[←Array.toArray_toList (xs:=c.args),h1]
  have e2:c.argTypes= #[t]:=by rw[←Array.toArray_toList (xs:=c.argTypes),h2]
  simp only[execOp,hop,resolve,hc,e1,e2,invoke,builtin]
  have:=h4 X N g w a hs he w'
  simp[invoke,builtin,this]
 have one:∀ {x:PV},c.args.toList.map (ev env)=[x]→∃ y,c.args.toList=[y]∧ev env y=x:=fun {x} hx=>by
  cases hl:c.args.toList with
  |nil=>simp[hl]at hx
  |cons y r=>cases r <;>simp[hl]at hx;exact⟨y,rfl,hx⟩
 have two:∀ {d:TypeDesc},c.argTypes.toList.map P.underlying=[some d]→∃ y,c.argTypes.toList=[y]∧P.underlying y=some d:=fun {x} hx=>by
  cases hl:c.argTypes.toList with
  |nil=>simp[hl]at hx
  |cons y r=>cases r <;>simp[hl]at hx;exact⟨y,rfl,hx⟩
 split at h <;>try (simp at h;done)
 ·rename_i s h1 h2
  obtain⟨x,hx,hx2⟩:=one h1
  obtain⟨t,ht,hu⟩:=two h2
  refine key hx ht h (fun X N g w a hs he w'=> ?_)
  have:=he.ev x
  rw[hx2]at this
  simp only[aj]at this
  simp[Builtin.len_,this,run_underlying hu,goInt]
 ·rename_i e xs te h1 h2
  obtain⟨x,hx,hx2⟩:=one h1
  obtain⟨t,ht,hu⟩:=two h2
  refine key hx ht h (fun X N g w a hs he w'=> ?_)
  have:=he.ev x
  rw[hx2]at this
  simp only[aj,aZ]at this
  obtain⟨ad,cap,this,_⟩:=this
  simp[Builtin.len_,this,run_underlying hu,goInt]
 ·rename_i e xs te h1 h2
  obtain⟨x,hx,hx2⟩:=one h1
  obtain⟨t,ht,hu⟩:=two h2
  refine key hx ht h (fun X N g w a hs he w'=> ?_)
  have:=he.ev x
  rw[hx2]at this
  simp only[aj,aZ]at this
  obtain⟨ad,cap,this,_⟩:=this
  simp[Builtin.len_,this,run_underlying hu,goInt]
 ·rename_i te h1 h2
  obtain⟨x,hx,hx2⟩:=one h1
  obtain⟨t,ht,hu⟩:=two h2
  refine key (n:=0) hx ht h (fun X N g w a hs he w'=> ?_)
  have:=he.ev x
  rw[hx2]at this
  simp only[aj]at this
  simp[Builtin.len_,this,run_underlying hu,goInt]
 ·rename_i te h1 h2
  obtain⟨x,hx,hx2⟩:=one h1
  obtain⟨t,ht,hu⟩:=two h2
  refine key (n:=0) hx ht h (fun X N g w a hs he w'=> ?_)
  have:=he.ev x
  rw[hx2]at this
  simp only[aj]at this
  obtain⟨ad,this⟩:=this
  simp[Builtin.len_,this,run_underlying hu,goInt]
 ·rename_i a1 a2 a3 n te h1 h2
  obtain⟨x,hx,hx2⟩:=one h1
  obtain⟨t,ht,hu⟩:=two h2
  refine key (n:=n) hx ht h (fun X N g w a hs he w'=> ?_)
  have:=he.ev x
  rw[hx2]at this
  simp only[aj]at this
  obtain⟨_,_,_,_,_,a',c',_,this,_⟩:=this
  simp[Builtin.len_,this,run_underlying hu,goInt]
 ·rename_i q te h1 h2
  obtain⟨x,hx,hx2⟩:=one h1
  obtain⟨t,ht,hu⟩:=two h2
  split at h <;>try (simp at h;done)
  rename_i e xs hq
  refine key hx ht h (fun X N g w a hs he w'=> ?_)
  have:=he.ev x
  rw[hx2]at this
  simp only[aj]at this
  obtain⟨a',c',hs',_⟩:=Nc hs hq
  rw[hs']at this
  simp[Builtin.len_,this.2.1,run_underlying hu,goInt]
theorem Vo{c:Call}(hc:c.callee= .builtin .min∨c.callee= .builtin .max)(hop:o.op= .call c)(h:bP P tbl env ob o.op K=some r):∃ pv,K pv ob=some r∧QV Dr P ob env o pv:=by
 rw[hop]at h
 have two:∀ {x y:PV},c.args.toList.map (ev env)=[x,y]→∃ a b,c.args= #[a,b]∧ev env a=x∧ev env b=y:=fun {x y} hx=>by
  cases hl:c.args.toList with
  |nil=>simp[hl]at hx
  |cons a r=>
   cases r with
   |nil=>simp[hl]at hx
   |cons b r=>
    cases r <;>simp[hl]at hx
    exact⟨a,b,by rw[←Array.toArray_toList (xs:=c.args),hl],hx.1,hx.2⟩
 rcases hc with hc |hc
 all_goals
  simp only[bP,hc]at h
  split at h <;>try (simp at h;done)
  rename_i k x k' y hx
  obtain⟨a1,b1,hargs,h1,h2⟩:=two hx
  refine⟨_,h,fun X N g w a hs he=>⟨_,rfl,fun w' hw=> ?_⟩⟩
  have e1:=he.ev a1
  have e2:=he.ev b1
  rw[h1]at e1
  rw[h2]at e2
  simp only[aj]at e1 e2
  simp only[execOp,hop,resolve,hc,hargs]
  simp[invoke,builtin,e1,e2,Builtin.min_,Builtin.max_,Builtin.min2,Builtin.max2]
end Go.Rv
set_option linter.unusedVariables false
set_option linter.unusedSimpArgs false
namespace Go.Rv
open Go.RowKit
variable {Dr:Kn}
variable {R:Type} {P:Program} {tbl:dX} {env:Env} {ob:List Ob} {o:Oper} {K:PV→List Ob→Option R} {r:R}
def Gh.dB(g:Gh)(n b:Nat)(h:Value)(l s:Nat)(pr po:List Value):Gh:=
 ⟨fun o=>if o=n then b else g.A o,fun o=>if o=n then h else g.H o,fun o=>if o=n then l else g.L o,fun o=>if o=n then s else g.S o,fun o=>if o=n then pr else g.pre o,fun o=>if o=n then po else g.post o,g.J⟩
abbrev Gh.push(g:Gh)(n b:Nat)(h:Value)(l s:Nat):Gh:=g.dB n b h l s [] []
theorem LH{g:Gh}{n b:Nat}{h:Value}{l s:Nat}{pr po:List Value}{o:Nat}(ho:o≠n):Agree g (g.dB n b h l s pr po) o:=
 ⟨if_neg ho,if_neg ho,if_neg ho,if_neg ho,if_neg ho,if_neg ho⟩
theorem Keep.dB{g:Gh}{n b:Nat}{I:Nat→Prop}(hj:∀ b,g.J b→I b){w:World}{h:Value}{l s:Nat}{pr po:List Value}:Keep g n I w (g.dB n b h l s pr po) (n+1) w:=
 ⟨Nat.le_succ _,fun o ho=>LH (by omega),rfl,hj,fun _ _=>rfl⟩
theorem L8{g:Gh}{n b:Nat}{h:Value}{l s:Nat}{o:Nat}(ho:o≠n):Agree g (g.push n b h l s) o:=
 ⟨if_neg ho,if_neg ho,if_neg ho,if_neg ho,if_neg ho,if_neg ho⟩
theorem Keep.push{g:Gh}{n b:Nat}{I:Nat→Prop}(hj:∀ b,g.J b→I b){w:World}{h:Value}{l s:Nat}:Keep g n I w (g.push n b h l s) (n+1) w:=
 ⟨Nat.le_succ _,fun o ho=>L8 (by omega),rfl,hj,fun _ _=>rfl⟩
theorem aK.Ya{X:Cx Dr}{g:Gh}{w:World}(s:aK X g ob w)(Y:Ob)(b:Nat)(hd:Value)(l sz:Nat)(pr po:List Value)
  (hbox:∀ cells,Y= .box cells→∃ us t,w.heap[b]? =some (.cells (pr++us++po).toArray t (0,0))∧ay g ob.length X.I w cells us∧¬ X.I b∧sz=0∧l=1)
  (harr:∀ e xs,Y= .arr e xs→sz=e.length∧l=xs.length∧pr=[]∧((xs=[]∧ig hd)∨(¬ ig hd∧∃ cap us t,hd= .slice (some ⟨b,0,none⟩) xs.length cap∧xs.length≤cap∧cap≤maxLen∧w.heap[b]? =some (.cells us t (0,0))∧us.size=cap*e.length∧
   (∀ i x,xs[i]? =some x→bH X.I w e x ⟨b,i*e.length,none⟩)∧¬ X.I b)))
  (hb:(∃ cells,Y= .box cells)∨(∃ e xs,Y= .arr e xs∧¬ ig hd)→(X.B≤b∨b∈X.T)∧∀ o,aJ g ob o→g.A o≠b):
  aK X (g.dB ob.length b hd l sz pr po) (ob++[Y]) w:=by
 have hk:Keep g ob.length X.I w (g.dB ob.length b hd l sz pr po) (ob++[Y]).length w:=by simpa using Keep.dB s.jI
 have old:∀ o Z,(ob++[Y])[o]? =some Z→(o<ob.length∧ob[o]? =some Z)∨(o=ob.length∧Y=Z):=fun o Z h=>by
  rcases Nat.lt_trichotomy o ob.length with h1 |h1 |h1
  ·rw[List.getElem?_append_left h1]at h;exact Or.inl ⟨h1,h⟩
  ·subst h1;simp at h;exact Or.inr ⟨rfl,h⟩
  ·rw[List.getElem?_eq_none (by simp;omega)]at h;simp at h
 have blk:∀ o,aJ (g.dB ob.length b hd l sz pr po) (ob++[Y]) o→(o<ob.length∧aJ g ob o)∨(o=ob.length∧((∃ cells,Y= .box cells)∨(∃ e xs,Y= .arr e xs∧¬ ig hd))):=fun o h=>by
  rcases h with ⟨cells,h⟩ | ⟨e,xs,h,hn⟩
  ·rcases old o _ h with ⟨h1,h2⟩ | ⟨h1,h2⟩
   ·exact Or.inl ⟨h1,Or.inl ⟨_,h2⟩⟩
   ·exact Or.inr ⟨h1,Or.inl ⟨_,h2⟩⟩
  ·rcases old o _ h with ⟨h1,h2⟩ | ⟨h1,h2⟩
   ·rw[(hk.agr o h1).H]at hn;exact Or.inl ⟨h1,Or.inr ⟨_,_,h2,hn⟩⟩
   ·subst h1
    exact Or.inr ⟨rfl,Or.inr ⟨_,_,h2,by simpa [Gh.dB]using hn⟩⟩
 refine⟨?_, ?_, ?_, ?_,s.bnd,s.jI,s.upd,s.bsz,by have:=s.nle;simp;omega,fun o ho=>(s.kept o ho).trans (hk.agr o (by have:=s.nle;omega)),s.keptJ⟩
 ·intro o cells h
  rcases old o _ h with ⟨h1,h2⟩ | ⟨h1,h2⟩
  ·obtain⟨us,t,k1,k2,k3,k4,k5⟩:=s.box o cells h2
   have ag:=hk.agr o h1
   refine⟨us,t,by rw[ag.A,ag.pre,ag.post];exact k1,ay.keep hk _ _ k2,by rw[ag.A];exact k3,by rw[ag.S];exact k4,by rw[ag.L];exact k5⟩
  ·obtain⟨us,t,k1,k2,k3,k4,k5⟩:=hbox _ h2
   subst h1
   exact⟨us,t,by simpa [Gh.dB]using k1,ay.keep hk _ _ k2,by simpa [Gh.dB]using k3,by simpa [Gh.dB]using k4,by simpa [Gh.dB]using k5⟩
 ·intro o e xs h
  rcases old o _ h with ⟨h1,h2⟩ | ⟨h1,h2⟩
  ·obtain⟨k1,k2,kp,k3⟩:=s.arr o e xs h2
   have ag:=hk.agr o h1
   refine⟨by rw[ag.S];exact k1,by rw[ag.L];exact k2,by rw[ag.pre];exact kp, ?_⟩
   unfold sW at*
   rw[ag.A,ag.H]
   exact k3
  ·obtain⟨k1,k2,kp,k3⟩:=harr _ _ h2
   subst h1
   refine⟨by simpa [Gh.dB]using k1,by simpa [Gh.dB]using k2,by simpa [Gh.dB]using kp, ?_⟩
   unfold sW
   simpa [Gh.dB]using k3
 ·intro o o' h h' e
  rcases blk o h with ⟨h1,h2⟩ | ⟨h1,h2⟩ <;>rcases blk o' h' with ⟨h3,h4⟩ | ⟨h3,h4⟩
  ·rw[(hk.agr o h1).A,(hk.agr o' h3).A]at e;exact s.inj o o' h2 h4 e
  ·rw[(hk.agr o h1).A]at e
   subst h3
   exact absurd (by simpa [Gh.dB]using e) ((hb h4).2 o h2)
  ·rw[(hk.agr o' h3).A]at e
   subst h1
   exact absurd (by simpa [Gh.dB]using e.symm) ((hb h2).2 o' h4)
  ·rw[h1,h3]
 ·intro o h
  rcases blk o h with ⟨h1,h2⟩ | ⟨h1,h2⟩
  ·rw[(hk.agr o h1).A];exact s.base o h2
  ·subst h1;simpa [Gh.dB]using (hb h2).1
theorem aK.add{X:Cx Dr}{g:Gh}{w:World}(s:aK X g ob w)(Y:Ob)(b:Nat)(hd:Value)(l sz:Nat)
  (hbox:∀ cells,Y= .box cells→∃ us t,w.heap[b]? =some (.cells us.toArray t (0,0))∧ay g ob.length X.I w cells us∧¬ X.I b∧sz=0∧l=1)
  (harr:∀ e xs,Y= .arr e xs→sz=e.length∧l=xs.length∧((xs=[]∧ig hd)∨(¬ ig hd∧∃ cap us t,hd= .slice (some ⟨b,0,none⟩) xs.length cap∧xs.length≤cap∧cap≤maxLen∧w.heap[b]? =some (.cells us t (0,0))∧us.size=cap*e.length∧
   (∀ i x,xs[i]? =some x→bH X.I w e x ⟨b,i*e.length,none⟩)∧¬ X.I b)))
  (hb:(∃ cells,Y= .box cells)∨(∃ e xs,Y= .arr e xs∧¬ ig hd)→(X.B≤b∨b∈X.T)∧∀ o,aJ g ob o→g.A o≠b):
  aK X (g.push ob.length b hd l sz) (ob++[Y]) w:=
 s.Ya Y b hd l sz [] [] (fun cells h=>by obtain⟨us,t,h1,h2⟩:=hbox cells h;exact⟨us,t,by simpa using h1,h2⟩) (fun e xs h=>by obtain⟨h1,h2,h3⟩:=harr e xs h;exact⟨h1,h2,rfl,h3⟩) hb
theorem Vq{g:Gh}{Y:Ob}{b:Nat}{hd:Value}{l sz o:Nat}(h:aJ (g.push ob.length b hd l sz) (ob++[Y]) o)(ho:ob.length≤o):(g.push ob.length b hd l sz).A o=b:=by
 have:o=ob.length:=by have:=h.lt;simp at this;omega
 subst this
 simp[Gh.push,Gh.dB]
theorem xI{D:Kn}(w:World)(Y:Obj):Below D w.heap.size w (w.alloc Y):=(Below.refl _ _).alloc (Nat.le_refl _) Y
theorem NG(w:World)(Y:Obj):(w.alloc Y).heap[w.heap.size]? =some Y:=by
 show(w.heap.push Y)[w.heap.size]? =some Y
 simp
structure oM (D:Kn) (g:Gh) (n:Nat) (w:World) (g':Gh) (ob':List Ob) (w':World):Prop where
 below:Below D w.heap.size w w'
 fresh:∀ o,n≤o→aJ g' ob' o→w.heap.size≤g'.A o
def Only(g:Gh)(ob:List Ob)(w w':World):Prop:=∀ b,b<w.heap.size→(∀ o,aJ g ob o→g.A o≠b)→w'.heap[b]? =w.heap[b]?
theorem oM.only{D:Kn}{g g':Gh}{n:Nat}{w w':World}{ob ob':List Ob}(f:oM D g n w g' ob' w'):Only g ob w w':=fun b hb _=>f.below.block b hb
def kC(g:Gh)(ob:List Ob)(w:World)(g':Gh)(ob':List Ob):Prop:=∀ o,aJ g' ob' o→w.heap.size≤g'.A o∨∃ q,aJ g ob q∧g'.A o=g.A q
theorem kC.refl(g:Gh)(ob:List Ob)(w:World):kC g ob w g ob:=fun o h=>Or.inr ⟨o,h,rfl⟩
theorem oM.blk{D:Kn}{g g':Gh}{w w':World}{ob new:List Ob}{I:Nat→Prop}(f:oM D g ob.length w g' (ob++new) w')(k:Keep g ob.length I w g' (ob++new).length w'):kC g ob w g' (ob++new):=fun o h=>by
 by_cases ho:o<ob.length
 ·right
  refine⟨o, ?_,(k.agr o ho).A⟩
  rcases h with ⟨cells,h⟩ | ⟨e,xs,h,hn⟩
  ·rw[List.getElem?_append_left ho]at h;exact Or.inl ⟨_,h⟩
  ·rw[List.getElem?_append_left ho]at h
   rw[(k.agr o ho).H]at hn
   exact Or.inr ⟨_,_,h,hn⟩
 ·exact Or.inl (f.fresh o (by omega) h)
theorem WW{g:Gh}{ob:List Ob}{w:World}{q:Nat}{Y:Ob}(hq:aJ g ob q):kC g ob w g (ob.set q Y):=fun o h=>by
 right
 by_cases ho:o=q
 ·subst ho;exact⟨o,hq,rfl⟩
 ·refine⟨o, ?_,rfl⟩
  rcases h with ⟨cells,h⟩ | ⟨e,xs,h,hn⟩
  ·rw[List.getElem?_set_ne (Ne.symm ho)]at h;exact Or.inl ⟨_,h⟩
  ·rw[List.getElem?_set_ne (Ne.symm ho)]at h;exact Or.inr ⟨_,_,h,hn⟩
theorem VN{g:Gh}{ob:List Ob}{q o:Nat}(h:aJ g (ob.set q .dead) o):aJ g ob o:=by
 by_cases ho:o=q
 ·subst ho
  rcases h with ⟨cells,h⟩ | ⟨e,xs,h,hn⟩
  ·rw[List.getElem?_set]at h;split at h <;>(try split at h) <;>simp_all
  ·rw[List.getElem?_set]at h;split at h <;>(try split at h) <;>simp_all
 ·rcases h with ⟨cells,h⟩ | ⟨e,xs,h,hn⟩
  ·rw[List.getElem?_set_ne (Ne.symm ho)]at h;exact Or.inl ⟨_,h⟩
  ·rw[List.getElem?_set_ne (Ne.symm ho)]at h;exact Or.inr ⟨_,_,h,hn⟩
theorem kC.Wq{g g':Gh}{ob ob':List Ob}{w:World}{q:Nat}(h:kC g (ob.set q .dead) w g' ob'):kC g ob w g' ob':=fun o ho=>by
 rcases h o ho with h | ⟨p,hp,e⟩
 ·exact Or.inl h
 ·exact Or.inr ⟨p,VN hp,e⟩
theorem VQ{g:Gh}{ob:List Ob}{w:World}{Y:Ob}{b:Nat}{hd:Value}{l sz:Nat}(hb:aJ (g.push ob.length b hd l sz) (ob++[Y]) ob.length→w.heap.size≤b∨∃ q,aJ g ob q∧b=g.A q):kC g ob w (g.push ob.length b hd l sz) (ob++[Y]):=fun o h=>by
 by_cases ho:o<ob.length
 ·right
  refine⟨o, ?_,by simp[Gh.push,Gh.dB];omega⟩
  rcases h with ⟨cells,h⟩ | ⟨e,xs,h,hn⟩
  ·rw[List.getElem?_append_left ho]at h;exact Or.inl ⟨_,h⟩
  ·rw[List.getElem?_append_left ho]at h
   refine Or.inr ⟨_,_,h, ?_⟩
   have:(g.push ob.length b hd l sz).H o=g.H o:=by simp[Gh.push,Gh.dB];omega
   rwa [this]at hn
 ·have e:o=ob.length:=by have:=h.lt;simp at this;omega
  subst e
  have e2:(g.push ob.length b hd l sz).A ob.length=b:=by simp[Gh.push,Gh.dB]
  rw[e2]
  exact hb h
def EV(Dr:Kn)(P:Program)(ob:List Ob)(env:Env)(o:Oper)(im:Bool)(pv:PV)(ob':List Ob):Prop:=
 (im=false→∃ new,ob'=ob++new)∧
 ∀ (X:Cx Dr) (N:Nat) (g:Gh) (w:World) (a:Act),aK X g ob w→dG N g ob.length X.I w env a→
  ∃ v w' g',((execOp a.eval o).run P w= .ok (.value v) w'∨((execOp a.eval o).run P w= .ok .skip w'∧v=undef))∧((im=false→oM Dr g ob.length w g' ob' w')∧Only g ob w w'∧kC g ob w g' ob')∧aK X g' ob' w'∧Keep g ob.length X.I w g' ob'.length w'∧aj g' ob'.length X.I w' pv v
theorem Vp{X:Cx Dr}{g:Gh}{w:World}(s:aK X g ob w){vs:List PV}{us:List Value}(hr:ay g ob.length X.I w vs us)(t:TypeId):
  ∃ g',aK X g' (ob++[Ob.box vs]) (w.alloc (.cells us.toArray t))∧Keep g ob.length X.I w g' (ob++[Ob.box vs]).length (w.alloc (.cells us.toArray t))∧oM Dr g ob.length w g' (ob++[Ob.box vs]) (w.alloc (.cells us.toArray t))∧
   aj g' (ob++[Ob.box vs]).length X.I (w.alloc (.cells us.toArray t)) (.ptr ob.length 0 0 0) (.pointer (some ⟨w.heap.size,0,none⟩)):=by
 obtain⟨s1,k1⟩:=s.up (xI w (.cells us.toArray t))
 refine⟨g.push ob.length w.heap.size undef 1 0,s1.add (.box vs) w.heap.size undef 1 0 ?_ ?_ ?_,k1.trans (by simpa using Keep.push s.jI),⟨xI _ _,fun o ho hb=>Nat.le_of_eq (Vq hb ho).symm⟩, ?_⟩
 ·intro cells hc
  cases hc
  exact⟨us,t,NG _ _,ay.keep k1 _ _ hr,fun h=>by have:=s.bnd _ h;omega,rfl,rfl⟩
 ·intro e xs h;cases h
 ·intro _
  exact⟨Or.inl s.bsz,fun o ho=>by have:=(s.blk ho).1;omega⟩
 ·simp[aj,Gh.push,Gh.dB]
theorem afj{t:TypeId}{x:Operand}(hop:o.op= .box t x)(im:Bool)(h:bP P tbl env ob o.op K=some r):∃ pv ob',K pv ob'=some r∧EV Dr P ob env o im pv ob':=by
 rw[hop]at h
 simp only[bP]at h
 split at h <;>try (simp at h;done)
 rename_i vs hf
 refine⟨_,_,h,fun _=>⟨_,rfl⟩,fun X N g w a hs he=> ?_⟩
 obtain⟨us,h1,h2⟩:=vF (he.ev x) hf
 obtain⟨g',s',k',f',r'⟩:=Vp hs h2 t
 refine⟨.pointer (some ⟨w.heap.size,0,none⟩),w.alloc (.cells us.toArray t),g',Or.inl ?_,⟨fun _=>f',f'.only,f'.blk k'⟩,s',k',r'⟩
 simp[execOp,hop,Instr.box,newVar,newRow,h1]
theorem aeb{t:TypeId}(hop:o.op= .alloc t)(im:Bool)(h:bP P tbl env ob o.op K=some r):∃ pv ob',K pv ob'=some r∧EV Dr P ob env o im pv ob':=by
 rw[hop]at h
 simp only[bP]at h
 split at h <;>try (simp at h;done)
 rename_i i hi
 split at h <;>try (simp at h;done)
 rename_i z hz
 split at h <;>try (simp at h;done)
 rename_i vs hf
 refine⟨_,_,h,fun _=>⟨_,rfl⟩,fun X N g w a hs he=> ?_⟩
 obtain⟨us,h1,h2⟩:=vF (UG (g:=g) (n:=ob.length) (I:=X.I) (w:=w) z) hf
 obtain⟨g',s',k',f',r'⟩:=Vp hs h2 t
 refine⟨.pointer (some ⟨w.heap.size,0,none⟩),w.alloc (.cells us.toArray t),g',Or.inl ?_,⟨fun _=>f',f'.only,f'.blk k'⟩,s',k',r'⟩
 simp[execOp,hop,Instr.alloc,zeroValue,typeInfo,hi,hz,newVar,newRow,h1]
theorem acO{I:Nat→Prop}{w:World}(c:CT)(v:Value)(h:Oc c v=true):aZ I w c (CT.zero c) v:=by
 unfold Oc at h
 split at h
 ·simp only[Bool.and_eq_true,decide_eq_true_eq]at h
  obtain⟨rfl,rfl⟩:=h
  simp[aZ,CT.zero]
 ·simp at h
  simp[aZ,CT.zero,h]
 ·rename_i s
  have h1:s.size=0:=by simpa using h
  have:s=ByteArray.empty:=by
   apply ByteArray.ext
   rw[Array.eq_empty_of_size_eq_zero (show s.data.size=0 from h1)]
   rfl
  simp[aZ,CT.zero,this]
 ·simp only[aZ,CT.zero]
  exact⟨none,0,rfl,Nat.zero_le _,Or.inl rfl⟩
 ·simp at h
theorem UY{I:Nat→Prop}{w:World}:∀ (cs:List CT) (zs:List Value) (ad:Addr),oJ cs zs=true→(∀ i u,zs[i]? =some u→w.cell? (ad.add i)=some u)→bH I w cs (ah.zero cs) ad
 | [],zs,ad,h,hc=>by simp[bH]
 |c::cs,[],ad,h,hc=>by simp[oJ]at h
 |c::cs,z::zs,ad,h,hc=>by
  simp only[oJ,Bool.and_eq_true]at h
  simp only[bH,ah.zero]
  refine⟨⟨z,by simpa [Addr.add]using hc 0 z rfl,acO c z h.1⟩,UY cs zs _ h.2 fun i u hu=> ?_⟩
  have:=hc (i+1) u (by simpa using hu)
  rw[lG,Nat.add_comm];exact this
theorem MC:∀ (cs:List CT) (zs:List Value),oJ cs zs=true→zs.length=cs.length
 | [],[],_=>rfl
 | [],_::_,h=>by simp[oJ]at h
 |_::_,[],h=>by simp[oJ]at h
 |c::cs,z::zs,h=>by simp only[oJ,Bool.and_eq_true]at h;simp[MC cs zs h.2]
end Go.Rv
set_option linter.unusedVariables false
set_option linter.unusedSimpArgs false
namespace Go.Rv
open Go.RowKit
variable {Dr:Kn}
variable {R:Type} {P:Program} {tbl:dX} {env:Env} {ob:List Ob} {o:Oper} {K:PV→List Ob→Option R} {r:R}
theorem adU(z:Array Value)(n m:Nat)(i j:Nat)(hz:z.size=m)(hj:j<m)(hi:i<n):(madeCells z (n*m))[i*m+j]? =z[j]? :=by
 have h1:i*m+j<n*m:=by
  have:(i+1)*m≤n*m:=Nat.mul_le_mul_right _ (by omega)
  rw[Nat.add_mul,Nat.one_mul]at this
  omega
 have h2:(i*m+j) % m=j:=by rw[Nat.mul_comm,Nat.mul_add_mod];exact Nat.mod_eq_of_lt hj
 subst hz
 simp[madeCells,h1,h2,hj]
theorem MS{t e:TypeId}{cs:List CT}{i:TypeInfo}(h:rZ P t=some (e,cs))(hi:P.info? e=some i):P.underlying t=some (.slice e)∧i.size=cs.length:=by
 obtain⟨hu,hcs⟩:=WR h
 refine⟨hu, ?_⟩
 unfold Program.cellsOf at hcs
 simpa [hi]using hcs
theorem Np{X:Cx Dr}{g:Gh}{w:World}(s:aK X g ob w)(e:List CT)(xs:List (ah.V e))(cap:Nat)(cells:Array Value)(te:TypeId)(hl:xs.length≤cap)(hc:cap≤maxLen)(hsz:cells.size=cap*e.length)
  (hrd:∀ i x,xs[i]? =some x→bH X.I (w.alloc (.cells cells te)) e x ⟨w.heap.size,i*e.length,none⟩):
  ∃ g',aK X g' (ob++[Ob.arr e xs]) (w.alloc (.cells cells te))∧Keep g ob.length X.I w g' (ob++[Ob.arr e xs]).length (w.alloc (.cells cells te))∧oM Dr g ob.length w g' (ob++[Ob.arr e xs]) (w.alloc (.cells cells te))∧
   aj g' (ob++[Ob.arr e xs]).length X.I (w.alloc (.cells cells te)) (.own ob.length) (.slice (some ⟨w.heap.size,0,none⟩) xs.length cap):=by
 obtain⟨s1,k1⟩:=s.up (xI w (.cells cells te))
 refine⟨g.push ob.length w.heap.size (.slice (some ⟨w.heap.size,0,none⟩) xs.length cap) xs.length e.length,s1.add _ _ _ _ _ ?_ ?_ ?_,k1.trans (by simpa using Keep.push s.jI),⟨xI _ _,fun o ho hb=>Nat.le_of_eq (Vq hb ho).symm⟩, ?_⟩
 ·intro cells hx;cases hx
 ·intro e' ys hx
  cases hx
  refine⟨rfl,rfl, ?_⟩
  by_cases h0:cap=0
  ·left
   have hx0:xs.length=0:=by omega
   exact⟨List.eq_nil_of_length_eq_zero hx0,⟨_,by rw[hx0,h0]⟩⟩
  ·right
   exact⟨fun⟨a,h⟩=>by simp only[Value.slice.injEq]at h;exact h0 h.2.2,cap,cells,te,rfl,hl,hc,NG _ _,hsz,hrd,fun hI=>by have:=s.bnd _ hI;omega⟩
 ·intro _
  exact⟨Or.inl s.bsz,fun o ho=>by have:=(s.blk ho).1;omega⟩
 ·simp only[aj]
  exact⟨by simp,by simp[Gh.push,Gh.dB],_,_,_,rfl⟩
theorem Nw{w:World}{cells:Array Value}{te:TypeId}{q:Nat}{u:Value}(hq:cells[q]? =some u):(w.alloc (.cells cells te)).cell? ⟨w.heap.size,q,none⟩=some u:=by
 unfold World.cell?
 rw[NG]
 simpa using hq
theorem abP{t:TypeId}{l c:Operand}(hop:o.op= .makeSlice t l c)(im:Bool)(h:bP P tbl env ob o.op K=some r):∃ pv ob',K pv ob'=some r∧EV Dr P ob env o im pv ob':=by
 rw[hop]at h
 simp only[bP]at h
 split at h <;>try (simp at h;done)
 rename_i e cs k n k2 m he0 hl hc
 split at h <;>try (simp at h;done)
 rename_i i hi
 split at h <;>try (simp at h;done)
 rename_i z hz
 split at h <;>try (simp at h;done)
 rename_i hzs
 obtain⟨hzs,hnm⟩:=hzs
 obtain rfl:n=m:=by
  rcases hnm with hnm |hnm
  ·unfold Wh at hnm
   split at hnm
   ·rename_i p q
    have:p=q:=by simpa using hnm
    subst this
    rw[hl]at hc
    cases hc
    rfl
   ·cases hnm
  ·exact hnm
 split at h <;>try (simp at h;done)
 rename_i hb
 obtain⟨hb0,hb1,hb2⟩:=hb
 refine⟨_,_,h,fun _=>⟨_,rfl⟩,fun X N g w a hs he=> ?_⟩
 obtain⟨hu,hsz⟩:=MS he0 hi
 have e1:=he.ev l
 have e2:=he.ev c
 rw[hl]at e1
 rw[hc]at e2
 simp only[aj]at e1 e2
 have hzl:=MC _ _ hzs
 obtain⟨g',s',k',f',r'⟩:=Np hs cs (List.replicate n.toNat (ah.zero cs)) n.toNat (madeCells z.cells (n.toNat*i.size)) e (by simp) (by unfold maxLen;omega) (by rw[size_madeCells,hsz]) (fun q x hx=>by
  have hq:q<n.toNat:=by
   rcases Nat.lt_or_ge q n.toNat with h |h
   ·exact h
   ·rw[List.getElem?_eq_none (by simpa using h)]at hx;simp at hx
  have:x=ah.zero cs:=by
   rw[List.getElem?_replicate]at hx
   simp[hq]at hx
   exact hx.symm
  subst this
  refine UY cs z.cells.toList _ hzs fun j u hj=> ?_
  rw[dU]
  apply Nw
  have hjl:j<cs.length:=by
   rw[←hzl]
   exact(List.getElem?_eq_some_iff.1 hj).1
  rw[hsz,adU z.cells n.toNat cs.length q j (by simpa using hzl) hjl hq]
  simpa using hj)
 refine⟨.slice (some ⟨w.heap.size,0,none⟩) n.toNat n.toNat,_,g',Or.inl ?_,⟨fun _=>f',f'.only,f'.blk k'⟩,s',k',by simpa using r'⟩
 simp only[execOp,hop,e1,e2]
 rw[Sem.run_bind,run_make w t e i z hu hi hz k k2 n n hb0 (Int.le_refl _) hb1 hb2]
 rfl
theorem xQ{g:Gh}{n:Nat}{I:Nat→Prop}{w:World}(hj:∀ b,g.J b→I b){c:CT}{p:PV}{y:c.V}{u:Value}(h:c.nS p=some y)(hr:aj g n I w p u):aZ I w c y u:=by
 cases c with
 |int k=>
  cases p with
  |int k' z=>
   have h':(if k=k' then some z else none)=some y:=h
   split at h'
   ·rename_i hk
    subst hk
    obtain rfl:=Option.some.inj h'
    simpa only[aj,aZ]using hr
   ·cases h'
  |_=>cases h
 |bool=>
  cases p with
  |bool b=>
   have h':some b=some y:=h
   obtain rfl:=Option.some.inj h'
   simpa only[aj,aZ]using hr
  |_=>cases h
 |str=>
  cases p with
  |str b=>
   have h':some b=some y:=h
   obtain rfl:=Option.some.inj h'
   simpa only[aj,aZ]using hr
  |_=>cases h
 |sl e=>
  cases p with
  |sl e1 xs=>
   have h':fH e1 e xs=some y:=h
   exact pU h' (fun e ys=>aZ I w (.sl e) ys u) (by simpa only[aj]using hr)
  |sh e1 xs=>
   have h':fH e1 e xs=some y:=h
   exact pU h' (fun e ys=>aZ I w (.sl e) ys u) (by simp only[aj]at hr;exact aZ.keep hj (fun _ _=>rfl) _ _ _ hr)
  |nils=>
   have h':some ([]:List (ah.V e))=some y:=h
   obtain rfl:=Option.some.inj h'
   simp only[aj]at hr
   simp only[aZ]
   exact⟨none,0,hr,Nat.le_refl _,Or.inl rfl⟩
  |emp=>
   have h':some ([]:List (ah.V e))=some y:=h
   obtain rfl:=Option.some.inj h'
   simp only[aj]at hr
   obtain⟨a,hr⟩:=hr
   simp only[aZ]
   exact⟨a,0,hr,Nat.le_refl _,Or.inl rfl⟩
  |_=>cases h
 |sh e=>cases p <;>cases h
theorem Xo{g:Gh}{n:Nat}{I:Nat→Prop}{w w':World}(hw:∀ b,I b→w'.heap[b]? =w.heap[b]?)(hj:∀ b,g.J b→I b):∀ (e:List CT) (vs:List PV) (us:List Value) (x:ah.V e) (ad:Addr),mkV e vs=some x→ay g n I w vs us→(∀ i u,us[i]? =some u→w'.cell? (ad.add i)=some u)→bH I w' e x ad
 | [],[],us,x,ad,h,hr,hc=>by simp[bH]
 | [],_::_,us,x,ad,h,hr,hc=>by simp[mkV]at h
 |_::_,[],us,x,ad,h,hr,hc=>by simp[mkV]at h
 |c::cs,v::vs,us,x,ad,h,hr,hc=>by
  simp only[mkV]at h
  split at h <;>try (simp at h;done)
  rename_i y ys h1 h2
  obtain rfl:=Option.some.inj h
  simp only[ay]at hr
  obtain⟨u,t,rfl,r1,r2⟩:=hr
  simp only[bH]
  exact⟨⟨u,by simpa [Addr.add]using hc 0 u rfl,aZ.keep (fun _ h=>h) hw c y u (xQ hj h1 r1)⟩,Xo hw hj cs vs t ys _ h2 r2 fun i z hz=>by
   have:=hc (i+1) z (by simpa using hz)
   rw[lG,Nat.add_comm];exact this⟩
theorem Ui{N:Nat}{g:Gh}{n:Nat}{I:Nat→Prop}{w:World}{a:Act}(he:dG N g n I w env a)(e:List CT):∀ (parts:List (Nat×Operand)) (k:Nat) (rows:List (ah.V e)),A7 e env parts k=some rows→
  ∃ vs:List Value,(parts.map fun p=>(p.1,a.eval p.2))=((vs.zipIdx k).map fun x=>(x.2,x.1))∧vs.length=rows.length∧∀ (i:Nat) (x:ah.V e),rows[i]? =some x→∃ (v:Value) (ps:List PV) (us:List Value),vs[i]? =some v∧v.cells=us.toArray∧mkV e ps=some x∧ay g n I w ps us
 | [],k,rows,h=>by
  simp only[A7,Option.some.injEq]at h
  subst h
  exact⟨[],rfl,rfl,fun i x hx=>by simp at hx⟩
 | (i,x)::r,k,rows,h=>by
  simp only[A7]at h
  split at h <;>try (simp at h;done)
  rename_i hik
  subst hik
  split at h <;>try (simp at h;done)
  rename_i y ys h1 h2
  obtain rfl:=Option.some.inj h
  obtain⟨ps,p1,p2⟩:=Option.bind_eq_some_iff.1 h1
  obtain⟨us,u1,u2⟩:=vF (he.ev x) p1
  obtain⟨vs,v1,v2,v3⟩:=Ui he e r (i+1) ys h2
  refine⟨a.eval x::vs,by simp[v1],by simp[v2],fun j z hz=> ?_⟩
  cases j with
  |zero=>
   simp at hz
   subst hz
   exact⟨_,ps,us,rfl,u1,p2,u2⟩
  |succ j=>simpa using v3 j z (by simpa using hz)
theorem Wv:∀ (e:List CT) (vs:List PV) (x:ah.V e),mkV e vs=some x→vs.length=e.length
 | [],[],_,_=>rfl
 | [],_::_,_,h=>by simp[mkV]at h
 |_::_,[],_,h=>by simp[mkV]at h
 |c::cs,v::vs,x,h=>by
  simp only[mkV]at h
  split at h <;>try (simp at h;done)
  rename_i y ys h1 h2
  simp[Wv cs vs ys h2]
theorem aby{t:TypeId}{len:Nat}{parts:Array (Nat×Operand)}(hop:o.op= .buildSlice t len parts)(im:Bool)(h:bP P tbl env ob o.op K=some r):∃ pv ob',K pv ob'=some r∧EV Dr P ob env o im pv ob':=by
 rw[hop]at h
 simp only[bP]at h
 split at h <;>try (simp at h;done)
 rename_i e cs he0
 split at h <;>try (simp at h;done)
 rename_i i hi
 split at h <;>try (simp at h;done)
 rename_i z rows hz hrows
 split at h <;>try (simp at h;done)
 rename_i hc
 obtain⟨hzs,hrl,hpos,hsmall⟩:=hc
 refine⟨_,_,h,fun _=>⟨_,rfl⟩,fun X N g w a hs he=> ?_⟩
 obtain⟨hu,hsz⟩:=MS he0 hi
 obtain⟨vs,v1,v2,v3⟩:=Ui he cs parts.toList 0 rows hrows
 have hvs:∀ v∈vs,v.cells.size=cs.length:=by
  intro v hv
  obtain⟨j,hj⟩:=List.getElem?_of_mem hv
  have hjl:j<vs.length:=(List.getElem?_eq_some_iff.1 hj).1
  obtain⟨v',ps,us,k1,k2,k3,k4⟩:=v3 j _ (List.getElem?_eq_getElem (show j<rows.length by omega))
  rw[hj]at k1
  obtain rfl:=Option.some.inj k1
  rw[k2]
  have:=jJ _ _ k4
  have:=Wv _ _ _ k3
  simp;omega
 let z0:Array Value:=(Array.range (len*cs.length)).map ((if len*cs.length=0 then(#[]:Array Value)else z.cells)[· % (if len*cs.length=0 then(#[]:Array Value)else z.cells).size]!)
 obtain⟨cells,f1,f2,f3⟩:=Great.fill_dense hpos vs 0 z0 hvs (by simp[z0];rw[v2,hrl];exact Nat.le_refl _)
 have f2':cells.size=len*cs.length:=by rw[f2];simp[z0]
 have hcell:∀ i v j u,vs[i]? =some v→v.cells[j]? =some u→cells[i*cs.length+j]? =some u:=by
  intro i v j u hv hju
  have hi:i<vs.length:=(List.getElem?_eq_some_iff.1 hv).1
  have hj:j<cs.length:=by
   have:=hvs v (List.mem_of_getElem? hv)
   rw[←this]
   exact(Array.getElem?_eq_some_iff.1 hju).1
  rw[f3]
  have hlt:i*cs.length+j<(0+vs.length)*cs.length:=by
   have:(i+1)*cs.length≤vs.length*cs.length:=Nat.mul_le_mul_right _ (by omega)
   rw[Nat.add_mul,Nat.one_mul]at this
   rw[Nat.zero_add]
   omega
  rw[if_pos ⟨by simp,hlt⟩]
  have hd:(i*cs.length+j) / cs.length=i:=by
   rw[Nat.mul_comm,Nat.mul_add_div hpos,Nat.div_eq_of_lt hj,Nat.add_zero]
  have hm:(i*cs.length+j) % cs.length=j:=by rw[Nat.mul_comm,Nat.mul_add_mod];exact Nat.mod_eq_of_lt hj
  rw[hd,hm,Nat.sub_zero,hv]
  exact hju
 have hbig:len≤maxLen:=by
  have h1:len*1≤len*cs.length:=Nat.mul_le_mul_left _ hpos
  unfold maxLen
  omega
 obtain⟨g',s',k',fr,r'⟩:=Np hs cs rows len cells e (by omega) hbig f2' (fun q x hx=>by
  obtain⟨v,ps,us,k1,k2,k3,k4⟩:=v3 q x hx
  refine Xo (g:=g) (n:=ob.length) (w:=w) (fun b hb=>(xI (D:=Kn.no) w _).block b (hs.bnd b hb)) hs.jI cs ps us x _ k3 k4 fun j u hj=> ?_
  rw[dU]
  apply Nw
  exact hcell q v j u k1 (by rw[k2];simpa using hj))
 refine⟨.slice (some ⟨w.heap.size,0,none⟩) len len,_,g',Or.inl ?_,⟨fun _=>fr,fr.only,fr.blk k'⟩,s',k',by rw[hrl]at r';exact r'⟩
 have hparts:(parts.map fun x=>(x.1,a.eval x.2)).toList=((vs.zipIdx 0).map fun x=>(x.2,x.1)):=by rw[Array.toList_map];exact v1
 have hz0:∀ w',(do (if len*i.size=0 then pure #[]else do pure (←zeroValue e).cells):Sem (Array Value)).run P w'= .ok (if len*cs.length=0 then(#[]:Array Value)else z.cells) w':=by
  intro w'
  rw[hsz]
  by_cases h0:len*cs.length=0
  ·simp[h0]
  ·simp[h0,zeroValue,typeInfo,hi,hz]
 simp only[execOp,hop]
 rw[Sem.run_bind]
 have key:(Instr.buildSlice t len (parts.map fun x=>(x.1,a.eval x.2))).run P w= .ok (.slice (some ⟨w.heap.size,0,none⟩) len len) (w.alloc (.cells cells e)):=by
  unfold Instr.buildSlice
  have hb:¬ len*cs.length>2 ^ 24:=by omega
  have hso:(sizeOf e).run P w= .ok cs.length w:=by simp[sizeOf,typeInfo,hi,hsz]
  rw[hsz]at hz0
  simp only[Sem.run_bind,run_underlying hu,Result.andThen_ok,hso,hb,if_false]
  by_cases h0:len*cs.length=0
  ·simp only[z0,h0,if_true]at f1
   simp only[h0,if_true]
   rw[Sem.run_bind,Sem.run_pure]
   simp only[Result.andThen_ok,hparts,f1]
   simp[newRow]
  ·simp only[z0,h0,if_false]at f1
   simp only[h0,if_false]
   rw[Sem.run_bind]
   simp only[zeroValue,typeInfo,Sem.run_bind]
   simp only[run_program,Result.andThen_ok,hi,hz,Sem.run_pure,hparts,f1]
   simp[newRow]
 rw[key]
 rfl
end Go.Rv
set_option linter.unusedVariables false
set_option linter.unusedSimpArgs false
namespace Go.Rv
open Go.RowKit
variable {Dr:Kn}
variable {R:Type} {P:Program} {tbl:dX} {env:Env} {ob:List Ob} {o:Oper} {K:PV→List Ob→Option R} {r:R}
def dQ(I:Nat→Prop)(w:World)(f:Nat→Option Value):(cs:List CT)→ah.V cs→Nat→Prop
 | [],_,_=>True
 |c::cs,x,q=>(∃ u,f q=some u∧aZ I w c x.1 u)∧dQ I w f cs x.2 (q+1)
theorem EG{I:Nat→Prop}{w:World}(a:Addr):∀ (cs:List CT) (x:ah.V cs) (q:Nat),bH I w cs x (a.add q)↔dQ I w (fun q=>w.cell? (a.add q)) cs x q
 | [],_,_=>by simp[bH,dQ]
 |c::cs,x,q=>by
  simp only[bH,dQ]
  rw[lG,EG a cs x.2 (q+1)]
def upd(f:Nat→Option Value)(k:Nat)(u:Value):Nat→Option Value:=fun q=>if q=k then some u else f q
def yN(f:Nat→Option Value)(k:Nat):List Value→Nat→Option Value
 | []=>f
 |u::r=>yN (upd f k u) (k+1) r
theorem VX:∀ (us:List Value) (f:Nat→Option Value) (k q:Nat),yN f k us q=if k≤q∧q<k+us.length then us[q - k]? else f q
 | [],f,k,q=>by rw[if_neg (by simp)];rfl
 |u::r,f,k,q=>by
  rw[yN,VX r _ (k+1) q]
  by_cases h:q=k
  ·subst h
   rw[if_neg (by omega),if_pos (by simp)]
   simp[upd]
  ·by_cases h2:k+1≤q∧q<k+1+r.length
   ·rw[if_pos h2,if_pos (by simp;omega)]
    rw[show q - k=(q - (k+1))+1 by omega]
    simp
   ·rw[if_neg h2,if_neg (by simp;omega)]
    simp[upd,h]
theorem Uc{I:Nat→Prop}{w:World}{f:Nat→Option Value}{u:Value}{k:Nat}:∀ (cs:List CT) (x:ah.V cs) (q:Nat),k<q→dQ I w f cs x q→dQ I w (upd f k u) cs x q
 | [],_,_,_,_=>by simp[dQ]
 |c::cs,x,q,hk,h=>by
  simp only[dQ]at h ⊢
  obtain⟨⟨z,hz,hr⟩,h⟩:=h
  exact⟨⟨z,by rw[←hz];exact if_neg (by omega),hr⟩,Uc cs x.2 (q+1) (by omega) h⟩
theorem Xf{g:Gh}{n:Nat}{I:Nat→Prop}{w:World}(hj:∀ b,g.J b→I b){p:PV}{u:Value}(hr:aj g n I w p u):∀ (cs:List CT) (x y:ah.V cs) (j q:Nat) (f:Nat→Option Value),
  ah.set cs x j p=some y→dQ I w f cs x q→dQ I w (upd f (q+j) u) cs y q∧j<cs.length
 | [],x,y,j,q,f,h,_=>by simp[ah.set]at h
 |c::cs,x,y,0,q,f,h,hf=>by
  simp only[ah.set]at h
  obtain⟨z,hz,rfl⟩:=Option.map_eq_some_iff.1 h
  simp only[dQ]at hf ⊢
  exact⟨⟨⟨u,by simp[upd],xQ hj hz hr⟩,Uc cs x.2 (q+1) (by omega) hf.2⟩,by simp⟩
 |c::cs,x,y,j+1,q,f,h,hf=>by
  simp only[ah.set]at h
  obtain⟨z,hz,rfl⟩:=Option.map_eq_some_iff.1 h
  simp only[dQ]at hf ⊢
  obtain⟨h1,h2⟩:=Xf hj hr cs x.2 z j (q+1) f hz hf.2
  obtain⟨⟨v,hv,hrv⟩,_⟩:=hf
  refine⟨⟨⟨v,by rw[←hv];exact if_neg (by omega),hrv⟩, ?_⟩,by simp;omega⟩
  rw[show q+(j+1)=q+1+j by omega]
  exact h1
theorem NV{g:Gh}{n:Nat}{I:Nat→Prop}{w:World}(hj:∀ b,g.J b→I b)(cs:List CT)(q:Nat):∀ (ps:List PV) (us:List Value) (x y:ah.V cs) (j:Nat) (f:Nat→Option Value),
  ay g n I w ps us→yO cs x j ps=some y→dQ I w f cs x q→dQ I w (yN f (q+j) us) cs y q∧(ps=[]∨j+ps.length≤cs.length)
 | [],us,x,y,j,f,h,hs,hf=>by
  simp only[ay]at h
  simp only[yO,Option.some.injEq]at hs
  subst h;subst hs
  exact⟨hf,Or.inl rfl⟩
 |p::r,us,x,y,j,f,h,hs,hf=>by
  simp only[ay]at h
  obtain⟨u,t,rfl,h1,h2⟩:=h
  simp only[yO]at hs
  split at hs <;>try (simp at hs;done)
  rename_i z hz
  obtain⟨k1,k2⟩:=Xf hj h1 cs x z j q f hz hf
  obtain⟨k3,k4⟩:=NV hj cs q r t z y (j+1) _ h2 hs k1
  refine⟨by simpa [yN,Nat.add_assoc]using k3,Or.inr ?_⟩
  rcases k4 with rfl |k4
  ·simp;omega
  ·simp;omega
theorem NU:∀ (zs us:List Value) (j:Nat),j+zs.length≤us.length→lX us j zs=us.take j++zs++us.drop (j+zs.length)
 | [],us,j,h=>by simp[lX]
 |z::r,us,j,h=>by
  simp only[List.length_cons]at h
  rw[lX,NU r (us.set j z) (j+1) (by simp;omega)]
  have h1:(us.set j z).take (j+1)=us.take j++[z]:=by
   rw[List.take_succ_eq_append_getElem (by simp;omega)]
   simp[List.take_set_of_le]
  have h2:(us.set j z).drop (j+1+r.length)=us.drop (j+(r.length+1)):=by
   rw[List.drop_set_of_lt (by omega)]
   congr 1;omega
  rw[h1,h2]
  simp
theorem VO{g:Gh}{n:Nat}{I:Nat→Prop}{w:World}:∀ {p:PV} {u:Value},aj g n I w p u→ES p=true→u.oneCell'=true:=by
 intro p u h hc
 cases p <;>simp[ES]at hc <;>simp only[aj,aZ]at h
 all_goals first
  | (subst h;rfl)
  | (obtain⟨_,_,rfl,_⟩:=h;rfl)
  | (obtain⟨_,_,_,_,_,rfl⟩:=h;rfl)
  | (obtain⟨_,_,_,_,_,_,_,_,rfl,_⟩:=h;rfl)
  | (obtain⟨_,rfl⟩:=h;rfl)
  | (obtain⟨_,_,_,rfl⟩:=h;rfl)
  | (obtain⟨_,rfl,_⟩:=h;rfl)
  |exact h.elim
theorem cells_one{g:Gh}{n:Nat}{I:Nat→Prop}{w:World}:∀ (ps:List PV) (us:List Value),ay g n I w ps us→ps.all ES=true→∀ u∈us,u.oneCell'=true
 | [],us,h,_=>by simp[ay]at h;simp[h]
 |p::r,us,h,hc=>by
  simp only[ay]at h
  obtain⟨u,t,rfl,h1,h2⟩:=h
  simp only[List.all_cons,Bool.and_eq_true]at hc
  intro z hz
  rcases List.mem_cons.1 hz with rfl |hz
  ·exact VO h1 hc.1
  ·exact cells_one r t h2 hc.2 z hz
end Go.Rv
set_option linter.unusedVariables false
set_option linter.unusedSimpArgs false
namespace Go.Rv
open Go.RowKit
variable {Dr:Kn}
variable {R:Type} {P:Program} {tbl:dX} {env:Env} {ob:List Ob} {o:Oper} {K:PV→List Ob→Option R} {r:R}
theorem aK.put{X:Cx Dr}{g:Gh}{w:World}(s:aK X g ob w){q:Nat}{Y:Ob}(hq:q<ob.length)(cs:Array Value)(hblk:aJ g ob q)
  (hX:(∃ cells cells',ob[q]? =some (.box cells)∧Y= .box cells'∧∃ us:List Value,cs=(g.pre q++us++g.post q).toArray∧ay g ob.length X.I w cells' us)∨
   (∃ e xs xs',ob[q]? =some (.arr e xs)∧Y= .arr e xs'∧xs'.length=xs.length∧(∀ cap us t,w.heap[g.A q]? =some (.cells us t (0,0))→us.size=cap*e.length→cs.size=cap*e.length)∧
    ∀ i x,xs'[i]? =some x→dQ X.I w (fun j=>cs[i*e.length+j]?) e x 0)):
  aK X g (ob.set q Y) (w.setRow (g.A q) cs)∧Keep g ob.length X.I w g (ob.set q Y).length (w.setRow (g.A q) cs):=by
 obtain⟨hAlt,hnI⟩:=s.blk hblk
 have hother:∀ b,b≠g.A q→(w.setRow (g.A q) cs).heap[b]? =w.heap[b]? :=fun b hb=>setRow_other w _ b cs hb
 have hk:Keep g ob.length X.I w g (ob.set q Y).length (w.setRow (g.A q) cs):=⟨by simp,fun _ _=>Agree.refl _ _,rfl,s.jI,fun b hb=>hother b (fun e=>hnI (e▸hb))⟩
 have look2:∀ o Z,(ob.set q Y)[o]? =some Z→(o=q∧Z=Y)∨(o≠q∧ob[o]? =some Z):=fun o Z h=>by
  by_cases e:o=q
  ·subst e;rw[List.getElem?_set_self hq]at h;exact Or.inl ⟨rfl,(Option.some.inj h).symm⟩
  ·rw[List.getElem?_set_ne (Ne.symm e)]at h;exact Or.inr ⟨e,h⟩
 have blk2:∀ o,aJ g (ob.set q Y) o→aJ g ob o:=fun o h=>by
  rcases h with ⟨cells,h⟩ | ⟨e,xs,h,hn⟩
  ·rcases look2 o _ h with ⟨rfl,h2⟩ | ⟨h1,h2⟩
   ·exact hblk
   ·exact Or.inl ⟨_,h2⟩
  ·rcases look2 o _ h with ⟨rfl,h2⟩ | ⟨h1,h2⟩
   ·exact hblk
   ·exact Or.inr ⟨_,_,h2,hn⟩
 have hne:∀ o,o≠q→aJ g ob o→g.A o≠g.A q:=fun o ho hb e=>ho (s.inj o q hb hblk e)
 refine⟨⟨?_, ?_,fun o o' h h' e=>s.inj o o' (blk2 o h) (blk2 o' h') e,fun o h=>s.base o (blk2 o h),fun b hb=>by rw[setRow_size];exact s.bnd b hb,s.jI, ?_,by rw[setRow_size];exact s.bsz,by simpa using s.nle,s.kept,s.keptJ⟩,hk⟩
 ·intro o cells h
  rcases look2 o _ h with ⟨rfl,h2⟩ | ⟨h1,h2⟩
  ·rcases hX with ⟨c0,c1,k1,k2,us,k3,k4⟩ | ⟨e,xs,xs',_,k2,_⟩
   ·rw[k2]at h2
    cases h2
    obtain⟨us0,t,m1,_,m3,m4⟩:=s.box o c0 k1
    exact⟨us,t,by rw[setRow_heap w _ _ _ _ _ m1,k3],ay.keep hk _ _ k4,m3,m4⟩
   ·rw[k2]at h2;cases h2
  ·obtain⟨us0,t,m1,m2,m3,m4⟩:=s.box o cells h2
   exact⟨us0,t,by rw[hother _ (hne o h1 (Or.inl ⟨_,h2⟩))];exact m1,ay.keep hk _ _ m2,m3,m4⟩
 ·intro o e xs h
  rcases look2 o _ h with ⟨rfl,h2⟩ | ⟨h1,h2⟩
  ·rcases hX with ⟨c0,c1,k1,k2,_⟩ | ⟨e',xs0,xs',k1,k2,k3,k4,k5⟩
   ·rw[k2]at h2;cases h2
   ·rw[k2]at h2
    cases h2
    obtain⟨m1,m2,mp,m3⟩:=s.arr o e xs0 k1
    refine⟨m1,by rw[k3];exact m2,mp, ?_⟩
    rcases m3 with m3 | ⟨hne',cap,us,t,n1,n2,n2',n3,n4,n5,n6⟩
    ·rcases hblk with ⟨_,hb⟩ | ⟨_,_,hb,hn⟩
     ·rw[k1]at hb;cases hb
     ·exact absurd m3.2 hn
    ·refine Or.inr ⟨hne',cap,cs,t,by rw[k3];exact n1,by rw[k3];exact n2,n2',setRow_heap w _ _ _ _ _ n3,k4 cap us t n3 n4,fun i x hx=> ?_,n6⟩
     have:=k5 i x hx
     have h0:(⟨g.A o,i*e.length,none⟩:Addr)=(⟨g.A o,i*e.length,none⟩:Addr).add 0:=by simp[Addr.add]
     rw[h0,EG]
     have e1:(fun q=>(w.setRow (g.A o) cs).cell? ((⟨g.A o,i*e.length,none⟩:Addr).add q))=fun j=>cs[i*e.length+j]? :=by
      funext j
      rw[dU]
      simp only[World.cell?, setRow_heap w _ _ cs _ _ n3]
      rfl
     rw[e1]
     have keepF:∀ (cs':List CT) (y:ah.V cs') (j:Nat) (f:Nat→Option Value),dQ X.I w f cs' y j→dQ X.I (w.setRow (g.A o) cs) f cs' y j:=by
      intro cs'
      induction cs' with
      |nil=>intro y j f _;simp[dQ]
      |cons c r ih=>
       intro y j f h
       simp only[dQ]at h ⊢
       obtain⟨⟨u,hu,hr⟩,h⟩:=h
       exact⟨⟨u,hu,aZ.keep (fun _ h=>h) hk.heap c _ _ hr⟩,ih _ _ _ h⟩
     exact keepF _ _ _ _ this
  ·obtain⟨m1,m2,mp,m3⟩:=s.arr o e xs h2
   refine⟨m1,m2,mp, ?_⟩
   rcases m3 with m3 | ⟨hne',cap,us,t,n1,n2,n2',n3,n4,n5,n6⟩
   ·exact Or.inl m3
   ·have hb:aJ g ob o:=Or.inr ⟨_,_,h2,hne'⟩
    have hn:=hother _ (hne o h1 hb)
    exact Or.inr ⟨hne',cap,us,t,n1,n2,n2',by rw[hn];exact n3,n4,fun i x hx=>bH.keep (fun _ h=>h) hk.heap e x _ hn (n5 i x hx),n6⟩
 ·refine s.upd.trans ⟨rfl,rfl,rfl,by simp,fun k hk hT=> ?_,fun _=>Nat.le_refl _⟩
  exact hother k (fun e=>by rcases s.base q hblk with h |h;omega;exact hT (e▸h))
theorem aea{t:TypeId}{x y:Operand}(hop:o.op= .store t x y)(h:bP P tbl env ob o.op K=some r):∃ pv ob',K pv ob'=some r∧EV Dr P ob env o true pv ob':=by
 rw[hop]at h
 simp only[bP]at h
 split at h <;>try (simp at h;done)
 rename_i agg n q i sz j vs hl hx hfl
 split at h <;>try (simp at h;done)
 rename_i hn
 obtain⟨hn,hcell⟩:=hn
 have key:∀ (X:Cx Dr) (N:Nat) (g:Gh) (w:World) (a:Act) (cur:Array Value) (te:TypeId),aK X g ob w→dG N g ob.length X.I w env a→
   w.heap[g.A q]? =some (.cells cur te (0,0))→(g.pre q).length+(i*sz+j)+n≤cur.size→
   ∃ us:List Value,us.length=n∧ay g ob.length X.I w vs us∧(execOp a.eval o).run P w= .ok .skip (w.setRow (g.A q) (cur.toList.take ((g.pre q).length+(i*sz+j))++us++cur.toList.drop ((g.pre q).length+(i*sz+j)+us.length)).toArray):=by
  intro X N g w a cur te hs he hcur hb
  obtain⟨us,h1,h2⟩:=vF (he.ev y) hfl
  have hul:us.length=n:=by rw[jJ _ _ h2,hn]
  refine⟨us,hul,h2, ?_⟩
  have e1:=he.ev x
  rw[hx]at e1
  simp only[aj]at e1
  simp only[execOp,hop,e1.2.2.2]
  have hst:=run_storeCells_at (P:=P) (g.A q) ((g.pre q).length+(i*sz+j)) te us 0 cur w hcur (by rw[Nat.add_zero,hul];exact hb) (cells_one _ _ h2 hcell)
  simp only[Nat.add_zero]at hst
  have hst2:(storeVar t ⟨g.A q,(g.pre q).length+(i*sz+j),none⟩ (a.eval y)).run P w= .ok () (w.setRow (g.A q) (cur.toList.take ((g.pre q).length+(i*sz+j))++us++cur.toList.drop ((g.pre q).length+(i*sz+j)+us.length)).toArray):=by
   unfold storeVar
   rw[Sem.run_bind,(qJ hl w).2]
   simp only[Result.andThen_ok,h1]
   rw[if_neg (by simp[hul])]
   exact hst
  simp[Instr.storeAt,Instr.sureAddr,hst2]
 split at h
 ·rename_i cells hq
  split at h <;>try (simp at h;done)
  rename_i hb
  obtain⟨rfl,hb⟩:=hb
  refine⟨_,_,h,fun hh=>by simp at hh,fun X N g w a hs he=> ?_⟩
  obtain⟨us0,te,k1,k2,k3,k4,k5⟩:=hs.box q cells hq
  have hl0:=jJ _ _ k2
  obtain⟨us,m1,m2,m3⟩:=key X N g w a _ te hs he k1 (by simp;omega)
  have hqlt:q<ob.length:=(List.getElem?_eq_some_iff.1 hq).1
  simp only[Nat.zero_mul,Nat.zero_add]at m3
  have e2:((g.pre q++us0++g.post q).toArray.toList.take ((g.pre q).length+j)++us++(g.pre q++us0++g.post q).toArray.toList.drop ((g.pre q).length+j+us.length))=g.pre q++lX us0 j us++g.post q:=by
   rw[NU _ _ _ (by omega)]
   simp only[List.append_assoc]
   rw[List.take_length_add_append,Nat.add_assoc,List.drop_length_add_append,List.take_append_of_le_length (by omega),List.drop_append_of_le_length (by omega)]
   simp
  rw[e2]at m3
  obtain⟨s',kp⟩:=hs.put (Y:= .box (qo cells j vs)) hqlt (g.pre q++lX us0 j us++g.post q).toArray (Or.inl ⟨_,hq⟩) (Or.inl ⟨cells,_,hq,rfl,_,rfl,Eb _ _ _ _ _ m2 k2⟩)
  exact⟨undef,_,g,Or.inr ⟨m3,rfl⟩,⟨fun hh=>by simp at hh,fun b hb hn=>setRow_other w _ b _ (fun hh=>hn q (Or.inl ⟨_,hq⟩) hh.symm),WW (Or.inl ⟨_,hq⟩)⟩,s',kp,by simp[aj]⟩
 ·rename_i e xs hq
  split at h <;>try (simp at h;done)
  rename_i y' hset
  refine⟨_,_,h,fun hh=>by simp at hh,fun X N g w a hs he=> ?_⟩
  have e1:=he.ev x
  rw[hx]at e1
  simp only[aj]at e1
  obtain⟨_,hi,hsz,_⟩:=e1
  obtain⟨k1,k2,kp0,k3⟩:=hs.arr q e xs hq
  rw[k2]at hi
  rw[k1]at hsz
  subst hsz
  rcases k3 with k3 | ⟨hne,cap,cur,te,n1,n2,n2',n3,n4,n5,n6⟩
  ·rw[k3.1]at hi;simp at hi
  ·have hqlt:q<ob.length:=(List.getElem?_eq_some_iff.1 hq).1
   have hrd:=n5 i (xs.getD i (ah.zero e)) (by simp[hi])
   have h0:(⟨g.A q,i*e.length,none⟩:Addr)=(⟨g.A q,i*e.length,none⟩:Addr).add 0:=by simp[Addr.add]
   rw[h0,EG]at hrd
   have hcs:(fun j=>w.cell? ((⟨g.A q,i*e.length,none⟩:Addr).add j))=fun j=>cur[i*e.length+j]? :=by
    funext j;rw[dU];simp[World.cell?, n3]
   rw[hcs]at hrd
   obtain⟨us,h1,h2⟩:=vF (he.ev y) hfl
   have hul:us.length=n:=by rw[jJ _ _ h2,hn]
   obtain⟨p1,p2⟩:=NV hs.jI e 0 vs us _ y' j _ h2 hset hrd
   have hcap:i*e.length+e.length≤cur.size:=by
    rw[n4]
    have:(i+1)*e.length≤cap*e.length:=Nat.mul_le_mul_right _ (by omega)
    rwa [Nat.add_mul,Nat.one_mul]at this
   by_cases hn0:vs=[]
   ·subst hn0
    simp only[List.length_nil]at hn
    subst hn
    obtain rfl:us=[]:=by simpa using hul
    simp only[yO,Option.some.injEq]at hset
    obtain⟨us',m1,m2,m3⟩:∃ us:List Value,us.length=0∧ay g ob.length X.I w [] us∧(execOp a.eval o).run P w= .ok .skip w:=by
     refine⟨[],rfl,by simp[ay], ?_⟩
     have e1:=he.ev x
     rw[hx]at e1
     simp only[aj]at e1
     simp only[execOp,hop,e1.2.2.2]
     have hst2:(storeVar t ⟨g.A q,(g.pre q).length+(i*e.length+j),none⟩ (a.eval y)).run P w= .ok () w:=by
      unfold storeVar
      rw[Sem.run_bind,(qJ hl w).2]
      simp only[Result.andThen_ok,h1]
      simp[storeCells]
     simp[Instr.storeAt,Instr.sureAddr,hst2]
    have hsame:xs.set i y'=xs:=by
     rw[←hset]
     apply List.ext_getElem?
     intro m
     by_cases hm:m=i
     ·subst hm;simp[hi]
     ·rw[List.getElem?_set_ne (Ne.symm hm)]
    have hob:ob.set q (.arr e (xs.set i y'))=ob:=by
     rw[hsame]
     apply List.ext_getElem?
     intro m
     by_cases hm:m=q
     ·subst hm;simp[hqlt,hq]
      simpa using (List.getElem?_eq_some_iff.1 hq).2.symm
     ·rw[List.getElem?_set_ne (Ne.symm hm)]
    rw[hob]
    exact⟨undef,w,g,Or.inr ⟨m3,rfl⟩,⟨fun hh=>by simp at hh,fun _ _ _=>rfl,kC.refl _ _ _⟩,hs,hs.refl,by simp[aj]⟩
   ·have hjl:j+vs.length≤e.length:=by rcases p2 with p2 |p2;exact absurd p2 hn0;exact p2
    obtain⟨us',m1,m2,m3⟩:=key X N g w a cur te hs he n3 (by rw[kp0];simp;omega)
    rw[kp0]at m3
    simp only[List.length_nil,Nat.zero_add]at m3
    obtain⟨p1,_⟩:=NV hs.jI e 0 vs us' _ y' j _ m2 hset hrd
    have hX:∀ m x,(xs.set i y')[m]? =some x→dQ X.I w (fun z=>(cur.toList.take (i*e.length+j)++us'++cur.toList.drop (i*e.length+j+us'.length)).toArray[m*e.length+z]?) e x 0:=by
     intro m x hx
     have fcell:∀ z,(cur.toList.take (i*e.length+j)++us'++cur.toList.drop (i*e.length+j+us'.length)).toArray[z]? =if i*e.length+j≤z∧z<i*e.length+j+us'.length then us'[z - (i*e.length+j)]? else cur[z]? :=by
      intro z
      simp only[List.getElem?_toArray]
      by_cases z1:z<i*e.length+j
      ·rw[if_neg (by omega),List.append_assoc,List.getElem?_append_left (by simp;omega),List.getElem?_take_of_lt z1]
       simp
      ·by_cases z2:z<i*e.length+j+us'.length
       ·rw[if_pos (by omega),List.append_assoc,List.getElem?_append_right (by simp;omega),List.getElem?_append_left (by simp;omega)]
        congr 1
        simp;omega
       ·rw[if_neg (by omega),List.append_assoc,List.getElem?_append_right (by simp;omega),List.getElem?_append_right (by simp;omega),List.getElem?_drop]
        simp only[Array.getElem?_toList]
        congr 1
        simp;omega
     by_cases hm:m=i
     ·subst hm
      have:x=y':=by simp[hi]at hx;exact hx.symm
      subst this
      have e3:(fun j_1=>(cur.toList.take (m*e.length+j)++us'++cur.toList.drop (m*e.length+j+us'.length)).toArray[m*e.length+j_1]?)=yN (fun j=>cur[m*e.length+j]?) (0+j) us':=by
       funext z
       rw[fcell,VX]
       by_cases z1:m*e.length+j≤m*e.length+z∧m*e.length+z<m*e.length+j+us'.length
       ·rw[if_pos z1,if_pos (by omega)]
        congr 1;omega
       ·rw[if_neg z1,if_neg (by omega)]
      rw[e3]
      exact p1
     ·rw[List.getElem?_set_ne (Ne.symm hm)]at hx
      have hrm:=n5 m x hx
      have h0:(⟨g.A q,m*e.length,none⟩:Addr)=(⟨g.A q,m*e.length,none⟩:Addr).add 0:=by simp[Addr.add]
      rw[h0,EG]at hrm
      have hcs2:(fun j=>w.cell? ((⟨g.A q,m*e.length,none⟩:Addr).add j))=fun j=>cur[m*e.length+j]? :=by
       funext j;rw[dU];simp[World.cell?, n3]
      rw[hcs2]at hrm
      have cong:∀ (cs:List CT) (y:ah.V cs) (z:Nat) (f f':Nat→Option Value),z+cs.length≤e.length→(∀ z,z<e.length→f z=f' z)→dQ X.I w f cs y z→dQ X.I w f' cs y z:=by
       intro cs
       induction cs with
       |nil=>intro y z f f' _ _ _;simp[dQ]
       |cons c rr ih=>
        intro y z f f' hz hff hh
        simp only[dQ]at hh ⊢
        simp only[List.length_cons]at hz
        obtain⟨⟨u,hu,hr⟩,hh⟩:=hh
        exact⟨⟨u,by rw[←hff z (by omega)];exact hu,hr⟩,ih _ _ f f' (by omega) hff hh⟩
      refine cong e x 0 _ _ (by omega) (fun z hz=> ?_) hrm
      rw[fcell,if_neg]
      intro hh
      rcases Nat.lt_or_gt_of_ne hm with hlt |hgt
      ·have:(m+1)*e.length≤i*e.length:=Nat.mul_le_mul_right _ (by omega)
       rw[Nat.add_mul,Nat.one_mul]at this
       omega
      ·have:(i+1)*e.length≤m*e.length:=Nat.mul_le_mul_right _ (by omega)
       rw[Nat.add_mul,Nat.one_mul]at this
       omega
    obtain⟨s',kp⟩:=hs.put (Y:= .arr e (xs.set i y')) hqlt (cur.toList.take (i*e.length+j)++us'++cur.toList.drop (i*e.length+j+us'.length)).toArray (Or.inr ⟨_,_,hq,hne⟩)
     (Or.inr ⟨e,xs,_,hq,rfl,by simp,fun cap' us2 t2 hh hsz=>by
      rw[n3]at hh;cases hh
      rw[←hsz];simp;omega,hX⟩)
    exact⟨undef,_,g,Or.inr ⟨m3,rfl⟩,⟨fun hh=>by simp at hh,fun b hb hn=>setRow_other w _ b _ (fun hh=>hn q (Or.inr ⟨_,_,hq,hne⟩) hh.symm),WW (Or.inr ⟨_,_,hq,hne⟩)⟩,s',kp,by simp[aj]⟩
 ·simp at h
end Go.Rv
set_option linter.unusedVariables false
set_option linter.unusedSimpArgs false
namespace Go.Rv
open Go.RowKit
variable {Dr:Kn}
variable {R:Type} {P:Program} {tbl:dX} {env:Env} {ob:List Ob} {o:Oper} {K:PV→List Ob→Option R} {r:R}
theorem aK.weaken{X:Cx Dr}{g:Gh}{w:World}(s:aK X g ob w){ob':List Ob}(hl:ob'.length=ob.length)(h:∀ (o:Nat) (Y:Ob),ob'[o]? =some Y→Y= .dead∨ob[o]? =some Y):aK X g ob' w:=by
 have hb:∀ o,aJ g ob' o→aJ g ob o:=fun o hh=>by
  rcases hh with ⟨cells,hh⟩ | ⟨e,xs,hh,hn⟩
  ·rcases h o _ hh with h1 |h1
   ·cases h1
   ·exact Or.inl ⟨_,h1⟩
  ·rcases h o _ hh with h1 |h1
   ·cases h1
   ·exact Or.inr ⟨_,_,h1,hn⟩
 refine⟨fun o cells hh=> ?_,fun o e xs hh=> ?_,fun o o' k k' e=>s.inj o o' (hb o k) (hb o' k') e,fun o k=>s.base o (hb o k),s.bnd,s.jI,s.upd,s.bsz,by rw[hl];exact s.nle,s.kept,s.keptJ⟩
 ·rcases h o _ hh with h1 |h1
  ·cases h1
  ·rw[hl];exact s.box o cells h1
 ·rcases h o _ hh with h1 |h1
  ·cases h1
  ·exact s.arr o e xs h1
theorem lT{o q:Nat}{Y Z:Ob}(h:(ob.set q Z)[o]? =some Y):(o=q∧Y=Z)∨(o≠q∧ob[o]? =some Y):=by
 by_cases e:o=q
 ·subst e
  rw[List.getElem?_set]at h
  simp at h
  exact Or.inl ⟨rfl,h.2.symm⟩
 ·rw[List.getElem?_set_ne (Ne.symm e)]at h;exact Or.inr ⟨e,h⟩
theorem xM:∀ (ids:List Nat) (ob:List Ob),(lg ids ob).length=ob.length
 | [],_=>rfl
 |i::r,ob=>by rw[lg,xM r];simp
theorem vw:∀ (ids:List Nat) (ob:List Ob) (o:Nat) (Y:Ob),(lg ids ob)[o]? =some Y→(Y= .dead∨ob[o]? =some Y)∧(o∈ids→Y= .dead)
 | [],ob,o,Y,h=>⟨Or.inr h,fun h=>by simp at h⟩
 |i::r,ob,o,Y,h=>by
  rw[lg]at h
  obtain⟨h1,h2⟩:=vw r _ o Y h
  rcases h1 with h1 |h1
  ·exact⟨Or.inl h1,fun _=>h1⟩
  ·rcases lT h1 with ⟨k1,k2⟩ | ⟨k1,k2⟩
   ·exact⟨Or.inl k2,fun _=>k2⟩
   ·refine⟨Or.inr k2,fun hm=> ?_⟩
    rcases List.mem_cons.1 hm with hm |hm
    ·exact absurd hm k1
    ·exact h2 hm
theorem aK.kill{X:Cx Dr}{g:Gh}{w:World}(s:aK X g ob w)(ids:List Nat):aK X g (lg ids ob) w:=
 s.weaken (xM ids ob) fun o Y h=>(vw ids ob o Y h).1
theorem aK.step{X:Cx Dr}{g:Gh}{w w':World}(s:aK X g ob w){T:List Nat}(h:aO Dr w.heap.size T w w')(hT:∀ b∈T,¬ X.I b∧(X.B≤b∨b∈X.T)∧∀ o,aJ g ob o→g.A o≠b):
  aK X g ob w'∧Keep g ob.length X.I w g ob.length w':=by
 have hk:Keep g ob.length X.I w g ob.length w':=⟨Nat.le_refl _,fun _ _=>Agree.refl _ _,rfl,s.jI,fun b hb=>h.block b (s.bnd b hb) (fun hm=>(hT b hm).1 hb)⟩
 have hblk:∀ o,aJ g ob o→w'.heap[g.A o]? =w.heap[g.A o]? :=fun o ho=>h.block _ (s.blk ho).1 (fun hm=>(hT _ hm).2.2 o ho rfl)
 refine⟨⟨?_, ?_,s.inj,s.base,fun b hb=>Nat.lt_of_lt_of_le (s.bnd b hb) h.size,s.jI, ?_,Nat.le_trans s.bsz h.size,s.nle,s.kept,s.keptJ⟩,hk⟩
 ·intro o cells ho
  obtain⟨us,t,h1,h2,h3⟩:=s.box o cells ho
  exact⟨us,t,by rw[hblk o (Or.inl ⟨_,ho⟩)];exact h1,ay.keep hk _ _ h2,h3⟩
 ·intro o e xs ho
  obtain⟨h0,h0',hp,h1⟩:=s.arr o e xs ho
  refine⟨h0,h0',hp, ?_⟩
  rcases h1 with h1 | ⟨h1,cap,us,t,k1,k2,k2',k3,k4,k5,k6⟩
  ·exact Or.inl h1
  ·have hb:=hblk o (Or.inr ⟨_,_,ho,h1⟩)
   refine Or.inr ⟨h1,cap,us,t,k1,k2,k2',by rw[hb];exact k3,k4,fun i x hx=> ?_,k6⟩
   exact bH.keep (fun _ h=>h) hk.heap e x _ hb (k5 i x hx)
 ·refine s.upd.trans ⟨h.os,h.tape,h.output,h.size,fun k hk hn=>h.block k (Nat.lt_of_lt_of_le hk s.bsz) fun hm=> ?_,h.drawn⟩
  rcases(hT k hm).2.1 with h1 |h1
  ·omega
  ·exact hn h1
theorem Vm{I:Nat→Prop}{w:World}:∀ (e:List CT) (x:ah.V e) (a:Addr) (j:Nat),bH I w e x a→j<e.length→∃ u,w.cell? (a.add j)=some u∧u.oneCell'=true
 | [],_,_,_,_,h=>by simp at h
 |c::cs,x,a,0,h,_=>by
  simp only[bH]at h
  obtain⟨⟨u,hu,hr⟩,_⟩:=h
  refine⟨u,by simpa [Addr.add]using hu, ?_⟩
  cases c <;>simp only[aZ]at hr
  all_goals first
   | (subst hr;rfl)
   | (obtain⟨_,_,rfl,_⟩:=hr;rfl)
 |c::cs,x,a,j+1,h,hj=>by
  simp only[bH]at h
  obtain⟨u,hu,h1⟩:=Vm cs x.2 (a.add 1) j h.2 (by simpa using hj)
  exact⟨u,by rw[lG,Nat.add_comm]at hu;exact hu,h1⟩
theorem Ud{I:Nat→Prop}{w:World}{a:Addr}:∀ (e:List CT) (x:ah.V e) (q:Nat) (f:Nat→Option Value),bH I w e x (a.add q)→(∀ j,q≤j→j<q+e.length→f j=w.cell? (a.add j))→dQ I w f e x q
 | [],_,_,_,_,_=>by simp[dQ]
 |c::cs,x,q,f,h,hf=>by
  simp only[bH]at h
  simp only[dQ]
  obtain⟨⟨u,hu,hr⟩,h⟩:=h
  refine⟨⟨u,by rw[hf q (Nat.le_refl _) (by simp)];exact hu,hr⟩, ?_⟩
  rw[lG]at h
  exact Ud cs x.2 (q+1) f h fun j h1 h2=>hf j (by omega) (by simp;omega)
theorem L6{I:Nat→Prop}{w w':World}(hw:∀ b,I b→w'.heap[b]? =w.heap[b]?){a:Addr}:∀ (e:List CT) (x:ah.V e) (q:Nat) (f:Nat→Option Value),dQ I w f e x q→(∀ j,q≤j→j<q+e.length→∀ u,f j=some u→w'.cell? (a.add j)=some u)→bH I w' e x (a.add q)
 | [],_,_,_,_,_=>by simp[bH]
 |c::cs,x,q,f,h,hf=>by
  simp only[dQ]at h
  simp only[bH]
  obtain⟨⟨u,hu,hr⟩,h⟩:=h
  refine⟨⟨u,hf q (Nat.le_refl _) (by simp) u hu,aZ.keep (fun _ h=>h) hw c _ _ hr⟩, ?_⟩
  rw[lG]
  exact L6 hw cs x.2 (q+1) f h fun j h1 h2=>hf j (by omega) (by simp;omega)
theorem LX{I:Nat→Prop}{w:World}{e:List CT}{ys:List (ah.V e)}{u:Value}(h:mQ I w e ys u):
  ∃ news:List Value,news.length=ys.length*e.length∧(∀ w1:World,w1.heap=w.heap→(Builtin.firstCells e.length ys.length u).run P w1= .ok news.toArray w1)∧(∀ v∈news,v.oneCell'=true)∧∀ (i:Nat) (x:ah.V e),ys[i]? =some x→dQ I w (fun j=>news[i*e.length+j]?) e x 0:=by
 obtain⟨a,cap,rfl,hc,h⟩:=h
 by_cases h0:ys.length=0
 ·refine⟨[],by simp[h0],fun w1 _=> ?_,by simp,fun i x hx=>by have:=(List.getElem?_eq_some_iff.1 hx).1;omega⟩
  cases a <;>simp[Builtin.firstCells,h0,loadCells,loadCellsFrom]
 rcases h with h | ⟨ad,rfl,h⟩
 ·exact absurd h h0
 have cell:∀ i j,i<ys.length→j<e.length→∃ u,w.cell? (ad.add (i*e.length+j))=some u∧u.oneCell'=true:=fun i j hi hj=>by
  obtain⟨u,h1,h2⟩:=Vm e _ _ j (h i _ (List.getElem?_eq_getElem hi)) hj
  exact⟨u,by rw[lG]at h1;exact h1,h2⟩
 let news:=(List.range (ys.length*e.length)).map fun k=>(w.cell? (ad.add k)).getD undef
 have hk:∀ k,k<ys.length*e.length→∃ u,w.cell? (ad.add k)=some u∧u.oneCell'=true∧news[k]? =some u:=fun k hk=>by
  have hpos:0<e.length:=by rcases Nat.eq_zero_or_pos e.length with h |h;rw[h]at hk;simp at hk;exact h
  obtain⟨u,h1,h2⟩:=cell (k / e.length) (k % e.length) (Nat.div_lt_of_lt_mul (by rw[Nat.mul_comm];exact hk)) (Nat.mod_lt _ hpos)
  have hd:k / e.length*e.length+k % e.length=k:=by rw[Nat.mul_comm];exact Nat.div_add_mod k e.length
  rw[hd]at h1
  exact⟨u,h1,h2,by simp[news,hk,h1]⟩
 have hlen:news.length=ys.length*e.length:=by simp[news]
 refine⟨news,hlen,fun w1 hw1=> ?_,fun v hv=> ?_,fun i x hx=> ?_⟩
 ·simp only[Builtin.firstCells]
  have:=run_loadCells_list (P:=P) w1 ad news fun j u hj=>by
   have hjl:j<ys.length*e.length:=by have:=(List.getElem?_eq_some_iff.1 hj).1;omega
   obtain⟨u',h1,_,h3⟩:=hk j hjl
   rw[h3]at hj
   rw[←Option.some.inj hj,MV (w:=w) (by rw[hw1])];exact h1
  rw[hlen]at this
  exact this
 ·obtain⟨k,hkv⟩:=List.getElem?_of_mem hv
  have hjl:k<ys.length*e.length:=by have:=(List.getElem?_eq_some_iff.1 hkv).1;omega
  obtain⟨u',h1,h2,h3⟩:=hk k hjl
  rw[h3]at hkv
  rw[←Option.some.inj hkv];exact h2
 ·have hi:i<ys.length:=(List.getElem?_eq_some_iff.1 hx).1
  have h1:=h i x hx
  have e0:ad.add (i*e.length)=(ad.add (i*e.length)).add 0:=by simp[Addr.add]
  rw[e0]at h1
  refine Ud e x 0 _ h1 fun j _ hj=> ?_
  rw[lG]
  have hlt:i*e.length+j<ys.length*e.length:=by
   have:(i+1)*e.length≤ys.length*e.length:=Nat.mul_le_mul_right _ (by omega)
   rw[Nat.add_mul,Nat.one_mul]at this
   omega
  obtain⟨u',h1,h2,h3⟩:=hk _ hlt
  rw[h1]
  exact h3
theorem mQ.len{I:Nat→Prop}{w:World}{e:List CT}{ys:List (ah.V e)}{u:Value}(h:mQ I w e ys u):∃ a cap,u= .slice a ys.length cap∧ys.length≤cap:=by
 obtain⟨a,cap,h1,h2,_⟩:=h
 exact⟨a,cap,h1,h2⟩
theorem UB{I:Nat→Prop}{w:World}{e:List CT}{xs ys:List (ah.V e)}{as bs rest:List Value}(ha:as.length=xs.length*e.length)(hb:bs.length=ys.length*e.length)
  (h1:∀ (i:Nat) (x:ah.V e),xs[i]? =some x→dQ I w (fun j=>as[i*e.length+j]?) e x 0) (h2:∀ (i:Nat) (x:ah.V e),ys[i]? =some x→dQ I w (fun j=>bs[i*e.length+j]?) e x 0):
  ∀ (i:Nat) (x:ah.V e),(xs++ys)[i]? =some x→dQ I w (fun j=>(as++bs++rest)[i*e.length+j]?) e x 0:=by
 have cong:∀ (cs:List CT) (y:ah.V cs) (z:Nat) (f f':Nat→Option Value),z+cs.length≤e.length→(∀ z,z<e.length→f z=f' z)→dQ I w f cs y z→dQ I w f' cs y z:=by
  intro cs
  induction cs with
  |nil=>intro y z f f' _ _ _;simp[dQ]
  |cons c rr ih=>
   intro y z f f' hz hff hh
   simp only[dQ]at hh ⊢
   simp only[List.length_cons]at hz
   obtain⟨⟨u,hu,hr⟩,hh⟩:=hh
   exact⟨⟨u,by rw[←hff z (by omega)];exact hu,hr⟩,ih _ _ f f' (by omega) hff hh⟩
 intro i x hx
 by_cases hi:i<xs.length
 ·rw[List.getElem?_append_left hi]at hx
  refine cong e x 0 _ _ (by omega) (fun z hz=> ?_) (h1 i x hx)
  have:(i+1)*e.length≤xs.length*e.length:=Nat.mul_le_mul_right _ (by omega)
  rw[Nat.add_mul,Nat.one_mul]at this
  rw[List.append_assoc,List.getElem?_append_left (by omega)]
 ·rw[List.getElem?_append_right (by omega)]at hx
  refine cong e x 0 _ _ (by omega) (fun z hz=> ?_) (h2 _ x hx)
  have hi2:i - xs.length<ys.length:=(List.getElem?_eq_some_iff.1 hx).1
  have e1:i*e.length=xs.length*e.length+(i - xs.length)*e.length:=by rw[←Nat.add_mul];congr 1;omega
  have:(i - xs.length+1)*e.length≤ys.length*e.length:=Nat.mul_le_mul_right _ (by omega)
  rw[Nat.add_mul,Nat.one_mul]at this
  rw[List.append_assoc,List.getElem?_append_right (by omega),List.getElem?_append_left (by omega)]
  congr 1
  omega
theorem acB(n:Nat):∀ (k c:Nat),Builtin.growBy n k c≤c+k*(n / 4+200)∨Builtin.growBy n k c≤c:=by
 intro k
 induction k with
 |zero=>intro c;right;simp[Builtin.growBy]
 |succ k ih=>
  intro c
  simp only[Builtin.growBy]
  split
  ·right;omega
  ·left
   rename_i hc
   have h1:(c+768) / 4≤n / 4+192:=by omega
   rcases ih (c+(c+768) / 4)with h |h
   ·rw[Nat.add_mul,Nat.one_mul]
    omega
   ·have:0≤k*(n / 4+200):=Nat.zero_le _
    rw[Nat.add_mul,Nat.one_mul]
    omega
theorem abX{need old:Nat}(h:old<need):Builtin.nextslicecap need old≤3*need+1024:=by
 unfold Builtin.nextslicecap
 split
 ·omega
 ·split
  ·omega
  ·have h:=acB need 4 old
   generalize Builtin.growBy need 4 old=q at h ⊢
   omega
theorem run_append_room'(w:World)(t t' ty e e':TypeId)(i:TypeInfo)(ht:P.underlying t=some (.slice e))(ht':P.underlying t'=some (.slice e'))(hi:P.info? e=some i)
  (ad:Addr) (n cap m:Nat) (a:Option Addr) (c:Nat) (news:List Value) (w2:World) (hf:(Builtin.firstCells i.size m (.slice a m c)).run P w= .ok news.toArray w) (hroom:n+m≤cap)
  (hst:(storeCells (ad.add (n*i.size)) news).run P w= .ok () w2):
  (Builtin.append_ #[t,t'] ty #[.slice (some ad) n cap,.slice a m c]).run P w= .ok (.slice (some ad) (n+m) cap) w2:=by
 simp[Builtin.append_,run_underlying ht,run_underlying ht',sizeOf,typeInfo,hi,Builtin.lenOf,hroom,hf,hst]
theorem Q5(w:World)(t t' ty e e':TypeId)(i:TypeInfo)(ht:P.underlying t=some (.slice e))(ht':P.underlying t'=some (.slice e'))(hi:P.info? e=some i)
  (base:Option Addr) (a:Option Addr) (c:Nat) (hb:base=none∨∃ ad,base=some ad):
  (Builtin.append_ #[t,t'] ty #[.slice base 0 0,.slice a 0 c]).run P w= .ok (.slice base 0 0) w:=by
 have hf:(Builtin.firstCells i.size 0 (.slice a 0 c)).run P w= .ok #[] w:=by cases a <;>simp[Builtin.firstCells,loadCells,loadCellsFrom]
 rcases hb with rfl | ⟨ad,rfl⟩
 ·simp[Builtin.append_,run_underlying ht,run_underlying ht',sizeOf,typeInfo,hi,Builtin.lenOf,hf]
 ·simp[Builtin.append_,run_underlying ht,run_underlying ht',sizeOf,typeInfo,hi,Builtin.lenOf,hf,storeCells]
theorem run_append_grow(w:World)(t t' ty e e':TypeId)(i:TypeInfo)(z:Value)(ht:P.underlying t=some (.slice e))(ht':P.underlying t'=some (.slice e'))(hi:P.info? e=some i)(hz:i.zero=some z)
  (base:Option Addr) (n cap m:Nat) (a:Option Addr) (c:Nat) (olds news:List Value) (hf:∀ w1,w1.heap=w.heap→(Builtin.firstCells i.size m (.slice a m c)).run P w1= .ok news.toArray w1) (ho:∀ w1,w1.heap=w.heap→(Builtin.firstCells i.size n (.slice base n cap)).run P w1= .ok olds.toArray w1)
  (hroom:cap<n+m) (hby:i.bytes≤4096) (hmax:n+m≤maxRow):
  (Builtin.append_ #[t,t'] ty #[.slice base n cap,.slice a m c]).run P w= .ok (.slice (some ⟨w.heap.size,0,none⟩) (n+m) (grownCap w (n+m) cap e))
   (w.drew.alloc (.cells (olds.toArray++news.toArray++Builtin.zeroCells z.cells (grownCap w (n+m) cap e - (n+m))) e)):=by
 have h1:¬ n+m≤cap:=by omega
 have h2:¬ (((n+m:Nat):Int)>IntKind.i64.max):=by
  have:IntKind.i64.max=9223372036854775807:=by decide
  rw[this]
  unfold maxRow at hmax
  omega
 have e48:(2:Nat) ^ 48=281474976710656:=by decide
 have h3:¬ Builtin.nextslicecap (n+m) cap*i.bytes>2 ^ 48:=by
  have h4:=abX hroom
  have:Builtin.nextslicecap (n+m) cap*i.bytes≤(3*(n+m)+1024)*4096:=Nat.mul_le_mul h4 hby
  unfold maxRow at hmax
  rw[e48]
  omega
 have hfd:=hf w.drew rfl
 have hod:=ho w.drew rfl
 have h63':¬ (9223372036854775807<((n:Int)+(m:Int))):=by unfold maxRow at hmax;omega
 have h48':¬ (281474976710656<Builtin.nextslicecap (n+m) cap*i.bytes):=by rw[←e48];exact h3
 simp[Builtin.append_,run_underlying ht,run_underlying ht',sizeOf,typeInfo,zeroValue,hi,hz,Builtin.lenOf,h1,h63',h48',Question.forced,hfd,hod,newRow,grownCap]
 congr 2
 apply Array.ext'
 simp[List.append_assoc]
theorem VE{X:Cx Dr}{g:Gh}{w:World}(s:aK X g ob w){e:List CT}{xs ys:List (ah.V e)}{as bs:List Value}(zs:Value)(te:TypeId)(cap:Nat)(hz:zs.cells.size=e.length)(ha:as.length=xs.length*e.length)(hb:bs.length=ys.length*e.length)
  (h1:∀ (i:Nat) (x:ah.V e),xs[i]? =some x→dQ X.I w (fun j=>as[i*e.length+j]?) e x 0) (h2:∀ (i:Nat) (x:ah.V e),ys[i]? =some x→dQ X.I w (fun j=>bs[i*e.length+j]?) e x 0) (hl:xs.length+ys.length≤cap) (hc:cap≤maxLen):
  let w':=w.drew.alloc (.cells (as.toArray++bs.toArray++Builtin.zeroCells zs.cells (cap - (xs.length+ys.length))) te)
  ∃ g',aK X g' (ob++[Ob.arr e (xs++ys)]) w'∧Keep g ob.length X.I w g' (ob++[Ob.arr e (xs++ys)]).length w'∧oM Dr g ob.length w g' (ob++[Ob.arr e (xs++ys)]) w'∧
   aj g' (ob++[Ob.arr e (xs++ys)]).length X.I w' (.own ob.length) (.slice (some ⟨w.heap.size,0,none⟩) (xs.length+ys.length) cap):=by
 intro w'
 have hd:Below Dr w.heap.size w w.drew:=(Below.refl _ _).drew
 obtain⟨s1,k1⟩:=s.up hd
 have hsz:(as.toArray++bs.toArray++Builtin.zeroCells zs.cells (cap - (xs.length+ys.length))).size=cap*e.length:=by
  simp only[Array.size_append,List.size_toArray,size_zeroCells,hz,ha,hb, ←Nat.add_mul]
  congr 1
  omega
 obtain⟨g',s',k',f',r'⟩:=Np s1 e (xs++ys) cap (as.toArray++bs.toArray++Builtin.zeroCells zs.cells (cap - (xs.length+ys.length))) te (by simp;omega) hc hsz (fun q x hx=>by
  have:=UB (rest:=(Builtin.zeroCells zs.cells (cap - (xs.length+ys.length))).toList) ha hb h1 h2 q x hx
  have e0:(⟨w.drew.heap.size,q*e.length,none⟩:Addr)=(⟨w.drew.heap.size,q*e.length,none⟩:Addr).add 0:=by simp[Addr.add]
  rw[e0]
  refine L6 (w:=w) (fun b hb=>(xI (D:=Kn.no) w.drew _).block b (s1.bnd b hb)) e x 0 _ this fun j _ _ u hu=> ?_
  rw[dU]
  apply Nw
  rw[←hu, ←Array.getElem?_toList]
  simp[List.append_assoc])
 refine⟨g',s',k1.trans k',⟨hd.trans (f'.below.mono (Nat.le_refl _)),fun o ho hb=>f'.fresh o ho hb⟩, ?_⟩
 have:(xs++ys).length=xs.length+ys.length:=by simp
 rw[this]at r'
 exact r'
theorem adn{c:Call}(hc:c.callee= .builtin .append)(hop:o.op= .call c)(h:bP P tbl env ob o.op K=some r):∃ pv ob',K pv ob'=some r∧EV Dr P ob env o (impure tbl env o.op) pv ob':=by
 rw[hop]at h ⊢
 simp only[bP,hc]at h
 split at h <;>try (simp at h;done)
 rename_i b x t t' hargs htys
 split at h <;>try (simp at h;done)
 rename_i e cs e' he0 hu'
 split at h <;>try (simp at h;done)
 rename_i i hi
 split at h <;>try (simp at h;done)
 rename_i z ys hz hys
 split at h <;>try (simp at h;done)
 rename_i hcond
 obtain⟨hzs,hpos,hby⟩:=hcond
 obtain⟨hu,hsz⟩:=MS he0 hi
 obtain⟨h,hbnd,_⟩:=WU h
 replace hys:=hbnd _ _ hys
 have hzl:z.cells.size=cs.length:=by simpa using MC _ _ hzs
 have a1:c.args= #[b,x]:=by rw[←Array.toArray_toList (xs:=c.args),hargs]
 have a2:c.argTypes= #[t,t']:=by rw[←Array.toArray_toList (xs:=c.argTypes),htys]
 have run:∀ (a:Act) (w w':World) (v:Value),(Builtin.append_ #[t,t'] o.type #[a.eval b,a.eval x]).run P w= .ok v w'→(execOp a.eval o).run P w= .ok (.value v) w':=by
  intro a w w' v hv
  simp only[execOp,hop,resolve,hc,a1,a2,invoke,builtin]
  simp[invoke,builtin,hv]
 have fresh:(K (.own ob.length) (ob++[.arr cs ys])=some r)→(ys.length≤maxRow)→(∀ (X:Cx Dr) (N:Nat) (g:Gh) (w:World) (a:Act),aK X g ob w→dG N g ob.length X.I w env a→∃ base,a.eval b= .slice base 0 0)→
   ∃ pv ob',K pv ob'=some r∧EV Dr P ob env o (impure tbl env (.call c)) pv ob':=by
  intro hK hlen hbase
  refine⟨_,_,hK,fun _=>⟨_,rfl⟩,fun X N g w a hs he=> ?_⟩
  obtain⟨base,hb⟩:=hbase X N g w a hs he
  have hsl:=AY hs hys (he.ev x)
  obtain⟨ax,cx,hx,hxc⟩:=hsl.len
  by_cases h0:ys.length=0
  ·have hnil:ys=[]:=List.eq_nil_of_length_eq_zero h0
   subst hnil
   have hr:=run a w w _ (by rw[hb,hx];exact Q5 w t t' o.type e e' i hu hu' hi base ax cx (by cases base;exact Or.inl rfl;exact Or.inr ⟨_,rfl⟩))
   refine⟨_,w,g.push ob.length 0 (.slice base 0 0) 0 cs.length,Or.inl hr,⟨fun _=>⟨Below.refl _ _,fun o' ho hbk=> ?_⟩,fun _ _ _=>rfl,VQ fun hh=>by
    exfalso
    rcases hh with ⟨cells,hh⟩ | ⟨e1,xs1,hh,hn⟩
    ·simp at hh
    ·exact hn ⟨base,by simp[Gh.push,Gh.dB]⟩⟩,hs.add _ 0 _ 0 _ (fun _ hh=>by cases hh) (fun e1 xs1 hh=> ?_) (fun hh=> ?_),by simpa using Keep.push hs.jI, ?_⟩
   ·exfalso
    have:o'=ob.length:=by have:=hbk.lt;simp at this;omega
    subst this
    rcases hbk with ⟨cells,hbk⟩ | ⟨e1,xs1,hbk,hn⟩
    ·simp at hbk
    ·exact hn ⟨base,by simp[Gh.push,Gh.dB]⟩
   ·cases hh
    exact⟨rfl,rfl,Or.inl ⟨rfl,base,rfl⟩⟩
   ·exfalso
    rcases hh with ⟨cells,hh⟩ | ⟨e1,xs1,hh,hn⟩
    ·cases hh
    ·exact hn ⟨base,rfl⟩
   ·simp only[aj]
    exact⟨by simp,by simp[Gh.push,Gh.dB],_,_,_,rfl⟩
  ·obtain⟨news,n1,n2,n3,n4⟩:=LX (P:=P) hsl
   rw[←hsz]at n2
   rw[hx]at n2
   have ho:∀ w1:World,w1.heap=w.heap→(Builtin.firstCells i.size 0 (.slice base 0 0)).run P w1= .ok (([]:List Value).toArray) w1:=fun w1 _=>by
    cases base <;>simp[Builtin.firstCells,loadCells,loadCellsFrom]
   have hr:=run a w _ _ (by rw[hb,hx];exact run_append_grow w t t' o.type e e' i z hu hu' hi hz base 0 0 ys.length ax cx [] news n2 ho (by omega) hby (by omega))
   have hcap:=grownCap_le_maxLen w (0+ys.length) 0 e (by unfold maxLen maxRow at *; omega)
   obtain⟨g',s',k',f',r'⟩:=VE hs (e:=cs) (xs:=[]) (ys:=ys) (as:=[]) (bs:=news) z e (grownCap w (0+ys.length) 0 e) hzl (by simp) n1 (fun i x hx=>by simp at hx) n4 (grownCap_ge w (0+ys.length) 0 e) hcap
   exact⟨_,_,g',Or.inl hr,⟨fun _=>by simpa using f',f'.only,by simpa using f'.blk k'⟩,by simpa using s',by simpa using k',by simpa using r'⟩
 split at h <;>try (simp at h;done)
 ·rename_i hb
  split at h <;>try (simp at h;done)
  rename_i hlen
  refine fresh h hlen fun X N g w a hs he=> ?_
  have:=he.ev b
  rw[hb]at this
  simp only[aj]at this
  exact⟨none,this⟩
 ·rename_i hb
  split at h <;>try (simp at h;done)
  rename_i hlen
  refine fresh h hlen fun X N g w a hs he=> ?_
  have:=he.ev b
  rw[hb]at this
  simp only[aj]at this
  exact this
 ·rename_i q hb
  split at h <;>try (simp at h;done)
  rename_i e1 xs hq
  split at h <;>try (simp at h;done)
  rename_i hbeq
  have hcs:=ah.eq_of_beq hbeq
  subst hcs
  split at h <;>try (simp at h;done)
  rename_i hnq
  split at h <;>try (simp at h;done)
  rename_i hlen
  have him:impure tbl env (.call c)=true:=by simp[impure,hc,a1,hb]
  rw[him]
  refine⟨_,_,h,fun hh=>by simp at hh,fun X N g w a hs he=> ?_⟩
  have hbv:=he.ev b
  rw[hb]at hbv
  simp only[aj]at hbv
  obtain⟨hqn,hbv,_⟩:=hbv
  have hsl:=AY hs hys (he.ev x)
  obtain⟨ax,cx,hx,hxc⟩:=hsl.len
  obtain⟨news,n1,n2,n3,n4⟩:=LX (P:=P) hsl
  rw[←hsz,hx]at n2
  have hol:=Nc hs hq
  obtain⟨aq,cq,hH,hqc⟩:=hol.len
  obtain⟨olds,o1,o2,o3,o4⟩:=LX (P:=P) hol
  rw[←hsz,hH]at o2
  obtain⟨k1,k2,kp,harr⟩:=hs.arr q e1 xs hq
  have hkill:aK X g (ob.set q .dead) w:=hs.weaken (by simp) fun o Y hh=>by
   rcases lT hh with ⟨_,h2⟩ | ⟨_,h2⟩
   ·exact Or.inl h2
   ·exact Or.inr h2
  have hkk:Keep g ob.length X.I w g (ob.set q .dead).length w:=by simpa using hs.refl
  have hdl:(ob.set q .dead).length=ob.length:=by simp
  by_cases hroom:xs.length+ys.length≤cq
  ·-- in place
   by_cases hemp:ig (g.H q)
   ·-- nothing at all
    obtain⟨a0,ha0⟩:=hemp
    rw[hH]at ha0
    simp only[Value.slice.injEq]at ha0
    obtain⟨rfl,hx0,rfl⟩:=ha0
    have hxn:xs=[]:=List.eq_nil_of_length_eq_zero hx0
    have hyn:ys=[]:=List.eq_nil_of_length_eq_zero (by omega)
    subst hxn hyn
    have hr:=run a w w _ (by rw[hbv,hH,hx];exact Q5 w t t' o.type e e' i hu hu' hi aq ax cx (by cases aq;exact Or.inl rfl;exact Or.inr ⟨_,rfl⟩))
    refine⟨_,w,g.push (ob.set q .dead).length 0 (.slice aq 0 0) 0 e1.length,Or.inl hr,⟨fun hh=>by simp at hh,fun _ _ _=>rfl,kC.Wq (VQ fun hh=>by
    exfalso
    rcases hh with ⟨cells,hh⟩ | ⟨e1,xs1,hh,hn⟩
    ·simp at hh
    ·exact hn ⟨aq,by simp[Gh.push,Gh.dB]⟩)⟩,hkill.add _ 0 _ 0 _ (fun _ hh=>by cases hh) (fun e1 xs1 hh=> ?_) (fun hh=> ?_),hkk.trans (by simpa using Keep.push hkill.jI), ?_⟩
    ·cases hh
     exact⟨rfl,rfl,Or.inl ⟨rfl,aq,rfl⟩⟩
    ·exfalso
     rcases hh with ⟨cells,hh⟩ | ⟨e1,xs1,hh,hn⟩
     ·cases hh
     ·exact hn ⟨aq,rfl⟩
    ·simp only[aj]
     exact⟨by simp,by simp[Gh.push,Gh.dB],_,_,_,rfl⟩
   ·rcases harr with harr | ⟨_,cap,cur,te,m1,m2,m2',m3,m4,m5,m6⟩
    ·exact absurd harr.2 hemp
    rw[hH]at m1
    simp only[Value.slice.injEq]at m1
    obtain⟨rfl,_,rfl⟩:=m1
    have hnl:xs.length*e1.length+news.length≤cur.size:=by
     rw[n1,m4, ←Nat.add_mul]
     exact Nat.mul_le_mul_right _ hroom
    have hst:=run_storeCells_at (P:=P) (g.A q) (xs.length*e1.length) te news 0 cur w m3 (by simpa using hnl) n3
    simp only[Nat.add_zero]at hst
    have hr:=run a w _ _ (by
     rw[hbv,hH,hx]
     exact run_append_room' w t t' o.type e e' i hu hu' hi ⟨g.A q,0,none⟩ xs.length cq ys.length ax cx news _ (n2 w rfl) hroom (by rw[hsz,dU,Nat.zero_add];exact hst))
    have hbk:aJ g ob q:=Or.inr ⟨_,_,hq,hemp⟩
    obtain⟨s2,kk2⟩:=hkill.step (w':=w.setRow (g.A q) (cur.toList.take (xs.length*e1.length)++news++cur.toList.drop (xs.length*e1.length+news.length)).toArray) (T:=[g.A q])
     ⟨rfl,rfl,rfl,by rw[setRow_size];exact Nat.le_refl _,fun k _ hk=>setRow_other w _ k _ (by simpa using hk),fun _=>Nat.le_refl _⟩ (fun b hb'=>by
      simp at hb'
      subst hb'
      refine⟨m6,hs.base q hbk,fun o ho e=> ?_⟩
      have hne:o≠q:=fun he=>by
       subst he
       rcases ho with ⟨_,ho⟩ | ⟨_,_,ho,_⟩ <;>simp[hqn]at ho
      have ho':aJ g ob o:=by
       rcases ho with ⟨_,ho⟩ | ⟨_,_,ho,hn⟩
       ·rw[List.getElem?_set_ne (Ne.symm hne)]at ho;exact Or.inl ⟨_,ho⟩
       ·rw[List.getElem?_set_ne (Ne.symm hne)]at ho;exact Or.inr ⟨_,_,ho,hn⟩
      exact hne (hs.inj o q ho' hbk e))
    have holds:cur.toList.take (xs.length*e1.length)=olds:=by
     have:=o2 w rfl
     rw[hsz]at this
     have h5:(Builtin.firstCells e1.length xs.length (.slice (some ⟨g.A q,0,none⟩) xs.length cq)).run P w= .ok (cur.toList.take (xs.length*e1.length)).toArray w:=by
      simp only[Builtin.firstCells]
      have hl:(cur.toList.take (xs.length*e1.length)).length=xs.length*e1.length:=by simp;omega
      have:=run_loadCells_list (P:=P) w ⟨g.A q,0,none⟩ (cur.toList.take (xs.length*e1.length)) fun j u hj=>by
       rw[dU]
       have hjl:j<xs.length*e1.length:=by have:=(List.getElem?_eq_some_iff.1 hj).1;omega
       rw[List.getElem?_take_of_lt hjl]at hj
       simp only[World.cell?, m3]
       simpa using hj
      rw[hl]at this
      exact this
     rw[h5]at this
     simpa using this
    rw[holds]at s2 kk2 hr
    refine⟨_,_,g.push (ob.set q .dead).length (g.A q) (.slice (some ⟨g.A q,0,none⟩) (xs.length+ys.length) cq) (xs.length+ys.length) e1.length,Or.inl hr,⟨fun hh=>by simp at hh,fun b hb hn=>setRow_other w _ b _ (fun hh=>hn q hbk hh.symm),fun o ho=>by
     by_cases hl:o<(ob.set q .dead).length
     ·right
      have hA:(g.push (ob.set q .dead).length (g.A q) (.slice (some ⟨g.A q,0,none⟩) (xs.length+ys.length) cq) (xs.length+ys.length) e1.length).A o=g.A o:=by simp only[Gh.push,Gh.dB,Gh.dB];rw[if_neg (by omega)]
      have hH:(g.push (ob.set q .dead).length (g.A q) (.slice (some ⟨g.A q,0,none⟩) (xs.length+ys.length) cq) (xs.length+ys.length) e1.length).H o=g.H o:=by simp only[Gh.push,Gh.dB,Gh.dB];rw[if_neg (by omega)]
      refine⟨o,VN (q:=q) ?_,hA⟩
      rcases ho with ⟨cells,ho⟩ | ⟨e9,xs9,ho,hn⟩
      ·rw[List.getElem?_append_left hl]at ho;exact Or.inl ⟨_,ho⟩
      ·rw[List.getElem?_append_left hl]at ho;rw[hH]at hn;exact Or.inr ⟨_,_,ho,hn⟩
     ·right
      refine⟨q,hbk, ?_⟩
      have:o=(ob.set q .dead).length:=by have:=ho.lt;simp at this hl;simp;omega
      rw[this];simp[Gh.push,Gh.dB]⟩,
     s2.add _ _ _ _ _ (fun _ hh=>by cases hh) (fun e2 xs2 hh=> ?_) (fun hh=> ?_),(hkk.trans kk2).trans (by simpa using Keep.push s2.jI), ?_⟩
    ·cases hh
     refine⟨rfl,by simp,Or.inr ⟨?_,cq,_,te,by simp,by simpa using hroom,m2',setRow_heap w _ _ _ _ _ m3, ?_,fun p y hy=> ?_,m6⟩⟩
     ·rintro⟨a',h'⟩
      simp only[Value.slice.injEq]at h'
      exact hemp ⟨_,by rw[hH,h'.2.2];congr 1;omega⟩
     ·simp only[List.size_toArray,List.length_append,List.length_drop]
      have:cur.toList.length=cur.size:=by simp
      rw[o1,this, ←m4]
      omega
     ·have:=UB (rest:=cur.toList.drop (xs.length*e1.length+news.length)) o1 n1 o4 n4 p y hy
      have e0:(⟨g.A q,p*e1.length,none⟩:Addr)=(⟨g.A q,p*e1.length,none⟩:Addr).add 0:=by simp[Addr.add]
      rw[e0]
      refine L6 (w:=w) (fun b hb=>setRow_other w _ b _ (fun hh=>m6 (by rw[←hh];exact hb))) e1 y 0 _ this fun j _ _ u hu=> ?_
      rw[dU]
      simp only[World.cell?, setRow_heap w _ _ _ _ _ m3]
      simpa using hu
    ·refine⟨hs.base q hbk,fun o ho e=> ?_⟩
     have hne:o≠q:=fun he=>by
      subst he
      rcases ho with ⟨_,ho⟩ | ⟨_,_,ho,_⟩ <;>simp[hqn]at ho
     have ho':aJ g ob o:=by
      rcases ho with ⟨_,ho⟩ | ⟨_,_,ho,hn⟩
      ·rw[List.getElem?_set_ne (Ne.symm hne)]at ho;exact Or.inl ⟨_,ho⟩
      ·rw[List.getElem?_set_ne (Ne.symm hne)]at ho;exact Or.inr ⟨_,_,ho,hn⟩
     exact hne (hs.inj o q ho' hbk e)
    ·simp only[aj]
     exact⟨by simp,by simp[Gh.push,Gh.dB],_,_,_,rfl⟩
  ·have hr:=run a w _ _ (by rw[hbv,hH,hx];exact run_append_grow w t t' o.type e e' i z hu hu' hi hz aq xs.length cq ys.length ax cx olds news n2 o2 (by omega) hby hlen)
   have hcap:=grownCap_le_maxLen w (xs.length+ys.length) cq e (by unfold maxLen maxRow at *; omega)
   obtain⟨g',s',k',f',r'⟩:=VE hkill (e:=e1) (xs:=xs) (ys:=ys) (as:=olds) (bs:=news) z e (grownCap w (xs.length+ys.length) cq e) hzl o1 n1 o4 n4 (grownCap_ge w _ cq e) hcap
   have bl:=kC.Wq (q:=q) (f'.blk k')
   rw[hdl]at k' r'
   exact⟨_,_,g',Or.inl hr,⟨fun hh=>by simp at hh,f'.only,bl⟩,s',hkk.trans (by rw[hdl];exact k'),r'⟩
end Go.Rv
