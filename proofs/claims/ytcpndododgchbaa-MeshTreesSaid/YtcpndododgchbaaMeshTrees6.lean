/-
  Texts of the executors: HxExec, HxMap, HxMapOk, HxSeq, HxDraw, HxVc, HxDrawOk.
-/
import Derived.Test.YtcpndododgchbaaMeshTrees5
set_option linter.all false
noncomputable section
namespace HX
open Go CX
variable {ro:Addr->Option V}
structure Br (b:Bool) (t:b=true->Prop) (e:b=false->Prop):Prop where
 t:∀h,t h
 e:∀h,e h
structure StuckO (o:Op) (Y:St):Prop where
 out:False
structure StuckG (o:Oper) (Y:St):Prop where
 out:False
structure StuckF (f:Nat) (args:List SV) (Y:St):Prop where
 out:False
def preK:List Prop->Prop->Prop
 |[],K=>K
 |p :: r,K=>p/\preK r K
theorem preK_ok:∀{l:List Prop} {K:Prop},preK l K->(∀p∈l,p)/\K
 |[],_,h=>⟨fun _ hp=>(by cases hp),h⟩
 |p :: r,_,h=>by
  obtain ⟨h1,h2⟩:=preK_ok h.2
  exact ⟨fun q hq=>(zL.1 hq).elim (fun e=>e ▸ h.1) (fun hq=>h1 q hq),h2⟩
def St.mem (Y:St) (objs:List (Nat×SO)) (next:Nat):St:=⟨Y.nt,Y.regs,objs,next,Y.df⟩
abbrev CI:=SV->List SV->St->(SV->St->Prop)->Prop
def one (l:List SV):SV:=
 match l with
 |[x]=>x
 |l=>.tup l
def dOfA0 (A:Ar) (Y:St) (own:Bool) (k:Kd) (v:SV):Option D:=
 match k,v with
 |.sl ks,.slc nm=>match look Y.objs nm with
  |some (.arr _ ks' rows)=>match own && kdsEq ks ks' with
   |true=>some (.l rows)
   |false=>none
  |some (.frz ks' rows)=>match kdsEq ks ks' with
   |true=>some (.l rows)
   |false=>none
  |_=>none
 |.sl ks,.vw nm lo n=>match look Y.objs nm with
  |some (.frz ks' rows)=>match kdsEq ks ks' with
   |true=>some (.l (A.sub' rows lo n))
   |false=>none
  |some (.arr _ ks' rows)=>match own && kdsEq ks ks' with
   |true=>some (.l (A.sub' rows lo n))
   |false=>none
  |_=>none
 |k,v=>dOf Y k v
def dOfP (A:Ar) (Y:St) (own:Bool) (k:Kd) (v:SV):Option D:=
 match v with
 |.ptr nm off=>match own,look Y.objs nm with
  |true,some (.cells l)=>match l[off]? with
   |some s=>dOfA0 A Y true k s
   |none=>none
  |_,_=>none
 |.fel _ ks rows i off=>match kdsEq ks [k] && beqN off 0 with
  |true=>some (A.get rows i 0)
  |false=>none
 |_=>none
def dOfA (A:Ar) (Y:St) (own:Bool) (k:Kd) (v:SV):Option D:=
 match k,v with
 |.pt k,v=>dOfP A Y own k v
 |.clo f k,.fn g [] [u]=>match beqN f g with
  |true=>dOfP A Y own k u
  |false=>none
 |k,v=>dOfA0 A Y own k v
def dListA (A:Ar) (Y:St) (own:Bool):List Kd->List SV->Option (List D)
 |[],[]=>some []
 |k :: ks,v :: vs=>match dOfA A Y own k v with
  |some d=>match dListA A Y own ks vs with
   |some l=>some (d :: l)
   |none=>none
  |none=>none
 |_,_=>none
def isAgg:SV->Bool
 |.agg _=>true
 |_=>false
def argsD (A:Ar) (Y:St) (own:Bool):List (Bool×List Kd)->List SV->Option (List (List D))
 |[],[]=>some []
 |(g,ks) :: r,v :: vs=>match g == isAgg v with
  |true=>match dListA A Y own ks (flat v) with
   |some d=>match argsD A Y own r vs with
    |some ds=>some (d :: ds)
    |none=>none
   |none=>none
  |false=>none
 |_,_=>none
def resSV (A:Ar) (b:Nat) (f:Nat->Nat->D):List (Bool×List Kd)->Nat->Option (List SV)
 |[],_=>some []
 |(g,ks) :: r,i=>match pack g (mkCells A b ks (f i) 0) with
  |some v=>match resSV A b f r (i+1) with
   |some vs=>some (v :: vs)
   |none=>none
  |none=>none
def scalarK:Kd->Bool
 |.sl _=>false
 |.pt _=>false
 |.clo _ _=>false
 |_=>true
def scalarR (sg:Sig):Bool:=sg.results.all fun r=>r.2.all scalarK
def callC1 (E:Env) (sg:Sig) (g:Nat) (args:List SV) (K:SV->St->Prop) (Y:St) (ds:List (List D)):Prop:=
 match resSV E.A (Y.next+1) (E.fn g ds) sg.results 0 with
 |some vs=>E.pre g ds/\K (one vs) (Y.mem Y.objs (Y.next+1))
 |none=>StuckF g args Y
def callC (E:Env) (sg:Sig) (g:Nat) (args:List SV) (K:SV->St->Prop) (Y:St):Prop:=
 match argsD E.A Y (scalarR sg) sg.params args with
 |some ds=>callC1 E sg g args K Y ds
 |none=>StuckF g args Y
def splitL:List (Bool×List Kd)->Option (List (Bool×List Kd)×List Kd×List (Bool×List Kd))
 |[]=>none
 |p :: r=>match splitL r with
  |some (a,ks,b)=>some (p :: a,ks,b)
  |none=>match p with
   |(false,[.sl ks])=>some ([],ks,r)
   |_=>none
def cutS:List (Bool×List Kd)->List SV->Option (List SV×SV×List SV)
 |[],s :: l=>some ([],s,l)
 |_ :: p,s :: l=>match cutS p l with
  |some (a,x,b)=>some (s :: a,x,b)
  |none=>none
 |_,[]=>none
def ownM (sg:Sig) (ks:List Kd):Bool:=scalarR sg && ks.all scalarK
def callM5 (E:Env) (sg:Sig) (g:Nat) (l:List SV) (Y:St) (K:SV->St->Prop) (nm og:Nat) (ks:List Kd) (ds:List (List D)):Prop:=
 match resSV E.A (Y.next+1) (E.fn g ds) sg.results 0 with
 |some vs=>E.pre g ds/\K (one vs) (Y.mem ((nm,.arr og ks (E.A.dl (E.fn g ds sg.results.length 0))) :: Y.objs) (Y.next+1))
 |none=>StuckF g l Y
def callM4 (E:Env) (sg:Sig) (g:Nat) (l:List SV) (Y:St) (K:SV->St->Prop) (p1:List (Bool×List Kd)) (ks:List Kd) (p2:List (Bool×List Kd)) (l1 l2:List SV) (nm og:Nat) (rows:Rows):Prop:=
 match argsD E.A (Y.mem ((nm,.gone) :: Y.objs) Y.next) (ownM sg ks) p1 l1 with
 |some d1=>match argsD E.A (Y.mem ((nm,.gone) :: Y.objs) Y.next) (ownM sg ks) p2 l2 with
  |some d2=>callM5 E sg g l Y K nm og ks (d1++[.l rows] :: d2)
  |none=>StuckF g l Y
 |none=>StuckF g l Y
def callM3 (E:Env) (sg:Sig) (g:Nat) (l:List SV) (Y:St) (K:SV->St->Prop) (p1:List (Bool×List Kd)) (ks:List Kd) (p2:List (Bool×List Kd)) (l1 l2:List SV) (nm:Nat) (o:Option SO):Prop:=
 match o with
 |some (.arr og ks' rows)=>match kdsEq ks' ks with
  |true=>callM4 E sg g l Y K p1 ks p2 l1 l2 nm og rows
  |false=>StuckF g l Y
 |_=>StuckF g l Y
def callM2 (E:Env) (sg:Sig) (g:Nat) (l:List SV) (Y:St) (K:SV->St->Prop) (p1:List (Bool×List Kd)) (ks:List Kd) (p2:List (Bool×List Kd)) (l1:List SV) (s:SV) (l2:List SV):Prop:=
 match s with
 |.slc nm=>callM3 E sg g l Y K p1 ks p2 l1 l2 nm (look Y.objs nm)
 |_=>StuckF g l Y
def callM1 (E:Env) (sg:Sig) (g:Nat) (l:List SV) (Y:St) (K:SV->St->Prop) (p1:List (Bool×List Kd)) (ks:List Kd) (p2:List (Bool×List Kd)):Prop:=
 match cutS p1 l with
 |some (l1,s,l2)=>match ownM sg ks with
  |true=>callM2 E sg g l Y K p1 ks p2 l1 s l2
  |false=>callM2 E sg g l (Y.mem (frzL Y.objs (l1++l2)) Y.next) K p1 ks p2 l1 s l2
 |none=>StuckF g l Y
def callM (E:Env) (sg:Sig) (g:Nat) (l:List SV) (Y:St) (K:SV->St->Prop):Prop:=
 match splitL sg.params with
 |some (p1,ks,p2)=>callM1 E sg g l Y K p1 ks p2
 |none=>StuckF g l Y
theorem callC_eq (E:Env) (sg:Sig) (g:Nat) (args:List SV) (K:SV->St->Prop) (Y:St):callC E sg g args K Y =
 match argsD E.A Y (scalarR sg) sg.params args with
 |some ds=>match resSV E.A (Y.next+1) (E.fn g ds) sg.results 0 with
  |some vs=>E.pre g ds/\K (one vs) (Y.mem Y.objs (Y.next+1))
  |none=>StuckF g args Y
 |none=>StuckF g args Y:=rfl
def callS3 (E:Env) (g:Nat) (l:List SV) (Y:St) (K:SV->St->Prop) (sg:Sig):Prop:=
 match scalarR sg with
 |true=>callC E sg g l K Y
 |false=>callC E sg g l K (Y.mem (frzL Y.objs l) Y.next)
def callS2 (E:Env) (g:Nat) (l:List SV) (Y:St) (K:SV->St->Prop) (sg:Sig):Prop:=
 match sg.fresh with
 |true=>callM E sg g l Y K
 |false=>callS3 E g l Y K sg
def sortC (x:Option CX.Ext):Option Nat:=
 match x with
 |some (.sort c)=>some c
 |_=>none
def callT2 (E:Env) (g:Nat) (l:List SV) (Y:St) (K:SV->St->Prop) (nm:Nat) (o:Option SO):Prop:=
 match o with
 |some (.arr og ks rows)=>match kdsEq ks [.int .i64,.int .i64] with
  |true=>E.A.pNle (E.A.nadd (E.A.len rows) 1) 4611686018427387904/\K (.tup []) (Y.mem ((nm,.arr og ks (E.A.srt rows)) :: Y.objs) Y.next)
  |false=>StuckF g l Y
 |_=>StuckF g l Y
def callT1 (E:Env) (g:Nat) (l:List SV) (Y:St) (K:SV->St->Prop) (s:SV):Prop:=
 match s with
 |.nils=>K (.tup []) Y
 |.slc nm=>callT2 E g l Y K nm (look Y.objs nm)
 |_=>StuckF g l Y
def callT (E:Env) (c g:Nat) (l:List SV) (Y:St) (K:SV->St->Prop):Prop:=
 match l with
 |[s,.fn c' [] []]=>match beqN c c' with
  |true=>callT1 E g l Y K s
  |false=>StuckF g l Y
 |_=>StuckF g l Y
def callS1 (E:Env) (ci:CI) (f:SV) (g:Nat) (l:List SV) (args:List SV) (Y:St) (K:SV->St->Prop):Prop:=
 match E.sig g with
 |some sg=>callS2 E g l Y K sg
 |none=>match sortC (E.E.ext g) with
  |some c=>callT E c g l Y K
  |none=>ci f args Y K
def callS (E:Env) (ci:CI) (f:SV) (args:List SV) (Y:St) (K:SV->St->Prop):Prop:=
 match f with
 |.fn g a b=>callS1 E ci f g (a++args++b) args Y K
 |_=>ci f args Y K
theorem callS_eq (E:Env) (ci:CI) (f:SV) (args:List SV) (Y:St) (K:SV->St->Prop):callS E ci f args Y K =
 match f with
 |.fn g a b=>match E.sig g with
  |some sg=>match sg.fresh with
   |true=>callM E sg g (a++args++b) Y K
   |false=>match scalarR sg with
    |true=>callC E sg g (a++args++b) K Y
    |false=>callC E sg g (a++args++b) K (Y.mem (frzL Y.objs (a++args++b)) Y.next)
  |none=>match sortC (E.E.ext g) with
   |some c=>callT E c g (a++args++b) Y K
   |none=>ci f args Y K
 |_=>ci f args Y K:=by cases f<;>rfl
def execW (E:Env) (ev:Operand->SV) (op:Op) (K:SV->St->Prop) (Y:St):Prop:=
 match xw E Y ev op with
 |some w=>preK w.pre (K w.sv (Y.mem w.objs w.next))
 |none=>match xmW E Y ev op with
  |some w=>preK w.pre (K w.sv (Y.mem w.objs w.next))
  |none=>StuckO op Y
structure NilB (p:Prop) (t:p->Prop) (e:Prop):Prop where
 t:∀h,t h
 e:e
def nilQ (E:Env) (Y:St) (ev:Operand->SV) (op:Op):Option (Rows×Bool):=
 match op with
 |.binOp o t x y _=>match norm Y (ev x),ev y,isSl (kindOf E.E t) with
  |.fz _ _ rows,.nils,true=>match o with
   |.eql=>some (rows,true)
   |.neq=>some (rows,false)
   |_=>none
  |_,_,_=>none
 |_=>none
def execQ (E:Env) (Y:St) (ev:Operand->SV) (op:Op) (K:SV->Prop):Prop:=
 match xq0 E Y ev op with
 |some q=>preK q.pre (K q.sv)
 |none=>StuckO op Y
def exec0 (E:Env) (Y:St) (ev:Operand->SV) (op:Op) (K:SV->Prop):Prop:=
 match nilQ E Y ev op with
 |some (rows,s)=>NilB (E.A.pNle (E.A.len rows) 0) (fun _=>K (.bool s)) (K (.bool (!s)))
 |none=>execQ E Y ev op K
def execF (E:Env) (Y:St) (ev:Operand->SV) (op:Op) (K:SV->Prop):Prop:=
 match xfar E Y ev op with
 |some q=>preK q.pre (K q.sv)
 |none=>exec0 E Y ev op K
theorem exec0_eq (E:Env) (Y:St) (ev:Operand->SV) (op:Op) (K:SV->Prop):exec0 E Y ev op K =
 match nilQ E Y ev op with
 |some (rows,s)=>NilB (E.A.pNle (E.A.len rows) 0) (fun _=>K (.bool s)) (K (.bool (!s)))
 |none=>match xq0 E Y ev op with
  |some q=>preK q.pre (K q.sv)
  |none=>StuckO op Y:=rfl
def execR (E:Env) (ev:Operand->SV) (op:Op) (Y:St) (K:SV->St->Prop):Prop:=
 match xmR E Y ev op with
 |some q=>preK q.pre (K q.sv Y)
 |none=>StuckO op Y
def execS (E:Env) (ev:Operand->SV) (op:Op) (Y:St) (K:SV->St->Prop):Prop:=
 match xstr E Y ev op with
 |some q=>preK q.pre (K q.sv Y)
 |none=>execR E ev op Y K
def execL (E:Env) (ev:Operand->SV) (op:Op) (Y:St) (K:SV->St->Prop):Prop:=
 match xq1 E Y ev op with
 |some q=>preK q.pre (K q.sv Y)
 |none=>execS E ev op Y K
def execC2 (E:Env) (ci:CI) (ev:Operand->SV) (op:Op) (c:Call) (Y:St) (K:SV->St->Prop) (f:Operand):Prop:=
 match knownC (ev f) && (c.args.toList.map ev).all knownC with
 |true=>callS E ci (ev f) (c.args.toList.map ev) Y K
 |false=>StuckO op Y
def execC1 (E:Env) (ci:CI) (ev:Operand->SV) (op:Op) (c:Call) (Y:St) (K:SV->St->Prop):Prop:=
 match c.callee with
 |.value f=>execC2 E ci ev op c Y K f
 |_=>StuckO op Y
def execC (E:Env) (ci:CI) (ev:Operand->SV) (op:Op) (Y:St) (K:SV->St->Prop):Prop:=
 match op with
 |.call c=>execC1 E ci ev op c Y K
 |_=>StuckO op Y
def exec1 (E:Env) (ci:CI) (ev:Operand->SV) (op:Op) (Y:St) (K:SV->St->Prop):Prop:=
 match clsOf E.E op with
 |0=>execF E Y ev op fun v=>K v Y
 |1=>execL E ev op Y K
 |2=>execW E ev op K (Y.mem (frzL Y.objs (wants ev op)) Y.next)
 |3=>execC E ci ev op Y K
 |_=>StuckO op Y
theorem exec1_eq (E:Env) (ci:CI) (ev:Operand->SV) (op:Op) (Y:St) (K:SV->St->Prop):exec1 E ci ev op Y K =
 match clsOf E.E op with
 |0=>execF E Y ev op fun v=>K v Y
 |1=>match xq1 E Y ev op with
  |some q=>preK q.pre (K q.sv Y)
  |none=>match xstr E Y ev op with
   |some q=>preK q.pre (K q.sv Y)
   |none=>match xmR E Y ev op with
    |some q=>preK q.pre (K q.sv Y)
    |none=>StuckO op Y
 |2=>execW E ev op K (Y.mem (frzL Y.objs (wants ev op)) Y.next)
 |3=>match op with
  |.call c=>match c.callee with
   |.value f=>match knownC (ev f) && (c.args.toList.map ev).all knownC with
    |true=>callS E ci (ev f) (c.args.toList.map ev) Y K
    |false=>StuckO op Y
   |_=>StuckO op Y
  |_=>StuckO op Y
 |_=>StuckO op Y:=by
 unfold exec1
 split<;>first |rfl |(cases op<;>rfl)
def putS (Y:St) (dst:Option Nat) (v:SV):Option St:=
 match dst with
 |none=>some Y
 |some d=>match bltN d Y.nt with
  |true=>some ⟨Y.nt,(d,v) :: Y.regs,Y.objs,Y.next,Y.df⟩
  |false=>none
def St.know (Y:St) (d:Nat) (b:Bool):St:=⟨Y.nt,(d,.bool b) :: Y.regs,Y.objs,Y.next,Y.df⟩
def sameB (a b:Bool):Bool:=
 match a,b with
 |true,true=>true
 |false,false=>true
 |_,_=>false
def wantS3 (Y:St) (o:Oper) (K:Bool->St->Prop) (want:Bool) (d:Nat):Prop:=
 match look Y.regs d with
 |some (.bool b)=>K (sameB b want) Y
 |some (.sym b)=>Br b (fun _=>K (sameB true want) (Y.know d true)) (fun _=>K (sameB false want) (Y.know d false))
 |some (.tup [])=>K false Y
 |_=>StuckG o Y
def wantS2 (Y:St) (o:Oper) (K:Bool->St->Prop) (want:Bool) (og:Oper):Prop:=
 match og.dst with
 |some d=>wantS3 Y o K want d
 |none=>StuckG o Y
def wantS1 (Y:St) (all:List Oper) (o:Oper) (K:Bool->St->Prop) (g:Nat) (want:Bool):Prop:=
 match all[g]? with
 |some og=>wantS2 Y o K want og
 |none=>StuckG o Y
def wantS (Y:St) (all:List Oper) (o:Oper) (K:Bool->St->Prop):Prop:=
 match o.guard with
 |none=>K true Y
 |some (g,want)=>wantS1 Y all o K g want
theorem wantS_eq (Y:St) (all:List Oper) (o:Oper) (K:Bool->St->Prop):wantS Y all o K =
 match o.guard with
 |none=>K true Y
 |some (g,want)=>match all[g]? with
  |some og=>match og.dst with
   |some d=>match look Y.regs d with
    |some (.bool b)=>K (sameB b want) Y
    |some (.sym b)=>Br b (fun _=>K (sameB true want) (Y.know d true)) (fun _=>K (sameB false want) (Y.know d false))
    |some (.tup [])=>K false Y
    |_=>StuckG o Y
   |none=>StuckG o Y
  |none=>StuckG o Y:=rfl
def seqP (o:Oper) (Y:St) (x:Option St) (k:St->Prop):Prop:=
 match x with
 |some Y'=>k Y'
 |none=>StuckG o Y
def seqB (E:Env) (ci:CI) (o:Oper) (next:St->Prop) (b:Bool) (Y:St):Prop:=
 match b with
 |true=>exec1 E ci (evR Y.regs) o.op Y fun v Y'=>seqP o Y' (putS Y' o.dst v) next
 |false=>seqP o Y (putS Y o.dst (.tup [])) next
def seqS (E:Env) (ci:CI) (all:List Oper):List Oper->St->(St->Prop)->Prop
 |[],Y,K=>K Y
 |o :: r,Y,K=>wantS Y all o (seqB E ci o fun Y'=>seqS E ci all r Y' K)
theorem seqS_cons (E:Env) (ci:CI) (all:List Oper) (o:Oper) (r:List Oper) (Y:St) (K:St->Prop):seqS E ci all (o :: r) Y K =
 wantS Y all o fun b Y=>match b with
  |true=>exec1 E ci (evR Y.regs) o.op Y fun v Y'=>match putS Y' o.dst v with
   |some Y'=>seqS E ci all r Y' K
   |none=>StuckG o Y'
  |false=>match putS Y o.dst (.tup []) with
   |some Y'=>seqS E ci all r Y' K
   |none=>StuckG o Y:=rfl
def Evt (p:Nat->Prop):Prop:=∃n0,∀n,n0<=n->p n
theorem Evt.of {p:Nat->Prop} (h:∀n,p n):Evt p:=⟨0,fun n _=>h n⟩
theorem Evt.and {p q:Nat->Prop} (h:Evt p) (k:Evt q):Evt fun n=>p n/\q n:=by
 obtain ⟨a,h⟩:=h
 obtain ⟨b,k⟩:=k
 exact ⟨max a b,fun n hn=>⟨h n (by omega),k n (by omega)⟩⟩
theorem Evt.mono {p q:Nat->Prop} (h:Evt p) (k:∀n,p n->q n):Evt q:=let ⟨a,h⟩:=h;⟨a,fun n hn=>k n (h n hn)⟩
theorem Evt.succ {p q:Nat->Prop} (h:Evt p) (k:∀n,p n->q (n+1)):Evt q:=by
 obtain ⟨a,h⟩:=h
 exact ⟨a+1,fun n hn=>by
  obtain ⟨m,rfl⟩:∃m,n=m+1:=⟨n - 1,by omega⟩
  exact k m (h m (by omega))⟩
structure Ext (lo:Nat) (C:Cx ro) (Y:St) (S:CX.St) (C':Cx ro) (Y':St) (S':CX.St):Prop where
 m:MExt C Y.objs lo S.h.get S.nx C' Y'.objs Y'.next S'.h.get S'.nx
 bar:S'.bar=S.bar
 df:∀i∈S'.df,i∈S.df\/S.nx<=i
theorem Ext.refl {lo:Nat} (C:Cx ro) (Y:St) (S:CX.St) (h:lo<=Y.next):Ext lo C Y S C Y S:=⟨(MExt.refl _ _ _ _ _).less h,rfl,fun _ h=>.inl h⟩
theorem Ext.trans {lo:Nat} {C C1 C2:Cx ro} {Y Y1 Y2:St} {S S1 S2:CX.St} (h:Ext lo C Y S C1 Y1 S1) (k:Ext lo C1 Y1 S1 C2 Y2 S2):Ext lo C Y S C2 Y2 S2:=
 ⟨⟨h.m.ag.trans (zB _) k.m.ag,k.m.le,zT h.m.nxle k.m.nxle,fun id hid ho=>by
  rw [k.m.keep id (xH hid h.m.nxle) fun hh=>?_,h.m.keep id hid ho]
  rcases h.m.own id hh with h' |h'
  ·exact ho h'
  ·omega,fun id ho=>by
  rcases k.m.own id ho with h' |h'
  ·exact h.m.own id h'
  ·exact .inr (zT h.m.nxle h'),fun id o hg=>by
  rcases k.m.g id o hg with h' |h' |h'
  ·exact h.m.g id o h'
  ·exact .inr (h.m.own id h')
  ·exact .inr (.inr (zT h.m.nxle h'))⟩,k.bar.trans h.bar,fun i hi=>by
  rcases k.df i hi with h' |h'
  ·exact h.df i h'
  exact .inr (zT h.m.nxle h')⟩
def SWP (E:CX.Env) (rd:Option Nat) (lo:Nat) (c:Code) (Q:Ex->St->Prop) (Y:St):Prop:=
 ∀(C:Cx E.ro) S,Sim C Y S->lo<=Y.next->(∀l,rd=some l->l < lo)->∃e S' C' Y',Evt (fun n=>cx E n (rd.map C.ids) c S=some (e,S'))/\Sim C' Y' S'/\Ext lo C Y S C' Y' S'/\Q e Y'
def CallOk (E:CX.Env) (run:Nat->(V->T O->Nat->R)->R) (C:Cx E.ro) (Y:St) (bar:Nat) (h:Nat->Option O) (nx:Nat) (K:SV->St->Prop):Prop:=
 ∃(v:V) (C':Cx E.ro) (h':T O) (nx':Nat) (s:SV) (Y':St),Evt (fun n=>∀k,run n k=k v h' nx')/\MSim C' Y'.objs Y'.next bar h'.get nx'/\MExt C Y.objs Y.next h nx C' Y'.objs Y'.next h'.get nx'/\RvS C' Y'.next s v/\
  Y'.nt=Y.nt/\Y'.regs=Y.regs/\Y'.df=Y.df/\K s Y'
def CIOk (E:CX.Env) (ci:CI):Prop:=∀f args Y K,ci f args Y K->∀(C:Cx E.ro) bar (h:T O) nx,MSim C Y.objs Y.next bar h.get nx->∀vf va,RvS C Y.next f vf->RvSL C Y.next args va->
 CallOk E (fun n k=>callV E (cx E n) bar h nx vf va k) C Y bar h.get nx K
def FzA (ro:Addr->Option V) (g:Nat->Option O) (B:Nat) (agg:Bool) (ks:List Kd) (d:Nat->D) (v:V):Prop:=
 ∃x:List V,x.length=ks.length/\(∀j k,ks[j]?=some k->∃u,x[j]?=some u/\FzC ro g B k (d j) u)/\match agg with
  |true=>v=.agg x
  |false=>∃u,x=[u]/\v=u
def ArgsFz (ro:Addr->Option V) (g:Nat->Option O) (B:Nat):List (Bool×List Kd)->List (List D)->List V->Prop
 |[],[],[]=>True
 |(a,ks) :: ps,d :: ds,v :: vs=>d.length=ks.length/\FzA ro g B a ks (fun c=>d.getD c .nil) v/\ArgsFz ro g B ps ds vs
 |_,_,_=>False
def ResFz (ro:Addr->Option V) (g:Nat->Option O) (B:Nat) (f:Nat->Nat->D):List (Bool×List Kd)->Nat->List V->Prop
 |[],_,[]=>True
 |(a,ks) :: ps,i,v :: vs=>FzA ro g B a ks (f i) v/\ResFz ro g B f ps (i+1) vs
 |_,_,_=>False
def PureC (E:CX.Env) (f:Nat) (sg:Sig) (pre:List (List D)->Prop) (fn:List (List D)->Nat->Nat->D):Prop:=
 ∀ds,pre ds->∀(g:Nat->Option O) (bar nx:Nat) (h:T O) (args:List V),(∀id o,g id=some o->id < nx/\h.get id=some o)->bar<=nx->ArgsFz E.ro g nx sg.params ds args->
  ∃(vs:List V) (h':T O) (nx':Nat) (g':Nat->Option O),Evt (fun n=>∀k,callF E (cx E n) bar h nx f args k=k (CX.one vs) h' nx')/\nx<=nx'/\(∀id,id < nx->h'.get id=h.get id)/\(∀id o,g id=some o->g' id=some o)/\
   (∀id o,g' id=some o->(id < nx'/\h'.get id=some o)/\(g id=some o\/nx<=id))/\ResFz E.ro g' nx' (fn ds) sg.results 0 vs
def RowG (ro:Addr->Option V) (g:Nat->Option O) (h:Nat->Option O) (nx:Nat) (ks:List Kd) (r:Rows) (v:V):Prop:=
 RowO (ro:=ro) ⟨fun _=>0,fun _=>.nils,g,fun _=>0⟩ h nx ks r v
def SlcId (v:V) (id:Nat):Prop:=∃es off len cap,v=.slc id es off len cap
def MutC (E:CX.Env) (f:Nat) (sg:Sig) (pre:List (List D)->Prop) (fn:List (List D)->Nat->Nat->D):Prop:=
 ∀p1 ks p2,splitL sg.params=some (p1,ks,p2)->∀d1 rows d2,pre (d1++[.l rows] :: d2)->∀(g:Nat->Option O) (bar nx:Nat) (h:T O) (x1 x2:List V) (v:V),(∀id o,g id=some o->id < nx/\h.get id=some o)->bar<=nx->
  ArgsFz E.ro g nx p1 d1 x1->ArgsFz E.ro g nx p2 d2 x2->RowG E.ro g h.get nx ks rows v->(∀id,SlcId v id->bar<=id/\id < nx/\g id=none)->
  ∃(vs:List V) (h':T O) (nx':Nat) (g':Nat->Option O),Evt (fun n=>∀k,callF E (cx E n) bar h nx f (x1++v :: x2) k=k (CX.one vs) h' nx')/\nx<=nx'/\(∀id,id < nx->¬SlcId v id->h'.get id=h.get id)/\(∀id o,g id=some o->g' id=some o)/\
   (∀id o,g' id=some o->(id < nx'/\h'.get id=some o)/\(g id=some o\/nx<=id))/\ResFz E.ro g' nx' (fn (d1++[.l rows] :: d2)) sg.results 0 vs/\RowG E.ro g' h'.get nx' ks (fn (d1++[.l rows] :: d2) sg.results.length 0).rows v
def CtrC (E:CX.Env) (f:Nat) (sg:Sig) (pre:List (List D)->Prop) (fn:List (List D)->Nat->Nat->D):Prop:=
 match sg.fresh with
 |true=>MutC E f sg pre fn
 |false=>PureC E f sg pre fn
structure EnvOk (E:Env):Prop where
 A:E.A=Ar.std
 T:TOk E.E
 ctr:∀f sg,E.sig f=some sg->CtrC E.E f sg (E.pre f) (E.fn f)
 srt:∀f c,E.E.ext f=some (.sort c)->∃fn b,E.E.fn f=some fn/\fn.body=some b/\2<=fn.ntmps
end HX

namespace HX
open Go CX
variable {ro:Addr->Option V}
theorem eq1_simp {g g':Nat->Option O} {B B':Nat} {k:Kd} (hk:simpK k=true) {d d':D} {v v':V} (h:FzC ro g B k d v) (h':FzC ro g' B' k d' v'):eq1 v v'=some (dEq d d'):=by
 cases k with
 |int k=>
  simp only [FzC] at h h'
  obtain ⟨⟨n,rfl⟩,rfl⟩:=h
  obtain ⟨⟨n',rfl⟩,rfl⟩:=h'
  simp only [eq1,kindEq_refl,dEq,D.int,ieq_eq]
  rfl
 |bool=>
  simp only [FzC] at h h'
  obtain ⟨⟨n,rfl⟩,rfl⟩:=h
  obtain ⟨⟨n',rfl⟩,rfl⟩:=h'
  cases n<;>cases n'<;>rfl
 |str=>
  simp only [FzC] at h h'
  obtain ⟨⟨n,rfl⟩,rfl⟩:=h
  obtain ⟨⟨n',rfl⟩,rfl⟩:=h'
  simp only [eq1,dEq,D.str]
  congr 1
  rw [kM,lEq_iff,xQ]
 |_=>simp [simpK] at hk
theorem dEq_comm (a b:D):dEq a b=dEq b a:=by
 cases a<;>cases b<;>simp only [dEq]
 ·exact decide_eq_decide.2 ⟨Eq.symm,Eq.symm⟩
 next x y=>cases x<;>cases y<;>rfl
 exact decide_eq_decide.2 ⟨Eq.symm,Eq.symm⟩
theorem eqK_simp {g g':Nat->Option O} {B B':Nat} {k:Kd} {z:V} {dz:D} (hz:FzC ro g B k dz z) (hk:simpK k=true) {d d':D} {v v':V} (h:FzC ro g B k d v) (h':FzC ro g' B' k d' v'):eqK z v v'=some (dEq d' d):=by
 rw [dEq_comm]
 have e:=eq1_simp hk h h'
 cases k with
 |int k=>
  simp only [FzC] at hz h
  obtain ⟨_,rfl⟩:=hz
  obtain ⟨_,rfl⟩:=h
  exact e
 |bool=>
  simp only [FzC] at hz h
  obtain ⟨_,rfl⟩:=hz
  obtain ⟨_,rfl⟩:=h
  exact e
 |str=>
  simp only [FzC] at hz h
  obtain ⟨_,rfl⟩:=hz
  obtain ⟨_,rfl⟩:=h
  exact e
 |_=>simp [simpK] at hk
theorem eqZ_simp {g:Nat->Option O} {B:Nat}:∀(ks:List Kd) (z l l':List V) (fz:Nat->D) (ds:List D) (f:Nat->D) (c:Nat),ks.all simpK=true->z.length=ks.length->l.length=ks.length->l'.length=ks.length->ds.length=ks.length->
  (∀j k,ks[j]?=some k->∃v,z[j]?=some v/\FzC ro g B k (fz j) v)->(∀j k,ks[j]?=some k->∃v,l[j]?=some v/\FzC ro g B k (ds.getD j .nil) v)->(∀j k,ks[j]?=some k->∃v,l'[j]?=some v/\FzC ro g B k (f (c+j)) v)->
  eqZ z l l'=some (kEqF ds f c)
 |[],z,l,l',fz,ds,f,c,_,h1,h2,h3,h4,_,_,_=>by
  obtain rfl:=zS.1 h1
  obtain rfl:=zS.1 h2
  obtain rfl:=zS.1 h3
  obtain rfl:=zS.1 h4
  rfl
 |k :: ks,z,l,l',fz,ds,f,c,hk,h1,h2,h3,h4,hz,hl,hl'=>by
  match z,l,l',ds,h1,h2,h3,h4,hz,hl,hl' with
  |z0 :: z,a :: l,a' :: l',d :: ds,h1,h2,h3,h4,hz,hl,hl'=>
   simp only [kA,zC] at hk
   obtain ⟨v,e1,y1⟩:=hz 0 k (by simp)
   obtain ⟨v2,e2,y2⟩:=hl 0 k (by simp)
   obtain ⟨v3,e3,y3⟩:=hl' 0 k (by simp)
   simp only [zK,zA] at e1 e2 e3
   subst e1 e2 e3
   have ih:=eqZ_simp ks z l l' (fun j=>fz (j+1)) ds f (c+1) hk.2 (by simpa using h1) (by simpa using h2) (by simpa using h3) (by simpa using h4)
    (fun j k hj=>by simpa using hz (j+1) k (by simpa using hj)) (fun j k hj=>by simpa using hl (j+1) k (by simpa using hj)) (fun j k hj=>by
     have:=hl' (j+1) k (by simpa using hj)
     rw [show c+(j+1)=c+1+j by omega] at this
     simpa using this)
   have e:=eqK_simp y1 hk.1 y2 y3
   have d0:(d :: ds).getD 0 .nil=d:=rfl
   rw [d0,kF] at e
   simp only [eqZ,e,kEqF]
   cases hb:dEq (f c) d with
   |true=>simp only [Bool.true_and];exact ih
   |false=>simp only [Bool.false_and]
theorem findK_ok {f:V->Option Bool} {kd:List D}:∀(l:List (V×V×Nat)) (ent:Rows),l.length=ent.length->(∀i e,l[i]?=some e->f e.1=some (kEq kd (ent.getD i [])))->
  (findK f l=some none/\mfnd kd ent=none)\/∃i e,l[i]?=some e/\findK f l=some (some e.2.1)/\mfnd kd ent=some (ent.getD i [])
 |[],[],_,_=>.inl ⟨rfl,rfl⟩
 |(q,v,b) :: l,r :: ent,hl,hf=>by
  have h0:=hf 0 (q,v,b) (by simp)
  simp only [List.getD_cons_zero] at h0
  simp only [findK,mfnd,h0]
  cases hk:kEq kd r with
  |true=>exact .inr ⟨0,(q,v,b),by simp,rfl,by simp⟩
  |false=>
   simp only [kN,if_false]
   rcases findK_ok l ent (by simpa using hl) (fun i e he=>by simpa using hf (i+1) e (by simpa using he)) with h |⟨i,e,h1,h2,h3⟩
   ·exact .inl h
   exact .inr ⟨i+1,e,by simpa using h1,h2,by simpa using h3⟩
 |[],_ :: _,h,_=>by simp at h
 |_ :: _,[],h,_=>by simp at h
section
variable {C:Cx ro} {nx:Nat} {ka va:Bool} {kk vk:List Kd} {kd vd:List D} {f:V->Option Bool} {key val:V}
theorem gtc (r:List D) (l:Rows) (i c:Nat):gt (r :: l) (i+1) c=gt l i c:=by simp [gt]
theorem gtz (r:List D) (l:Rows) (c:Nat):gt (r :: l) 0 c=r.getD c .nil:=by simp [gt]
theorem setK_ok (hn:∀b,EntR C nx ka va kk vk (fun c=>(kd++vd).getD c .nil) (key,val,b)):∀(l:List (V×V×Nat)) (ent:Rows) (c:Nat),l.length=ent.length->(∀i e,l[i]?=some e->f e.1=some (kEq kd (ent.getD i [])))->
  (∀i e,l[i]?=some e->EntR C nx ka va kk vk (gt ent i) e)->
  ∃l' fl,(∀k,setK f key val l c k=k l' fl)/\l'.length=(msetR kd vd ent).length/\∀i e,l'[i]?=some e->EntR C nx ka va kk vk (gt (msetR kd vd ent) i) e
 |[],[],c,_,_,_=>⟨[(key,val,c)],true,fun _=>rfl,rfl,fun i e he=>by
  cases i with
  |zero=>
   simp only [zK,zA] at he
   subst he
   simp only [msetR]
   have:=hn c
   rwa [show (gt [kd++vd] 0)=fun c=>(kd++vd).getD c .nil from funext fun c=>gtz _ _ _]
  |succ i=>simp at he⟩
 |(q,v,b) :: l,r :: ent,c,hl,hf,hE=>by
  have h0:=hf 0 (q,v,b) (by simp)
  simp only [List.getD_cons_zero] at h0
  simp only [setK,msetR,h0]
  cases hk:kEq kd r with
  |true=>
   refine ⟨(key,val,b) :: l,false,fun _=>rfl,by simpa using hl,fun i e he=>?_⟩
   cases i with
   |zero=>
    simp only [zK,zA] at he
    subst he
    simp only [if_true]
    have:=hn b
    rwa [show (gt ((kd++vd) :: ent) 0)=fun c=>(kd++vd).getD c .nil from funext fun c=>gtz _ _ _]
   |succ i=>
    have:=hE (i+1) e (by simpa using he)
    simp only [if_true]
    rw [show (gt ((kd++vd) :: ent) (i+1))=gt (r :: ent) (i+1) from funext fun c=>by rw [gtc,gtc]]
    exact this
  |false=>
   obtain ⟨l',fl,h1,h2,h3⟩:=setK_ok hn l ent c (by simpa using hl) (fun i e he=>by simpa using hf (i+1) e (by simpa using he)) (fun i e he=>by
    have:=hE (i+1) e (by simpa using he)
    rwa [show (gt (r :: ent) (i+1))=gt ent i from funext fun c=>gtc _ _ _ _] at this)
   refine ⟨(q,v,b) :: l',fl,fun k=>h1 _,by simp [h2],fun i e he=>?_⟩
   simp only [kN,if_false]
   cases i with
   |zero=>
    simp only [zK,zA] at he
    subst he
    have:=hE 0 (q,v,b) (by simp)
    rw [show (gt (r :: msetR kd vd ent) 0)=gt (r :: ent) 0 from funext fun c=>by rw [gtz,gtz]]
    exact this
   |succ i=>
    rw [show (gt (r :: msetR kd vd ent) (i+1))=gt (msetR kd vd ent) i from funext fun c=>gtc _ _ _ _]
    exact h3 i e (by simpa using he)
 |[],_ :: _,_,h,_,_=>by simp at h
 |_ :: _,[],_,h,_,_=>by simp at h
theorem delK_ok:∀(l:List (V×V×Nat)) (ent:Rows),l.length=ent.length->(∀i e,l[i]?=some e->f e.1=some (kEq kd (ent.getD i [])))->
  (∀i e,l[i]?=some e->EntR C nx ka va kk vk (gt ent i) e)->
  ∃l',(∀k,delK f l k=k l')/\l'.length=(mdelR kd ent).length/\∀i e,l'[i]?=some e->EntR C nx ka va kk vk (gt (mdelR kd ent) i) e
 |[],[],_,_,_=>⟨[],fun _=>rfl,rfl,fun i e he=>by simp at he⟩
 |(q,v,b) :: l,r :: ent,hl,hf,hE=>by
  have h0:=hf 0 (q,v,b) (by simp)
  simp only [List.getD_cons_zero] at h0
  simp only [delK,mdelR,h0]
  have hE':∀i e,l[i]?=some e->EntR C nx ka va kk vk (gt ent i) e:=fun i e he=>by
   have:=hE (i+1) e (by simpa using he)
   rwa [show (gt (r :: ent) (i+1))=gt ent i from funext fun c=>gtc _ _ _ _] at this
  cases hk:kEq kd r with
  |true=>exact ⟨l,fun _=>rfl,by simpa using hl,by simpa using hE'⟩
  |false=>
   obtain ⟨l',h1,h2,h3⟩:=delK_ok l ent (by simpa using hl) (fun i e he=>by simpa using hf (i+1) e (by simpa using he)) hE'
   refine ⟨(q,v,b) :: l',fun k=>h1 _,by simp [h2],fun i e he=>?_⟩
   simp only [kN,if_false]
   cases i with
   |zero=>
    simp only [zK,zA] at he
    subst he
    have:=hE 0 (q,v,b) (by simp)
    rw [show (gt (r :: mdelR kd ent) 0)=gt (r :: ent) 0 from funext fun c=>by rw [gtz,gtz]]
    exact this
   |succ i=>
    rw [show (gt (r :: mdelR kd ent) (i+1))=gt (mdelR kd ent) i from funext fun c=>gtc _ _ _ _]
    exact h3 i e (by simpa using he)
 |[],_ :: _,h,_,_=>by simp at h
 |_ :: _,[],h,_,_=>by simp at h
end
theorem AggR.flat {a:Bool} {n:Nat} {v:V} (h:AggR a n v):(CX.flat v).length=n:=by
 cases a with
 |true=>obtain ⟨l,rfl,h⟩:=h;exact h
 |false=>
  obtain ⟨h1,h2⟩:=h
  cases v<;>simp_all [CX.flat,one1]
theorem valD_ok {C:Cx ro} {Y:St} {bar:Nat} {h:Nat->Option O} {nx:Nat} (hM:MSim C Y.objs Y.next bar h nx) {a:Bool} {ks:List Kd} {s:SV} {ds:List D} (hd:valD Y a ks s=some ds) {v:V} (hv:RvS C Y.next s v) :
  AggR a ks.length v/\ds.length=ks.length/\∀j k,ks[j]?=some k->∃u,(CX.flat v)[j]?=some u/\FzC ro C.g nx k (ds.getD j .nil) u:=by
 unfold valD at hd
 split at hd
 ·simp only [RvS] at hv
  obtain ⟨x,h1,rfl⟩:=hv
  obtain ⟨d1,d2,_,d4⟩:=dList_ok hM hd h1
  exact ⟨⟨x,rfl,by rw [h1.length,d2]⟩,d1,d4⟩
 ·cases hd
 ·cases hd
 have hx:RvSL C Y.next [s] [v]:=⟨hv,trivial⟩
 obtain ⟨d1,d2,_,d4⟩:=dList_ok hM hd hx
 have l1:ks.length=1:=by simpa using d2.symm
 obtain ⟨k,hk⟩:∃k,ks=[k]:=by
  match ks,l1 with
  |[k],_=>exact ⟨k,rfl⟩
 subst hk
 obtain ⟨u,e1,e2⟩:=d4 0 k (by simp)
 simp only [zK,zA] at e1
 subst e1
 have o:=FzC.one e2
 have hf:CX.flat v=[v]:=by cases v<;>first |rfl |(simp [one1] at o)
 refine ⟨⟨rfl,o⟩,d1,?_⟩
 rw [hf]
 exact d4
theorem EntR.mk {C:Cx ro} {nx:Nat} {ka va:Bool} {kk vk:List Kd} {kd vd:List D} {key val:V} (k1:AggR ka kk.length key) (k2:kd.length=kk.length) (k3:∀j k,kk[j]?=some k->∃u,(CX.flat key)[j]?=some u/\FzC ro C.g nx k (kd.getD j .nil) u)
  (v1:AggR va vk.length val) (v3:∀j k,vk[j]?=some k->∃u,(CX.flat val)[j]?=some u/\FzC ro C.g nx k (vd.getD j .nil) u) (b:Nat):EntR C nx ka va kk vk (fun c=>(kd++vd).getD c .nil) (key,val,b):=by
 refine ⟨k1,v1,FzR.of _ _ _ _ fun j k hk=>?_⟩
 simp only [zO]
 have l1:=k1.flat
 by_cases c:j < kk.length
 ·rw [zW c] at hk
  obtain ⟨u,e1,e2⟩:=k3 j k hk
  refine ⟨u,by rw [zW (by omega)];exact e1,?_⟩
  have:(kd++vd).getD j .nil=kd.getD j .nil:=by rw [zH,zH,zW (by omega)]
  rw [this];exact e2
 rw [zU (by omega)] at hk
 obtain ⟨u,e1,e2⟩:=v3 _ k hk
 refine ⟨u,by rw [zU (by omega),l1];exact e1,?_⟩
 have:(kd++vd).getD j .nil=vd.getD (j - kk.length) .nil:=by rw [zH,zH,zU (by omega),k2]
 rw [this];exact e2
theorem EntR.key {C:Cx ro} {nx:Nat} {ka va:Bool} {kk vk:List Kd} {row:Nat->D} {e:V×V×Nat} (h:EntR C nx ka va kk vk row e):∀j k,kk[j]?=some k->∃u,(CX.flat e.1)[j]?=some u/\FzC ro C.g nx k (row j) u:=fun j k hk=>by
 have hj:j < kk.length:=(xB.1 hk).1
 obtain ⟨u,e1,e2⟩:=FzR.get _ _ _ _ h.2.2 j k (by rw [zW hj];exact hk)
 simp only [zO] at e1 e2
 rw [zW (by rw [h.1.flat];exact hj)] at e1
 exact ⟨u,e1,e2⟩
theorem EntR.val {C:Cx ro} {nx:Nat} {ka va:Bool} {kk vk:List Kd} {row:Nat->D} {e:V×V×Nat} (h:EntR C nx ka va kk vk row e):∀j k,vk[j]?=some k->∃u,(CX.flat e.2.1)[j]?=some u/\FzC ro C.g nx k (row (kk.length+j)) u:=fun j k hk=>by
 obtain ⟨u,e1,e2⟩:=FzR.get _ _ _ _ h.2.2 (kk.length+j) k (by rw [zU (by omega)];simpa using hk)
 simp only [zO] at e1 e2
 have l1:=h.1.flat
 rw [zU (by omega),l1,Nat.add_sub_cancel_left] at e1
 exact ⟨u,e1,e2⟩
theorem key_ok {E:Env} {C:Cx ro} {Y:St} {bar:Nat} {h:Nat->Option O} {nx:Nat} (hM:MSim C Y.objs Y.next bar h nx) {kt:Nat} {ka:Bool} {kk:List Kd} {s:SV} {kd:List D} (hd:keyD E Y kt ka kk s=some kd) {key:V} (hv:RvS C Y.next s key) :
  keyV E.E kt key=true/\AggR ka kk.length key/\kd.length=kk.length/\(∀j k,kk[j]?=some k->∃u,(CX.flat key)[j]?=some u/\FzC ro C.g nx k (kd.getD j .nil) u)/\
   ∀va vk row e,EntR C nx ka va kk vk row e->eqKey E.E kt key e.1=some (kEqF kd row 0):=by
 unfold keyD at hd
 split at hd
 rotate_left
 ·cases hd
 rename_i ty hty
 split at hd
 rotate_left
 ·cases hd
 rename_i hk
 obtain ⟨v1,v2,v3⟩:=valD_ok hM hd hv
 unfold keyT at hk
 split at hk
 ·cases hk
 rename_i z hz
 obtain ⟨⟨z1,z2⟩,z3⟩:=zD_ok (ro:=ro) (g:=C.g) (B:=nx) hz
 simp only [zC] at hk
 obtain ⟨hs,hk⟩:=hk
 split at hk
 ·split at hk
  next fs hfs=>
   simp only [zC,beqN_iff] at hk
   obtain ⟨⟨q1,q2⟩,q3⟩:=hk
   obtain ⟨l,rfl,hl⟩:=v1
   refine ⟨?_,⟨l,rfl,hl⟩,v2,v3,fun va vk row e he=>?_⟩
   ·simp only [keyV,CX.kindOf,hty,hfs,q1,Bool.true_and]
    rw [len_eq,hl,q3,<-q2]
    simp
   obtain ⟨l',e1,hl'⟩:=he.1
   have hk':=he.key
   rw [e1] at hk' ⊢
   simp only [eqKey,hty]
   exact eqZ_simp kk ty.zero l l' _ kd row 0 hs z1 hl hl' v2 z3 v3 (fun j k hj=>by rw [zO];exact hk' j k hj)
  cases hk
 obtain ⟨l1,o⟩:=v1
 obtain ⟨k,rfl⟩:∃k,kk=[k]:=by
  match kk,l1 with
  |[k],_=>exact ⟨k,rfl⟩
 have hf:CX.flat key=[key]:=by cases key<;>first |rfl |(simp [one1] at o)
 obtain ⟨d,rfl⟩:∃d,kd=[d]:=by
  match kd,v2 with
  |[d],_=>exact ⟨d,rfl⟩
 obtain ⟨u,e1,e2⟩:=v3 0 k (by simp)
 rw [hf] at e1
 simp only [zK,zA] at e1
 subst e1
 have hs0:simpK k=true:=by simpa using hs
 refine ⟨?_,⟨rfl,o⟩,v2,by rw [hf];exact (fun j k hj=>by rw [<-hf];exact v3 j k hj),fun va vk row e he=>?_⟩
 ·split at hk
  next a b hkd hk2=>
   simp only [xL,and_true] at hk2
   subst hk2
   simp only [FzC] at e2
   obtain ⟨_,rfl⟩:=e2
   have hkk:CX.kindOf E.E kt=ty.kd:=by simp only [CX.kindOf,hty]
   unfold keyV
   rw [hkk,hkd]
  next hkd hk2=>
   simp only [xL,and_true] at hk2
   subst hk2
   simp only [FzC] at e2
   obtain ⟨_,rfl⟩:=e2
   have hkk:CX.kindOf E.E kt=ty.kd:=by simp only [CX.kindOf,hty]
   unfold keyV
   rw [hkk,hkd]
  next hkd hk2=>
   simp only [xL,and_true] at hk2
   subst hk2
   simp only [FzC] at e2
   obtain ⟨_,rfl⟩:=e2
   have hkk:CX.kindOf E.E kt=ty.kd:=by simp only [CX.kindOf,hty]
   unfold keyV
   rw [hkk,hkd]
  cases hk
 obtain ⟨u,w1,w2⟩:=he.key 0 k (by simp)
 obtain ⟨_,o'⟩:=he.1
 have hf':CX.flat e.1=[e.1]:=by
  revert o';generalize e.1=x;intro o'
  cases x<;>first |rfl |(simp [one1] at o')
 rw [hf'] at w1
 simp only [zK,zA] at w1
 subst w1
 have:eqKey E.E kt key e.1=eq1 e.1 key:=by
  unfold eqKey
  split
  ·simp [one1] at o
  rfl
 rw [this,eq1_simp hs0 w2 e2]
 simp only [kEqF,Bool.and_true,List.getD_cons_zero]
end HX

namespace HX
open Go CX
variable {ro:Addr->Option V}
theorem dList_unk {Y:St} {ks:List Kd} {l:List SV} {ds:List D} (h:dList Y ks l=some ds):.unk∉l:=by
 induction ks generalizing l ds with
 |nil=>cases l with
  |nil=>simp
  |cons _ _=>simp [dList] at h
 |cons k ks ih=>cases l with
  |nil=>simp
  |cons s l=>
   simp only [dList] at h
   split at h
   next d hd=>
    split at h
    next l' hl'=>
     simp only [zL,not_or]
     refine ⟨fun e=>?_,ih hl'⟩
     subst e
     unfold dOf at hd
     split at hd<;>first |cases hd |skip
     all_goals rename_i e;cases e
    cases h
   cases h
theorem valD_unk {Y:St} {a:Bool} {ks:List Kd} {s:SV} {ds:List D} (h:valD Y a ks s=some ds):s≠.unk:=by
 rintro rfl
 unfold valD at h
 split at h
 next e=>cases e
 ·cases h
 ·cases h
 exact dList_unk h (by simp)
theorem keyD_unk {E:Env} {Y:St} {kt:Nat} {ka:Bool} {kk:List Kd} {s:SV} {kd:List D} (h:keyD E Y kt ka kk s=some kd):s≠.unk:=by
 unfold keyD at h
 split at h
 ·split at h
  ·exact valD_unk h
  cases h
 cases h
theorem mget_some {kd:List D} {ent:Rows} {r:List D} (h:mfnd kd ent=some r) (c:Nat) (z:D):mgetR ent kd c z=r.getD (kd.length+c) .nil:=by
 unfold mgetR;rw [h]
theorem mget_none {kd:List D} {ent:Rows} (h:mfnd kd ent=none) (c:Nat) (z:D):mgetR ent kd c z=z:=by
 unfold mgetR;rw [h]
variable {E:Env} (hA:E.A=Ar.std)
include hA
theorem whole_ok {C:Cx ro} {n b:Nat} (hb:b<=n) {ks:List Kd} {f:Nat->D} {va:Bool} {s:SV} (hs:pack va (mkCells E.A b ks f 0)=some s) {v:V} (hg:AggR va ks.length v) (hc:∀j k,ks[j]?=some k->∃u,(CX.flat v)[j]?=some u/\FzC ro C.g (C.bd b) k (f j) u):RvS C n s v:=by
 have hr:FzR ro C.g (C.bd b) ks f (fun c=>(CX.flat v)[c]?) 0:=FzR.of _ _ _ _ fun j k hk=>by simpa using hc j k hk
 obtain ⟨x,x1,x2,x3⟩:=mkCells_ok hA hb ks f _ 0 hr
 have hx:x=CX.flat v:=by
  refine qC fun j=>?_
  by_cases hj:j < ks.length
  ·have:=x3 j hj
   simp only [zO] at this
   exact this.symm
  rw [kU (by omega),kU (by rw [hg.flat];omega)]
 subst hx
 unfold pack at hs
 split at hs
 ·simp only [zA] at hs
  subst hs
  obtain ⟨l,rfl,_⟩:=hg
  simp only [RvS]
  exact ⟨l,x1,rfl⟩
 split at hs
 next y hy=>
  simp only [zA] at hs
  subst hs
  rw [hy] at x1
  obtain ⟨_,o⟩:=hg
  have hf:CX.flat v=[v]:=by cases v<;>first |rfl |(simp [one1] at o)
  rw [hf] at x1
  exact x1.1
 cases hs
theorem xmR_ok {ev:Operand->SV} {op:Op} {Y:St} {C:Cx E.E.ro} {bar:Nat} {hp:T O} {nx:Nat} (hM:MSim C Y.objs Y.next bar hp.get nx) {evc:Operand->Option V} (hev:EvOk C Y.next ev evc) {q:QR} (hq:xmR E Y ev op=some q) :
  ∃v,RvS C Y.next q.sv v/\∀k,opL E.E hp evc op k=k v:=by
 unfold xmR at hq
 split at hq
 next t m key ok=>
  unfold xlookup at hq
  split at hq
  rotate_left
  ·cases hq
  rename_i kt e hk
  split at hq
  rotate_left
  ·cases hq
  rename_i ety hety
  split at hq
  rotate_left
  ·cases hq
  rename_i nm hm
  split at hq
  rotate_left
  ·cases hq
  rename_i ka va kk vk ent hl
  unfold xlookup2 at hq
  split at hq
  rotate_left
  ·cases hq
  rename_i z kd hsa hz hkd
  obtain ⟨vm,m1,m2⟩:=hev.get hm (by simp)
  simp only [RvS] at m2
  obtain ⟨_,rfl⟩:=m2
  obtain ⟨vk0,k1,k2⟩:=hev.get (x:=key) rfl (keyD_unk hkd)
  obtain ⟨g1,g2,g3,g4,g5⟩:=key_ok hM hkd k2
  have hob:=hM.ob _ _ hl
  simp only [ObS] at hob
  obtain ⟨l,c,o1,o2,o3⟩:=hob
  have hsa:=sameA_eq hsa
  subst hsa
  have hf:∀i e,l[i]?=some e->eqKey E.E kt vk0 e.1=some (kEq kd (ent.getD i [])):=fun i e he=>g5 _ _ _ _ (o3 i e he)
  obtain ⟨⟨z1,z2⟩,z3⟩:=zD_ok (ro:=E.E.ro) (g:=C.g) (B:=C.bd Y.next) hz
  unfold xlookup3 at hq
  split at hq
  rotate_left
  ·cases hq
  rename_i s hs
  have hfn:(fun c=>E.A.mget ent kd c (z.getD c .nil))=fun c=>mgetR ent kd c (z.getD c .nil):=by rw [hA];rfl
  rw [hfn] at hs
  have hzp:∃zv,AggR ety.agg vk.length zv/\CX.flat zv=ety.zero/\∀k:V->R,packR ety.agg ety.zero k=k zv:=by
   cases ha:ety.agg with
   |true=>exact ⟨.agg ety.zero,⟨_,rfl,z1⟩,rfl,fun _=>rfl⟩
   |false=>
    rw [ha] at hs
    have l1:vk.length=1:=by
     unfold pack at hs
     simp only at hs
     match vk,hs with
     |[],hs=>simp [mkCells] at hs
     |[_],_=>rfl
     |_ :: _ :: _,hs=>simp [mkCells] at hs
    match hzz:ety.zero,z1 with
    |[z0],_=>
     have o:one1 z0=true:=by
      obtain ⟨k,rfl⟩:∃k,vk=[k]:=by
       match vk,l1 with
       |[k],_=>exact ⟨k,rfl⟩
      obtain ⟨u,u1,u2⟩:=z3 0 k (by simp)
      rw [hzz] at u1
      simp only [zK,zA] at u1
      subst u1
      exact FzC.one u2
     exact ⟨z0,⟨l1,o⟩,by cases z0<;>first |rfl |(simp [one1] at o),fun _=>rfl⟩
    |[],h=>rw [l1] at h;simp at h
    |_ :: _ :: _,h=>rw [l1] at h;simp at h
  obtain ⟨zv,za,zf,zp⟩:=hzp
  have val:∃v hb,RvS C Y.next s v/\E.A.mhas ent kd=hb/\∀(f:Option (Option V)->R),(∀u,f (some (some u))=f (some (some u)))->(findK (eqKey E.E kt vk0) l=some (some v)/\hb=true\/findK (eqKey E.E kt vk0) l=some none/\hb=false/\v=zv):=by
   rcases findK_ok l ent o2 hf with ⟨f1,f2⟩ |⟨i,e',f1,f2,f3⟩
   ·refine ⟨zv,false,whole_ok hA (zB _) hs za fun j k hk=>?_,by rw [hA];show (mfnd kd ent).isSome=false;rw [f2];rfl,fun _ _=>.inr ⟨f1,rfl,rfl⟩⟩
    obtain ⟨u,u1,u2⟩:=z3 j k hk
    exact ⟨u,by rw [zf];exact u1,by rw [mget_none f2];exact u2⟩
   refine ⟨e'.2.1,true,whole_ok hA (zB _) hs (o3 i e' f1).2.1 fun j k hk=>?_,by rw [hA];show (mfnd kd ent).isSome=true;rw [f3];rfl,fun _ _=>.inl ⟨f2,rfl⟩⟩
   obtain ⟨u,u1,u2⟩:=(o3 i e' f1).val j k hk
   refine ⟨u,u1,?_⟩
   rw [mget_some f3,g3,hM.top]
   exact u2
  obtain ⟨v,hb,v1,v2,v3⟩:=val
  have v3:=v3 (fun _=>none) (fun _=>rfl)
  split at hq
  ·simp only [q0,zA] at hq
   subst hq
   refine ⟨.tup [v,.bool hb],by simp only [RvS];exact ⟨[v,.bool hb],⟨v1,by simp only [RvS];rw [v2],trivial⟩,rfl⟩,fun k=>?_⟩
   simp only [opL,hk,m1,k1,hety,g1,zp,o1]
   rcases v3 with ⟨w1,rfl⟩ |⟨w1,rfl,rfl⟩<;>rw [w1]
  simp only [q0,zA] at hq
  subst hq
  refine ⟨v,v1,fun k=>?_⟩
  simp only [opL,hk,m1,k1,hety,g1,zp,o1]
  rcases v3 with ⟨w1,rfl⟩ |⟨w1,rfl,rfl⟩<;>rw [w1]
 next c=>
  split at hq
  rotate_left
  ·cases hq
  rename_i hc
  split at hq
  rotate_left
  ·cases hq
  rename_i x t ha ht
  unfold xmlen at hq
  split at hq
  rotate_left
  ·cases hq
  split at hq
  next nm hm=>
   split at hq
   next ka va kk vk ent hl=>
    simp only [q0,zA] at hq
    subst hq
    obtain ⟨vm,m1,m2⟩:=hev.get hm (by simp)
    simp only [RvS] at m2
    obtain ⟨_,rfl⟩:=m2
    have hob:=hM.ob _ _ hl
    simp only [ObS] at hob
    obtain ⟨l,c,o1,o2,o3⟩:=hob
    have hml:∀l:List (V×V×Nat),mlen l=l.length:=fun l=>by induction l with
     |nil=>rfl
     |cons _ l ih=>simp only [mlen,ih,zY,Nat.succ_eq_add_one]
    refine ⟨.int .i64 (Int.ofNat ent.length),by simp only [RvS];rw [hA];rfl,fun k=>?_⟩
    simp only [opL,ha,evL,m1,o1,fN_eq,hml,o2]
   cases hq
  next hm=>
   simp only [q0,zA] at hq
   subst hq
   obtain ⟨vm,m1,m2⟩:=hev.get hm (by simp)
   simp only [RvS] at m2
   subst m2
   refine ⟨.int .i64 0,by simp only [RvS],fun k=>?_⟩
   simp only [opL,ha,evL,m1]
  cases hq
 cases hq
omit hA in
theorem up_getM (hp:T O) (i:Nat) (o:O):(hp.up i (some o)).get=fun id=>if id=i then some o else hp.get id:=by
 funext id
 rw [T.get_up]
theorem xmW_ok {ev:Operand->SV} {op:Op} {Y:St} {C:Cx E.E.ro} {bar:Nat} {hp:T O} {nx:Nat} (hM:MSim C Y.objs Y.next bar hp.get nx) {evc:Operand->Option V} (hev:EvOk C Y.next ev evc) {w:WR} (hw:xmW E Y ev op=some w) :
  ∃v C' h' nx',(∀k,opM E.E bar evc hp nx op k=k v h' nx')/\MSim C' w.objs w.next bar h'.get nx'/\MExt C Y.objs Y.next hp.get nx C' w.objs w.next h'.get nx'/\RvS C' w.next w.sv v:=by
 have mk:∀{t:Nat} {w:WR},xmakeMap E Y t=some w->(∃kt e,kindOf E.E t=.map kt e)/\∃C',MSim C' w.objs w.next bar (hp.up nx (some (.map [] 0))).get (nx+1)/\MExt C Y.objs Y.next hp.get nx C' w.objs w.next (hp.up nx (some (.map [] 0))).get (nx+1)/\RvS C' w.next w.sv (.map nx):=by
  intro t w hw
  unfold xmakeMap at hw
  split at hw
  rotate_left
  ·cases hw
  rename_i kt e hk
  split at hw
  next kty ety kk vk _ _ _ _=>
   simp only [zA] at hw
   subst hw
   refine ⟨⟨kt,e,hk⟩,C.put Y.next nx .nils (nx+1),?_⟩
   rw [up_getM]
   have:=hM.put (dead:=none) (so:=.mp kty.agg ety.agg kk vk []) (hd:=.nils) (h':=fun id=>if id=nx then some (.map [] 0) else hp.get id) (fun _ e=>by cases e) hM.barle (zM _) (zQ _) (by
     cases hg:C.g nx with
     |none=>rfl
     |some o=>have:=(hM.fz _ _ hg).1;omega) (fun nm s hl id ho e=>by have:=(hM.own' _ _ hl _ ho).2.1;omega) (fun id hid _=>if_neg hid) (.inr (zB _)) (by
     simp only [ObS,Cx.put,if_true]
     exact ⟨[],0,rfl,rfl,fun i e he=>by simp at he⟩)
   refine ⟨this.1,this.2,?_⟩
   simp only [RvS,Cx.put,if_true]
   exact ⟨zM _,trivial⟩
  cases hw
 unfold xmW at hw
 split at hw
 next t=>
  obtain ⟨⟨kt,e,hk⟩,C',h1,h2,h3⟩:=mk hw
  exact ⟨.map nx,C',_,_,fun k=>by simp only [opM,hk,CX.new,T.set_eq],h1,h2,h3⟩
 next t r=>
  split at hw
  next ki n hr=>
   obtain ⟨⟨kt,e,hk⟩,C',h1,h2,h3⟩:=mk hw
   obtain ⟨vr,r1,r2⟩:=hev.get hr (by simp)
   simp only [RvS] at r2
   subst r2
   exact ⟨.map nx,C',_,_,fun k=>by simp only [opM,hk,r1,CX.new,T.set_eq],h1,h2,h3⟩
  cases hw
 next t m key v=>
  unfold xmapUpdate at hw
  split at hw
  rotate_left
  ·cases hw
  rename_i kt e hk
  split at hw
  rotate_left
  ·cases hw
  rename_i nm hm
  split at hw
  rotate_left
  ·cases hw
  rename_i ka va kk vk ent hl
  split at hw
  rotate_left
  ·cases hw
  rename_i kd vd hkd hvd
  simp only [zA] at hw
  subst hw
  obtain ⟨vm,m1,m2⟩:=hev.get hm (by simp)
  simp only [RvS] at m2
  obtain ⟨_,rfl⟩:=m2
  obtain ⟨vk0,k1,k2⟩:=hev.get (x:=key) rfl (keyD_unk hkd)
  obtain ⟨vv,w1,w2⟩:=hev.get (x:=v) rfl (valD_unk hvd)
  obtain ⟨g1,g2,g3,g4,g5⟩:=key_ok hM hkd k2
  obtain ⟨y1,y2,y3⟩:=valD_ok hM hvd w2
  have hob:=hM.ob _ _ hl
  simp only [ObS] at hob
  obtain ⟨l,c,o1,o2,o3⟩:=hob
  have hb:geB bar (C.ids nm)=true:=bleT (hM.own _ _ hl trivial).1
  obtain ⟨l',fl,s1,s2,s3⟩:=setK_ok (f:=eqKey E.E kt vk0) (fun b=>EntR.mk g2 g3 g4 y1 y3 b) l ent c o2 (fun i e he=>g5 _ _ _ _ (o3 i e he)) o3
  have fin:∀c',∃v C' h' nx',(∀k:V->T O->Nat->R,(hp.set (C.ids nm) (some (.map l' c')) fun h=>k (.tup []) h nx)=k v h' nx')/\MSim C' ((nm,.mp ka va kk vk (E.A.mset ent kd vd)) :: Y.objs) Y.next bar h'.get nx'/\MExt C Y.objs Y.next hp.get nx C' ((nm,.mp ka va kk vk (E.A.mset ent kd vd)) :: Y.objs) Y.next h'.get nx'/\RvS C' Y.next (.tup []) v:=fun c'=>by
   have:=hM.upd (so:=.mp ka va kk vk (E.A.mset ent kd vd)) hl trivial trivial (o:=.map l' c') (by
    simp only [ObS,if_true]
    rw [hA]
    exact ⟨l',c',rfl,s2,s3⟩)
   rw [<-up_getM] at this
   exact ⟨.tup [],C,_,nx,fun k=>by rw [T.set_eq],this.1,this.2,by simp only [RvS];exact ⟨[],trivial,rfl⟩⟩
  cases fl with
  |true=>
   obtain ⟨v,C',h',nx',f1,f2⟩:=fin (Nat.succ c)
   exact ⟨v,C',h',nx',fun k=>by simp only [opM,hk,m1,k1,w1,o1,hb,g1,kL,s1];exact f1 k,f2⟩
  |false=>
   obtain ⟨v,C',h',nx',f1,f2⟩:=fin c
   exact ⟨v,C',h',nx',fun k=>by simp only [opM,hk,m1,k1,w1,o1,hb,g1,kL,s1];exact f1 k,f2⟩
 next c0=>
  split at hw
  rotate_left
  ·cases hw
  rename_i hc
  split at hw
  rotate_left
  ·cases hw
  rename_i m key t ts ha ht
  unfold xmapDelete at hw
  split at hw
  rotate_left
  ·cases hw
  rename_i kt e hk
  split at hw
  rotate_left
  ·cases hw
  rename_i nm hm
  split at hw
  rotate_left
  ·cases hw
  rename_i ka va kk vk ent hl
  split at hw
  rotate_left
  ·cases hw
  rename_i kd hkd
  simp only [zA] at hw
  subst hw
  obtain ⟨vm,m1,m2⟩:=hev.get hm (by simp)
  simp only [RvS] at m2
  obtain ⟨_,rfl⟩:=m2
  obtain ⟨vk0,k1,k2⟩:=hev.get (x:=key) rfl (keyD_unk hkd)
  obtain ⟨g1,g2,g3,g4,g5⟩:=key_ok hM hkd k2
  have hob:=hM.ob _ _ hl
  simp only [ObS] at hob
  obtain ⟨l,c,o1,o2,o3⟩:=hob
  have hb:geB bar (C.ids nm)=true:=bleT (hM.own _ _ hl trivial).1
  obtain ⟨l',s1,s2,s3⟩:=delK_ok (f:=eqKey E.E kt vk0) (kd:=kd) l ent o2 (fun i e he=>g5 _ _ _ _ (o3 i e he)) o3
  have:=hM.upd (so:=.mp ka va kk vk (E.A.mdel ent kd)) hl trivial trivial (o:=.map l' c) (by
   simp only [ObS,if_true]
   rw [hA]
   exact ⟨l',c,rfl,s2,s3⟩)
  rw [<-up_getM] at this
  refine ⟨.tup [],C,_,nx,fun k=>?_,this.1,this.2,by simp only [RvS];exact ⟨[],trivial,rfl⟩⟩
  simp only [opM,hc,ha,ht,evL,m1,k1,biX,hk,o1,hb,g1,kL,s1,T.set_eq]
 cases hw
end HX

namespace HX
open Go CX
variable {ro:Addr->Option V}
theorem dOfA0_ok {A:Ar} (hA:A=Ar.std) {C:Cx ro} {Y:St} {bar:Nat} {h:Nat->Option O} {nx:Nat} (hM:MSim C Y.objs Y.next bar h nx) {g:Nat->Option O} (hg:∀id o,C.g id=some o->g id=some o) {own:Bool} (hgo:own=true->∀id,id < nx->g id=h id)
  {k:Kd} {s:SV} {d:D} (hd:dOfA0 A Y own k s=some d) {v:V} (hs:RvS C Y.next s v):FzC ro g nx k d v:=by
 unfold dOfA0 at hd
 split at hd
 next ks nm=>
  split at hd
  next og ks' rows hl=>
   split at hd
   rotate_left
   ·cases hd
   rename_i hk
   rw [zC] at hk
   obtain ⟨hown0,hk⟩:=hk
   have hk:=kds_eq hk
   subst hk
   simp only [zA] at hd
   subst hd
   simp only [RvS] at hs
   obtain ⟨_,rfl,_⟩:=hs
   have hob:=hM.ob _ _ hl
   simp only [ObS] at hob
   simp only [FzC,D.rows]
   obtain ⟨hpos,hob⟩:=hob
   refine ⟨⟨_,rfl,hpos.2⟩,?_⟩
   have hpos:=hpos.1
   obtain ⟨hr,hh⟩ |⟨t,m,cap,hh,o1,o2,o3,o4⟩:=hob
   ·exact .inl ⟨hr,hh⟩
   have hown:ownS C nm (.arr og ks rows):=by simp only [ownS,hh];intro e;cases e
   refine .inr (.inl ⟨C.ids nm,0,cap,hh,hpos,fun c hc=>(o3 c hc).1,(hM.own _ _ hl hown).2.1,t,m,?_,by omega,fun i hi=>?_⟩)
   ·rw [hgo hown0 _ (hM.own _ _ hl hown).2.1];exact o1
   refine FzR.mono (fun id o _ h'=>hg id o h') (zB _) _ _ _ _ ?_
   exact FzR.cells _ _ _ _ 0 0 (fun j _=>by simp) _ (fun _=>rfl) (o4 i hi)
  next ks' rows hl=>
   split at hd
   next hk=>
    have hk:=kds_eq hk
    subst hk
    simp only [zA] at hd
    subst hd
    simp only [RvS] at hs
    obtain ⟨_,rfl,_⟩:=hs
    exact FzC.mono (fun id o _ h'=>hg id o h') (zB _) _ _ _ (hM.ob _ _ hl).2.1
   cases hd
  cases hd
 next ks nm lo n=>
  split at hd
  next ks' rows hl=>
   split at hd
   rotate_left
   ·cases hd
   rename_i hk
   have hk:=kds_eq hk
   subst hk
   simp only [zA] at hd
   subst hd
   subst hA
   have hob:=hM.ob _ _ hl
   simp only [ObS] at hob
   obtain ⟨hpos,hfz,_⟩:=hob
   refine FzC.mono (fun id o _ h'=>hg id o h') (zB _) _ _ _ ?_
   simp only [RvS,VwR] at hs
   simp only [FzC,D.rows] at hfz ⊢
   obtain ⟨⟨rows',hrr,hlr⟩,hfz⟩:=hfz
   cases hrr
   have hlr':LenR ks (Ar.std.sub' rows lo n):=⟨fun row hrow=>hlr.1 row (kE (xT hrow)),by
    show (List.take n (List.drop lo rows)).length<=_
    rw [zZ,xG];have:=hlr.2;omega⟩
   refine ⟨⟨_,rfl,hlr'⟩,?_⟩
   obtain ⟨_,⟨_,rfl,rfl⟩ |⟨es,len,cap0,off,cap,hh,rfl,hoff,hcap,hln⟩⟩:=hs
   ·exact .inl ⟨(List.take_zero:List.take 0 (List.drop lo rows)=[]),rfl⟩
   rw [hh] at hfz
   obtain ⟨_,h0⟩ |⟨id,o1,c1,h1,h2,h3,h4,t,m,g1,g2,g3⟩ |⟨a,c,h1,_⟩:=hfz
   ·cases h0
   ·simp only [V.slc.injEq] at h1
    obtain ⟨e1,e2,e3,e4,e5⟩:=h1
    subst e2
    have lenE:(Ar.std.sub' rows lo n).length=n:=by
     show (List.take n (List.drop lo rows)).length=n
     rw [zZ,xG];omega
    refine .inr (.inl ⟨C.ids nm,off,cap,by rw [lenE],h2,fun c hc=>by rw [lenE];exact (hcap c hc).1,by rw [e1];exact h4,t,m,by rw [e1];exact g1,?_,fun i hi=>?_⟩)
    ·rw [lenE]
     rcases hoff with ⟨e,e'⟩ |e
     ·rw [e,e'];omega
     rw [e,<-zR]
     exact zT (zP _ (show lo+n<=rows.length by omega)) (by omega)
    rw [lenE] at hi
    have e:off=lo * ks.length:=by rcases hoff with h |h;omega;exact h
    have gE:gt (Ar.std.sub' rows lo n) i=gt rows (lo+i):=by
     funext c
     show ((List.take n (List.drop lo rows)).getD i []).getD c .nil=_
     simp only [gt,zH]
     rw [xJ,if_pos hi,xR]
    rw [gE,e,<-zR]
    have:=g3 (lo+i) (by omega)
    rw [<-e3,zO] at this
    exact this
   cases h1
  next og ks' rows hl=>
   split at hd
   rotate_left
   ·cases hd
   rename_i hk
   rw [zC] at hk
   obtain ⟨hown0,hk⟩:=hk
   have hk:=kds_eq hk
   subst hk
   simp only [zA] at hd
   subst hd
   subst hA
   simp only [RvS,VwR] at hs
   have hob:=hM.ob _ _ hl
   simp only [ObS] at hob
   simp only [FzC,D.rows]
   obtain ⟨⟨hpos,hlr⟩,hob⟩:=hob
   have hlr':LenR ks (Ar.std.sub' rows lo n):=⟨fun row hrow=>hlr.1 row (kE (xT hrow)),by
    show (List.take n (List.drop lo rows)).length<=_
    rw [zZ,xG];have:=hlr.2;omega⟩
   refine ⟨⟨_,rfl,hlr'⟩,?_⟩
   obtain ⟨_,⟨_,rfl,rfl⟩ |⟨es,len,cap0,off,cap,hh,rfl,hoff,hcap,hln,_⟩⟩:=hs
   ·exact .inl ⟨(List.take_zero:List.take 0 (List.drop lo rows)=[]),rfl⟩
   obtain ⟨_,hh1⟩ |⟨t,m,cap1,hh1,o1,o2,o3,o4⟩:=hob
   ·rw [hh] at hh1;cases hh1
   have hown:ownS C nm (.arr og ks rows):=by simp only [ownS,hh];intro e;cases e
   rw [hh] at hh1
   simp only [V.slc.injEq,true_and] at hh1
   obtain ⟨rfl,rfl,rfl⟩:=hh1
   have lenE:(Ar.std.sub' rows lo n).length=n:=by
    show (List.take n (List.drop lo rows)).length=n
    rw [zZ,xG];omega
   have hle:lo * ks.length+n * ks.length<=rows.length * ks.length:=by rw [<-zR];exact zP _ hln
   refine .inr (.inl ⟨C.ids nm,off,cap,by rw [lenE],hpos,fun c hc=>by rw [lenE];exact (hcap c hc).1,(hM.own _ _ hl hown).2.1,t,m,?_,?_,fun i hi=>?_⟩)
   ·rw [hgo hown0 _ (hM.own _ _ hl hown).2.1];exact o1
   ·rw [lenE]
    rcases hoff with ⟨e,e'⟩ |e
    ·rw [e,e'];omega
    rw [e];omega
   rw [lenE] at hi
   have e:off=lo * ks.length:=by rcases hoff with h |h;omega;exact h
   have gE:gt (Ar.std.sub' rows lo n) i=gt rows (lo+i):=by
    funext c
    show ((List.take n (List.drop lo rows)).getD i []).getD c .nil=_
    simp only [gt,zH]
    rw [xJ,if_pos hi,xR]
   rw [gE,e,<-zR]
   exact FzR.mono (fun id o _ h'=>hg id o h') (zB _) _ _ _ _ (o4 (lo+i) (by omega))
  cases hd
 exact FzC.mono (fun id o _ h'=>hg id o h') (zB _) _ _ _ (dOf_ok hM hd hs)
theorem dOfP_ok {A:Ar} (hA:A=Ar.std) {C:Cx ro} {Y:St} {bar:Nat} {h:Nat->Option O} {nx:Nat} (hM:MSim C Y.objs Y.next bar h nx) {g:Nat->Option O} (hg:∀id o,C.g id=some o->g id=some o) {own:Bool} (hgo:own=true->∀id,id < nx->g id=h id)
  {k:Kd} {s:SV} {d:D} (hd:dOfP A Y own k s=some d) {v:V} (hs:RvS C Y.next s v):PtR ro g nx (fun u=>FzC ro g nx k d u) v:=by
 unfold dOfP at hd
 split at hd
 next nm off=>
  cases ho:own with
  |false=>subst ho;simp at hd
  |true=>
   subst ho
   cases hl:look Y.objs nm with
   |none=>rw [hl] at hd;simp at hd
   |some so=>
    rw [hl] at hd
    cases so with
    |cells l=>
     simp only at hd
     split at hd
     next s' hs'=>
      simp only [RvS] at hs
      obtain ⟨_,rfl⟩:=hs
      have hob:=hM.ob _ _ hl
      simp only [ObS] at hob
      obtain ⟨t,o1,o2⟩:=hob
      obtain ⟨u,u1,_,u3⟩:=o2 off s' hs'
      have hlt:=(hM.own _ _ hl trivial).2.1
      exact .inl ⟨C.ids nm,off,t,l.length,u,rfl,hlt,by rw [hgo rfl _ hlt];exact o1,(xB.1 hs').1,u1,dOfA0_ok hA hM hg hgo hd u3⟩
     cases hd
    |_=>simp at hd
 next b ks rows i off=>
  split at hd
  next hk=>
   rw [zC] at hk
   obtain ⟨hk,ho⟩:=hk
   have hk:=kds_eq hk
   simp only [beqN_iff] at ho
   subst hk ho
   simp only [zA] at hd
   subst hd
   rw [hA]
   simp only [RvS] at hs
   have hb:C.bd b<=nx:=hM.bd b hs.1
   exact hs.2.pt.mono (fun id o _ h'=>hg id o h') hb fun u hu=>FzC.mono (fun id o _ h'=>hg id o h') hb _ _ u hu
  cases hd
 cases hd
theorem dOfA_ok {A:Ar} (hA:A=Ar.std) {C:Cx ro} {Y:St} {bar:Nat} {h:Nat->Option O} {nx:Nat} (hM:MSim C Y.objs Y.next bar h nx) {g:Nat->Option O} (hg:∀id o,C.g id=some o->g id=some o) {own:Bool} (hgo:own=true->∀id,id < nx->g id=h id)
  {k:Kd} {s:SV} {d:D} (hd:dOfA A Y own k s=some d) {v:V} (hs:RvS C Y.next s v):FzC ro g nx k d v:=by
 unfold dOfA at hd
 split at hd
 ·simp only [FzC]
  exact dOfP_ok hA hM hg hgo hd hs
 rotate_left
 ·exact dOfA0_ok hA hM hg hgo hd hs
 rename_i f k g' u
 split at hd
 next hf=>
  simp only [beqN_iff] at hf
  subst hf
  simp only [RvS] at hs
  obtain ⟨x,y,h1,h2,rfl⟩:=hs
  cases x with
  |cons _ _=>simp [RvSL] at h1
  |nil=>
   match y,h2 with
   |[w],h2=>
    simp only [RvSL,and_true] at h2
    simp only [FzC]
    exact ⟨w,rfl,dOfP_ok hA hM hg hgo hd h2⟩
   |[],h2=>simp [RvSL] at h2
   |_ :: _ :: _,h2=>simp [RvSL] at h2
 cases hd
theorem dListA_ok {A:Ar} (hA:A=Ar.std) {C:Cx ro} {Y:St} {bar:Nat} {h:Nat->Option O} {nx:Nat} (hM:MSim C Y.objs Y.next bar h nx) {g:Nat->Option O} (hg:∀id o,C.g id=some o->g id=some o) {own:Bool} (hgo:own=true->∀id,id < nx->g id=h id) :
  ∀{ks:List Kd} {l:List SV} {ds:List D},dListA A Y own ks l=some ds->∀{x:List V},RvSL C Y.next l x->(x.length=ks.length/\ds.length=ks.length)/\∀j k,ks[j]?=some k->∃v,x[j]?=some v/\FzC ro g nx k (ds.getD j .nil) v
 |[],[],ds,hd,x,hx=>by
  simp only [dListA,zA] at hd
  subst hd
  cases x with
  |nil=>exact ⟨⟨rfl,rfl⟩,fun j k hk=>by simp at hk⟩
  |cons _ _=>simp [RvSL] at hx
 |k :: ks,s :: l,ds,hd,x,hx=>by
  simp only [dListA] at hd
  split at hd
  rotate_left
  ·cases hd
  rename_i d hd1
  split at hd
  rotate_left
  ·cases hd
  rename_i ds' hd2
  simp only [zA] at hd
  subst hd
  cases x with
  |nil=>simp [RvSL] at hx
  |cons v x=>
   simp only [RvSL] at hx
   obtain ⟨h1,h2⟩:=dListA_ok hA hM hg hgo hd2 hx.2
   refine ⟨⟨by simp [h1.1],by simp [h1.2]⟩,fun j k' hk=>?_⟩
   cases j with
   |zero=>
    simp only [zK,zA] at hk
    subst hk
    exact ⟨v,by simp,by simpa using dOfA_ok hA hM hg hgo hd1 hx.1⟩
   |succ j=>
    obtain ⟨v',a,b⟩:=h2 j k' (by simpa using hk)
    exact ⟨v',by simpa using a,by simpa using b⟩
 |[],_ :: _,ds,hd,_,_=>by simp [dListA] at hd
 |_ :: _,[],ds,hd,_,_=>by simp [dListA] at hd
theorem argsD_ok {A:Ar} (hA:A=Ar.std) {C:Cx ro} {Y:St} {bar:Nat} {h:Nat->Option O} {nx:Nat} (hM:MSim C Y.objs Y.next bar h nx) {g:Nat->Option O} (hg:∀id o,C.g id=some o->g id=some o) {own:Bool} (hgo:own=true->∀id,id < nx->g id=h id) :
  ∀{ps:List (Bool×List Kd)} {l:List SV} {ds:List (List D)},argsD A Y own ps l=some ds->∀{x:List V},RvSL C Y.next l x->ArgsFz ro g nx ps ds x
 |[],[],ds,hd,x,hx=>by
  simp only [argsD,zA] at hd
  subst hd
  cases x with
  |nil=>trivial
  |cons _ _=>simp [RvSL] at hx
 |(a,ks) :: ps,s :: l,ds,hd,x,hx=>by
  simp only [argsD] at hd
  split at hd
  rotate_left
  ·cases hd
  rename_i ha
  split at hd
  rotate_left
  ·cases hd
  rename_i d hd1
  split at hd
  rotate_left
  ·cases hd
  rename_i ds' hd2
  simp only [zA] at hd
  subst hd
  cases x with
  |nil=>simp [RvSL] at hx
  |cons v x=>
   simp only [RvSL] at hx
   simp only [ArgsFz]
   obtain ⟨⟨h1,h0⟩,h2⟩:=dListA_ok hA hM hg hgo hd1 hx.1.flat
   refine ⟨h0,?_,argsD_ok hA hM hg hgo hd2 hx.2⟩
   have ha:=eq_of_beq ha
   refine ⟨CX.flat v,h1,h2,?_⟩
   cases s with
   |agg l=>
    have hv:=hx.1
    simp only [RvS] at hv
    obtain ⟨y,hy,rfl⟩:=hv
    have:a=true:=ha
    subst this;rfl
   |_=>
    all_goals
     have:a=false:=ha
     subst this
     have hlen:=hx.1.flat.length
     simp only [flat,zY,xI] at hlen
     have hv:=hx.1
     refine ⟨v,?_,rfl⟩
     cases v<;>first |rfl |skip
     all_goals (exfalso;simp [RvS,VwR,FelR,FzC,isHdr] at hv)
 |[],_ :: _,ds,hd,_,_=>by simp [argsD] at hd
 |_ :: _,[],ds,hd,_,_=>by simp [argsD] at hd
theorem resSV_ok {E:Env} (hA:E.A=Ar.std) {C:Cx ro} {n b:Nat} (hb:b<=n) {f:Nat->Nat->D}:∀(ps:List (Bool×List Kd)) (i:Nat) {l:List SV},resSV E.A b f ps i=some l->∀{x:List V},ResFz ro C.g (C.bd b) f ps i x->RvSL C n l x
 |[],i,l,h,x,hx=>by
  simp only [resSV,zA] at h
  subst h
  cases x with
  |nil=>trivial
  |cons _ _=>simp [ResFz] at hx
 |(g,ks) :: ps,i,l,h,x,hx=>by
  simp only [resSV] at h
  split at h
  rotate_left
  ·cases h
  rename_i s hs
  split at h
  rotate_left
  ·cases h
  rename_i ss hss
  simp only [zA] at h
  subst h
  cases x with
  |nil=>simp [ResFz] at hx
  |cons v x=>
   simp only [ResFz] at hx
   simp only [RvSL]
   refine ⟨?_,resSV_ok hA hb ps (i+1) hss hx.2⟩
   obtain ⟨⟨y,y1,y2,y3⟩,_⟩:=hx
   have hcells:RvSL C n (mkCells E.A b ks (f i) 0) y:=by
    obtain ⟨z,z1,z2,z3⟩:=mkCells_ok hA hb ks (f i) (fun j=>y[j]?) 0 (FzR.of _ _ _ _ fun j k hk=>by
     obtain ⟨u,a,b⟩:=y2 j k hk
     exact ⟨u,by simpa using a,by simpa using b⟩)
    have:z=y:=by
     refine qC fun j=>?_
     by_cases hj:j < ks.length
     ·rw [<-z3 j hj];simp
     rw [kU (by omega),kU (by omega)]
    rw [<-this];exact z1
   cases g with
   |true=>
    simp only [pack,zA] at hs
    subst hs
    simp only at y3
    simp only [RvS]
    exact ⟨y,hcells,y3⟩
   |false=>
    simp only at y3
    obtain ⟨u,rfl,rfl⟩:=y3
    unfold pack at hs
    simp only at hs
    split at hs
    next w hw=>
     simp only [zA] at hs
     subst hs
     rw [hw] at hcells
     simp only [RvSL] at hcells
     exact hcells.1
    cases hs
theorem RvSL_one {C:Cx ro} {n:Nat} {l:List SV} {x:List V} (h:RvSL C n l x):RvS C n (one l) (CX.one x):=by
 match l,x,h with
 |[],[],_=>simp only [one,CX.one,RvS];exact ⟨[],trivial,rfl⟩
 |[s],[v],h=>simp only [RvSL] at h;exact h.1
 |a :: b :: l,c :: d :: x,h=>simp only [one,CX.one,RvS];exact ⟨_,h,rfl⟩
 |[],_ :: _,h=>simp [RvSL] at h
 |_ :: _,[],h=>simp [RvSL] at h
 |[_],_ :: _ :: _,h=>simp [RvSL] at h
 |_ :: _ :: _,[_],h=>simp [RvSL] at h
theorem FzC_scalar {g g':Nat->Option O} {B B':Nat} {k:Kd} (hk:scalarK k=true) {d:D} {v:V} (h:FzC ro g B k d v):FzC ro g' B' k d v:=by
 cases k<;>simp only [scalarK] at hk<;>first |(simp only [FzC] at h ⊢;exact h) |cases hk
theorem ResFz_scalar {g g':Nat->Option O} {B B':Nat} {f:Nat->Nat->D}:∀{ps:List (Bool×List Kd)} {i:Nat} {x:List V},(ps.all fun r=>r.2.all scalarK)=true->ResFz ro g B f ps i x->ResFz ro g' B' f ps i x
 |[],_,[],_,_=>trivial
 |(a,ks) :: ps,i,v :: x,hs,h=>by
  simp only [kA,zC] at hs
  simp only [ResFz] at h ⊢
  refine ⟨?_,ResFz_scalar hs.2 h.2⟩
  obtain ⟨y,y1,y2,y3⟩:=h.1
  refine ⟨y,y1,fun j k hk=>?_,y3⟩
  obtain ⟨u,a1,a2⟩:=y2 j k hk
  exact ⟨u,a1,FzC_scalar (kT.1 hs.1 k (List.mem_of_getElem? hk)) a2⟩
 |[],_,_ :: _,_,h=>by simp [ResFz] at h
 |_ :: _,_,[],_,h=>by simp [ResFz] at h
theorem MSim.bump {C:Cx ro} {objs:List (Nat×SO)} {n bar:Nat} {h h':Nat->Option O} {nx nx':Nat} (hM:MSim C objs n bar h nx) (hnx:nx<=nx') (hh:∀id,id < nx->h' id=h id) {g':Nat->Option O} (hg:∀id o,C.g id=some o->g' id=some o)
  (hg':∀id o,g' id=some o->(id < nx'/\h' id=some o)/\(C.g id=some o\/nx<=id)) :
  MSim (ro:=ro) ⟨C.ids,C.hdr,g',fun b=>if b=n+1 then nx' else C.bd b⟩ objs (n+1) bar h' nx'/\MExt C objs n h nx ⟨C.ids,C.hdr,g',fun b=>if b=n+1 then nx' else C.bd b⟩ objs (n+1) h' nx':=by
 have ha:Ag n C ⟨C.ids,C.hdr,g',fun b=>if b=n+1 then nx' else C.bd b⟩:=⟨fun _ _=>rfl,fun _ _=>rfl,fun b hb=>if_neg (by omega),hg⟩
 have ho:∀{nm so id},look objs nm=some so->owns ⟨C.ids,C.hdr,g',fun b=>if b=n+1 then nx' else C.bd b⟩ nm so id->owns C nm so id:=fun hl h=>(owns_ag ha (hM.lt _ _ hl) (hM.rn hl)).1 h
 refine ⟨⟨fun nm so hl=>Nat.lt_succ_of_lt (hM.lt _ _ hl),fun nm so hl=>?_,fun nm so hl id hw=>?_,fun a b s s' hla hlb id hoa hob=>hM.inj' _ _ _ _ hla hlb _ (ho hla hoa) (ho hlb hob),fun id o hgo=>(hg' id o hgo).1,fun b hb=>?_,if_pos rfl,zT hM.barle hnx,(ha.bd 0 (xZ _)).trans hM.z⟩,ha,zQ _,hnx,fun id hid _=>hh id hid,fun id hid=>?_,fun id o hgo=>?_⟩
 ·exact ObS.mono ha (zQ _) hnx (hM.lt _ _ hl) (fun id hw=>hh _ (hM.own' _ _ hl _ hw).2.1) (hM.ob _ _ hl)
 ·obtain ⟨a,b,c⟩:=hM.own' _ _ hl _ (ho hl hw)
  refine ⟨a,xH b hnx,?_⟩
  cases e:g' id with
  |none=>exact e
  |some o=>
   rcases (hg' _ _ e).2 with h |h
   ·rw [c] at h;cases h
   omega
 ·show (if b=n+1 then nx' else C.bd b)<=nx'
  split
  ·exact zB _
  have:=hM.bd b (by omega);omega
 ·obtain ⟨nm,so,hl,hw⟩:=hid
  exact .inl ⟨nm,so,hl,ho hl hw⟩
 rcases (hg' id o hgo).2 with h |h
 ·exact .inl h
 exact .inr (.inr h)
section
variable {E:Env} (hE:EnvOk E)
include hE
def CallQ (E:CX.Env) (run:Nat->(V->T O->Nat->R)->R) (C:Cx E.ro) (Y:St) (bar:Nat) (h:Nat->Option O) (nx:Nat) (K:SV->St->Prop):Prop:=
 ∃(v:V) (C':Cx E.ro) (h':T O) (nx':Nat) (s:SV) (Y':St),Evt (fun n=>∀k,run n k=k v h' nx')/\MSim C' Y'.objs Y'.next bar h'.get nx'/\MExt C Y.objs Y.next h nx C' Y'.objs Y'.next h'.get nx'/\RvS C' Y'.next s v/\
  Y'.nt=Y.nt/\Y'.regs=Y.regs/\Y'.df=Y.df/\K s Y'/\∀id,id < nx->h'.get id=h id
omit hE in
theorem CallQ.ok {E:CX.Env} {run:Nat->(V->T O->Nat->R)->R} {C:Cx E.ro} {Y:St} {bar:Nat} {h:Nat->Option O} {nx:Nat} {K:SV->St->Prop} (hq:CallQ E run C Y bar h nx K):CallOk E run C Y bar h nx K:=
 let ⟨a,b,c,d,e,f,h1,h2,h3,h4,h5,h6,h7,h8,_⟩:=hq
 ⟨a,b,c,d,e,f,h1,h2,h3,h4,h5,h6,h7,h8⟩
theorem ctr_ok {f:Nat} {sg:Sig} (hs:E.sig f=some sg) (hfr:sg.fresh=false) {Y:St} {args:List SV} {ds:List (List D)} (hd:argsD E.A Y (scalarR sg) sg.params args=some ds) {vs:List SV} (hr:resSV E.A (Y.next+1) (E.fn f ds) sg.results 0=some vs) (hp:E.pre f ds)
  {C:Cx E.E.ro} {bar barv:Nat} {h:T O} {nx:Nat} (hM:MSim C Y.objs Y.next bar h.get nx) (hbv:barv<=nx) {va:List V} (ha:RvSL C Y.next args va) {K:SV->St->Prop} (hK:K (one vs) (Y.mem Y.objs (Y.next+1))) :
  CallQ E.E (fun n k=>callF E.E (cx E.E n) barv h nx f va k) C Y bar h.get nx K:=by
 have hC:=hE.ctr f sg hs
 unfold CtrC at hC
 rw [hfr] at hC
 have hC:=hC ds hp
 cases hsc:scalarR sg with
 |true=>
  rw [hsc] at hd
  obtain ⟨xs,h',nx',g',c1,c2,c3,c4,c5,c6⟩:=hC (fun id=>if id < nx then h.get id else none) barv nx h va (fun id o hg=>by
   split at hg
   next hlt=>exact ⟨hlt,hg⟩
   cases hg) hbv (argsD_ok hE.A hM (fun id o hg=>by
   obtain ⟨a,b⟩:=hM.fz _ _ hg
   rw [if_pos a];exact b) (fun _ id hlt=>if_pos hlt) hd ha)
  obtain ⟨a,b⟩:=hM.bump c2 c3 (g':=C.g) (fun _ _ h=>h) (fun id o hg=>by
   obtain ⟨p,q⟩:=hM.fz _ _ hg
   exact ⟨⟨by omega,by rw [c3 _ p];exact q⟩,.inl hg⟩)
  refine ⟨_,_,h',nx',one vs,Y.mem Y.objs (Y.next+1),c1,a,b,?_,rfl,rfl,rfl,hK,c3⟩
  exact RvSL_one (resSV_ok hE.A (zB _) _ _ hr (ResFz_scalar hsc c6))
 |false=>
  rw [hsc] at hd
  obtain ⟨xs,h',nx',g',c1,c2,c3,c4,c5,c6⟩:=hC C.g barv nx h va (fun id o hg=>hM.fz _ _ hg) hbv (argsD_ok hE.A hM (fun _ _ h=>h) (fun e=>by cases e) hd ha)
  obtain ⟨a,b⟩:=hM.bump c2 c3 c4 c5
  refine ⟨_,_,h',nx',one vs,Y.mem Y.objs (Y.next+1),c1,a,b,?_,rfl,rfl,rfl,hK,c3⟩
  refine RvSL_one (resSV_ok hE.A (zB _) _ _ hr ?_)
  show ResFz E.E.ro g' (if Y.next+1=Y.next+1 then nx' else C.bd (Y.next+1)) _ _ _ _
  rw [if_pos rfl];exact c6
theorem callC_ok {sg:Sig} {g:Nat} (hs:E.sig g=some sg) (hfr:sg.fresh=false) {args:List SV} {Y:St} {K:SV->St->Prop} (h:callC E sg g args K Y) {C:Cx E.E.ro} {bar barv:Nat} {hp:T O} {nx:Nat} (hM:MSim C Y.objs Y.next bar hp.get nx) (hbv:barv<=nx) {va:List V} (ha:RvSL C Y.next args va) :
  CallQ E.E (fun n k=>callF E.E (cx E.E n) barv hp nx g va k) C Y bar hp.get nx K:=by
 rw [callC_eq] at h
 split at h
 next ds hd=>
  split at h
  next vs hv=>
   exact ctr_ok hE hs hfr hd hv h.1 hM hbv ha h.2
  exact h.out.elim
 exact h.out.elim
omit hE in
theorem cutS_ok:∀{p:List (Bool×List Kd)} {l a:List SV} {x:SV} {b:List SV},cutS p l=some (a,x,b)->l=a++x :: b
 |[],s :: l,a,x,b,h=>by simp only [cutS,zA,zI] at h;obtain ⟨rfl,rfl,rfl⟩:=h;rfl
 |_ :: p,s :: l,a,x,b,h=>by
  simp only [cutS] at h
  split at h
  next a' x' b' h'=>
   simp only [zA,zI] at h
   obtain ⟨rfl,rfl,rfl⟩:=h
   rw [cutS_ok h'];rfl
  cases h
 |_,[],a,x,b,h=>by cases ‹List (Bool×List Kd)›<;>simp [cutS] at h
omit hE in
theorem RvSL.cut {C:Cx ro} {n:Nat} {a b:List SV} {s:SV} {x:List V} (h:RvSL C n (a++s :: b) x):∃x1 v x2,x=x1++v :: x2/\RvSL C n a x1/\RvS C n s v/\RvSL C n b x2:=by
 have hl:=h.length
 simp only [xK,zY] at hl
 have h1:=RvSL.take a.length h
 have h2:=RvSL.drop a.length h
 rw [List.take_left] at h1
 rw [List.drop_left] at h2
 match hd:x.drop a.length,h2 with
 |v :: x2,h2=>
  simp only [RvSL] at h2
  exact ⟨x.take a.length,v,x2,by rw [<-hd,List.take_append_drop],h1,h2.1,h2.2⟩
omit hE in
theorem MSim.hide {C:Cx ro} {objs:List (Nat×SO)} {n bar:Nat} {h h0:Nat->Option O} {nx:Nat} (hM:MSim C objs n bar h nx) {nm:Nat} {so0:SO} (hl:look objs nm=some so0) (hh:∀id,¬owns C nm so0 id->h0 id=h id):MSim C ((nm,.gone) :: objs) n bar h0 nx:=by
 have no:∀{id},¬owns C nm .gone id:=fun {id} h=>by
  rcases h with h |h
  ·exact h.1
  exact h
 refine ⟨fun nm' s hl'=>?_,fun nm' s hl'=>?_,fun nm' s hl' id ho=>?_,fun a b s s' hla hlb id hoa hob=>?_,fun id o hg=>?_,hM.bd,hM.top,hM.barle,hM.z⟩
 ·rw [look_cons] at hl'
  split at hl'
  next e=>subst e;exact hM.lt _ _ hl
  exact hM.lt _ _ hl'
 ·rw [look_cons] at hl'
  split at hl'
  ·simp only [zA] at hl';subst hl';trivial
  rename_i hne
  exact ObS.mono (Ag.refl _ _) (zB _) (zB _) (hM.lt _ _ hl') (fun id ho=>hh id fun ho'=>hne (hM.inj' _ _ _ _ hl hl' id ho' ho)) (hM.ob _ _ hl')
 ·rw [look_cons] at hl'
  split at hl'
  next e=>
   simp only [zA] at hl'
   subst e hl'
   exact absurd ho no
  exact hM.own' _ _ hl' _ ho
 ·rw [look_cons] at hla hlb
  split at hla
  next e=>
   simp only [zA] at hla
   subst e hla
   exact absurd hoa no
  split at hlb
  next e=>
   simp only [zA] at hlb
   subst e hlb
   exact absurd hob no
  exact hM.inj' _ _ _ _ hla hlb _ hoa hob
 obtain ⟨a,b⟩:=hM.fz _ _ hg
 refine ⟨a,?_⟩
 rw [hh id fun ho=>?_]
 ·exact b
 rw [(hM.own' _ _ hl _ ho).2.2] at hg;cases hg
open Classical in
theorem callM2_ok {sg:Sig} {g:Nat} (hs:E.sig g=some sg) (hfr:sg.fresh=true) {p1:List (Bool×List Kd)} {ks:List Kd} {p2:List (Bool×List Kd)} (hsp:splitL sg.params=some (p1,ks,p2)) {l l1:List SV} {s:SV} {l2:List SV} {Y:St} {K:SV->St->Prop} (h:callM2 E sg g l Y K p1 ks p2 l1 s l2)
  {C:Cx E.E.ro} {bar:Nat} {hp:T O} {nx:Nat} (hM:MSim C Y.objs Y.next bar hp.get nx) {x1:List V} {v:V} {x2:List V} (ha1:RvSL C Y.next l1 x1) (hv:RvS C Y.next s v) (ha2:RvSL C Y.next l2 x2) :
  CallOk E.E (fun n k=>callF E.E (cx E.E n) bar hp nx g (x1++v :: x2) k) C Y bar hp.get nx K:=by
 have hC:=hE.ctr g sg hs
 unfold CtrC at hC
 rw [hfr] at hC
 have hC:=hC p1 ks p2 hsp
 unfold callM2 at h
 split at h
 rotate_left
 ·exact h.out.elim
 rename_i nm
 unfold callM3 at h
 split at h
 rotate_left
 ·exact h.out.elim
 rename_i og ks' rows hl
 split at h
 rotate_left
 ·exact h.out.elim
 rename_i hk
 have hk:=(kds_eq hk).symm
 subst hk
 unfold callM4 at h
 split at h
 rotate_left
 ·exact h.out.elim
 rename_i d1 hd1
 split at h
 rotate_left
 ·exact h.out.elim
 rename_i d2 hd2
 unfold callM5 at h
 split at h
 rotate_left
 ·exact h.out.elim
 rename_i vs hvs
 obtain ⟨hpre,hK⟩:=h
 simp only [RvS] at hv
 obtain ⟨hnm,rfl,_⟩:=hv
 have hob:=hM.ob _ _ hl
 simp only [ObS] at hob
 have own1:∀id,SlcId (C.hdr nm) id->ownS C nm (.arr og ks rows)/\id=C.ids nm:=fun id ⟨es,off,len,cap,e⟩=>by
  refine ⟨(by simp only [ownS];rw [e];intro c;cases c),?_⟩
  rcases hob.2 with ⟨_,h2⟩ |⟨t,m,cap',h2,_⟩
  ·rw [h2] at e;cases e
  rw [h2] at e;cases e;rfl
 have own2:∀id,¬owns C nm (.arr og ks rows) id->¬SlcId (C.hdr nm) id:=fun id hn hid=>hn (.inl ⟨(own1 id hid).1,(own1 id hid).2.symm⟩)
 have hM0:MSim C ((nm,SO.gone) :: Y.objs) Y.next bar (fun id=>if SlcId (C.hdr nm) id then none else hp.get id) nx:=hM.hide hl fun id hn=>if_neg (own2 id hn)
 let gg:Nat->Option O:=if ownM sg ks=true then fun id=>if id < nx then (if SlcId (C.hdr nm) id then none else hp.get id) else none else C.g
 have gg1:∀id o,C.g id=some o->gg id=some o:=fun id o hg=>by
  show (if ownM sg ks=true then fun id=>if id < nx then (if SlcId (C.hdr nm) id then none else hp.get id) else none else C.g) id=some o
  split
  ·obtain ⟨a,b⟩:=hM0.fz _ _ hg
   show (if id < nx then (if SlcId (C.hdr nm) id then none else hp.get id) else none)=some o
   rw [if_pos a];exact b
  exact hg
 have gg2:ownM sg ks=true->∀id,id < nx->gg id=(if SlcId (C.hdr nm) id then none else hp.get id):=fun hsc id hid=>by
  show (if ownM sg ks=true then fun id=>if id < nx then (if SlcId (C.hdr nm) id then none else hp.get id) else none else C.g) id=_
  rw [if_pos hsc]
  show (if id < nx then (if SlcId (C.hdr nm) id then none else hp.get id) else none)=_
  rw [if_pos hid]
 have gg3:∀id o,gg id=some o->id < nx/\hp.get id=some o:=fun id o hg=>by
  have hg:(if ownM sg ks=true then fun id=>if id < nx then (if SlcId (C.hdr nm) id then none else hp.get id) else none else C.g) id=some o:=hg
  split at hg
  ·have hg:(if id < nx then (if SlcId (C.hdr nm) id then none else hp.get id) else none)=some o:=hg
   split at hg
   next hlt=>
    split at hg
    ·cases hg
    exact ⟨hlt,hg⟩
   cases hg
  exact hM.fz _ _ hg
 have gg4:∀id,SlcId (C.hdr nm) id->bar<=id/\id < nx/\gg id=none:=fun id hid=>by
  obtain ⟨o1,o2⟩:=own1 id hid
  obtain ⟨a,b,c⟩:=hM.own _ _ hl o1
  rw [<-o2] at a b c
  refine ⟨a,b,?_⟩
  show (if ownM sg ks=true then fun id=>if id < nx then (if SlcId (C.hdr nm) id then none else hp.get id) else none else C.g) id=none
  split
  ·show (if id < nx then (if SlcId (C.hdr nm) id then none else hp.get id) else none)=none
   rw [if_pos b,if_pos hid]
  exact c
 have hrow:RowG E.E.ro gg hp.get nx ks rows (C.hdr nm):=by
  refine ⟨hob.1,?_⟩
  rcases hob.2 with ⟨h1,h2⟩ |⟨t,m,cap,h1,h2,h3,h4,h5⟩
  ·exact .inl ⟨h1,h2⟩
  exact .inr ⟨C.ids nm,t,m,cap,h1,h2,h3,h4,fun i hi=>FzR.mono (fun id o _ hg=>gg1 id o hg) (zB _) _ _ _ _ (h5 i hi)⟩
 obtain ⟨xs,h',nx',g',c1,c2,c3,c4,c5,c6,c7⟩:=hC d1 rows d2 hpre gg bar nx hp x1 x2 (C.hdr nm) gg3 hM.barle
  (argsD_ok (Y:=Y.mem ((nm,SO.gone) :: Y.objs) Y.next) hE.A hM0 gg1 gg2 hd1 ha1) (argsD_ok (Y:=Y.mem ((nm,SO.gone) :: Y.objs) Y.next) hE.A hM0 gg1 gg2 hd2 ha2) hrow gg4
 have rowsE:E.A.dl (E.fn g (d1++[.l rows] :: d2) sg.results.length 0)=(E.fn g (d1++[.l rows] :: d2) sg.results.length 0).rows:=by rw [hE.A];rfl
 rw [rowsE] at hK
 generalize hrows':(E.fn g (d1++[.l rows] :: d2) sg.results.length 0).rows=rows' at hK c7
 have nog:∀id o,C.g id=some o->¬SlcId (C.hdr nm) id:=fun id o hg hid=>by
  obtain ⟨o1,o2⟩:=own1 id hid
  have:=(hM.own _ _ hl o1).2.2
  rw [<-o2,hg] at this;cases this
 obtain ⟨g2,k1,k2,k3,k4⟩:∃g2:Nat->Option O,(∀id o,C.g id=some o->g2 id=some o)/\(∀id o,g2 id=some o->(id < nx'/\h'.get id=some o)/\(C.g id=some o\/nx<=id))/\ResFz E.E.ro g2 nx' (E.fn g (d1++[.l rows] :: d2)) sg.results 0 xs/\RowG E.E.ro g2 h'.get nx' ks rows' (C.hdr nm):=by
  cases ho:ownM sg ks with
  |true=>
   have ho':=ho
   simp only [ownM,zC] at ho'
   refine ⟨C.g,fun _ _ h=>h,fun id o hg=>?_,ResFz_scalar ho'.1 c6,c7.1,?_⟩
   ·obtain ⟨a,b⟩:=hM.fz _ _ hg
    exact ⟨⟨by omega,by rw [c3 id a (nog id o hg)];exact b⟩,.inl hg⟩
   rcases c7.2 with h |⟨id,t,m,cap,e1,e2,e3,e4,e5⟩
   ·exact .inl h
   refine .inr ⟨id,t,m,cap,e1,e2,e3,e4,fun i hi=>FzR.of _ _ _ _ fun j k hj=>?_⟩
   obtain ⟨u,u1,u2⟩:=FzR.get _ _ _ _ (e5 i hi) j k hj
   exact ⟨u,u1,FzC_scalar (kT.1 ho'.2 k (List.mem_of_getElem? hj)) u2⟩
  |false=>
   have e:gg=C.g:=by
    show (if ownM sg ks=true then fun id=>if id < nx then (if SlcId (C.hdr nm) id then none else hp.get id) else none else C.g)=C.g
    rw [ho];rfl
   rw [e] at c4 c5
   exact ⟨g',c4,c5,c6,c7⟩
 have nog2:∀id o,g2 id=some o->¬SlcId (C.hdr nm) id:=fun id o hg hid=>by
  rcases (k2 id o hg).2 with h |h
  ·exact nog id o h hid
  obtain ⟨o1,o2⟩:=own1 id hid
  have:=(hM.own _ _ hl o1).2.1
  omega
 obtain ⟨mA,mB⟩:=hM.bump (h':=fun id=>if SlcId (C.hdr nm) id then hp.get id else h'.get id) c2 (fun id hid=>by
  show (if SlcId (C.hdr nm) id then hp.get id else h'.get id)=hp.get id
  split
  ·rfl
  next hn=>exact c3 id hid hn) (g':=g2) k1 (fun id o hg=>by
  obtain ⟨⟨a,b⟩,c⟩:=k2 id o hg
  refine ⟨⟨a,?_⟩,c⟩
  show (if SlcId (C.hdr nm) id then hp.get id else h'.get id)=some o
  rw [if_neg (nog2 id o hg)];exact b)
 have hres:RvS (ro:=E.E.ro) ⟨C.ids,C.hdr,g2,fun b=>if b=Y.next+1 then nx' else C.bd b⟩ (Y.next+1) (one vs) (CX.one xs):=by
  refine RvSL_one (resSV_ok hE.A (zB _) _ _ hvs ?_)
  show ResFz E.E.ro g2 (if Y.next+1=Y.next+1 then nx' else C.bd (Y.next+1)) _ _ _ _
  rw [if_pos rfl];exact k3
 rcases hob.2 with ⟨h1,h2⟩ |⟨t,m,cap,h1,_⟩
 ·-- a nil slice
  have hno:∀id,¬SlcId (C.hdr nm) id:=fun id ⟨_,_,_,_,e⟩=>by rw [h2] at e;cases e
  have hr:rows'=[]:=by
   rcases k4.2 with ⟨h,_⟩ |⟨_,_,_,_,h,_⟩
   ·exact h
   rw [h2] at h;cases h
  have heq:(fun id=>if SlcId (C.hdr nm) id then hp.get id else h'.get id)=h'.get:=by
   funext id;rw [if_neg (hno id)]
  rw [heq] at mA mB
  have hlo:∀t,look ((nm,SO.arr og ks rows') :: Y.objs) t=look Y.objs t:=fun t=>by
   rw [look_cons];split
   next e=>subst e;rw [hl,h1,hr]
   rfl
  exact ⟨_,_,h',nx',one vs,Y.mem ((nm,SO.arr og ks rows') :: Y.objs) (Y.next+1),c1,mA.lk hlo,mB.trans (MExt.lk hlo),hres,rfl,rfl,rfl,hK⟩
 have hnn:C.hdr nm≠.nils:=by rw [h1];intro e;cases e
 have hid:SlcId (C.hdr nm) (C.ids nm):=⟨_,_,_,_,h1⟩
 rcases k4.2 with ⟨_,h⟩ |⟨id,t',m',cap',e1,e2,e3,e4,e5⟩
 ·exact absurd h hnn
 have hidE:id=C.ids nm:=by
  have e1:=e1
  rw [h1] at e1
  simp only [V.slc.injEq] at e1
  exact e1.1.symm
 subst hidE
 obtain ⟨mC,mD⟩:=mA.upd (so:=.arr og ks rows') hl hnn hnn (o:=.cells t' m') (by
  simp only [ObS]
  refine ⟨k4.1,.inr ⟨t',m',cap',e1,if_pos trivial,e3,e4,e5⟩⟩)
 have heq:(fun id=>if id=C.ids nm then some (O.cells t' m') else (if SlcId (C.hdr nm) id then hp.get id else h'.get id))=h'.get:=by
  funext id
  split
  next e=>rw [e,e2]
  rename_i hne
  rw [if_neg fun hs=>hne (own1 id hs).2]
 have mC:=heq ▸ mC
 have mD:=heq ▸ mD
 exact ⟨_,_,h',nx',one vs,Y.mem ((nm,SO.arr og ks rows') :: Y.objs) (Y.next+1),c1,mC,mB.trans mD,hres,rfl,rfl,rfl,hK⟩
theorem callM_ok {sg:Sig} {g:Nat} (hs:E.sig g=some sg) (hfr:sg.fresh=true) {l:List SV} {Y:St} {K:SV->St->Prop} (h:callM E sg g l Y K) {C:Cx E.E.ro} {bar:Nat} {hp:T O} {nx:Nat} (hM:MSim C Y.objs Y.next bar hp.get nx) {va:List V} (ha:RvSL C Y.next l va) :
  CallOk E.E (fun n k=>callF E.E (cx E.E n) bar hp nx g va k) C Y bar hp.get nx K:=by
 unfold callM at h
 split at h
 rotate_left
 ·exact h.out.elim
 rename_i p1 ks p2 hsp
 unfold callM1 at h
 split at h
 rotate_left
 ·exact h.out.elim
 rename_i l1 s l2 hcut
 have hcut:=cutS_ok hcut
 subst hcut
 obtain ⟨x1,v,x2,rfl,ha1,hv,ha2⟩:=ha.cut
 split at h
 ·exact callM2_ok hE hs hfr hsp h hM ha1 hv ha2
 obtain ⟨C1,h1,e1⟩:=hM.frzL (l1++l2)
 obtain ⟨v',C',h',nx',s',Y',k1,k2,k3,k4,k5,k6,k7,k8⟩:=callM2_ok hE hs hfr hsp h h1 (RvSL.ag e1.ag (zB _) _ _ ha1) (RvS.ag e1.ag (zB _) _ _ hv) (RvSL.ag e1.ag (zB _) _ _ ha2)
 exact ⟨v',C',h',nx',s',Y',k1,k2,e1.trans k3,k4,k5,k6,k7,k8⟩
omit hE in
theorem pairs_un:∀p:List (Int×Int),pairs (unpairs p)=some p
 |[]=>rfl
 |a :: p=>by simp only [unpairs,pairs,pairs_un p]
omit hE in
theorem unpairs_get:∀(p:List (Int×Int)) (i:Nat),i < p.length->(unpairs p)[i * 2]?=some (.int .i64 (p.getD i (0,0)).1)/\(unpairs p)[i * 2+1]?=some (.int .i64 (p.getD i (0,0)).2)
 |[],i,h=>by simp at h
 |a :: p,0,_=>⟨rfl,rfl⟩
 |a :: p,i+1,h=>by
  have:=unpairs_get p i (by simpa using h)
  rw [show (i+1) * 2=i * 2+1+1 by omega]
  simp only [unpairs,kQ,List.getD_cons_succ]
  exact this
omit hE in
theorem psort_len (l:List (Int×Int)):(psort l).length=l.length:=List.length_mergeSort l
omit hE in
theorem oneAll_un:∀p:List (Int×Int),oneAll (unpairs p)=true
 |[]=>rfl
 |a :: p=>by simp only [unpairs,oneAll,one1,oneAll_un p]
theorem callT_ok {g c:Nat} (hx:E.E.ext g=some (.sort c)) {l:List SV} {Y:St} {K:SV->St->Prop} (h:callT E c g l Y K) {C:Cx E.E.ro} {bar:Nat} {hp:T O} {nx:Nat} (hM:MSim C Y.objs Y.next bar hp.get nx) {va:List V} (ha:RvSL C Y.next l va) :
  CallOk E.E (fun n k=>callF E.E (cx E.E n) bar hp nx g va k) C Y bar hp.get nx K:=by
 obtain ⟨fn,b,hf1,hf2,hf3⟩:=hE.srt g c hx
 have hA:=hE.A
 unfold callT at h
 split at h
 rotate_left
 ·exact h.out.elim
 rename_i s c'
 split at h
 rotate_left
 ·exact h.out.elim
 rename_i hc
 simp only [beqN_iff] at hc
 subst hc
 have hva:∃v,RvS C Y.next s v/\va=[v,.fn (.func c) [] []]:=by
  match va,ha with
  |[v,u],ha=>
   simp only [RvSL,and_true] at ha
   obtain ⟨a1,a2⟩:=ha
   simp only [RvS] at a2
   obtain ⟨x,y,hx,hy,rfl⟩:=a2
   cases x with
   |cons _ _=>simp [RvSL] at hx
   |nil=>
    cases y with
    |cons _ _=>simp [RvSL] at hy
    |nil=>exact ⟨v,a1,rfl⟩
  |[],ha=>simp [RvSL] at ha
  |[_],ha=>simp [RvSL] at ha
  |_ :: _ :: _ :: _,ha=>simp [RvSL] at ha
 obtain ⟨v,hv,rfl⟩:=hva
 have run:∀n k,callF E.E (cx E.E n) bar hp nx g [v,.fn (.func c) [] []] k=sortX bar hp nx c [v,.fn (.func c) [] []] k:=fun n k=>by
  have e:Nat.ble (len [v,V.fn (.func c) [] []]) fn.ntmps=true:=bleT hf3
  simp only [callF,hf1,hf2,e,hx]
 have cc:Nat.beq c c=true:=xA c
 unfold callT1 at h
 split at h
 ·simp only [RvS] at hv
  subst hv
  exact ⟨.tup [],C,hp,nx,.tup [],Y,Evt.of fun n k=>(run n k).trans (by simp only [sortX,cc]),hM,MExt.refl _ _ _ _ _,by simp [RvS,RvSL],rfl,rfl,rfl,h⟩
 rotate_left
 ·exact h.out.elim
 rename_i nm
 unfold callT2 at h
 split at h
 rotate_left
 ·exact h.out.elim
 rename_i og ks rows hl
 split at h
 rotate_left
 ·exact h.out.elim
 rename_i hk
 have hk:=kds_eq hk
 subst hk
 obtain ⟨hle,h⟩:=h
 rw [hA] at hle h
 have hle:rows.length+1<=4611686018427387904:=hle
 have hsrt:Ar.std.srt rows=srtR rows:=rfl
 rw [hsrt] at h
 simp only [RvS] at hv
 obtain ⟨hnm,rfl,_⟩:=hv
 have hob:=hM.ob _ _ hl
 simp only [ObS] at hob
 obtain ⟨⟨_,hlr⟩,⟨hr,hh1⟩ |⟨t0,m0,cap1,hh1,o1,o2,o3,o4⟩⟩:=hob
 ·subst hr
  have hlo:∀t,look ((nm,SO.arr og [.int .i64,.int .i64] (srtR [])) :: Y.objs) t=look Y.objs t:=fun t=>by
   rw [look_cons];split
   next e=>subst e;rw [hl];simp [srtR,prs,unprs,psort]
   rfl
  refine ⟨.tup [],C,hp,nx,.tup [],Y.mem ((nm,SO.arr og [.int .i64,.int .i64] (srtR [])) :: Y.objs) Y.next,Evt.of fun n k=>(run n k).trans ?_,hM.lk hlo,MExt.lk hlo,by simp [RvS,RvSL],rfl,rfl,rfl,h⟩
  rw [hh1]
  simp only [sortX,cc]
 have hown:∀r:Rows,ownS C nm (.arr og [.int .i64,.int .i64] r):=fun r=>by simp only [ownS];rw [hh1];intro e;cases e
 have pl:(prs rows).length=rows.length:=by simp [prs]
 have sl:(psort (prs rows)).length=rows.length:=by rw [psort_len,pl]
 have o2:rows.length * 2<=m0:=o2
 obtain ⟨t',w1,w2⟩:=wrt_eq (unpairs (psort (prs rows))) t0 0
 have len':(srtR rows).length=rows.length:=by simp [srtR,unprs,psort_len,prs]
 obtain ⟨a,b⟩:=hM.upd (so:=.arr og [.int .i64,.int .i64] (srtR rows)) hl (hown _) (hown _) (o:=.cells t' m0) (by
  simp only [ObS,if_true]
  refine ⟨⟨by simp,fun row hr=>?_,by rw [len'];exact hlr.2⟩,.inr ⟨t',m0,cap1,by rw [len'];exact hh1,rfl,by rw [len'];exact o2,fun c hc=>by rw [len'];exact o3 c hc,fun i hi=>?_⟩⟩
  ·simp only [srtR,unprs,qB] at hr
   obtain ⟨p,_,rfl⟩:=hr
   rfl
  rw [len'] at hi
  obtain ⟨u0,u1⟩:=unpairs_get (psort (prs rows)) i (by omega)
  have hun:(unpairs (psort (prs rows))).length=rows.length * 2:=by rw [unpairs_len,sl]
  have gE:∀c,gt (srtR rows) i c=[D.i ((psort (prs rows)).getD i (0,0)).1,D.i ((psort (prs rows)).getD i (0,0)).2].getD c .nil:=fun c=>by
   have hi':i < (psort (prs rows)).length:=by omega
   simp only [gt,srtR,unprs,zH,qD,zJ hi',zX,kK]
  refine FzR.of _ _ _ _ fun j k hj=>?_
  match j,hj with
  |0,hj=>
   simp only [zK,zA] at hj
   subst hj
   refine ⟨.int .i64 ((psort (prs rows)).getD i (0,0)).1,?_,?_⟩
   ·rw [w2,if_pos ⟨by omega,by simp only [zY,xI];omega⟩]
    simpa using u0
   simp only [FzC,zO,gE];exact ⟨⟨_,rfl⟩,rfl⟩
  |1,hj=>
   simp only [kQ,zK,zA] at hj
   subst hj
   refine ⟨.int .i64 ((psort (prs rows)).getD i (0,0)).2,?_,?_⟩
   ·rw [w2,if_pos ⟨by omega,by simp only [zY,xI];omega⟩]
    simpa using u1
   simp only [FzC,zO,gE];exact ⟨⟨_,rfl⟩,rfl⟩
  |j+2,hj=>simp at hj)
 refine ⟨.tup [],C,hp.up (C.ids nm) (some (.cells t' m0)),nx,.tup [],Y.mem ((nm,SO.arr og [.int .i64,.int .i64] (srtR rows)) :: Y.objs) Y.next,Evt.of fun n k=>(run n k).trans ?_,?_,?_,by simp [RvS,RvSL],rfl,rfl,rfl,h⟩
 ·rw [hh1]
  have e1:hp.get (C.ids nm)=some (.cells t0 m0):=o1
  have e2:geB bar (C.ids nm)=true:=bleT (hM.own _ _ hl (hown _)).1
  have e3:Nat.ble (Nat.add 0 (Nat.mul rows.length 2)) m0=true:=bleT (by show 0+rows.length * 2<=m0;omega)
  have e4:Nat.blt rows.length 4611686018427387904=true:=bltT (by omega)
  have e5:rd t0 0 (Nat.mul rows.length 2)=fun k:List V->R=>k (unpairs (prs rows)):=by
   funext k
   have hun:(unpairs (prs rows)).length=rows.length * 2:=by rw [unpairs_len,pl]
   show rd t0 0 (rows.length * 2) k=_
   rw [<-hun]
   refine rd_eq _ 0 k fun j hj=>?_
   rw [hun] at hj
   have hi:j / 2 < rows.length:=by omega
   have g4:=o4 (j / 2) hi
   obtain ⟨u0,u1⟩:=unpairs_get (prs rows) (j / 2) (by omega)
   have pE:(prs rows).getD (j / 2) (0,0)=((gt rows (j / 2) 0).int,(gt rows (j / 2) 1).int):=by
    simp only [prs,gt,zH,qD,zJ hi,zX,kK]
   rw [pE] at u0 u1
   rcases Nat.mod_two_eq_zero_or_one j with hm |hm
   ·obtain ⟨v,v1,v2⟩:=FzR.get _ _ _ _ g4 0 (.int .i64) rfl
    simp only [FzC] at v2
    rw [v2.2] at v1
    rw [show j=j / 2 * 2 by omega,zO,u0,<-v1]
    simp
   obtain ⟨v,v1,v2⟩:=FzR.get _ _ _ _ g4 1 (.int .i64) rfl
   simp only [FzC] at v2
   rw [v2.2] at v1
   rw [show j=j / 2 * 2+1 by omega,zO,u1,<-v1]
   simp
  have e6:Nat.ble (Nat.add 0 (len (unpairs (psort (prs rows))))) m0=true:=bleT (by rw [len_eq,unpairs_len,sl];show 0+rows.length * 2<=m0;omega)
  simp only [sortX,cc,zY,xI,xA,e4,kL,e1,e3,e5,pairs_un,CX.store,e2,oneAll_un,e6,w1,T.set_eq]
 ·have e:(fun id=>if id=C.ids nm then some (O.cells t' m0) else hp.get id)=(hp.up (C.ids nm) (some (.cells t' m0))).get:=by
   funext id;rw [T.get_up]
  rw [<-e];exact a
 have e:(fun id=>if id=C.ids nm then some (O.cells t' m0) else hp.get id)=(hp.up (C.ids nm) (some (.cells t' m0))).get:=by
  funext id;rw [T.get_up]
 rw [<-e];exact b
theorem callS_ok {ci:CI} (hci:CIOk E.E ci) {f:SV} {args:List SV} {Y:St} {K:SV->St->Prop} (h:callS E ci f args Y K) {C:Cx E.E.ro} {bar:Nat} {hp:T O} {nx:Nat} (hM:MSim C Y.objs Y.next bar hp.get nx) {vf:V} {va:List V} (hf:RvS C Y.next f vf) (ha:RvSL C Y.next args va) :
  CallOk E.E (fun n k=>callV E.E (cx E.E n) bar hp nx vf va k) C Y bar hp.get nx K:=by
 rw [callS_eq] at h
 split at h
 rotate_left
 ·exact hci _ _ _ _ h C bar hp nx hM vf va hf ha
 rename_i g a b
 split at h
 next sg hs=>
  simp only [RvS] at hf
  obtain ⟨x,y,f1,f2,rfl⟩:=hf
  have hargs:RvSL C Y.next (a++args++b) (x++va++y):=RvSL.append (RvSL.append f1 ha) f2
  split at h
  next hfr=>
   exact callM_ok hE hs hfr h hM hargs
  rename_i hfr
  split at h
  ·exact (callC_ok hE hs hfr h hM hM.barle hargs).ok
  obtain ⟨C1,h1,e1⟩:=hM.frzL (a++args++b)
  obtain ⟨v,C',h',nx',s,Y',k1,k2,k3,k4,k5,k6,k7,k8,_⟩:=callC_ok hE hs hfr h h1 h1.barle (RvSL.ag e1.ag (zB _) _ _ hargs)
  exact ⟨v,C',h',nx',s,Y',k1,k2,e1.trans k3,k4,k5,k6,k7,k8⟩
 split at h
 next c hc=>
  have hx:E.E.ext g=some (.sort c):=by
   unfold sortC at hc
   split at hc
   next c' he=>simp only [zA] at hc;subst hc;exact he
   cases hc
  simp only [RvS] at hf
  obtain ⟨x,y,f1,f2,rfl⟩:=hf
  exact callT_ok hE hx h hM (RvSL.append (RvSL.append f1 ha) f2)
 exact hci _ _ _ _ h C bar hp nx hM vf va hf ha
theorem execW_ok {ev:Operand->SV} {op:Op} {Y:St} {K:SV->St->Prop} (h:execW E ev op K Y) {C:Cx E.E.ro} {bar:Nat} {hp:T O} {nx:Nat} (hM:MSim C Y.objs Y.next bar hp.get nx) {evc:Operand->Option V} (hev:EvOk C Y.next ev evc) (hc:clsOf E.E op=2) :
  CallOk E.E (fun n k=>opA E.E (cx E.E n) bar evc hp nx op k) C Y bar hp.get nx K:=by
 unfold execW at h
 split at h
 next w hw=>
  obtain ⟨h1,h2⟩:=preK_ok h
  obtain ⟨F,_,v,C',h',nx',w1,w2,w3,w4,w5⟩:=xw_ok hE.A hM hE.T hev hw h1
  obtain ⟨hv',r1,r2⟩:=w5 hp bar (fun _ _=>rfl) (fun _ _ h=>h)
  have hget:hv'.get=h':=by
   funext id
   rw [r2]
   split
   ·rfl
   rename_i hn
   exact (w4 id (fun h=>hn (.inl h)) (fun h=>hn (.inr h))).symm
  rw [<-hget] at w1 w2
  exact ⟨v,C',hv',nx',w.sv,Y.mem w.objs w.next,Evt.of fun n k=>by simp only [opA,hc];exact r1 _,w1,w2,w3,rfl,rfl,rfl,h2⟩
 split at h
 next w hw=>
  obtain ⟨h1,h2⟩:=preK_ok h
  obtain ⟨v,C',h',nx',r1,w1,w2,w3⟩:=xmW_ok hE.A hM hev hw
  exact ⟨v,C',h',nx',w.sv,Y.mem w.objs w.next,Evt.of fun n k=>by simp only [opA,hc];exact r1 _,w1,w2,w3,rfl,rfl,rfl,h2⟩
 exact h.out.elim
theorem EvOk.ag {C C':Cx E.E.ro} {n m:Nat} (ha:Ag n C C') (hn:n<=m) {ev:Operand->SV} {evc:Operand->Option V} (hev:EvOk C n ev evc):EvOk C' m ev evc:=fun x=>by
 rcases hev x with h |⟨v,a,b⟩
 ·exact .inl h
 exact .inr ⟨v,a,RvS.ag ha hn _ _ b⟩
theorem exec0_ok {ev:Operand->SV} {op:Op} {Y:St} {K:SV->Prop} (h:exec0 E Y ev op K) {C:Cx E.E.ro} {bar:Nat} {hp:Nat->Option O} {nx:Nat} (hM:MSim C Y.objs Y.next bar hp nx) {evc:Operand->Option V} (hev:EvOk C Y.next ev evc) :
  ∃s v,RvS C Y.next s v/\(∀k,opP E.E evc op k=k v)/\K s:=by
 rw [exec0_eq] at h
 split at h
 next rows sg hn=>
  unfold nilQ at hn
  split at hn
  rotate_left
  ·cases hn
  rename_i o t x y ty
  split at hn
  rotate_left
  ·cases hn
  rename_i b ks rows' hx hy hs
  obtain ⟨e,hk⟩:=isSl_ok hE.A hs
  obtain ⟨vx,e1,e2⟩:=hev.get (x:=x) rfl (norm_unk (Y:=Y) (by rw [hx];intro e;cases e))
  obtain ⟨vy,e3,e4⟩:=hev.get hy (by intro e;cases e)
  have e2:=norm_ok hM e2
  rw [hx] at e2
  simp only [RvS,FzC,D.rows] at e2 e4
  subst e4
  obtain ⟨_,_,hv⟩:=e2
  have key:∀q:Bool,vEq E.E t vx .nils=some q->(q=true->rows'.length<=0)->∃s v,RvS C Y.next s v/\(∀k,opP E.E evc (.binOp o t x y ty) k=k v)/\K s:=by
   intro q hq hlen
   split at hn
   ·simp only [zA,zI] at hn
    obtain ⟨rfl,rfl⟩:=hn
    refine ⟨.bool q,.bool q,by simp only [RvS],fun k=>by simp only [opP,e1,e3,bin,hq,fB_eq],?_⟩
    cases q with
    |true=>exact h.t (by rw [hE.A];exact hlen rfl)
    |false=>exact h.e
   ·simp only [zA,zI] at hn
    obtain ⟨rfl,rfl⟩:=hn
    refine ⟨.bool (!q),.bool (!q),by simp only [RvS],fun k=>by simp only [opP,e1,e3,bin,hq,fB_eq];cases q<;>rfl,?_⟩
    cases q with
    |true=>exact h.t (by rw [hE.A];exact hlen rfl)
    |false=>exact h.e
   cases hn
  rcases hv with ⟨hr,rfl⟩ |⟨id,off,cap,rfl,_⟩ |⟨a,cap,rfl,_⟩
  ·exact key true (by simp [vEq,hk]) (fun _=>by rw [hr];exact zB _)
  ·exact key false (by simp [vEq,hk]) (fun e=>by cases e)
  exact key false (by simp [vEq,hk]) (fun e=>by cases e)
 split at h
 next q hq=>
  obtain ⟨h1,h2⟩:=preK_ok h
  obtain ⟨v,v1,v2⟩:=xq0_ok hE.A hM hev hq h1
  exact ⟨q.sv,v,v1,v2,h2⟩
 exact h.out.elim
omit hE in
theorem strCells_ok:∀(x:List V) (rows:Rows) (k:List Nat->R),x.length=rows.length->(∀i,i < rows.length->x[i]?=some (.int .u8 (gt rows i 0).int)/\0<=(gt rows i 0).int/\(gt rows i 0).int<=255)->
  strCells x k=k (rows.map fun r=>(r.getD 0 .nil).int.toNat)
 |[],[],k,_,_=>by simp [strCells]
 |[],_ :: _,_,hl,_=>by simp at hl
 |_ :: _,[],_,hl,_=>by simp at hl
 |v :: x,r :: rows,k,hl,h=>by
  have h0:=h 0 (by simp)
  have e0:gt (r :: rows) 0 0=r.getD 0 .nil:=rfl
  rw [e0] at h0
  simp only [zK,zA] at h0
  obtain ⟨rfl,a,b⟩:=h0
  have ih:=strCells_ok x rows (fun s=>k ((r.getD 0 .nil).int.toNat :: s)) (by simpa using hl) fun i hi=>by
   have:=h (i+1) (by simpa using hi)
   rw [kQ] at this
   exact this
  rw [kD]
  generalize (r.getD 0 .nil).int=n at a b ih ⊢
  obtain ⟨m,rfl⟩:=Int.eq_ofNat_of_zero_le a
  have hm:Nat.blt m 256=true:=bltT (by omega)
  simp only [strCells]
  show (match Nat.blt m 256 with |true=>strCells x fun s=>k (m :: s) |false=>none)=_
  rw [hm]
  exact ih
omit hE in
theorem xstr_ok {E:Env} (hA:E.A=Ar.std) {ev:Operand->SV} {op:Op} {Y:St} {C:Cx E.E.ro} {bar:Nat} {hp:T O} {nx:Nat} (hM:MSim C Y.objs Y.next bar hp.get nx) {evc:Operand->Option V} (hev:EvOk C Y.next ev evc) {q:QR} (hq:xstr E Y ev op=some q) (h1:∀p∈q.pre,p) :
  ∃v,RvS C Y.next q.sv v/\∀k,opL E.E hp evc op k=k v:=by
 unfold xstr at hq
 split at hq
 rotate_left
 ·cases hq
 rename_i s t x
 split at hq
 rotate_left
 ·cases hq
 rename_i e he hk
 split at hq
 rotate_left
 ·cases hq
 rename_i hke
 split at hq
 rotate_left
 ·cases hq
 rename_i p rows hs
 simp only [zA] at hq
 subst hq
 have hx:ev x≠.unk:=fun e=>by rw [e] at hs;simp [srcOf,norm] at hs
 obtain ⟨vx,e1,e2⟩:=hev.get rfl hx
 obtain ⟨_,y,l1,l2,_,l4,l5⟩:=src_ok hA hM (ks:=[.int .u8]) (by simp) hs (fun q hq=>h1 q (xO _ hq)) e2
 have pu:=h1 (E.A.pU8 rows) (xF _ (.head _))
 rw [hA] at pu
 have pu:∀i,i < rows.length->0<=(gt rows i 0).int/\(gt rows i 0).int<=255:=pu
 have sc:∀k:List Nat->R,strCells y k=k (rows.map fun r=>(r.getD 0 .nil).int.toNat):=fun k=>strCells_ok y rows k (by simpa using l2) fun i hi=>by
  have h4:=l4 i hi
  simp only [FzR,FzC] at h4
  obtain ⟨⟨v,v1,_,v2⟩,_⟩:=h4
  refine ⟨?_,pu i hi⟩
  rw [<-v2]
  simpa using v1
 refine ⟨.str (E.A.strD rows),by simp only [RvS],fun k=>?_⟩
 have fin:k (.str (rows.map fun r=>(r.getD 0 .nil).int.toNat))=k (.str (E.A.strD rows)):=by rw [hA];rfl
 rw [<-fin]
 have l5':=fun k=>l5 hp (fun _ _=>rfl) k
 cases vx with
 |nils=>
  simp only [lenV,zA] at l1
  have:rows=[]:=zS.1 l1.symm
  subst this
  simp only [opL,he,hk,hke,e1]
  rfl
 |slc id es off l cap=>
  simp only [lenV,zA] at l1
  subst l1
  simp only [opL,he,hk,hke,e1]
  have:=l5' fun l=>strCells l fun s=>k (.str s)
  simp only [zY,xI,zO] at this
  rw [this]
  exact sc _
 |rslc a l cap=>
  simp only [lenV,zA] at l1
  subst l1
  simp only [opL,he,hk,hke,e1]
  have:=l5' fun l=>strCells l fun s=>k (.str s)
  simp only [zY,xI,zO] at this
  rw [this]
  exact sc _
 |_=>simp [lenV] at l1
theorem far_ok {ev:Operand->SV} {op:Op} {Y:St} {q:QR} (hq:xfar E Y ev op=some q) (hpr:∀p∈q.pre,p) {C:Cx E.E.ro} {bar:Nat} {hp:T O} {nx:Nat} (hM:MSim C Y.objs Y.next bar hp.get nx) {evc:Operand->Option V} (hev:EvOk C Y.next ev evc) (hc:clsOf E.E op=0) :
  ∃v,RvS C Y.next q.sv v/\∀ih k,opA E.E ih bar evc hp nx op k=k v hp nx:=by
 have hA:=hE.A
 unfold xfar at hq
 split at hq
 rotate_left
 ·cases hq
 rename_i t x lo hi
 split at hq
 rotate_left
 ·cases hq
 rename_i nm n k1 l k2 b hx hlo hhi
 split at hq
 rotate_left
 ·cases hq
 rename_i og ks rows es hl hes
 split at hq
 rotate_left
 ·cases hq
 rename_i hb
 simp only [beqN_iff] at hb
 subst hb
 simp only [zA] at hq
 subst hq
 have p1:=hpr _ (.head _)
 have p2:=hpr _ (.tail _ (.head _))
 have p3:=hpr _ (.tail _ (.tail _ (.head _)))
 rw [hA] at p1 p2 p3
 have p1:0<=l:=p1
 have p2:l<=b:=p2
 have p3:b<=(rows.length:Int):=p3
 obtain ⟨l',rfl,el'⟩:=toNat_of hA p1
 obtain ⟨b',rfl,eb'⟩:=toNat_of hA (show 0<=b by omega)
 have p2:l'<=b':=by omega
 have p3:b'<=rows.length:=by omega
 obtain ⟨v,ex,hv⟩:=hev.get (x:=x) rfl (norm_unk (Y:=Y) (by rw [hx];intro e;cases e))
 have hv:=norm_ok hM hv
 rw [hx] at hv
 simp only [RvS,VwR] at hv
 obtain ⟨hes1,hes2,_⟩:=eSize_ok hes
 obtain ⟨v1,e1,f1⟩:=hev.get hlo (by intro e;cases e)
 obtain ⟨v2,e2,f2⟩:=hev.get hhi (by intro e;cases e)
 simp only [RvS] at f1 f2
 subst f1 f2
 have en:E.A.nsub b' l'=b' - l':=by rw [hA];rfl
 have el':E.A.toNat (Int.ofNat l')=l':=by rw [hA];rfl
 have eb':E.A.toNat (Int.ofNat b')=b':=by rw [hA];rfl
 have ho:=hM.ob _ _ hl
 simp only [ObS] at ho
 have quiet:∀{v:V},(∀k:V->R,opP E.E evc (.slice t x (some lo) (some hi) none) k=k v)->∀ih k,opA E.E ih bar evc hp nx (.slice t x (some lo) (some hi) none) k=k v hp nx:=fun h ih k=>by
  simp only [opA,hc,far_none h];exact h _
 obtain ⟨hnm,⟨hh0,rfl,hn0⟩ |⟨es,len,cap0,off,cap,hh0,rfl,hoff,hcap,hln,hcc⟩⟩:=hv
 ·obtain ⟨_,⟨hr,_⟩ |⟨_,_,_,hh1,_⟩⟩:=ho
  ·rw [hr] at p3
   simp only [xI,Nat.le_zero] at p3
   subst p3
   obtain rfl:l'=0:=by omega
   refine ⟨.nils,by simp only [RvS,VwR,el',en];exact ⟨hnm,.inl ⟨hh0,by trivial,by first |trivial |omega⟩⟩,quiet fun k=>?_⟩
   simp only [opP,evO,ex,e1,e2,sliceA,hes1,CX.sliceX,bnd]
  rw [hh0] at hh1;cases hh1
 obtain ⟨_,⟨_,hh1⟩ |⟨t0,m0,cap1,hh1,o1,o2,o3,_⟩⟩:=ho
 ·rw [hh0] at hh1;cases hh1
 have hcap0:cap=cap0:=by simpa using hcc
 rw [hh0] at hh1
 simp only [V.slc.injEq,true_and] at hh1
 obtain ⟨rfl,rfl,rfl⟩:=hh1
 subst hcap0
 have hoff:off=0:=by
  rcases hoff with ⟨_,h⟩ |h
  ·exact h
  rw [h];exact Nat.zero_mul _
 subst hoff
 have e3:l'+(b' - l')=b':=by omega
 by_cases hfar:cap=none/\n < b'
 ·obtain ⟨rfl,hlt⟩:=hfar
  refine ⟨.slc (C.ids nm) ks.length (0+l' * ks.length) (b' - l') none,?_,fun ih k=>?_⟩
  ·simp only [RvS,VwR,el',eb',en]
   exact ⟨hnm,.inr ⟨_,_,_,_,_,hh0,rfl,.inr (zO _),fun c hc=>by (cases hc),by omega,fun _=>rfl⟩⟩
  have ec:(Nat.beq ks.length ks.length && Nat.ble l' b' && Nat.ble (Nat.add 0 (Nat.mul b' ks.length)) m0)=true:=by
   rw [xA,bleT p2,show Nat.ble (Nat.add 0 (Nat.mul b' ks.length)) m0=true from bleT (by have:=zP ks.length p3;show 0+b' * ks.length<=m0;omega)];rfl
  have hbl:Nat.blt n b'=true:=bleT hlt
  simp only [opA,hc,farX,evO,ex,e1,e2,bnd,hbl,o1,hes1,ec,fN_eq]
  rfl
 obtain ⟨off',cap',s1,s2,s3,_,s5⟩:=sliceX_slc hA (es:=ks.length) (id:=C.ids nm) (off:=0) (ln:=n) (cap:=cap) (lo:=some (.int k1 (.ofNat l'))) (hi:=some (.int k2 (.ofNat b'))) (l:=l') (r:=b' - l') rfl (by rw [e3];rfl) (fun h=>by rw [e3];rcases Nat.lt_or_ge n b' with h' |h';exact absurd ⟨h,h'⟩ hfar;exact h') (fun c h=>by rw [e3];exact zT p3 (o3 c h).1)
 refine ⟨.slc (C.ids nm) ks.length off' (b' - l') cap',?_,quiet fun k=>?_⟩
 ·simp only [RvS,VwR,el',eb',en]
  exact ⟨hnm,.inr ⟨_,_,_,off',cap',hh0,rfl,by simpa using s2,s3,by omega,s5⟩⟩
 simp only [opP,evO,ex,e1,e2,sliceA,hes1];exact s1 k
theorem exec1_ok {ci:CI} (hci:CIOk E.E ci) {ev:Operand->SV} {op:Op} {Y:St} {K:SV->St->Prop} (h:exec1 E ci ev op Y K) {C:Cx E.E.ro} {bar:Nat} {hp:T O} {nx:Nat} (hM:MSim C Y.objs Y.next bar hp.get nx) {evc:Operand->Option V} (hev:EvOk C Y.next ev evc) :
  CallOk E.E (fun n k=>opA E.E (cx E.E n) bar evc hp nx op k) C Y bar hp.get nx K:=by
 rw [exec1_eq] at h
 split at h
 next hc=>
  unfold execF at h
  split at h
  next q hq=>
   obtain ⟨h1,h2⟩:=preK_ok h
   obtain ⟨v,v1,v2⟩:=far_ok hE hq h1 hM hev hc
   exact ⟨v,C,hp,nx,q.sv,Y,Evt.of fun n k=>v2 _ _,hM,MExt.refl _ _ _ _ _,v1,rfl,rfl,rfl,h2⟩
  obtain ⟨sv,v,v1,v2,h2⟩:=exec0_ok hE h hM hev
  exact ⟨v,C,hp,nx,sv,Y,Evt.of fun n k=>by simp only [opA,hc,far_none v2];exact v2 _,hM,MExt.refl _ _ _ _ _,v1,rfl,rfl,rfl,h2⟩
 next hc=>
  split at h
  next q hq=>
   obtain ⟨h1,h2⟩:=preK_ok h
   unfold xq1 at hq
   split at hq
   next t x=>
    have hx:ev x≠.unk:=fun e=>by rw [e] at hq;unfold xload at hq;split at hq<;>simp at hq
    obtain ⟨vx,e1,e2⟩:=hev.get rfl hx
    obtain ⟨v,v1,v2⟩:=load_ok hE.A hE.T hM e2 hq h1 e1
    have v2:∀k,opL E.E hp evc (.load t x) k=k v:=by
     rcases v2 with ⟨id,off,rfl,v2⟩ |⟨a,rfl,v2⟩
     ·exact v2 hp rfl
     exact v2 hp
    exact ⟨v,C,hp,nx,q.sv,Y,Evt.of fun n k=>by simp only [opA,hc];exact v2 _,hM,MExt.refl _ _ _ _ _,v1,rfl,rfl,rfl,h2⟩
   cases hq
  split at h
  next q hq=>
   obtain ⟨h1,h2⟩:=preK_ok h
   obtain ⟨v,v1,v2⟩:=xstr_ok hE.A hM hev hq h1
   exact ⟨v,C,hp,nx,q.sv,Y,Evt.of fun n k=>by simp only [opA,hc];exact v2 _,hM,MExt.refl _ _ _ _ _,v1,rfl,rfl,rfl,h2⟩
  split at h
  next q hq=>
   obtain ⟨h1,h2⟩:=preK_ok h
   obtain ⟨v,v1,v2⟩:=xmR_ok hE.A hM hev hq
   exact ⟨v,C,hp,nx,q.sv,Y,Evt.of fun n k=>by simp only [opA,hc];exact v2 _,hM,MExt.refl _ _ _ _ _,v1,rfl,rfl,rfl,h2⟩
  exact h.out.elim
 next hc=>
  obtain ⟨C1,m1,e1⟩:=hM.frzL (wants ev op)
  obtain ⟨v,C',h',nx',s,Y',k1,k2,k3,k4⟩:=execW_ok hE h (C:=C1) (bar:=bar) (hp:=hp) (nx:=nx) m1 (hev.ag hE e1.ag (zB _)) hc
  exact ⟨v,C',h',nx',s,Y',k1,k2,e1.trans k3,k4⟩
 next hc=>
  split at h
  next c=>
   split at h
   next f hf=>
    split at h
    next hk=>
     rw [zC] at hk
     obtain ⟨va,a1,a2⟩:=evL_list hev c.args.toList hk.2
     obtain ⟨vf,f1,f2⟩:=hev.get (x:=f) rfl (fun e=>by rw [e] at hk;simp [knownC] at hk)
     obtain ⟨v,C',h',nx',s,Y',k1,k2⟩:=callS_ok hE hci h hM f2 a1
     exact ⟨v,C',h',nx',s,Y',k1.mono fun n hn k=>by simp only [opA,hc,hf,f1,a2];exact hn k,k2⟩
    exact h.out.elim
   exact h.out.elim
  exact h.out.elim
 exact h.out.elim
theorem putS_ok {Y Y':St} {dst:Option Nat} {s:SV} (h:putS Y dst s=some Y') {C:Cx E.E.ro} {S:CX.St} (hnt:S.nt=Y.nt) (hR:RegsS C Y.next Y.regs S.regs) {v:V} (hv:RvS C Y.next s v) (hp:T O) (nx:Nat) :
  ∃regs,(∀k,putD S dst v hp nx k=k ⟨S.nt,S.bar,regs,hp,nx,S.df⟩)/\RegsS C Y.next Y'.regs regs/\Y'.nt=Y.nt/\Y'.objs=Y.objs/\Y'.next=Y.next/\Y'.df=Y.df:=by
 unfold putS at h
 split at h
 ·simp only [zA] at h
  subst h
  exact ⟨S.regs,fun k=>rfl,hR,rfl,rfl,rfl,rfl⟩
 rename_i d
 split at h
 next hd=>
  simp only [zA] at h
  subst h
  simp only [bltN_iff] at hd
  have hd':Nat.blt d S.nt=true:=bltT (by rw [hnt];exact hd)
  refine ⟨S.regs.up d (some v),fun k=>by simp only [putD,hd',T.set_eq],fun t s' hl=>?_,rfl,rfl,rfl,rfl⟩
  rw [look_cons] at hl
  split at hl
  next e=>
   simp only [zA] at hl
   subst e hl
   exact .inr ⟨v,by rw [T.get_up,if_pos rfl],hv⟩
  rename_i e
  rcases hR t s' hl with h |⟨u,a,b⟩
  ·exact .inl h
  exact .inr ⟨u,by rw [T.get_up,if_neg (Ne.symm e)];exact a,b⟩
 cases h
omit hE in
theorem know_ok {C:Cx E.E.ro} {n:Nat} {l:List (Nat×SV)} {regs:T V} (hR:RegsS C n l regs) {d:Nat} {b:Bool} (h:regs.get d=some (.bool b)):RegsS C n ((d,.bool b) :: l) regs:=fun t s hl=>by
 rw [look_cons] at hl
 split at hl
 next e=>
  simp only [zA] at hl
  subst e hl
  exact .inr ⟨_,h,by simp only [RvS]⟩
 exact hR t s hl
theorem wantS_ok {Y:St} {all:List Oper} {o:Oper} {K:Bool->St->Prop} (h:wantS Y all o K) {C:Cx E.E.ro} {S:CX.St} (hR:RegsS C Y.next Y.regs S.regs) :
  ∃b Y',K b Y'/\RegsS C Y.next Y'.regs S.regs/\(Y'.nt=Y.nt/\Y'.objs=Y.objs/\Y'.next=Y.next/\Y'.df=Y.df)/\∀k,wantX S.regs all o k=k b:=by
 rw [wantS_eq] at h
 split at h
 next hg=>
  exact ⟨true,Y,h,hR,⟨rfl,rfl,rfl,rfl⟩,fun k=>by simp only [wantX,hg]⟩
 rename_i g want hg
 split at h
 rotate_left
 ·exact h.out.elim
 rename_i og hog
 split at h
 rotate_left
 ·exact h.out.elim
 rename_i d hd
 split at h
 next b hl=>
  rcases hR _ _ hl with h0 |⟨v,v1,v2⟩
  ·cases h0
  simp only [RvS] at v2
  subst v2
  refine ⟨_,Y,h,hR,⟨rfl,rfl,rfl,rfl⟩,fun k=>?_⟩
  simp only [wantX,hg,nth_eq,hog,hd,v1]
  cases b<;>cases want<;>rfl
 next b hl=>
  rcases hR _ _ hl with h0 |⟨v,v1,v2⟩
  ·cases h0
  simp only [RvS] at v2
  subst v2
  cases hb:b with
  |true=>
   refine ⟨_,_,h.t hb,know_ok hR (by rw [v1,hb]),⟨rfl,rfl,rfl,rfl⟩,fun k=>?_⟩
   simp only [wantX,hg,nth_eq,hog,hd,v1,hb]
   cases want<;>rfl
  |false=>
   refine ⟨_,_,h.e hb,know_ok hR (by rw [v1,hb]),⟨rfl,rfl,rfl,rfl⟩,fun k=>?_⟩
   simp only [wantX,hg,nth_eq,hog,hd,v1,hb]
   cases want<;>rfl
 next hl=>
  rcases hR _ _ hl with h0 |⟨v,v1,v2⟩
  ·cases h0
  simp only [RvS] at v2
  obtain ⟨x,hx,rfl⟩:=v2
  cases x with
  |nil=>exact ⟨_,Y,h,hR,⟨rfl,rfl,rfl,rfl⟩,fun k=>by simp only [wantX,hg,nth_eq,hog,hd,v1]⟩
  |cons _ _=>simp [RvSL] at hx
 exact h.out.elim
theorem seqS_ok {ci:CI} (hci:CIOk E.E ci) {all:List Oper} {lo:Nat}:∀(r:List Oper) (Y:St) (K:St->Prop),seqS E ci all r Y K->∀(C:Cx E.E.ro) S,Sim C Y S->lo<=Y.next->∃S' C' Y',Evt (fun n=>∀k,CX.seqOps E.E (cx E.E n) all r S k=k S')/\Sim C' Y' S'/\Ext lo C Y S C' Y' S'/\K Y'
 |[],Y,K,h,C,S,hS,hlo=>⟨S,C,Y,Evt.of fun _ _=>rfl,hS,Ext.refl _ _ _ hlo,h⟩
 |o :: r,Y,K,h,C,S,hS,hlo=>by
  rw [seqS_cons] at h
  obtain ⟨b,σa,hb,hRa,⟨q1,q2,q3,q4⟩,hw⟩:=wantS_ok hE h hS.regs
  have hSa:Sim C σa S:=⟨by rw [q1];exact hS.nt,by rw [q3];exact hRa,by rw [q2,q3];exact hS.m,by rw [q2,q4];exact hS.df,by rw [q4,q3];exact hS.dflt⟩
  have hloa:lo<=σa.next:=by rw [q3];exact hlo
  have eq0:Ext lo C Y S C σa S:=⟨by rw [q2,q3];exact (MExt.refl _ _ _ _ _).less hlo,rfl,fun _ h=>.inl h⟩
  have hS:=hSa
  have hlo:=hloa
  cases b with
  |true=>
   simp only at hb
   obtain ⟨v,C1,h1,nx1,s,Y1,k1,k2,k3,k4,k5,k6,k7,k8⟩:=exec1_ok hE hci hb hS.m (evR_ok hS.regs)
   split at k8
   next Y2 hput=>
    have hR1:RegsS C1 Y1.next Y1.regs S.regs:=by rw [k6];exact RegsS.ag k3.ag k3.le hS.regs
    obtain ⟨regs,p1,p2,p3,p4,p5,p6⟩:=putS_ok hE hput (S:=S) (by rw [k5];exact hS.nt) hR1 k4 h1 nx1
    have hS2:Sim C1 Y2 ⟨S.nt,S.bar,regs,h1,nx1,S.df⟩:=by
     refine ⟨by rw [p3,k5];exact hS.nt,by rw [p5];exact p2,by rw [p4,p5];exact k2,?_,?_⟩
     ·rw [p4,p6,k7]
      exact hS.df.ext k3 hS.dflt
     rw [p6,k7,p5];exact fun d hd=>xH (hS.dflt d hd) k3.le
    have hE2:Ext lo C σa S C1 Y2 ⟨S.nt,S.bar,regs,h1,nx1,S.df⟩:=⟨by rw [p4,p5];exact k3.less hlo,rfl,fun _ h=>.inl h⟩
    obtain ⟨S',C',Y',e1,e2,e3,e4⟩:=seqS_ok hci r Y2 K k8 C1 _ hS2 hE2.m.le
    refine ⟨S',C',Y',(k1.and e1).mono fun n hn k=>?_,e2,eq0.trans (hE2.trans e3),e4⟩
    simp only [CX.seqOps,hw]
    refine (hn.1 _).trans ?_
    rw [p1]
    exact hn.2 k
   exact k8.out.elim
  |false=>
   simp only at hb
   split at hb
   next Y2 hput=>
    obtain ⟨regs,p1,p2,p3,p4,p5,p6⟩:=putS_ok hE hput (S:=S) hS.nt hS.regs (v:=.tup []) (by simp only [RvS];exact ⟨[],trivial,rfl⟩) S.h S.nx
    have hS2:Sim C Y2 ⟨S.nt,S.bar,regs,S.h,S.nx,S.df⟩:=by
     refine ⟨by rw [p3];exact hS.nt,by rw [p5];exact p2,by rw [p4,p5];exact hS.m,by rw [p4,p6];exact hS.df,by rw [p6,p5];exact hS.dflt⟩
    have hE2:Ext lo C σa S C Y2 ⟨S.nt,S.bar,regs,S.h,S.nx,S.df⟩:=⟨by rw [p4,p5];exact (MExt.refl _ _ _ _ _).less hlo,rfl,fun _ h=>.inl h⟩
    obtain ⟨S',C',Y',e1,e2,e3,e4⟩:=seqS_ok hci r Y2 K hb C _ hS2 hE2.m.le
    refine ⟨S',C',Y',e1.mono fun n hn k=>?_,e2,eq0.trans (hE2.trans e3),e4⟩
    simp only [CX.seqOps,hw,p1]
    exact hn k
   exact hb.out.elim
end
end HX

namespace HX
open Go CX
structure StuckD (ops:List Oper) (Y:St):Prop where
 out:False
def maskS (ml:List (Nat×Nat)):List Edge->Nat->Option Nat
 |[],acc=>some acc
 |e :: r,acc=>match bindsA e with
  |false=>maskS ml r acc
  |true=>match look ml e.on with
   |some m=>maskS ml r (Nat.lor acc (Nat.lor m (Nat.shiftLeft 1 e.on)))
   |none=>none
def prepS:List Oper->Nat->List (Nat×Nat)->List (Nat×Nat)->Option (List (Nat×Nat)×List (Nat×Nat))
 |[],_,ml,dl=>some (ml,dl)
 |o :: r,i,ml,dl=>match maskS ml o.after.toList 0 with
  |some m=>match o.dst with
   |none=>prepS r (i+1) ((i,m) :: ml) dl
   |some d=>match look dl d with
    |none=>prepS r (i+1) ((i,m) :: ml) ((d,i) :: dl)
    |some _=>none
  |none=>none
def visS (ml dl:List (Nat×Nat)) (i cl t:Nat):Bool:=
 match look dl t with
 |none=>true
 |some j=>match CX.bit cl j with
  |true=>true
  |false=>match look ml j with
   |some m=>CX.bit m i
   |none=>false
def evDS (ml dl:List (Nat×Nat)) (i cl:Nat) (regs:List (Nat×SV)) (x:Operand):SV:=
 match x with
 |.tmp t=>match visS ml dl i cl t with
  |true=>evR regs (.tmp t)
  |false=>.unk
 |x=>evR regs x
def gvisS (ml dl:List (Nat×Nat)) (i cl:Nat) (all:List Oper) (o:Oper):Bool:=
 match o.guard with
 |none=>true
 |some (g,_)=>match all[g]? with
  |some og=>match og.dst with
   |some d=>visS ml dl i cl d
   |none=>true
  |none=>true
def laterOkS (E:CX.Env) (ml:List (Nat×Nat)) (i:Nat):List Oper->Nat->Bool
 |[],_=>true
 |o :: r,j=>match Nat.beq (clsOf E o.op) 0 with
  |true=>laterOkS E ml i r (j+1)
  |false=>match look ml j with
   |some m=>match CX.bit m i with
    |true=>laterOkS E ml i r (j+1)
    |false=>false
   |none=>false
inductive At where
 |cl (nm:Nat)
 |ar (nm:Nat)
 |fz (b:Nat)
 |mt (nm:Nat)
 |sb (nm rn:Nat)
inductive FpS where
 |all
 |q
 |ls (A:List At) (wr:Bool)
structure RcS where
 i:Nat
 fp:FpS
 al:Bool
def isCl:Option SO->Bool
 |some (.cells _)=>true
 |_=>false
def isAr:Option SO->Bool
 |some (.arr ..)=>true
 |_=>false
def isMt:Option SO->Bool
 |some (.mat ..)=>true
 |_=>false
def isMr (rn:Nat):Option SO->Bool
 |some (.mat _ _ _ rn' none)=>beqN rn rn'
 |_=>false
def atomsOf (E:Env) (Y:St) (x:SV):Option (List Prop×List At):=
 match x with
 |.ptr nm _=>match isCl (look Y.objs nm) with
  |true=>some ([],[.cl nm])
  |false=>none
 |.el nm _ i _=>match look Y.objs nm with
  |some (.arr _ _ rows)=>some ([E.A.pLt (E.A.nat i) (E.A.nat (E.A.len rows))],[.ar nm])
  |_=>none
 |.fel b _ _ _ _=>some ([],[.fz b])
 |.slc nm=>match isAr (look Y.objs nm) with
  |true=>some ([],[.ar nm])
  |false=>none
 |.vw nm _ _=>match isAr (look Y.objs nm) with
  |true=>some ([],[.ar nm])
  |false=>none
 |.sc nm _ _ _=>match isCl (look Y.objs nm) with
  |true=>some ([],[.cl nm])
  |false=>none
 |.fz b _ _=>some ([],[.fz b])
 |.mel nm i=>match look Y.objs nm with
  |some (.mat _ _ rows _ _)=>some ([E.A.pLt (E.A.nat i) (E.A.nat (E.A.len rows))],[.mt nm])
  |_=>none
 |.mrow nm rn _=>match isMr rn (look Y.objs nm) with
  |true=>some ([],[.sb nm rn])
  |false=>none
 |.nils=>some ([],[])
 |_=>none
def footS (E:Env) (Y:St) (ev:Operand->SV) (op:Op):Option (List Prop×List At):=
 match op with
 |.load _ x=>atomsOf E Y (ev x)
 |.store _ x _=>atomsOf E Y (ev x)
 |.call c=>match c.args.toList with
  |[x,y]=>match atomsOf E Y (ev x),atomsOf E Y (ev y) with
   |some (p,a),some (q,b)=>some (p++q,a++b)
   |_,_=>none
  |_=>none
 |.alloc _ |.box .. |.buildSlice .. |.makeSlice ..=>some ([],[])
 |_=>none
def oldA (Y0:List (Nat×SO)) (n0:Nat):At->Bool
 |.cl nm=>isCl (look Y0 nm)
 |.ar nm=>isAr (look Y0 nm)
 |.fz b=>bleN b n0
 |.mt nm=>isMt (look Y0 nm)
 |.sb nm rn=>isMr rn (look Y0 nm)
def disA (objs:List (Nat×SO)):At->At->Bool
 |.fz b,.fz b'=>beqN b 0 || beqN b' 0
 |.fz b,.cl y=>beqN b 0 || isCl (look objs y)
 |.fz b,.ar y=>beqN b 0 || isAr (look objs y)
 |.cl x,.fz b=>beqN b 0 || isCl (look objs x)
 |.ar x,.fz b=>beqN b 0 || isAr (look objs x)
 |.cl x,.cl y=>!(beqN x y) && (isCl (look objs x) && isCl (look objs y))
 |.cl x,.ar y=>!(beqN x y) && (isCl (look objs x) && isAr (look objs y))
 |.ar x,.cl y=>!(beqN x y) && (isAr (look objs x) && isCl (look objs y))
 |.ar x,.ar y=>!(beqN x y) && (isAr (look objs x) && isAr (look objs y))
 |.mt x,.cl y=>isMt (look objs x) && isCl (look objs y)
 |.cl y,.mt x=>isMt (look objs x) && isCl (look objs y)
 |.mt x,.ar y=>isMt (look objs x) && isAr (look objs y)
 |.ar y,.mt x=>isMt (look objs x) && isAr (look objs y)
 |.sb x rn,.cl y=>isMr rn (look objs x) && isCl (look objs y)
 |.cl y,.sb x rn=>isMr rn (look objs x) && isCl (look objs y)
 |.sb x rn,.ar y=>isMr rn (look objs x) && isAr (look objs y)
 |.ar y,.sb x rn=>isMr rn (look objs x) && isAr (look objs y)
 |.fz b,.mt y=>beqN b 0 || isMt (look objs y)
 |.mt y,.fz b=>beqN b 0 || isMt (look objs y)
 |.fz b,.sb y rn=>beqN b 0 || isMr rn (look objs y)
 |.sb y rn,.fz b=>beqN b 0 || isMr rn (look objs y)
 |_,_=>false
def disL (objs:List (Nat×SO)) (A B:List At):Bool:=A.all fun a=>B.all fun b=>disA objs a b
def noA:List At->Bool
 |[]=>true
 |_=>false
def pairS (Y0:List (Nat×SO)) (n0:Nat) (objs:List (Nat×SO)) (A:List At) (wr:Bool) (r:RcS):Bool:=
 match r.fp with
 |.all=>false
 |.q=>match wr with
  |true=>noA A
  |false=>!r.al || A.all (oldA Y0 n0)
 |.ls B wr'=>(!r.al || A.all (oldA Y0 n0)) && match wr || wr' with
  |false=>true
  |true=>disL objs A B
def pairQ (r:RcS):Bool:=
 !r.al && match r.fp with
 |.all=>false
 |.q=>true
 |.ls B wr=>match wr with
  |true=>noA B
  |false=>true
def fitsL (p:RcS->Bool) (cl:Nat):List RcS->Bool
 |[]=>true
 |r :: rs=>match CX.bit cl r.i with
  |true=>fitsL p cl rs
  |false=>match p r with
   |true=>fitsL p cl rs
   |false=>false
def memW (E:Env) (Y0:List (Nat×SO)) (n0 cl i:Nat) (recs:List RcS) (ev:Operand->SV) (op:Op) (K:SV->List RcS->St->Prop) (Y:St):Prop:=
 match xw E Y ev op with
 |some w=>match footS E Y ev op with
  |some (p,A)=>match fitsL (pairS Y0 n0 Y.objs A true) cl recs with
   |true=>preK p (preK w.pre (K w.sv (⟨i,.ls A true,!(beqN w.next Y.next)⟩ :: recs) (Y.mem w.objs w.next)))
   |false=>StuckO op Y
  |none=>StuckO op Y
 |none=>StuckO op Y
def isCtr (E:Env) (f:SV):Bool:=
 match f with
 |.fn g _ _=>match E.sig g with
  |some sg=>match sg.fresh with
   |true=>false
   |false=>true
  |none=>false
 |_=>false
def memC (E:Env) (ci:CI) (cl i:Nat) (recs:List RcS) (ev:Operand->SV) (op:Op) (K:SV->List RcS->St->Prop) (Y:St):Prop:=
 match op with
 |.call c=>match c.callee with
  |.value f=>match fitsL pairQ cl recs && isCtr E (ev f) with
   |true=>match knownC (ev f) && (c.args.toList.map ev).all knownC with
    |true=>callS E ci (ev f) (c.args.toList.map ev) Y fun v Y'=>K v (⟨i,.q,true⟩ :: recs) Y'
    |false=>StuckO op Y
   |false=>StuckO op Y
  |_=>StuckO op Y
 |_=>StuckO op Y
def stepL3 (E:Env) (Y0:List (Nat×SO)) (n0:Nat) (i cl:Nat) (recs:List RcS) (op:Op) (Y:St) (K:SV->List RcS->St->Prop) (q:QR) (p:List Prop) (A:List At):Prop:=
 match fitsL (pairS Y0 n0 Y.objs A false) cl recs with
 |true=>preK p (preK q.pre (K q.sv (⟨i,.ls A false,false⟩ :: recs) Y))
 |false=>StuckO op Y
def stepL2 (E:Env) (Y0:List (Nat×SO)) (n0:Nat) (i cl:Nat) (recs:List RcS) (ev:Operand->SV) (op:Op) (Y:St) (K:SV->List RcS->St->Prop) (q:QR):Prop:=
 match footS E Y ev op with
 |some (p,A)=>stepL3 E Y0 n0 i cl recs op Y K q p A
 |none=>StuckO op Y
def stepL1 (E:Env) (Y0:List (Nat×SO)) (n0:Nat) (i cl:Nat) (recs:List RcS) (ev:Operand->SV) (op:Op) (Y:St) (K:SV->List RcS->St->Prop):Prop:=
 match xq1 E Y ev op with
 |some q=>stepL2 E Y0 n0 i cl recs ev op Y K q
 |none=>StuckO op Y
def stepL (E:Env) (Y0:List (Nat×SO)) (n0:Nat) (ml:List (Nat×Nat)) (r:List Oper) (i cl:Nat) (recs:List RcS) (ev:Operand->SV) (op:Op) (Y:St) (K:SV->List RcS->St->Prop):Prop:=
 match fitsL (fun _=>false) cl recs && laterOkS E.E ml i r (i+1) with
 |true=>execL E ev op Y fun v Y'=>K v (⟨i,.all,true⟩ :: recs) Y'
 |false=>stepL1 E Y0 n0 i cl recs ev op Y K
def stepW (E:Env) (Y0:List (Nat×SO)) (n0:Nat) (ml:List (Nat×Nat)) (r:List Oper) (i cl:Nat) (recs:List RcS) (ev:Operand->SV) (op:Op) (Y:St) (K:SV->List RcS->St->Prop):Prop:=
 match fitsL (fun _=>false) cl recs && laterOkS E.E ml i r (i+1) with
 |true=>execW E ev op (fun v Y'=>K v (⟨i,.all,true⟩ :: recs) Y') (Y.mem (frzL Y.objs (wants ev op)) Y.next)
 |false=>memW E Y0 n0 cl i recs ev op K (Y.mem (frzL Y.objs (wants ev op)) Y.next)
def stepC (E:Env) (ci:CI) (ml:List (Nat×Nat)) (r:List Oper) (i cl:Nat) (recs:List RcS) (ev:Operand->SV) (op:Op) (Y:St) (K:SV->List RcS->St->Prop):Prop:=
 match fitsL (fun _=>false) cl recs && laterOkS E.E ml i r (i+1) with
 |true=>execC E ci ev op Y fun v Y'=>K v (⟨i,.all,true⟩ :: recs) Y'
 |false=>memC E ci cl i recs ev op K Y
def stepS (E:Env) (ci:CI) (Y0:List (Nat×SO)) (n0:Nat) (ml:List (Nat×Nat)) (r:List Oper) (i cl:Nat) (recs:List RcS) (ev:Operand->SV) (op:Op) (Y:St) (K:SV->List RcS->St->Prop):Prop:=
 match clsOf E.E op with
 |0=>exec0 E Y ev op fun v=>K v recs Y
 |1=>stepL E Y0 n0 ml r i cl recs ev op Y K
 |2=>stepW E Y0 n0 ml r i cl recs ev op Y K
 |3=>stepC E ci ml r i cl recs ev op Y K
 |_=>StuckO op Y
theorem stepS_imp (E:Env) (ci:CI) (Y0:List (Nat×SO)) (n0:Nat) (ml:List (Nat×Nat)) (r:List Oper) (i cl:Nat) (recs:List RcS) (ev:Operand->SV) (op:Op) (Y:St) (K:SV->List RcS->St->Prop) (h:stepS E ci Y0 n0 ml r i cl recs ev op Y K) :
 match clsOf E.E op with
 |0=>exec0 E Y ev op fun v=>K v recs Y
 |c=>match fitsL (fun _=>false) cl recs && laterOkS E.E ml i r (i+1) with
  |true=>exec1 E ci ev op Y fun v Y'=>K v (⟨i,.all,true⟩ :: recs) Y'
  |false=>match c with
   |1=>match xq1 E Y ev op with
    |some q=>match footS E Y ev op with
     |some (p,A)=>match fitsL (pairS Y0 n0 Y.objs A false) cl recs with
      |true=>preK p (preK q.pre (K q.sv (⟨i,.ls A false,false⟩ :: recs) Y))
      |false=>StuckO op Y
     |none=>StuckO op Y
    |none=>StuckO op Y
   |2=>memW E Y0 n0 cl i recs ev op K (Y.mem (frzL Y.objs (wants ev op)) Y.next)
   |3=>memC E ci cl i recs ev op K Y
   |_=>StuckO op Y:=by
 unfold stepS at h
 split at h
 next hc=>rw [hc];exact h
 next hc=>
  rw [hc]
  unfold stepL at h
  show (match fitsL (fun _=>false) cl recs && laterOkS E.E ml i r (i+1) with
   |true=>exec1 E ci ev op Y fun v Y'=>K v (⟨i,.all,true⟩ :: recs) Y'
   |false=>stepL1 E Y0 n0 i cl recs ev op Y K)
  split at h
  ·unfold exec1;rw [hc];exact h
  exact h
 next hc=>
  rw [hc]
  unfold stepW at h
  show (match fitsL (fun _=>false) cl recs && laterOkS E.E ml i r (i+1) with
   |true=>exec1 E ci ev op Y fun v Y'=>K v (⟨i,.all,true⟩ :: recs) Y'
   |false=>memW E Y0 n0 cl i recs ev op K (Y.mem (frzL Y.objs (wants ev op)) Y.next))
  split at h
  ·unfold exec1;rw [hc];exact h
  exact h
 next hc=>
  rw [hc]
  unfold stepC at h
  show (match fitsL (fun _=>false) cl recs && laterOkS E.E ml i r (i+1) with
   |true=>exec1 E ci ev op Y fun v Y'=>K v (⟨i,.all,true⟩ :: recs) Y'
   |false=>memC E ci cl i recs ev op K Y)
  split at h
  ·unfold exec1;rw [hc];exact h
  exact h
 exact h.out.elim
def drawP (o:Oper) (Y:St) (x:Option St) (k:St->Prop):Prop:=
 match x with
 |some Y'=>k Y'
 |none=>StuckG o Y
def drawB (E:Env) (ci:CI) (Y0:List (Nat×SO)) (n0:Nat) (ml dl:List (Nat×Nat)) (o:Oper) (r:List Oper) (i:Nat) (recs:List RcS) (cl:Nat) (next:List RcS->St->Prop) (b:Bool) (Y:St):Prop:=
 match b with
 |false=>drawP o Y (putS Y o.dst (.tup [])) (next recs)
 |true=>stepS E ci Y0 n0 ml r i cl recs (evDS ml dl i cl Y.regs) o.op Y fun v recs Y'=>drawP o Y' (putS Y' o.dst v) (next recs)
def drawG (E:Env) (ci:CI) (Y0:List (Nat×SO)) (n0:Nat) (all:List Oper) (ml dl:List (Nat×Nat)) (o:Oper) (r:List Oper) (i:Nat) (recs:List RcS) (Y:St) (cl:Nat) (next:List RcS->St->Prop):Prop:=
 match gvisS ml dl i cl all o with
 |false=>StuckG o Y
 |true=>wantS Y all o (drawB E ci Y0 n0 ml dl o r i recs cl next)
def drawS (E:Env) (ci:CI) (Y0:List (Nat×SO)) (n0:Nat) (all:List Oper) (ml dl:List (Nat×Nat)):List Oper->Nat->List RcS->St->(St->Prop)->Prop
 |[],_,_,Y,K=>K Y
 |o :: r,i,recs,Y,K=>match look ml i with
  |none=>StuckG o Y
  |some cl=>drawG E ci Y0 n0 all ml dl o r i recs Y cl fun recs Y'=>drawS E ci Y0 n0 all ml dl r (i+1) recs Y' K
theorem drawS_cons (E:Env) (ci:CI) (Y0:List (Nat×SO)) (n0:Nat) (all:List Oper) (ml dl:List (Nat×Nat)) (o:Oper) (r:List Oper) (i:Nat) (recs:List RcS) (Y:St) (K:St->Prop):drawS E ci Y0 n0 all ml dl (o :: r) i recs Y K =
 match look ml i with
 |none=>StuckG o Y
 |some cl=>match gvisS ml dl i cl all o with
  |false=>StuckG o Y
  |true=>wantS Y all o fun b Y=>match b with
   |false=>match putS Y o.dst (.tup []) with
    |some Y'=>drawS E ci Y0 n0 all ml dl r (i+1) recs Y' K
    |none=>StuckG o Y
   |true=>stepS E ci Y0 n0 ml r i cl recs (evDS ml dl i cl Y.regs) o.op Y fun v recs Y'=>match putS Y' o.dst v with
    |some Y'=>drawS E ci Y0 n0 all ml dl r (i+1) recs Y' K
    |none=>StuckG o Y':=rfl
def regionS (E:Env) (ci:CI) (ops:List Oper) (Y:St) (K:St->Prop):Prop:=
 match prepS ops 0 [] [] with
 |some (ml,dl)=>drawS E ci Y.objs Y.next ops ml dl ops 0 [] Y K
 |none=>StuckD ops Y
end HX

namespace HX
open Go CX
structure StuckC (c:Code) (Y:St):Prop where
 out:False
structure StuckR (fn:String) (Y:St):Prop where
 out:False
structure Leaf (E:CX.Env) (rd:Option Nat) (lo:Nat) (c:Code) (Q:Ex->St->Prop) (Y:St):Prop where
 out:SWP E rd lo c Q Y
def thenQ (k:St->Prop) (Q:Ex->St->Prop):Ex->St->Prop
 |.normal,Y=>k Y
 |e,Y=>Q e Y
def inBlockQ (id:Nat) (Q:Ex->St->Prop):Ex->St->Prop
 |.exit id',Y=>match beqN id' id with
  |true=>Q .normal Y
  |false=>Q (.exit id') Y
 |e,Y=>Q e Y
def resOne (E:Env) (Y:St):ResultVar->Option SV
 |.tmp t=>match look Y.regs t with
  |some .unk=>none
  |x=>x
 |.cell a t=>match E.E.T t,look Y.regs a with
  |some ty,some (.ptr nm off)=>match look Y.objs nm with
   |some (.cells l)=>match bleN (off+ty.size) l.length with
    |true=>pack ty.agg ((l.drop off).take ty.size)
    |false=>none
   |_=>none
  |_,_=>none
def resAll (E:Env) (Y:St):List ResultVar->Option (List SV)
 |[]=>some []
 |x :: r=>match resOne E Y x with
  |some v=>match resAll E Y r with
   |some vs=>some (v :: vs)
   |none=>none
  |none=>none
def takeS:List Nat->List (Nat×SO)->Option (List (Nat×SO))
 |[],l=>some l
 |d :: r,l=>match look l d with
  |some (.dfr true)=>takeS r ((d,.dfr false) :: l)
  |_=>none
def retP (E:Env) (fn:Func) (Y0:St) (K:SV->St->Prop) (Y:St):Prop:=
 match takeS Y.df Y.objs with
 |some objs=>match resAll E (Y.mem objs Y.next) fn.results.toList with
  |some vs=>K (one vs) (Y0.mem objs Y.next)
  |none=>StuckR fn.name Y
 |none=>StuckR fn.name Y
def retK (E:Env) (fn:Func) (Y0:St) (K:SV->St->Prop):Ex->St->Prop
 |.ret,Y=>retP E fn Y0 K Y
 |.normal,Y=>retP E fn Y0 K Y
 |_,Y=>StuckR fn.name Y
def enterS:Nat->List SV->List (Nat×SV)
 |_,[]=>[]
 |t,v :: vs=>(t,v) :: enterS (t+1) vs
def bindS (nt:Nat):List Nat->List SV->List (Nat×SV)->Option (List (Nat×SV))
 |[],[],r=>some r
 |p :: ps,v :: vs,r=>match bltN p nt with
  |true=>bindS nt ps vs ((p,v) :: r)
  |false=>none
 |_,_,_=>none
def exitS:Option Code->(Ex->St->Prop)->St->Prop
 |none,Q,Y=>Q .normal Y
 |some .ret,Q,Y=>Q .ret Y
 |some (.exit id),Q,Y=>Q (.exit id) Y
 |_,_,Y=>StuckC .skip Y
def shutM:Option Nat->List (Nat×SO)->Option (List (Nat×SO))
 |none,l=>some l
 |some d,l=>match look l d with
  |some (.dfr true)=>some ((d,.gone) :: l)
  |_=>none
def rangeK1 (Q:Ex->St->Prop) (Y:St) (j:Option Code) (next:Nat):Option (List (Nat×SO))->Prop
 |some objs=>exitS j Q ⟨Y.nt,Y.regs,objs,next,Y.df⟩
 |none=>StuckC .skip Y
def rangeK (nm:Nat) (mk:Option Nat) (Q:Ex->St->Prop) (Y:St):SV->St->Prop:=fun _ Y2=>
 match look Y2.objs nm with
 |some (.loop st j nt regs ps a b d)=>match st with
  |.busy=>StuckC .skip Y
  |_=>rangeK1 Q Y j Y2.next (shutM mk ((nm,.loop .exhausted j nt regs ps a b d) :: Y2.objs))
 |_=>StuckC .skip Y
def rangeS (rd:Option Nat) (ci:CI) (g:SV) (ps:List Nat) (asg body:Code) (Q:Ex->St->Prop) (Y:St):Prop:=
 match g with
 |.fn f ga gb=>match rd with
  |none=>ci (.fn f ga gb) [.yield (Y.next+1)] (Y.mem ((Y.next+1,.loop .ready none Y.nt Y.regs ps asg body Y.next) :: (Y.next,.dfr true) :: Y.objs) (Y.next+2)) (rangeK (Y.next+1) (some Y.next) Q Y)
  |some l=>match look Y.objs l with
   |some (.loop _ _ _ _ _ _ _ d)=>ci (.fn f ga gb) [.yield Y.next] (Y.mem ((Y.next,.loop .ready none Y.nt Y.regs ps asg body d) :: Y.objs) (Y.next+1)) (rangeK Y.next none Q Y)
   |_=>StuckC .skip Y
 |_=>StuckC .skip Y
def knowO (Y:St) (c:Operand) (b:Bool):St:=
 match c with
 |.tmp t=>Y.know t b
 |_=>Y
def vc (E:Env) (rd:Option Nat) (lo:Nat) (ci:CI):Code->(Ex->St->Prop)->St->Prop
 |.skip,Q,Y=>Q .normal Y
 |.label _,Q,Y=>Q .normal Y
 |.seq a b,Q,Y=>vc E rd lo ci a (thenQ (fun Y'=>vc E rd lo ci b Q Y') Q) Y
 |.ret,Q,Y=>Q .ret Y
 |.exit id,Q,Y=>Q (.exit id) Y
 |.block id b,Q,Y=>vc E rd lo ci b (inBlockQ id Q) Y
 |.cond c a b,Q,Y=>match evR Y.regs c with
  |.bool true=>vc E rd lo ci a Q Y
  |.bool false=>vc E rd lo ci b Q Y
  |.sym p=>Br p (fun _=>vc E rd lo ci a Q (knowO Y c true)) (fun _=>vc E rd lo ci b Q (knowO Y c false))
  |_=>StuckC (.cond c .skip .skip) Y
 |.region _ ops draw,Q,Y=>match draw with
  |false=>seqS E ci ops.toList ops.toList Y (fun Y'=>Q .normal Y')
  |true=>regionS E ci ops.toList Y (fun Y'=>Q .normal Y')
 |.rangeFunc g ps asg body,Q,Y=>rangeS rd ci (evR Y.regs g) ps.toList asg body Q Y
 |c,Q,Y=>Leaf E.E rd lo c Q Y
def yieldK2 (nm:Nat) (Y0:St) (K:SV->St->Prop):Ex->St->Prop:=fun e Y=>
 match look Y.objs nm with
 |some (.loop _ _ nt regs ps a b d)=>match e with
  |.normal=>K (.bool true) (Y0.mem ((nm,.loop .ready none nt regs ps a b d) :: Y.objs) Y.next)
  |.ret=>K (.bool false) (Y0.mem ((nm,.loop .done (some .ret) nt regs ps a b d) :: Y.objs) Y.next)
  |.exit id=>K (.bool false) (Y0.mem ((nm,.loop .done (some (.exit id)) nt regs ps a b d) :: Y.objs) Y.next)
 |_=>StuckC .skip Y
def yieldK1 (E:Env) (ci:CI) (nm nt:Nat) (body:Code) (Y0:St) (K:SV->St->Prop):Ex->St->Prop
 |.normal,Y=>match look Y.objs nm with
  |some (.loop .ready j nt' regs' ps' a' b' d)=>vc E (some nm) Y0.next ci body (yieldK2 nm Y0 K) ⟨nt,Y.regs,(nm,.loop .busy j nt' regs' ps' a' b' d) :: Y.objs,Y.next,Y.df⟩
  |_=>StuckC .skip Y
 |_,Y=>StuckC .skip Y
def ciN (E:Env) (inl:Nat->Option Func):Nat->CI
 |0,_,_,_,_=>False
 |n+1,f,args,Y,K=>match f with
  |.fn g a b=>match inl g with
   |some fn=>match fn.body with
    |some c=>match bleN (a++args++b).length fn.ntmps with
     |true=>vc E none Y.next (ciN E inl n) c (retK E fn Y K) ⟨fn.ntmps,enterS 0 (a++args++b),Y.objs,Y.next,[]⟩
     |false=>StuckF g args Y
    |none=>StuckF g args Y
   |none=>StuckF g args Y
  |.yield nm=>match look Y.objs nm with
   |some (.loop .ready _ nt regs ps asg body _)=>match bindS nt ps args regs with
    |some regs'=>vc E (some nm) Y.next (ciN E inl n) asg (yieldK1 E (ciN E inl n) nm nt body Y K) ⟨nt,regs',Y.objs,Y.next,[]⟩
    |none=>StuckF nm args Y
   |_=>StuckF nm args Y
  |_=>StuckF 0 args Y
end HX

namespace HX
open Go CX
variable {ro:Addr->Option V}
theorem maskS_ok {β:Type} {ml:List (Nat×Nat)} {ms:T Nat} (hm:∀j,ms.get j=look ml j):∀(es:List Edge) (acc m:Nat),maskS ml es acc=some m->∀k:Nat->Option β,maskOf ms es acc k=k m
 |[],acc,m,h,k=>by simp only [maskS,zA] at h;subst h;rfl
 |e :: r,acc,m,h,k=>by
  simp only [maskS] at h
  simp only [maskOf]
  split at h
  next hb=>simp only [hb];exact maskS_ok hm r acc m h k
  rename_i hb
  split at h
  next x hx=>
   rw [<-hm] at hx
   simp only [hb,hx,fN_eq]
   exact maskS_ok hm r _ m h k
  cases h
theorem prepS_ok {β:Type}:∀(r:List Oper) (i:Nat) (ml dl ml' dl':List (Nat×Nat)),prepS r i ml dl=some (ml',dl')->∀ms dm:T Nat,(∀j,ms.get j=look ml j)->(∀t,dm.get t=look dl t)->
  ∃ms' dm':T Nat,(∀j,ms'.get j=look ml' j)/\(∀t,dm'.get t=look dl' t)/\∀k:T Nat->T Nat->Option β,prep r i ms dm k=k ms' dm'
 |[],i,ml,dl,ml',dl',h,ms,dm,hm,hd=>by
  simp only [prepS,zA,zI] at h
  obtain ⟨rfl,rfl⟩:=h
  exact ⟨ms,dm,hm,hd,fun k=>rfl⟩
 |o :: r,i,ml,dl,ml',dl',h,ms,dm,hm,hd=>by
  simp only [prepS] at h
  split at h
  rotate_left
  ·cases h
  rename_i m hmask
  have hm':∀j,(ms.up i (some m)).get j=look ((i,m) :: ml) j:=fun j=>by
   rw [T.get_up,look_cons]
   split
   next e=>rw [if_pos e.symm]
   rename_i e;rw [if_neg (Ne.symm e)];exact hm j
  split at h
  next ho=>
   obtain ⟨ms',dm',a,b,c⟩:=prepS_ok (β:=β) r (i+1) _ _ _ _ h _ dm hm' hd
   refine ⟨ms',dm',a,b,fun k=>?_⟩
   simp only [prep,maskS_ok hm _ _ _ hmask,T.set_eq,ho]
   exact c k
  rename_i d ho
  split at h
  next hl=>
   have hd':∀t,(dm.up d (some i)).get t=look ((d,i) :: dl) t:=fun t=>by
    rw [T.get_up,look_cons]
    split
    next e=>rw [if_pos e.symm]
    rename_i e;rw [if_neg (Ne.symm e)];exact hd t
   obtain ⟨ms',dm',a,b,c⟩:=prepS_ok (β:=β) r (i+1) _ _ _ _ h _ _ hm' hd'
   refine ⟨ms',dm',a,b,fun k=>?_⟩
   rw [<-hd] at hl
   simp only [prep,maskS_ok hm _ _ _ hmask,T.set_eq,ho,hl]
   exact c k
  cases h
section
variable {ml dl:List (Nat×Nat)} {ms dm:T Nat} (hm:∀j,ms.get j=look ml j) (hd:∀t,dm.get t=look dl t)
include hm hd
theorem visS_ok {regs:T V} {i cl t:Nat} (h:visS ml dl i cl t=true):CX.getD regs ms dm i cl t=regs.get t:=by
 unfold visS at h
 unfold CX.getD
 rw [hd]
 split at h
 next hl=>rw [hl]
 rename_i j hl
 rw [hl]
 simp only
 split at h
 next hb=>rw [hb]
 rename_i hb
 rw [hb]
 simp only
 rw [hm]
 split at h
 next m hl2=>rw [hl2];simp only;rw [h]
 cases h
theorem evDS_ok {C:Cx ro} {n:Nat} {l:List (Nat×SV)} {regs:T V} (hR:RegsS C n l regs) {i cl:Nat}:EvOk C n (evDS ml dl i cl l) (evD regs ms dm i cl):=fun x=>by
 cases x with
 |tmp t=>
  simp only [evDS,evD]
  split
  next hv=>
   rw [visS_ok hm hd hv]
   exact evR_ok hR (.tmp t)
  exact .inl rfl
 |const v=>exact evR_ok hR (.const v)
 |func f=>exact evR_ok hR (.func f)
 |global g=>exact .inl rfl
theorem wantB_of {regs:T V} {all:List Oper} {o:Oper} {b:Bool} (h:∀k:Bool->R,wantX regs all o k=k b) {i cl:Nat} (hv:gvisS ml dl i cl all o=true):wantB regs ms dm i cl all o=some b:=by
 have inj:∀{x:Bool},(some (Ex.normal,(⟨cond x 1 0,0,.e,.e,0,[]⟩:CX.St)):R)=some (.normal,⟨cond b 1 0,0,.e,.e,0,[]⟩)->x=b:=by
  intro x hx
  cases x<;>cases b<;>first |rfl |(simp at hx)
 have h:=h fun x=>some (.normal,⟨cond x 1 0,0,.e,.e,0,[]⟩)
 unfold wantX at h
 unfold wantB
 unfold gvisS at hv
 cases hg:o.guard with
 |none=>rw [hg] at h;simp only at h;rw [inj h]
 |some p=>
  obtain ⟨g,want⟩:=p
  rw [hg] at h hv
  simp only [nth_eq] at h hv ⊢
  cases ho:all[g]? with
  |none=>rw [ho] at h;cases h
  |some og=>
   rw [ho] at h hv
   simp only at h hv ⊢
   cases hdst:og.dst with
   |none=>rw [hdst] at h;cases h
   |some d=>
    rw [hdst] at h hv
    simp only at h hv ⊢
    rw [visS_ok hm hd hv]
    cases hr:regs.get d with
    |none=>rw [hr] at h;cases h
    |some u=>
     rw [hr] at h
     cases u with
     |bool x=>cases x<;>cases want<;>exact congrArg some (inj h)
     |tup l=>cases l with
      |nil=>exact congrArg some (inj h)
      |cons _ _=>cases h
     |_=>cases h
end
theorem laterOk_ok {E:CX.Env} {ml:List (Nat×Nat)} {ms:T Nat} (hm:∀j,ms.get j=look ml j) {i:Nat}:∀(r:List Oper) (j:Nat),laterOk E ms i r j=laterOkS E ml i r j
 |[],_=>rfl
 |o :: r,j=>by
  simp only [laterOk,laterOkS,hm,laterOk_ok hm r]
  rfl
theorem disj_of:∀(a b:List Nat),(∀x∈a,x∉b)->disj a b=true
 |[],_,_=>rfl
 |x :: r,b,h=>by
  have h1:CX.memN x b=false:=by
   cases hb:CX.memN x b with
   |false=>rfl
   |true=>exact absurd ((CX.memN_iff b).1 hb) (h x (.head _))
  simp only [disj,h1]
  exact disj_of r b fun y hy=>h y (.tail _ hy)
theorem outs_of {lo hi:Nat}:∀(l:List Nat),(∀x∈l,¬(lo<=x/\x < hi))->outs lo hi l=true
 |[],_=>rfl
 |x :: r,h=>by
  have h1:(Nat.ble lo x && Nat.blt x hi)=false:=by
   cases hb:(Nat.ble lo x && Nat.blt x hi) with
   |false=>rfl
   |true=>
    rw [zC,xV,kB] at hb
    exact absurd hb (h x (.head _))
  simp only [outs,h1]
  exact outs_of r fun y hy=>h y (.tail _ hy)
theorem below_of {nx:Nat}:∀(l:List Nat),(∀x∈l,x < nx)->below nx l=true
 |[],_=>rfl
 |x :: r,h=>by
  simp only [below,bltT (h x (.head _))]
  exact below_of r fun y hy=>h y (.tail _ hy)
theorem fits_of {cl:Nat} {fp:Fp}:∀(rs:List Rc),(∀r∈rs,CX.bit cl r.i=true\/pairOk fp r=true)->fits cl fp rs=true
 |[],_=>rfl
 |r :: rs,h=>by
  simp only [fits]
  rcases h r (.head _) with h1 |h1
  ·rw [h1];exact fits_of rs fun y hy=>h y (.tail _ hy)
  cases hb:CX.bit cl r.i with
  |true=>exact fits_of rs fun y hy=>h y (.tail _ hy)
  |false=>simp only [h1];exact fits_of rs fun y hy=>h y (.tail _ hy)
theorem fitsL_ok {p:RcS->Bool} {cl:Nat}:∀(rs:List RcS),fitsL p cl rs=true->∀r∈rs,CX.bit cl r.i=true\/p r=true
 |[],_,_,hr=>by cases hr
 |r' :: rs,h,r,hr=>by
  simp only [fitsL] at h
  have next:fitsL p cl rs=true:=by
   split at h
   ·exact h
   split at h
   ·exact h
   cases h
  rcases zL.1 hr with rfl |hr
  ·split at h
   ·exact .inl ‹_›
   split at h
   ·exact .inr ‹_›
   cases h
  exact fitsL_ok rs next r hr
theorem without_same {cl:Nat}:∀(rs:List Rc) (h:T O),(∀r∈rs,CX.bit cl r.i=true\/r.hi<=r.lo)->withoutS cl rs h=h
 |[],_,_=>rfl
 |r :: rs,h,hr=>by
  simp only [withoutS]
  cases hb:CX.bit cl r.i with
  |true=>exact without_same rs h fun y hy=>hr y (.tail _ hy)
  |false=>
   simp only
   rcases hr r (.head _) with h1 |h1
   ·rw [h1] at hb;cases hb
   rw [show Nat.sub r.hi r.lo=0 from Nat.sub_eq_zero_of_le h1]
   exact without_same rs _ fun y hy=>hr y (.tail _ hy)
def AtR (C:Cx ro) (n:Nat):At->Nat->Prop
 |.cl nm,id=>nm < n/\id=C.ids nm
 |.ar nm,id=>nm < n/\id=C.ids nm/\C.hdr nm≠.nils
 |.fz b,id=>b<=n/\id < C.bd b/\∃o,C.g id=some o
 |.mt nm,id=>nm < n/\id=C.ids nm/\C.hdr nm≠.nils
 |.sb nm rn,id=>(nm < n/\rn < n)/\∃l i,C.hdr rn=.tup l/\RowId l i id
theorem AtR.ag {C C':Cx ro} {n m:Nat} (ha:Ag n C C') (hn:n<=m) {a:At} {id:Nat} (h:AtR C n a id):AtR C' m a id:=by
 cases a with
 |cl nm=>exact ⟨by have:=h.1;omega,by rw [ha.ids _ h.1];exact h.2⟩
 |ar nm=>exact ⟨by have:=h.1;omega,by rw [ha.ids _ h.1];exact h.2.1,by rw [ha.hdr _ h.1];exact h.2.2⟩
 |mt nm=>exact ⟨by have:=h.1;omega,by rw [ha.ids _ h.1];exact h.2.1,by rw [ha.hdr _ h.1];exact h.2.2⟩
 |sb nm rn=>exact ⟨⟨by have:=h.1.1;omega,by have:=h.1.2;omega⟩,by rw [ha.hdr _ h.1.2];exact h.2⟩
 |fz b=>
  obtain ⟨h1,h2,o,h3⟩:=h
  exact ⟨by omega,by rw [ha.bd _ h1];exact h2,o,ha.g _ _ h3⟩
def FtR (C:Cx ro) (n:Nat) (A:List At) (F:List Nat):Prop:=∀id∈F,∃a∈A,AtR C n a id
def FpR (C:Cx ro) (n:Nat):FpS->Fp->Prop
 |.all,.all=>True
 |.q,.q=>True
 |.ls A wr,.ls F wr'=>wr=wr'/\FtR C n A F
 |_,_=>False
structure RcR (C:Cx ro) (n nx0:Nat) (r:RcS) (x:Rc):Prop where
 i:x.i=r.i
 fp:FpR C n r.fp x.fp
 lo:nx0<=x.lo
 al:r.al=false->x.hi<=x.lo
theorem RcR.ag {C C':Cx ro} {n m nx0:Nat} (ha:Ag n C C') (hn:n<=m) {r:RcS} {x:Rc} (h:RcR C n nx0 r x):RcR C' m nx0 r x:=by
 refine ⟨h.i,?_,h.lo,h.al⟩
 have:=h.fp
 revert this
 cases r.fp<;>cases x.fp<;>simp only [FpR]<;>intro hh<;>first |trivial |exact hh |skip
 exact ⟨hh.1,fun id hid=>let ⟨a,h1,h2⟩:=hh.2 id hid;⟨a,h1,h2.ag ha hn⟩⟩
def RcsR (C:Cx ro) (n nx0:Nat):List RcS->List Rc->Prop
 |[],[]=>True
 |r :: rs,x :: xs=>RcR C n nx0 r x/\RcsR C n nx0 rs xs
 |_,_=>False
theorem RcsR.ag {C C':Cx ro} {n m nx0:Nat} (ha:Ag n C C') (hn:n<=m):∀{rs:List RcS} {xs:List Rc},RcsR C n nx0 rs xs->RcsR C' m nx0 rs xs
 |[],[],_=>trivial
 |_ :: _,_ :: _,h=>⟨h.1.ag ha hn,RcsR.ag ha hn h.2⟩
 |[],_ :: _,h=>h.elim
 |_ :: _,[],h=>h.elim
theorem RcsR.mem {C:Cx ro} {n nx0:Nat}:∀{rs:List RcS} {xs:List Rc},RcsR C n nx0 rs xs->∀x∈xs,∃r∈rs,RcR C n nx0 r x
 |[],[],_,_,hx=>by cases hx
 |r :: rs,x' :: xs,h,x,hx=>by
  rcases zL.1 hx with rfl |hx
  ·exact ⟨r,.head _,h.1⟩
  obtain ⟨r',a,b⟩:=RcsR.mem h.2 x hx
  exact ⟨r',.tail _ a,b⟩
 |[],_ :: _,h,_,_=>h.elim
 |_ :: _,[],h,_,_=>h.elim
theorem isCl_ok {s:Option SO} (h:isCl s=true):∃l,s=some (.cells l):=by
 unfold isCl at h
 split at h
 ·exact ⟨_,rfl⟩
 cases h
theorem isAr_ok {s:Option SO} (h:isAr s=true):∃og ks rows,s=some (.arr og ks rows):=by
 unfold isAr at h
 split at h
 ·exact ⟨_,_,_,rfl⟩
 cases h
section
variable {C:Cx ro} {objs:List (Nat×SO)} {n bar:Nat} {h:Nat->Option O} {nx:Nat} (hM:MSim C objs n bar h nx)
include hM
theorem mt_own {nm x:Nat} (hl:isMt (look objs nm)=true) (hx:AtR C n (.mt nm) x):∃og ks rows rn hole,look objs nm=some (.mat og ks rows rn hole)/\owns C nm (.mat og ks rows rn hole) x:=by
 unfold isMt at hl
 split at hl
 next og ks rows rn hole e=>
  exact ⟨og,ks,rows,rn,hole,e,.inl ⟨hx.2.2,hx.2.1.symm⟩⟩
 cases hl
theorem sb_own {nm rn x:Nat} (hl:isMr rn (look objs nm)=true) (hx:AtR C n (.sb nm rn) x):∃og ks rows rn hole,look objs nm=some (.mat og ks rows rn hole)/\owns C nm (.mat og ks rows rn hole) x:=by
 unfold isMr at hl
 split at hl
 next og ks rows rn' e=>
  simp only [beqN_iff] at hl
  subst hl
  obtain ⟨_,l,i,h1,h2⟩:=hx
  exact ⟨og,ks,rows,rn,none,e,.inr ⟨l,i,h1,by simp,h2⟩⟩
 cases hl
theorem mat_cl {nm y x:Nat} (hm:∃og ks rows rn hole,look objs nm=some (.mat og ks rows rn hole)/\owns C nm (.mat og ks rows rn hole) x) (hl:isCl (look objs y)=true):x≠C.ids y:=by
 obtain ⟨og,ks,rows,rn,hole,e,o⟩:=hm
 obtain ⟨l,hl⟩:=isCl_ok hl
 intro c
 have:=hM.inj' _ _ _ _ e hl x o (.inl ⟨trivial,c.symm⟩)
 subst this
 rw [e] at hl;cases hl
theorem mat_ar {nm y x:Nat} (hm:∃og ks rows rn hole,look objs nm=some (.mat og ks rows rn hole)/\owns C nm (.mat og ks rows rn hole) x) (hl:isAr (look objs y)=true) (hy:C.hdr y≠.nils):x≠C.ids y:=by
 obtain ⟨og,ks,rows,rn,hole,e,o⟩:=hm
 obtain ⟨og',ks',rows',hl⟩:=isAr_ok hl
 intro c
 have:=hM.inj' _ _ _ _ e hl x o (.inl ⟨hy,c.symm⟩)
 subst this
 rw [e] at hl;cases hl
theorem mat_fz {nm x:Nat} (hm:∃og ks rows rn hole,look objs nm=some (.mat og ks rows rn hole)/\owns C nm (.mat og ks rows rn hole) x):C.g x=none:=by
 obtain ⟨og,ks,rows,rn,hole,e,o⟩:=hm
 exact (hM.own' _ _ e _ o).2.2
theorem dis_ok {a b:At} (hd:disA objs a b=true) {x y:Nat} (hx:AtR C n a x) (hy:AtR C n b y):x≠y:=by
 have fzc:∀{bb nm:Nat} {x y:Nat} {so:SO},AtR C n (.fz bb) x->look objs nm=some so->ownS C nm so->y=C.ids nm->x≠y:=by
  intro bb nm x y so hx hl ho hy e
  obtain ⟨_,_,o,hg⟩:=hx
  have:=(hM.own _ _ hl ho).2.2
  rw [e,hy,this] at hg
  cases hg
 have fz0:∀{bb x:Nat},beqN bb 0=true->¬AtR C n (.fz bb) x:=fun {bb x} hb h=>by
  rw [beqN_iff] at hb
  subst hb
  have:=h.2.1
  rw [hM.z] at this
  omega
 cases a<;>cases b<;>simp only [disA,zC,Bool.or_eq_true,kR] at hd
 case cl.cl=>
  obtain ⟨h1,h2,h3⟩:=hd
  obtain ⟨l,hl⟩:=isCl_ok h2
  obtain ⟨l',hl'⟩:=isCl_ok h3
  rw [hx.2,hy.2]
  exact hM.inj _ _ _ _ hl hl' trivial trivial (fun e=>by rw [<-beqN_iff,h1] at e;cases e)
 case cl.ar=>
  obtain ⟨h1,h2,h3⟩:=hd
  obtain ⟨l,hl⟩:=isCl_ok h2
  obtain ⟨og,ks,rows,hl'⟩:=isAr_ok h3
  rw [hx.2,hy.2.1]
  exact hM.inj _ _ _ _ hl hl' trivial hy.2.2 (fun e=>by rw [<-beqN_iff,h1] at e;cases e)
 case ar.cl=>
  obtain ⟨h1,h2,h3⟩:=hd
  obtain ⟨l,hl⟩:=isCl_ok h3
  obtain ⟨og,ks,rows,hl'⟩:=isAr_ok h2
  rw [hx.2.1,hy.2]
  exact hM.inj _ _ _ _ hl' hl hx.2.2 trivial (fun e=>by rw [<-beqN_iff,h1] at e;cases e)
 case ar.ar=>
  obtain ⟨h1,h2,h3⟩:=hd
  obtain ⟨og,ks,rows,hl⟩:=isAr_ok h2
  obtain ⟨og',ks',rows',hl'⟩:=isAr_ok h3
  rw [hx.2.1,hy.2.1]
  exact hM.inj _ _ _ _ hl hl' hx.2.2 hy.2.2 (fun e=>by rw [<-beqN_iff,h1] at e;cases e)
 case fz.cl=>
  rcases hd with hd |hd
  ·exact absurd hx (fz0 hd)
  obtain ⟨l,hl⟩:=isCl_ok hd
  exact fzc hx hl trivial hy.2
 case fz.ar=>
  rcases hd with hd |hd
  ·exact absurd hx (fz0 hd)
  obtain ⟨og,ks,rows,hl⟩:=isAr_ok hd
  exact fzc hx hl hy.2.2 hy.2.1
 case cl.fz=>
  rcases hd with hd |hd
  ·exact absurd hy (fz0 hd)
  obtain ⟨l,hl⟩:=isCl_ok hd
  exact (fzc hy hl trivial hx.2).symm
 case ar.fz=>
  rcases hd with hd |hd
  ·exact absurd hy (fz0 hd)
  obtain ⟨og,ks,rows,hl⟩:=isAr_ok hd
  exact (fzc hy hl hx.2.2 hx.2.1).symm
 case fz.fz=>
  rcases hd with hd |hd
  ·exact absurd hx (fz0 hd)
  exact absurd hy (fz0 hd)
 case mt.cl=>rw [hy.2];exact mat_cl hM (mt_own hM hd.1 hx) hd.2
 case cl.mt=>rw [hx.2];exact (mat_cl hM (mt_own hM hd.1 hy) hd.2).symm
 case mt.ar=>rw [hy.2.1];exact mat_ar hM (mt_own hM hd.1 hx) hd.2 hy.2.2
 case ar.mt=>rw [hx.2.1];exact (mat_ar hM (mt_own hM hd.1 hy) hd.2 hx.2.2).symm
 case sb.cl=>rw [hy.2];exact mat_cl hM (sb_own hM hd.1 hx) hd.2
 case cl.sb=>rw [hx.2];exact (mat_cl hM (sb_own hM hd.1 hy) hd.2).symm
 case sb.ar=>rw [hy.2.1];exact mat_ar hM (sb_own hM hd.1 hx) hd.2 hy.2.2
 case ar.sb=>rw [hx.2.1];exact (mat_ar hM (sb_own hM hd.1 hy) hd.2 hx.2.2).symm
 case fz.mt=>
  rcases hd with hd |hd
  ·exact absurd hx (fz0 hd)
  obtain ⟨_,_,o,hg⟩:=hx
  intro e
  rw [e,mat_fz hM (mt_own hM hd hy)] at hg;cases hg
 case mt.fz=>
  rcases hd with hd |hd
  ·exact absurd hy (fz0 hd)
  obtain ⟨_,_,o,hg⟩:=hy
  intro e
  rw [<-e,mat_fz hM (mt_own hM hd hx)] at hg;cases hg
 case fz.sb=>
  rcases hd with hd |hd
  ·exact absurd hx (fz0 hd)
  obtain ⟨_,_,o,hg⟩:=hx
  intro e
  rw [e,mat_fz hM (sb_own hM hd hy)] at hg;cases hg
 case sb.fz=>
  rcases hd with hd |hd
  ·exact absurd hy (fz0 hd)
  obtain ⟨_,_,o,hg⟩:=hy
  intro e
  rw [<-e,mat_fz hM (sb_own hM hd hx)] at hg;cases hg
 all_goals cases hd
theorem old_ok {C':Cx ro} {n':Nat} (ha:Ag n C C') {a:At} (ho:oldA objs n a=true) {x:Nat} (hx:AtR C' n' a x):x < nx:=by
 cases a with
 |cl nm=>
  obtain ⟨l,hl⟩:=isCl_ok ho
  rw [hx.2,ha.ids _ (hM.lt _ _ hl)]
  exact (hM.own _ _ hl trivial).2.1
 |ar nm=>
  obtain ⟨og,ks,rows,hl⟩:=isAr_ok ho
  have hlt:=hM.lt _ _ hl
  rw [hx.2.1,ha.ids _ hlt]
  exact (hM.own _ _ hl (by have:=hx.2.2;rw [ha.hdr _ hlt] at this;exact this)).2.1
 |mt nm=>
  have hx0:AtR C n (.mt nm) x:=by
   have ho:isMt (look objs nm)=true:=ho
   unfold isMt at ho
   split at ho
   next e=>
    have hlt:=hM.lt _ _ e
    exact ⟨hlt,by rw [<-ha.ids _ hlt];exact hx.2.1,by rw [<-ha.hdr _ hlt];exact hx.2.2⟩
   cases ho
  obtain ⟨_,_,_,_,_,e,o⟩:=mt_own hM ho hx0
  exact (hM.own' _ _ e _ o).2.1
 |sb nm rn=>
  have hx0:AtR C n (.sb nm rn) x:=by
   have ho:isMr rn (look objs nm)=true:=ho
   unfold isMr at ho
   split at ho
   next og ks rows rn' e=>
    simp only [beqN_iff] at ho
    subst ho
    have hlt:=hM.lt _ _ e
    have hr:=hM.rn e
    exact ⟨⟨hlt,hr⟩,by rw [<-ha.hdr _ hr];exact hx.2⟩
   cases ho
  obtain ⟨_,_,_,_,_,e,o⟩:=sb_own hM ho hx0
  exact (hM.own' _ _ e _ o).2.1
 |fz b=>
  simp only [oldA,bleN_iff] at ho
  have:=hx.2.1
  rw [ha.bd _ ho] at this
  exact xH this (hM.bd _ ho)
end
theorem pairS_ok {C0:Cx ro} {Y0:List (Nat×SO)} {n0 bar0:Nat} {h0:Nat->Option O} {nx0:Nat} (hM0:MSim C0 Y0 n0 bar0 h0 nx0) {C:Cx ro} (ha:Ag n0 C0 C) {objs:List (Nat×SO)} {n bar:Nat} {h:Nat->Option O} {nx:Nat} (hM:MSim C objs n bar h nx)
  {A:List At} {F:List Nat} (hF:FtR C n A F) {wr:Bool} {r:RcS} {x:Rc} (hx:RcR C n nx0 r x) (hp:pairS Y0 n0 objs A wr r=true):pairOk (.ls F wr) x=true:=by
 have hout:(!r.al || A.all (oldA Y0 n0))=true->outs x.lo x.hi F=true:=by
  intro ho
  refine outs_of F fun id hid hh=>?_
  rw [Bool.or_eq_true,kR] at ho
  rcases ho with ho |ho
  ·have:=hx.al ho;omega
  obtain ⟨a,h1,h2⟩:=hF id hid
  have:=old_ok hM0 ha (kT.1 ho a h1) h2
  have:=hx.lo
  omega
 have hfp:=hx.fp
 unfold pairS at hp
 cases hr:r.fp with
 |all=>rw [hr] at hp;cases hp
 |q=>
  rw [hr] at hp hfp
  cases hxf:x.fp<;>rw [hxf] at hfp<;>simp only [FpR] at hfp
  simp only [pairOk,hxf]
  cases wr with
  |true=>
   simp only [noA] at hp ⊢
   cases F with
   |nil=>rfl
   |cons id F=>
    obtain ⟨a,h1,_⟩:=hF id (.head _)
    split at hp
    ·cases h1
    cases hp
  |false=>exact hout hp
 |ls B wr'=>
  rw [hr] at hp hfp
  cases hxf:x.fp<;>rw [hxf] at hfp<;>simp only [FpR] at hfp
  rename_i F' wr2
  obtain ⟨rfl,hB⟩:=hfp
  simp only [zC] at hp
  obtain ⟨hp1,hp2⟩:=hp
  simp only [pairOk,hxf,hout hp1]
  have hdis:disL objs A B=true->disj F F'=true:=by
   intro hd
   refine disj_of F F' fun id hid hid'=>?_
   obtain ⟨a,a1,a2⟩:=hF id hid
   obtain ⟨b,b1,b2⟩:=hB id hid'
   exact dis_ok hM (kT.1 (kT.1 hd a a1) b b1) a2 b2 rfl
  cases wr<;>cases wr'<;>simp only [Bool.or_false,Bool.or_true,Bool.true_or] at hp2 ⊢<;>exact hdis hp2
theorem fitsA_ok {C:Cx ro} {n nx0:Nat} {p:RcS->Bool} {cl:Nat} {rs:List RcS} {xs:List Rc} (hR:RcsR C n nx0 rs xs) (h:fitsL p cl rs=true) {fp:Fp} (hp:∀r x,RcR C n nx0 r x->p r=true->pairOk fp x=true):fits cl fp xs=true:=by
 refine fits_of xs fun x hx=>?_
 obtain ⟨r,h1,h2⟩:=hR.mem x hx
 rcases fitsL_ok rs h r h1 with hb |hb
 ·exact .inl (by rw [h2.i];exact hb)
 exact .inr (hp r x h2 hb)
theorem atomsOf_ok {E:Env} (hA:E.A=Ar.std) {C:Cx ro} {Y:St} {bar:Nat} {h:Nat->Option O} {nx:Nat} (hM:MSim C Y.objs Y.next bar h nx) {x:SV} {v:V} (hx:RvS C Y.next x v) {p:List Prop} {A:List At} (ha:atomsOf E Y x=some (p,A)) (hp:∀q∈p,q):∀id∈footV v,id < nx/\∃a∈A,AtR C Y.next a id:=by
 have slcv:∀{nm:Nat},nm < Y.next->isHdr (C.hdr nm)->isAr (look Y.objs nm)=true->∀id∈footV (C.hdr nm),id < nx/\∃a∈[At.ar nm],AtR C Y.next a id:=by
  intro nm hnm hh hl id hid
  obtain ⟨og,ks,rows,hl⟩:=isAr_ok hl
  have ho:=hM.ob _ _ hl
  simp only [ObS] at ho
  obtain ⟨_,⟨_,e⟩ |⟨t,m,cap,e,_⟩⟩:=ho
  ·rw [e] at hid;simp [footV] at hid
  rw [e] at hid
  simp only [footV,xS] at hid
  have hne:C.hdr nm≠.nils:=by rw [e];intro e;cases e
  exact ⟨by rw [hid];exact (hM.own _ _ hl hne).2.1,.ar nm,by simp,hnm,hid,hne⟩
 unfold atomsOf at ha
 split at ha
 ·split at ha
  next hl=>
   obtain ⟨l,hl⟩:=isCl_ok hl
   simp only [zA,zI] at ha
   obtain ⟨rfl,rfl⟩:=ha
   simp only [RvS] at hx
   obtain ⟨h1,rfl⟩:=hx
   intro id hid
   simp only [footV,xS] at hid
   exact ⟨by rw [hid];exact (hM.own _ _ hl trivial).2.1,_,.head _,h1,hid⟩
  cases ha
 next nm es i off=>
  split at ha
  rotate_left
  ·cases ha
  rename_i og ks rows hl
  simp only [zA,zI] at ha
  obtain ⟨rfl,rfl⟩:=ha
  simp only [RvS] at hx
  obtain ⟨h1,rfl⟩:=hx
  intro id hid
  simp only [footV,xS] at hid
  have hne:C.hdr nm≠.nils:=by
   have p1:=hp _ (.head _)
   rw [hA] at p1
   have ho:=hM.ob _ _ hl
   simp only [ObS] at ho
   obtain ⟨_,⟨hr,_⟩ |⟨t,m,cap,e,_⟩⟩:=ho
   ·rw [hr] at p1
    simp [Ar.std] at p1
    omega
   rw [e];intro e;cases e
  exact ⟨by rw [hid];exact (hM.own _ _ hl hne).2.1,_,.head _,h1,hid,hne⟩
 next b ks rows i off=>
  simp only [zA,zI] at ha
  obtain ⟨rfl,rfl⟩:=ha
  simp only [RvS,FelR] at hx
  obtain ⟨h0,⟨id',base,t,m,rfl,h2,h3,_⟩ |⟨a,rfl,_⟩⟩:=hx
  ·intro id hid
   simp only [footV,xS] at hid
   subst hid
   exact ⟨(hM.fz _ _ h3).1,_,.head _,h0,h2,_,h3⟩
  intro id hid;simp [footV] at hid
 ·split at ha
  next hl=>
   simp only [zA,zI] at ha
   obtain ⟨rfl,rfl⟩:=ha
   simp only [RvS] at hx
   obtain ⟨h1,rfl,h2⟩:=hx
   exact slcv h1 h2 hl
  cases ha
 next nm lo m=>
  split at ha
  next hl=>
   obtain ⟨og,ks,rows,hl⟩:=isAr_ok hl
   simp only [zA,zI] at ha
   obtain ⟨rfl,rfl⟩:=ha
   simp only [RvS,VwR] at hx
   obtain ⟨h1,⟨_,rfl,_⟩ |⟨es,len,cap0,off,cap,e,rfl,_⟩⟩:=hx
   ·intro id hid;simp [footV] at hid
   intro id hid
   simp only [footV,xS] at hid
   have hne:C.hdr nm≠.nils:=by rw [e];intro e;cases e
   exact ⟨by rw [hid];exact (hM.own _ _ hl hne).2.1,_,.head _,h1,hid,hne⟩
  cases ha
 ·split at ha
  next hl=>
   obtain ⟨l,hl⟩:=isCl_ok hl
   simp only [zA,zI] at ha
   obtain ⟨rfl,rfl⟩:=ha
   simp only [RvS] at hx
   obtain ⟨h1,_,cap,rfl,_⟩:=hx
   intro id hid
   simp only [footV,xS] at hid
   exact ⟨by rw [hid];exact (hM.own _ _ hl trivial).2.1,_,.head _,h1,hid⟩
  cases ha
 ·simp only [zA,zI] at ha
  obtain ⟨rfl,rfl⟩:=ha
  simp only [RvS,FzC,D.rows] at hx
  obtain ⟨h0,_,⟨_,rfl⟩ |⟨id',off,cap,rfl,_,_,h2,t,m,h3,_⟩ |⟨a,cap,rfl,_⟩⟩:=hx
  ·intro id hid;simp [footV] at hid
  ·intro id hid
   simp only [footV,xS] at hid
   subst hid
   exact ⟨(hM.fz _ _ h3).1,_,.head _,h0,h2,_,h3⟩
  intro id hid;simp [footV] at hid
 next nm i=>
  split at ha
  rotate_left
  ·cases ha
  rename_i og ks rows rn hole hl
  simp only [zA,zI] at ha
  obtain ⟨rfl,rfl⟩:=ha
  simp only [RvS] at hx
  obtain ⟨h1,rfl⟩:=hx
  intro id hid
  simp only [footV,xS] at hid
  have hne:C.hdr nm≠.nils:=by
   have p1:=hp _ (.head _)
   rw [hA] at p1
   have ho:=hM.ob _ _ hl
   simp only [ObS] at ho
   obtain ⟨_,_,l,_,_,⟨hr,_⟩ |⟨t,m,cap,e,_⟩,_⟩:=ho
   ·rw [hr] at p1
    simp [Ar.std] at p1
    omega
   rw [e];intro e;cases e
  exact ⟨by rw [hid];exact (hM.own _ _ hl hne).2.1,_,.head _,h1,hid,hne⟩
 next nm rn i=>
  split at ha
  next hl=>
   simp only [zA,zI] at ha
   obtain ⟨rfl,rfl⟩:=ha
   simp only [RvS] at hx
   obtain ⟨h1,h2,l,h3,h4⟩:=hx
   rcases h2 with rfl |⟨id',es,off,len,cap,rfl⟩
   ·intro id hid;simp [footV] at hid
   intro id hid
   simp only [footV,xS] at hid
   subst hid
   have at_:AtR C Y.next (.sb nm rn) id:=⟨h1,l,i,h3,_,_,_,_,h4⟩
   obtain ⟨_,_,_,_,_,e,o⟩:=sb_own hM hl at_
   exact ⟨(hM.own' _ _ e _ o).2.1,_,.head _,at_⟩
  cases ha
 ·simp only [zA,zI] at ha
  obtain ⟨rfl,rfl⟩:=ha
  simp only [RvS] at hx
  subst hx
  intro id hid;simp [footV] at hid
 cases ha
theorem footS_ok {E:Env} (hA:E.A=Ar.std) {C:Cx ro} {Y:St} {bar:Nat} {h:Nat->Option O} {nx:Nat} (hM:MSim C Y.objs Y.next bar h nx) {ev:Operand->SV} {evc:Operand->Option V} (hev:EvOk C Y.next ev evc) {op:Op} {p:List Prop} {A:List At} (ha:footS E Y ev op=some (p,A)) (hp:∀q∈p,q)
  {F:List Nat} (hF:foot evc op=some F):∀id∈F,id < nx/\∃a∈A,AtR C Y.next a id:=by
 have ne:∀{y:Operand} {r:List Prop×List At},atomsOf E Y (ev y)=some r->ev y≠.unk:=fun h e=>by rw [e] at h;simp [atomsOf] at h
 have one:∀{y:Operand} {p:List Prop} {A:List At} {F:List Nat},atomsOf E Y (ev y)=some (p,A)->(∀q∈p,q)->foot1 evc y=some F->∀id∈F,id < nx/\∃a∈A,AtR C Y.next a id:=by
  intro y p A F h hp hF
  obtain ⟨v,e1,e2⟩:=hev.get rfl (ne h)
  rw [foot1_eq e1] at hF
  simp only [zA] at hF
  subst hF
  exact atomsOf_ok hA hM e2 h hp
 unfold footS at ha
 split at ha
 ·exact one ha hp hF
 ·exact one ha hp hF
 next c=>
  split at ha
  rotate_left
  ·cases ha
  rename_i x y hargs
  split at ha
  next p1 a1 p2 a2 hx hy=>
   simp only [zA,zI] at ha
   obtain ⟨rfl,rfl⟩:=ha
   simp only [foot,hargs] at hF
   split at hF
   next f1 f2 h1 h2=>
    simp only [zA] at hF
    subst hF
    intro id hid
    rcases xU.1 hid with hid |hid
    ·obtain ⟨d,a,b,c⟩:=one hx (fun q hq=>hp q (xO _ hq)) h1 id hid
     exact ⟨d,a,xO _ b,c⟩
    obtain ⟨d,a,b,c⟩:=one hy (fun q hq=>hp q (xF _ hq)) h2 id hid
    exact ⟨d,a,xF _ b,c⟩
   cases hF
  cases ha
 all_goals first
  |(simp only [foot,zA] at hF;subst hF;intro id hid;cases hid)
  |cases ha
end HX
