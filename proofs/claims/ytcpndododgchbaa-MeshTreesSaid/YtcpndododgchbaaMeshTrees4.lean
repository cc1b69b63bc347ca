/-
  Texts of the executors: HxDefs, HxSem, HxQ, HxQ2, HxQ3, HxQ4.
-/
import Derived.Test.YtcpndododgchbaaMeshTrees3
set_option linter.all false
noncomputable section
namespace HX
open Go CX
def beqN (a b:Nat):Bool:=decide (a=b)
def bltN (a b:Nat):Bool:=decide (a < b)
def bleN (a b:Nat):Bool:=decide (a<=b)
@[simp] theorem beqN_iff (a b:Nat):(beqN a b=true)=(a=b):=by simp [beqN]
@[simp] theorem beqN_self (a:Nat):beqN a a=true:=by simp [beqN]
@[simp] theorem bltN_iff (a b:Nat):(bltN a b=true)=(a < b):=by simp [bltN]
@[simp] theorem bleN_iff (a b:Nat):(bleN a b=true)=(a<=b):=by simp [bleN]
@[simp] theorem beqN_not (a b:Nat):(beqN a b=false)=(a≠b):=by simp [beqN]
@[simp] theorem bltN_not (a b:Nat):(bltN a b=false)=(¬a < b):=by simp [bltN]
@[simp] theorem bleN_not (a b:Nat):(bleN a b=false)=(¬a<=b):=by simp [bleN]
inductive D where
 |nil
 |i (n:Int)
 |b (x:Bool)
 |s (x:List Nat)
 |l (rows:List (List D))
abbrev Rows:=List (List D)
def D.int:D->Int |.i n=>n |_=>0
def D.boo:D->Bool |.b x=>x |_=>false
def D.str:D->List Nat |.s x=>x |_=>[]
def D.rows:D->Rows |.l r=>r |_=>[]
structure Ar where
 add:Int->Int->Int
 sub:Int->Int->Int
 mul:Int->Int->Int
 tdiv:Int->Int->Int
 tmod:Int->Int->Int
 wrap:IntKind->Int->Int
 bit:BinOp->IntKind->Int->Int->Int
 shl:IntKind->Int->Int->Int
 shr:IntKind->Int->Int->Int
 min:Int->Int->Int
 max:Int->Int->Int
 lt:Int->Int->Bool
 le:Int->Int->Bool
 eq:Int->Int->Bool
 nat:Nat->Int
 toNat:Int->Nat
 nadd:Nat->Nat->Nat
 nsub:Nat->Nat->Nat
 not:Bool->Bool
 and:Bool->Bool->Bool
 beq:Bool->Bool->Bool
 seq:List Nat->List Nat->Bool
 slen:List Nat->Nat
 sidx:List Nat->Int->Int
 len:Rows->Nat
 get:Rows->Nat->Nat->D
 app:Rows->Rows->Rows
 set:Rows->Nat->List D->Rows
 setP:Rows->Nat->Nat->Nat->List D->Rows
 sub':Rows->Nat->Nat->Rows
 rep:Nat->List D->Rows
 di:D->Int
 db:D->Bool
 ds:D->List Nat
 dl:D->Rows
 pIn:IntKind->Int->Prop
 pNz:Int->Prop
 pLe:Int->Int->Prop
 pLt:Int->Int->Prop
 pNle:Nat->Nat->Prop
 pSz:Nat->Nat->Prop
 strD:Rows->List Nat
 pU8:Rows->Prop
 mhas:Rows->List D->Bool
 mget:Rows->List D->Nat->D->D
 mset:Rows->List D->List D->Rows
 mdel:Rows->List D->Rows
 srt:Rows->Rows
def over {α:Type}:List α->Nat->List α->List α
 |l,_,[]=>l
 |[],_,_=>[]
 |_ :: r,0,v :: vs=>v :: over r 0 vs
 |x :: r,n+1,v :: vs=>x :: over r n (v :: vs)
def gt (r:Rows) (i c:Nat):D:=(r.getD i []).getD c .nil
def dEq:D->D->Bool
 |.i a,.i b=>decide (a=b)
 |.b a,.b b=>a == b
 |.s a,.s b=>decide (a=b)
 |_,_=>false
def kEqF:List D->(Nat->D)->Nat->Bool
 |[],_,_=>true
 |k :: ks,f,c=>dEq (f c) k && kEqF ks f (c+1)
def kEq (key r:List D):Bool:=kEqF key (fun c=>r.getD c .nil) 0
def mfnd (key:List D):Rows->Option (List D)
 |[]=>none
 |r :: l=>if kEq key r then some r else mfnd key l
def msetR (key val:List D):Rows->Rows
 |[]=>[key++val]
 |r :: l=>if kEq key r then (key++val) :: l else r :: msetR key val l
def mdelR (key:List D):Rows->Rows
 |[]=>[]
 |r :: l=>if kEq key r then l else r :: mdelR key l
def mhasR (l:Rows) (key:List D):Bool:=(mfnd key l).isSome
def mgetR (l:Rows) (key:List D) (c:Nat) (z:D):D:=
 match mfnd key l with
 |some r=>r.getD (key.length+c) .nil
 |none=>z
def prs (rows:Rows):List (Int×Int):=rows.map fun r=>((r.getD 0 .nil).int,(r.getD 1 .nil).int)
def unprs (l:List (Int×Int)):Rows:=l.map fun p=>[.i p.1,.i p.2]
def srtR (rows:Rows):Rows:=unprs (CX.psort (prs rows))
def Ar.std:Ar where
 add:=(·+·)
 sub:=(· - ·)
 mul:=(· * ·)
 tdiv:=Int.tdiv
 tmod:=Int.tmod
 wrap:=IntKind.wrap
 bit:=bitX
 shl:=fun k x y=>k.wrap (x * 2 ^ (Nat.min y.toNat k.bits))
 shr:=fun k x y=>x.fdiv (2 ^ (Nat.min y.toNat k.bits))
 min:=fun x y=>if y < x then y else x
 max:=fun x y=>if x < y then y else x
 lt:=fun a b=>decide (a < b)
 le:=fun a b=>decide (a<=b)
 eq:=fun a b=>decide (a=b)
 nat:=fun n=>(n:Int)
 toNat:=Int.toNat
 nadd:=(·+·)
 nsub:=(· - ·)
 not:=fun b=>!b
 and:=fun a b=>a && b
 beq:=fun a b=>a == b
 seq:=fun a b=>decide (a=b)
 slen:=List.length
 sidx:=fun s i=>((s[i.toNat]?).getD 0:Nat)
 len:=List.length
 get:=gt
 app:=fun a b=>a++b
 set:=fun r i x=>r.set i x
 setP:=fun r i es o x=>r.set i ((List.range es).map fun c=>if o<=c/\c < o+x.length then x.getD (c - o) .nil else gt r i c)
 sub':=fun r lo n=>(r.drop lo).take n
 rep:=fun n r=>List.replicate n r
 di:=D.int
 db:=D.boo
 ds:=D.str
 dl:=D.rows
 pIn:=fun k n=>k.min<=n/\n<=k.max
 pNz:=(·≠0)
 pLe:=(·<=·)
 pLt:=(· < ·)
 pNle:=(·<=·)
 pSz:=fun m bytes=>m * bytes<=4294967296/\m<=4294967296
 strD:=fun r=>r.map fun x=>(x.getD 0 .nil).int.toNat
 pU8:=fun r=>∀i,i < r.length->0<=(gt r i 0).int/\(gt r i 0).int<=255
 mhas:=mhasR
 mget:=mgetR
 mset:=fun l k v=>msetR k v l
 mdel:=fun l k=>mdelR k l
 srt:=srtR
inductive Kd where
 |int (k:IntKind)
 |bool
 |str
 |sl (ks:List Kd)
 |fnc (f:Nat)
 |pt (k:Kd)
 |clo (f:Nat) (k:Kd)
inductive SV where
 |unk
 |int (k:IntKind) (n:Int)
 |bool (b:Bool)
 |sym (b:Bool)
 |str (s:List Nat)
 |ptr (nm off:Nat)
 |el (nm es i off:Nat)
 |fel (b:Nat) (ks:List Kd) (rows:Rows) (i off:Nat)
 |nilp
 |slc (nm:Nat)
 |vw (nm lo n:Nat)
 |sc (nm es off n:Nat)
 |fz (b:Nat) (ks:List Kd) (rows:Rows)
 |mrow (nm rn i:Nat)
 |mel (nm i:Nat)
 |nils
 |map (nm:Nat)
 |nilm
 |fn (f:Nat) (a b:List SV)
 |yield (nm:Nat)
 |nilf
 |iface (t:Nat) (v:SV)
 |nili
 |agg (l:List SV)
 |tup (l:List SV)
inductive SO where
 |gone
 |cells (l:List SV)
 |arr (og:Nat) (ks:List Kd) (rows:Rows)
 |frz (ks:List Kd) (rows:Rows)
 |mat (og:Nat) (ks:List Kd) (rows:Rows) (rn:Nat) (hole:Option Nat)
 |mp (ka va:Bool) (kk vk:List Kd) (ent:Rows)
 |dfr (open_:Bool)
 |loop (st:LoopState) (jump:Option Code) (nt:Nat) (regs:List (Nat×SV)) (params:List Tmp) (assign body:Code) (df:Nat)
structure St where
 nt:Nat
 regs:List (Nat×SV)
 objs:List (Nat×SO)
 next:Nat
 df:List Nat
def look {α:Type}:List (Nat×α)->Nat->Option α
 |[],_=>none
 |(k,x) :: r,t=>match beqN k t with
  |true=>some x
  |false=>look r t
structure Sig where
 params:List (Bool×List Kd)
 results:List (Bool×List Kd)
 fresh:Bool
structure Env where
 A:Ar
 E:CX.Env
 ks:Nat->Option (List Kd)
 sig:Nat->Option Sig
 pre:Nat->List (List D)->Prop
 fn:Nat->List (List D)->Nat->Nat->D
structure QR where
 pre:List Prop
 sv:SV
def oneC:SV->Bool
 |.unk=>false
 |.tup _=>false
 |.agg _=>false
 |_=>true
def aggK (l:List SV):SV:=
 match l.all oneC with
 |true=>.agg l
 |false=>.unk
mutual
def svV:V->SV
 |.int k n=>.int k n
 |.bool b=>.bool b
 |.str s=>.str s
 |.nilp=>.nilp
 |.nils=>.nils
 |.nilm=>.nilm
 |.nilf=>.nilf
 |.nili=>.nili
 |.agg l=>aggK (svL l)
 |_=>.unk
def svL:List V->List SV
 |[]=>[]
 |v :: l=>svV v :: svL l
end
def evR (regs:List (Nat×SV)):Operand->SV
 |.tmp t=>match look regs t with
  |some x=>x
  |none=>.unk
 |.const v=>match conv v with
  |some v=>svV v
  |none=>.unk
 |.func f=>.fn f [] []
 |.global _=>.unk
def flat:SV->List SV
 |.agg l=>l
 |x=>[x]
def knownC:SV->Bool
 |.unk=>false
 |_=>true
mutual
def kdEq:Kd->Kd->Bool
 |.int k,.int k'=>decide (k=k')
 |.bool,.bool=>true
 |.str,.str=>true
 |.sl a,.sl b=>kdsEq a b
 |.fnc a,.fnc b=>decide (a=b)
 |.pt a,.pt b=>kdEq a b
 |.clo a k,.clo b k'=>decide (a=b) && kdEq k k'
 |_,_=>false
def kdsEq:List Kd->List Kd->Bool
 |[],[]=>true
 |a :: r,b :: s=>kdEq a b && kdsEq r s
 |_,_=>false
end
def norm (Y:St):SV->SV
 |.slc nm=>match look Y.objs nm with
  |some (.frz ks rows)=>.fz Y.next ks rows
  |_=>.slc nm
 |v=>v
def mkCell (A:Ar) (b:Nat) (k:Kd) (d:D):SV:=
 match k with
 |.int k=>.int k (A.di d)
 |.bool=>.sym (A.db d)
 |.str=>.str (A.ds d)
 |.sl ks=>.fz b ks (A.dl d)
 |.fnc f=>.fn f [] []
 |.pt k=>.fel b [k] [[d]] 0 0
 |.clo f k=>.fn f [] [.fel b [k] [[d]] 0 0]
def mkCells (A:Ar) (b:Nat):List Kd->(Nat->D)->Nat->List SV
 |[],_,_=>[]
 |k :: r,f,c=>mkCell A b k (f c) :: mkCells A b r f (c+1)
def pack (agg:Bool) (l:List SV):Option SV:=
 match agg with
 |true=>some (.agg l)
 |false=>match l with
  |[x]=>some x
  |_=>none
def dOf (Y:St) (k:Kd) (v:SV):Option D:=
 match k,v with
 |.int k,.int k' n=>match decide (k=k') with
  |true=>some (.i n)
  |false=>none
 |.bool,.bool b=>some (.b b)
 |.bool,.sym b=>some (.b b)
 |.str,.str s=>some (.s s)
 |.sl ks,.fz _ ks' rows=>match kdsEq ks ks' with
  |true=>some (.l rows)
  |false=>none
 |.sl ks,.slc nm=>match look Y.objs nm with
  |some (.frz ks' rows)=>match kdsEq ks ks' with
   |true=>some (.l rows)
   |false=>none
  |_=>none
 |.sl _,.nils=>some (.l [])
 |.fnc f,.fn g [] []=>match beqN f g with
  |true=>some .nil
  |false=>none
 |_,_=>none
def dList (Y:St):List Kd->List SV->Option (List D)
 |[],[]=>some []
 |k :: ks,v :: vs=>match dOf Y k v with
  |some d=>match dList Y ks vs with
   |some l=>some (d :: l)
   |none=>none
  |none=>none
 |_,_=>none
def q0 (v:SV):Option QR:=some ⟨[],v⟩
def q1 (p:Prop) (v:SV):Option QR:=some ⟨[p],v⟩
def signedK:IntKind->Bool
 |.i8 |.i16 |.i32 |.i64=>true
 |_=>false
def arith (A:Ar) (k:IntKind) (r:Int):Option QR:=
 match signedK k with
 |true=>q1 (A.pIn k r) (.int k r)
 |false=>q0 (.int k (A.wrap k r))
def asB:SV->Option Bool
 |.bool b=>some b
 |.sym b=>some b
 |_=>none
def eqC (A:Ar):V->SV->SV->Option Bool
 |.int _ _,.int k1 a,.int k2 b=>match decide (k1=k2) with
  |true=>some (A.eq a b)
  |false=>none
 |.str _,.str a,.str b=>some (A.seq a b)
 |.bool _,x,y=>match asB x,asB y with
  |some a,some b=>some (A.beq a b)
  |_,_=>none
 |_,_,_=>none
def eqCs (A:Ar):List V->List SV->List SV->Option Bool
 |[],[],[]=>some true
 |[z],[x],[y]=>eqC A z x y
 |z :: zs,x :: xs,y :: ys=>match eqC A z x y,eqCs A zs xs ys with
  |some p,some q=>some (A.and p q)
  |_,_=>none
 |_,_,_=>none
def isSl:TK->Bool
 |.slice _=>true
 |_=>false
def isPtr:TK->Bool
 |.ptr _=>true
 |_=>false
def isBool:TK->Bool
 |.bool=>true
 |_=>false
def xeq (E:Env) (Y:St) (t:Nat) (x y:SV):Option (List Prop×Bool):=
 match x,y with
 |.int k a,.int k' b=>match decide (k=k') with
  |true=>some ([],E.A.eq a b)
  |false=>none
 |.str a,.str b=>some ([],E.A.seq a b)
 |.agg a,.agg b=>match E.E.T t with
  |some ty=>match ty.eqp with
   |true=>match eqCs E.A ty.zero a b with
    |some p=>some ([],p)
    |none=>none
   |false=>none
  |none=>none
 |.nils,.nils=>match isSl (kindOf E.E t) with
  |true=>some ([],true)
  |false=>none
 |.fz _ _ rows,.nils=>match isSl (kindOf E.E t) with
  |true=>some ([E.A.pNle 1 (E.A.len rows)],false)
  |false=>none
 |.slc nm,.nils=>match isSl (kindOf E.E t),look Y.objs nm with
  |true,some (.arr _ _ rows)=>some ([E.A.pNle 1 (E.A.len rows)],false)
  |true,some (.frz _ rows)=>some ([E.A.pNle 1 (E.A.len rows)],false)
  |_,_=>none
 |.nilp,.nilp=>match isPtr (kindOf E.E t) with
  |true=>some ([],true)
  |false=>none
 |.ptr _ _,.nilp=>match isPtr (kindOf E.E t) with
  |true=>some ([],false)
  |false=>none
 |.el _ _ _ _,.nilp=>match isPtr (kindOf E.E t) with
  |true=>some ([],false)
  |false=>none
 |.fel _ _ _ _ _,.nilp=>match isPtr (kindOf E.E t) with
  |true=>some ([],false)
  |false=>none
 |x,y=>match asB x,asB y,isBool (kindOf E.E t) with
  |some a,some b,true=>some ([],E.A.beq a b)
  |_,_,_=>none
def xbin (E:Env) (Y:St) (op:BinOp) (t:Nat) (x y:SV):Option QR:=
 match op with
 |.eql=>match xeq E Y t x y with
  |some (p,b)=>some ⟨p,.sym b⟩
  |none=>none
 |.neq=>match xeq E Y t x y with
  |some (p,b)=>some ⟨p,.sym (E.A.not b)⟩
  |none=>none
 |op=>match x,y with
  |.int k a,.int k' b=>
   match op with
   |.shl=>q1 (E.A.pLe 0 b) (.int k (E.A.shl k a b))
   |.shr=>q1 (E.A.pLe 0 b) (.int k (E.A.shr k a b))
   |op=>match decide (k=k') with
    |false=>none
    |true=>match op with
     |.add=>arith E.A k (E.A.add a b)
     |.sub=>arith E.A k (E.A.sub a b)
     |.mul=>arith E.A k (E.A.mul a b)
     |.quo=>match signedK k with
      |true=>some ⟨[E.A.pNz b,E.A.pIn k (E.A.tdiv a b)],.int k (E.A.tdiv a b)⟩
      |false=>q1 (E.A.pNz b) (.int k (E.A.wrap k (E.A.tdiv a b)))
     |.rem=>q1 (E.A.pNz b) (.int k (E.A.tmod a b))
     |.and=>q0 (.int k (E.A.bit .and k a b))
     |.or=>q0 (.int k (E.A.bit .or k a b))
     |.xor=>q0 (.int k (E.A.bit .xor k a b))
     |.andNot=>q0 (.int k (E.A.bit .andNot k a b))
     |.lss=>q0 (.sym (E.A.lt a b))
     |.leq=>q0 (.sym (E.A.le a b))
     |.gtr=>q0 (.sym (E.A.lt b a))
     |.geq=>q0 (.sym (E.A.le b a))
     |_=>none
  |_,_=>none
def xun (A:Ar) (op:UnOp) (x:SV):Option QR:=
 match op,x with
 |.neg,.int k n=>arith A k (A.sub 0 n)
 |.not,.bool b=>q0 (.bool (!b))
 |.not,.sym b=>q0 (.sym (A.not b))
 |_,_=>none
def xconv (E:Env) (src dst:Nat) (x:SV):Option QR:=
 match E.E.T src,kindOf E.E dst,x with
 |some _,.int k,.int _ n=>match signedK k with
  |true=>q1 (E.A.pIn k n) (.int k n)
  |false=>q0 (.int k (E.A.wrap k n))
 |some _,.str,.str s=>q0 (.str s)
 |_,_,_=>none
def fillS (E:Env) (fs:List (Nat×Nat)) (ev:Operand->SV):List (Nat×Operand)->List SV->Option (List SV)
 |[],l=>some l
 |(i,x) :: r,l=>match fs[i]? with
  |some (o,ft)=>match E.E.T ft with
   |some ty=>
    match beqN (flat (ev x)).length ty.size && bleN (o+(flat (ev x)).length) l.length && (flat (ev x)).all oneC with
    |true=>fillS E fs ev r (over l o (flat (ev x)))
    |false=>none
   |none=>none
  |none=>none
def fillA (es:Nat) (ev:Operand->SV):List (Nat×Operand)->List SV->Option (List SV)
 |[],l=>some l
 |(i,x) :: r,l=>
  match beqN (flat (ev x)).length es && bleN (i * es+(flat (ev x)).length) l.length && (flat (ev x)).all oneC with
  |true=>fillA es ev r (over l (i * es) (flat (ev x)))
  |false=>none
def xbuild (E:Env) (t:Nat) (parts:List (Nat×Operand)) (ev:Operand->SV):Option QR:=
 match E.E.T t with
 |some ty=>match ty.kd with
  |.struct fs=>match (svL ty.zero).all oneC,fillS E fs ev parts (svL ty.zero) with
   |true,some l=>q0 (.agg l)
   |_,_=>none
  |.arr _ e=>match E.E.T e with
   |some ety=>match (svL ty.zero).all oneC,fillA ety.size ev parts (svL ty.zero) with
    |true,some l=>q0 (.agg l)
    |_,_=>none
   |none=>none
  |_=>none
 |none=>none
def eSize (E:Env) (t:Nat):Option Nat:=
 match kindOf E.E t with
 |.slice e=>match E.E.T e with
  |some ty=>match decide (0 < ty.size) with
   |true=>some ty.size
   |false=>none
  |none=>none
 |_=>none
def bounds (A:Ar) (n:Nat) (lo hi:Option SV):Option (List Prop×Nat×Nat):=
 match lo,hi with
 |none,none=>some ([],0,n)
 |some (.int _ l),none=>some ([A.pLe 0 l,A.pLe l (A.nat n)],A.toNat l,A.nsub n (A.toNat l))
 |none,some (.int _ h)=>some ([A.pLe 0 h,A.pLe h (A.nat n)],0,A.toNat h)
 |some (.int _ l),some (.int _ h)=>some ([A.pLe 0 l,A.pLe l h,A.pLe h (A.nat n)],A.toNat l,A.nsub (A.toNat h) (A.toNat l))
 |_,_=>none
def litN:Option SV->Nat->Option Nat
 |none,d=>some d
 |some (.int _ n),_=>match decide (0<=n) with
  |true=>some n.toNat
  |false=>none
 |_,_=>none
def xslice (E:Env) (Y:St) (t:Nat) (x:SV) (lo hi:Option SV):Option QR:=
 match norm Y x with
 |.fz b ks rows=>match eSize E t with
  |some es=>match beqN es ks.length with
   |true=>match bounds E.A (E.A.len rows) lo hi with
    |some (p,l,n)=>some ⟨p,.fz b ks (E.A.sub' rows l n)⟩
    |none=>none
   |false=>none
  |none=>none
 |.slc nm=>match look Y.objs nm,eSize E t with
  |some (.arr _ ks rows),some es=>match beqN es ks.length with
   |true=>match bounds E.A (E.A.len rows) lo hi with
    |some (p,l,n)=>some ⟨p,.vw nm l n⟩
    |none=>none
   |false=>none
  |_,_=>none
 |.ptr nm off=>match kindOf E.E t with
  |.arr n e=>match E.E.T e,litN lo 0,litN hi n with
   |some ety,some l,some r=>match bleN l r && bleN r n && bltN l n && decide (0 < ety.size) with
    |true=>q0 (.sc nm ety.size (off+l * ety.size) (r - l))
    |false=>none
   |_,_,_=>none
  |_=>none
 |.nils=>match eSize E t with
  |some _=>match bounds E.A 0 lo hi with
   |some (p,_,_)=>some ⟨p,.nils⟩
   |none=>none
  |none=>none
 |_=>none
def xslice3 (E:Env) (Y:St) (t:Nat) (x lo hi mx:SV):Option QR:=
 match norm Y x,lo,hi,mx with
 |.slc nm,.int _ l,.int _ h,.int _ m=>match look Y.objs nm,eSize E t with
  |some (.arr _ ks rows),some es=>match beqN es ks.length with
   |true=>some ⟨[E.A.pLe 0 l,E.A.pLe l h,E.A.pLe h m,E.A.pLt l m,E.A.pLe m (E.A.nat (E.A.len rows))],.sc nm ks.length (E.A.toNat (E.A.mul l (E.A.nat ks.length))) (E.A.nsub (E.A.toNat h) (E.A.toNat l))⟩
   |false=>none
  |_,_=>none
 |_,_,_,_=>none
def xfar (E:Env) (Y:St) (ev:Operand->SV) (op:Op):Option QR:=
 match op with
 |.slice t x (some lo) (some hi) none=>match norm Y (ev x),ev lo,ev hi with
  |.vw nm 0 _,.int _ l,.int _ h=>match look Y.objs nm,eSize E t with
   |some (.arr _ ks rows),some es=>match beqN es ks.length with
    |true=>some ⟨[E.A.pLe 0 l,E.A.pLe l h,E.A.pLe h (E.A.nat (E.A.len rows))],.vw nm (E.A.toNat l) (E.A.nsub (E.A.toNat h) (E.A.toNat l))⟩
    |false=>none
   |_,_=>none
  |_,_,_=>none
 |_=>none
def xfieldAddr (E:Env) (t:Nat) (x:SV) (i:Nat):Option QR:=
 match kindOf E.E t with
 |.struct fs=>match fs[i]? with
  |some (o,ft)=>match E.E.T ft with
   |some ty=>match decide (0 < ty.size) with
    |true=>match x with
     |.ptr nm off=>q0 (.ptr nm (off+o))
     |.el nm es i off=>q0 (.el nm es i (off+o))
     |.fel b ks rows i off=>q0 (.fel b ks rows i (off+o))
     |_=>none
    |false=>none
   |none=>none
  |none=>none
 |_=>none
def xindexAddr (E:Env) (Y:St) (t:Nat) (x i:SV):Option QR:=
 match kindOf E.E t with
 |.slice e=>match E.E.T e,i with
  |some ety,.int _ n=>match norm Y x with
   |.slc nm=>match look Y.objs nm with
    |some (.arr _ ks rows)=>match beqN ety.size ks.length && decide (0 < ety.size) with
     |true=>some ⟨[E.A.pLe 0 n,E.A.pLt n (E.A.nat (E.A.len rows))],.el nm ks.length (E.A.toNat n) 0⟩
     |false=>none
    |some (.mat _ _ rows _ _)=>match beqN ety.size 1 with
     |true=>some ⟨[E.A.pLe 0 n,E.A.pLt n (E.A.nat (E.A.len rows))],.mel nm (E.A.toNat n)⟩
     |false=>none
    |_=>none
   |.vw nm lo m=>match look Y.objs nm with
    |some (.arr _ ks rows)=>match beqN ety.size ks.length && decide (0 < ety.size) with
     |true=>some ⟨[E.A.pNle (E.A.nadd lo m) (E.A.len rows),E.A.pLe 0 n,E.A.pLt n (E.A.nat m)],.el nm ks.length (E.A.nadd lo (E.A.toNat n)) 0⟩
     |false=>none
    |_=>none
   |.fz b ks rows=>match beqN ety.size ks.length && decide (0 < ety.size) with
    |true=>some ⟨[E.A.pLe 0 n,E.A.pLt n (E.A.nat (E.A.len rows))],.fel b ks rows (E.A.toNat n) 0⟩
    |false=>none
   |.sc nm es off m=>match decide (0<=n),bltN n.toNat m,beqN ety.size es with
    |true,true,true=>q0 (.ptr nm (off+n.toNat * es))
    |_,_,_=>none
   |_=>none
  |_,_=>none
 |.arr len e=>match i,E.E.T e with
  |.int _ n,some ety=>match decide (0<=n),bltN n.toNat len with
   |true,true=>match x with
    |.ptr nm off=>q0 (.ptr nm (off+n.toNat * ety.size))
    |.el nm es i off=>q0 (.el nm es i (off+n.toNat * ety.size))
    |.fel b ks rows i off=>q0 (.fel b ks rows i (off+n.toNat * ety.size))
    |_=>none
   |_,_=>none
  |_,_=>none
 |_=>none
def xindex (E:Env) (t:Nat) (x i:SV):Option QR:=
 match kindOf E.E t,x,i with
 |.arr ln e,.agg l,.int _ n=>match E.E.T e with
  |some ety=>match decide (0<=n) && bltN n.toNat ln && bleN (n.toNat * ety.size+ety.size) l.length with
   |true=>match pack ety.agg ((l.drop (n.toNat * ety.size)).take ety.size) with
    |some v=>q0 v
    |none=>none
   |false=>none
  |none=>none
 |.str,.str s,.int _ n=>some ⟨[E.A.pLe 0 n,E.A.pLt n (E.A.nat (E.A.slen s))],.int .u8 (E.A.sidx s n)⟩
 |_,_,_=>none
def xfield (E:Env) (t:Nat) (x:SV) (i:Nat):Option QR:=
 match kindOf E.E t,x with
 |.struct fs,.agg l=>match fs[i]? with
  |some (o,ft)=>match E.E.T ft with
   |some ty=>match bleN (o+ty.size) l.length with
    |true=>match pack ty.agg ((l.drop o).take ty.size) with
     |some v=>q0 v
     |none=>none
    |false=>none
   |none=>none
  |none=>none
 |_,_=>none
def xlen (E:Env) (Y:St) (t:Nat) (x:SV):Option QR:=
 match kindOf E.E t,norm Y x with
 |.slice _,.slc nm=>match look Y.objs nm with
  |some (.arr _ _ rows)=>q0 (.int .i64 (E.A.nat (E.A.len rows)))
  |some (.mat _ _ rows _ _)=>q0 (.int .i64 (E.A.nat (E.A.len rows)))
  |_=>none
 |.slice _,.vw _ _ n=>q0 (.int .i64 (E.A.nat n))
 |.slice _,.fz _ _ rows=>q0 (.int .i64 (E.A.nat (E.A.len rows)))
 |.slice _,.sc _ _ _ n=>q0 (.int .i64 (n:Int))
 |.slice _,.nils=>q0 (.int .i64 0)
 |.str,.str s=>q0 (.int .i64 (E.A.nat (E.A.slen s)))
 |_,_=>none
def minmax (f:Int->Int->Int) (k:IntKind) (n:Int):List SV->Option Int
 |[]=>some n
 |.int k' n' :: r=>match decide (k=k') with
  |true=>minmax f k (f n n') r
  |false=>none
 |_=>none
def xbi (E:Env) (Y:St) (b:Builtin) (args:List SV) (ts:List Nat):Option QR:=
 match b with
 |.len=>match args,ts with
  |[x],[t]=>xlen E Y t x
  |_,_=>none
 |.cap=>match args,ts with
  |[.nils],[t]=>match isSl (kindOf E.E t) with
   |true=>q0 (.int .i64 0)
   |false=>none
  |_,_=>none
 |.min=>match args with
  |.int k n :: r=>match minmax E.A.min k n r with
   |some m=>q0 (.int k m)
   |none=>none
  |_=>none
 |.max=>match args with
  |.int k n :: r=>match minmax E.A.max k n r with
   |some m=>q0 (.int k m)
   |none=>none
  |_=>none
 |_=>none
def xs2a (E:Env) (Y:St) (t:Nat) (x:SV):Option QR:=
 match kindOf E.E t with
 |.arr n e=>match E.E.T e with
  |some ety=>match norm Y x with
   |.fz b [k] rows=>match beqN ety.size 1 && bltN 0 n with
    |true=>some ⟨[E.A.pLe (E.A.nat n) (E.A.nat (E.A.len rows))],.fel b (List.replicate n k) [(List.range n).map fun j=>E.A.get rows j 0] 0 0⟩
    |false=>none
   |_=>none
  |none=>none
 |_=>none
def xq0 (E:Env) (Y:St) (ev:Operand->SV):Op->Option QR
 |.move x=>match knownC (ev x) with
  |true=>q0 (ev x)
  |false=>none
 |.assign x=>match knownC (ev x) with
  |true=>q0 (ev x)
  |false=>none
 |.pick c a b=>match ev c with
  |.bool true=>match knownC (ev a) with
   |true=>q0 (ev a)
   |false=>none
  |.bool false=>match knownC (ev b) with
   |true=>q0 (ev b)
   |false=>none
  |_=>none
 |.build t ps=>xbuild E t ps.toList ev
 |.nilCheck x=>match ev x with
  |.ptr nm off=>q0 (.ptr nm off)
  |.el nm es i off=>q0 (.el nm es i off)
  |.fel b ks rows i off=>q0 (.fel b ks rows i off)
  |.fn f a b=>q0 (.fn f a b)
  |_=>none
 |.binOp op t x y _=>xbin E Y op t (ev x) (ev y)
 |.unOp op _ x=>xun E.A op (ev x)
 |.makeFunc f a b=>match f with
  |.func f=>match (a.toList.map ev).all knownC && (b.toList.map ev).all knownC with
   |true=>q0 (.fn f (a.toList.map ev) (b.toList.map ev))
   |false=>none
  |_=>none
 |.slice t x lo hi none=>xslice E Y t (ev x) (lo.map ev) (hi.map ev)
 |.slice t x (some lo) (some hi) (some mx)=>xslice3 E Y t (ev x) (ev lo) (ev hi) (ev mx)
 |.fieldAddr t x i=>xfieldAddr E t (ev x) i
 |.field t x i=>xfield E t (ev x) i
 |.indexAddr t x i=>xindexAddr E Y t (ev x) (ev i)
 |.index t x i=>xindex E t (ev x) (ev i)
 |.extract x i=>match ev x with
  |.tup l=>match l[i]? with
   |some v=>match knownC v with
    |true=>q0 v
    |false=>none
   |none=>none
  |_=>none
 |.sliceToArrayPointer t x=>xs2a E Y t (ev x)
 |.convert s t x=>xconv E s t (ev x)
 |.call c=>match c.callee with
  |.builtin b=>xbi E Y b (c.args.toList.map ev) c.argTypes.toList
  |_=>none
 |_=>none
def xload (E:Env) (Y:St) (t:Nat) (x:SV):Option QR:=
 match E.E.T t with
 |none=>none
 |some ty=>match x with
  |.ptr nm off=>match look Y.objs nm with
   |some (.cells l)=>match bleN (off+ty.size) l.length with
    |true=>match pack ty.agg ((l.drop off).take ty.size) with
     |some v=>q0 v
     |none=>none
    |false=>none
   |_=>none
  |.el nm es i off=>match look Y.objs nm with
   |some (.arr _ ks rows)=>match bleN (off+ty.size) ks.length && beqN es ks.length with
    |true=>match pack ty.agg (mkCells E.A Y.next ((ks.drop off).take ty.size) (E.A.get rows i) off) with
     |some v=>some ⟨[E.A.pLt (E.A.nat i) (E.A.nat (E.A.len rows))],v⟩
     |none=>none
    |false=>none
   |some (.frz ks rows)=>match bleN (off+ty.size) ks.length && beqN es ks.length with
    |true=>match pack ty.agg (mkCells E.A Y.next ((ks.drop off).take ty.size) (E.A.get rows i) off) with
     |some v=>some ⟨[E.A.pLt (E.A.nat i) (E.A.nat (E.A.len rows))],v⟩
     |none=>none
    |false=>none
   |_=>none
  |.mel nm i=>match look Y.objs nm with
   |some (.mat _ _ rows rn none)=>match beqN ty.size 1,ty.agg with
    |true,false=>some ⟨[E.A.pLt (E.A.nat i) (E.A.nat (E.A.len rows))],.mrow nm rn i⟩
    |_,_=>none
   |_=>none
  |.fel b ks rows i off=>match bleN (off+ty.size) ks.length with
   |true=>match pack ty.agg (mkCells E.A b ((ks.drop off).take ty.size) (E.A.get rows i) off) with
    |some v=>some ⟨[E.A.pLt (E.A.nat i) (E.A.nat (E.A.len rows))],v⟩
    |none=>none
   |false=>none
  |_=>none
def xq1 (E:Env) (Y:St) (ev:Operand->SV):Op->Option QR
 |.load t x=>xload E Y t (ev x)
 |_=>none
structure WR where
 pre:List Prop
 sv:SV
 objs:List (Nat×SO)
 next:Nat
def chunks (es:Nat):Nat->List SV->List (List SV)
 |0,_=>[]
 |n+1,l=>l.take es :: chunks es n (l.drop es)
def dRows (Y:St) (ks:List Kd):List (List SV)->Option Rows
 |[]=>some []
 |l :: r=>match dList Y ks l with
  |some d=>match dRows Y ks r with
   |some ds=>some (d :: ds)
   |none=>none
  |none=>none
def rep {α:Type} (n:Nat) (l:List α):List α:=
 match n with
 |0=>[]
 |n+1=>l++rep n l
def eKs (E:Env) (t:Nat):Option (List Kd×CX.Ty):=
 match kindOf E.E t with
 |.slice e=>match E.E.T e,E.ks e with
  |some ty,some ks=>match beqN ks.length ty.size && decide (0 < ty.size) with
   |true=>some (ks,ty)
   |false=>none
  |_,_=>none
 |_=>none
def zD:List Kd->List V->Option (List D)
 |[],[]=>some []
 |.int k :: ks,.int k' n :: vs=>match decide (k=k'),zD ks vs with
  |true,some l=>some (.i n :: l)
  |_,_=>none
 |.bool :: ks,.bool b :: vs=>match zD ks vs with
  |some l=>some (.b b :: l)
  |none=>none
 |.str :: ks,.str s :: vs=>match zD ks vs with
  |some l=>some (.s s :: l)
  |none=>none
 |.sl _ :: ks,.nils :: vs=>match zD ks vs with
  |some l=>some (.l [] :: l)
  |none=>none
 |_,_=>none
def xbuildSlice (E:Env) (Y:St) (t len:Nat) (parts:List (Nat×Operand)) (ev:Operand->SV):Option WR:=
 match kindOf E.E t with
 |.slice e=>match E.E.T e with
  |some ety=>match bleN (len * ety.size) 4096 && decide (0 < ety.size) && (svL ety.zero).all oneC with
   |true=>match fillA ety.size ev parts (rep len (svL ety.zero)) with
    |some l=>match E.ks e with
     |some ks=>match beqN ks.length ety.size,dRows Y ks (chunks ety.size len l) with
      |true,some ds=>some ⟨[],.slc Y.next,(Y.next,.arr Y.next ks ds) :: Y.objs,Y.next+1⟩
      |_,_=>match l.all oneC with
       |true=>some ⟨[],.sc Y.next ety.size 0 len,(Y.next,.cells l) :: Y.objs,Y.next+1⟩
       |false=>none
     |none=>match l.all oneC with
      |true=>some ⟨[],.sc Y.next ety.size 0 len,(Y.next,.cells l) :: Y.objs,Y.next+1⟩
      |false=>none
    |none=>none
   |false=>none
  |none=>none
 |_=>none
def matK:List Kd->Option (List Kd)
 |[.sl kk]=>match decide (0 < kk.length) with
  |true=>some kk
  |false=>none
 |_=>none
def xmakeSlice (E:Env) (Y:St) (t:Nat) (l c:SV):Option WR:=
 match eKs E t,l,c with
 |some (ks,ety),.int .i64 n,.int .i64 m=>match zD ks ety.zero with
  |some z=>match matK ks with
   |some kk=>some ⟨[E.A.pLe 0 n,E.A.pLe n m,E.A.pLe (E.A.mul m (ety.size:Int)) 4096,E.A.pLe (E.A.mul m (ety.bytes:Int)) 140737488355328],.slc (Y.next+1),
    (Y.next+1,.mat (Y.next+1) kk (E.A.rep (E.A.toNat n) z) Y.next none) :: (Y.next,.gone) :: Y.objs,Y.next+2⟩
   |none=>some ⟨[E.A.pLe 0 n,E.A.pLe n m,E.A.pLe (E.A.mul m (ety.size:Int)) 4096,E.A.pLe (E.A.mul m (ety.bytes:Int)) 140737488355328],.slc Y.next,
    (Y.next,.arr Y.next ks (E.A.rep (E.A.toNat n) z)) :: Y.objs,Y.next+1⟩
  |none=>none
 |_,_,_=>none
def xstore (E:Env) (Y:St) (t:Nat) (x v:SV):Option WR:=
 match E.E.T t with
 |some ty=>match beqN (flat v).length ty.size && (flat v).all oneC with
  |true=>match x with
   |.ptr nm off=>match look Y.objs nm with
    |some (.cells l)=>match bleN (off+(flat v).length) l.length with
     |true=>some ⟨[],.tup [],(nm,.cells (over l off (flat v))) :: Y.objs,Y.next⟩
     |false=>none
    |_=>none
   |.el nm es i off=>match look Y.objs nm with
    |some (.arr og ks rows)=>match beqN es ks.length && bleN (off+ty.size) ks.length with
     |true=>match dList Y ((ks.drop off).take ty.size) (flat v) with
      |some ds=>match beqN off 0 && beqN ty.size ks.length with
       |true=>some ⟨[E.A.pLt (E.A.nat i) (E.A.nat (E.A.len rows))],.tup [],(nm,.arr og ks (E.A.set rows i ds)) :: Y.objs,Y.next⟩
       |false=>some ⟨[E.A.pLt (E.A.nat i) (E.A.nat (E.A.len rows))],.tup [],(nm,.arr og ks (E.A.setP rows i es off ds)) :: Y.objs,Y.next⟩
      |none=>none
     |false=>none
    |_=>none
   |.mel nm i=>match look Y.objs nm with
    |some (.mat og ks rows _ (some j))=>match v with
     |.slc m=>match look Y.objs m with
      |some (.arr _ ks' rows2)=>match kdsEq ks ks' && !(beqN m nm) with
       |true=>some ⟨[E.A.pNle i j,E.A.pNle j i,E.A.pLt (E.A.nat i) (E.A.nat (E.A.len rows))],.tup [],(nm,.mat og ks (E.A.set rows i [.l rows2]) Y.next none) :: (m,.gone) :: Y.objs,Y.next+1⟩
       |false=>none
      |_=>none
     |_=>none
    |_=>none
   |_=>none
  |false=>none
 |none=>none
def srcOf (E:Env) (Y:St) (ks:List Kd) (y:SV):Option (List Prop×Rows):=
 match norm Y y with
 |.slc nm=>match look Y.objs nm with
  |some (.arr _ ks' rows)=>match kdsEq ks ks' with
   |true=>some ([],rows)
   |false=>none
  |_=>none
 |.vw nm lo n=>match look Y.objs nm with
  |some (.arr _ ks' rows)=>match kdsEq ks ks' with
   |true=>some ([E.A.pNle (E.A.nadd lo n) (E.A.len rows)],E.A.sub' rows lo n)
   |false=>none
  |_=>none
 |.fz _ ks' rows=>match kdsEq ks ks' with
  |true=>some ([],rows)
  |false=>none
 |.sc nm es off n=>match look Y.objs nm with
  |some (.cells l)=>match beqN es ks.length && bleN (off+n * es) l.length && bleN n 1000000 with
   |true=>match dRows Y ks (chunks es n (l.drop off)) with
    |some ds=>some ([],ds)
    |none=>none
   |false=>none
  |_=>none
 |.nils=>some ([],[])
 |_=>none
def xstr (E:Env) (Y:St) (ev:Operand->SV):Op->Option QR
 |.convert s _ x=>match elemSize E.E s,kindOf E.E s with
  |some 1,.slice e=>match kindOf E.E e with
   |.int .u8=>match srcOf E Y [.int .u8] (ev x) with
    |some (p,rows)=>some ⟨p++[E.A.pU8 rows],.str (E.A.strD rows)⟩
    |none=>none
   |_=>none
  |_,_=>none
 |_=>none
def sameNm (x y:SV):Bool:=
 match x,y with
 |.slc a,.slc b=>beqN a b
 |.slc a,.vw b _ _=>beqN a b
 |_,_=>false
def xappendS (E:Env) (Y:St) (t:Nat) (x y:SV):Option WR:=
 match eKs E t with
 |some (ks,ety)=>match srcOf E Y ks y with
  |some (p,rows2)=>match x with
   |.nils=>some ⟨E.A.pSz (E.A.len rows2) ety.bytes :: p,.slc Y.next,(Y.next,.arr Y.next ks rows2) :: Y.objs,Y.next+1⟩
   |.slc nm=>match look Y.objs nm with
    |some (.arr og ks' rows)=>match kdsEq ks ks' && !(sameNm x y) with
     |true=>some ⟨E.A.pSz (E.A.nadd (E.A.len rows) (E.A.len rows2)) ety.bytes :: p,.slc Y.next,
       (Y.next,.arr og ks (E.A.app rows rows2)) :: (nm,.gone) :: Y.objs,Y.next+1⟩
     |false=>none
    |_=>none
   |.vw nm 0 n=>match look Y.objs nm with
    |some (.arr og ks' rows)=>match kdsEq ks ks' && !(sameNm (.slc nm) y) with
     |true=>some ⟨E.A.pSz (E.A.nadd n (E.A.len rows2)) ety.bytes :: E.A.pNle n (E.A.len rows) :: p,.slc Y.next,
       (Y.next,.arr og ks (E.A.app (E.A.sub' rows 0 n) rows2)) :: (nm,.gone) :: Y.objs,Y.next+1⟩
     |false=>none
    |_=>none
   |_=>none
  |none=>none
 |none=>none
def xappV (E:Env) (Y:St) (t:Nat) (x y:SV):Option WR:=
 match x,y with
 |.vw nm 0 i,.vw nm' lo n=>match beqN nm nm',eKs E t,look Y.objs nm with
  |true,some (ks,ety),some (.arr og ks' rows)=>match kdsEq ks ks' with
   |true=>some ⟨[E.A.pSz (E.A.nadd i n) ety.bytes,E.A.pNle (E.A.nadd lo n) (E.A.len rows),E.A.pNle (E.A.nadd i n) (E.A.len rows)],.vw nm 0 (E.A.nadd i n),
     (nm,.arr og ks (E.A.app (E.A.sub' rows 0 i) (E.A.app (E.A.sub' rows lo n) (E.A.sub' rows (E.A.nadd i n) (E.A.nsub (E.A.len rows) (E.A.nadd i n)))))) :: Y.objs,Y.next⟩
   |false=>none
  |_,_,_=>none
 |_,_=>none
def xappendM (E:Env) (Y:St) (t:Nat) (x y:SV):Option WR:=
 match x with
 |.mrow nm rn i=>match look Y.objs nm with
  |some (.mat og ks rows rn' none)=>match beqN rn rn' with
   |true=>match xappendS E ⟨Y.nt,Y.regs,(Y.next,.arr Y.next ks (E.A.dl (E.A.get rows i 0))) :: (nm,.mat og ks rows rn' (some i)) :: Y.objs,Y.next+1,Y.df⟩ t (.slc Y.next) y with
    |some w=>some ⟨E.A.pLt (E.A.nat i) (E.A.nat (E.A.len rows)) :: w.pre,w.sv,w.objs,w.next⟩
    |none=>none
   |false=>none
  |_=>none
 |x=>xappendS E Y t x y
def xappend (E:Env) (Y:St) (t:Nat) (x y:SV):Option WR:=
 match xappV E Y t x y with
 |some w=>some w
 |none=>xappendM E Y t x y
def xzeros (E:Env) (Y:St) (t t':Nat) (x y:SV):Option WR:=
 match eKs E t,kindOf E.E t',x,y with
 |some (ks,ety),.int _,.nils,.int .i64 n=>match zD ks ety.zero with
  |some z=>some ⟨[E.A.pLe 0 n,E.A.pLe (E.A.mul n (ety.size:Int)) 4096,E.A.pSz (E.A.toNat n) ety.bytes],.slc Y.next,(Y.next,.arr Y.next ks (E.A.rep (E.A.toNat n) z)) :: Y.objs,Y.next+1⟩
  |none=>none
 |_,_,_,_=>none
def cpyA (A:Ar) (rows:Rows) (lo n:Nat) (rows2:Rows):Rows:=
 A.app (A.sub' rows 0 lo) (A.app (A.sub' rows2 0 (A.toNat (A.min (A.nat (A.len rows2)) (A.nat n)))) (A.sub' rows (A.nadd lo (A.toNat (A.min (A.nat (A.len rows2)) (A.nat n)))) (A.nsub (A.len rows) (A.nadd lo (A.toNat (A.min (A.nat (A.len rows2)) (A.nat n)))))))
def xcopy (E:Env) (Y:St) (t:Nat) (x y:SV):Option WR:=
 match eKs E t with
 |some (ks,_)=>match srcOf E Y ks y with
  |some (p,rows2)=>match x with
   |.nils=>some ⟨p,.int .i64 0,Y.objs,Y.next⟩
   |.slc nm=>match look Y.objs nm with
    |some (.arr og ks' rows)=>match kdsEq ks ks' with
     |true=>some ⟨p,.int .i64 (E.A.min (E.A.nat (E.A.len rows2)) (E.A.nat (E.A.len rows))),(nm,.arr og ks (cpyA E.A rows 0 (E.A.len rows) rows2)) :: Y.objs,Y.next⟩
     |false=>none
    |_=>none
   |.vw nm lo n=>match look Y.objs nm with
    |some (.arr og ks' rows)=>match kdsEq ks ks' with
     |true=>some ⟨E.A.pNle (E.A.nadd lo n) (E.A.len rows) :: p,.int .i64 (E.A.min (E.A.nat (E.A.len rows2)) (E.A.nat n)),(nm,.arr og ks (cpyA E.A rows lo n rows2)) :: Y.objs,Y.next⟩
     |false=>none
    |_=>none
   |_=>none
  |none=>none
 |none=>none
def clrA (A:Ar) (rows:Rows) (lo n:Nat) (z:List D):Rows:=
 A.app (A.sub' rows 0 lo) (A.app (A.rep n z) (A.sub' rows (A.nadd lo n) (A.nsub (A.len rows) (A.nadd lo n))))
def xclear (E:Env) (Y:St) (t:Nat) (x:SV):Option WR:=
 match eKs E t with
 |some (ks,ety)=>match x with
  |.nils=>some ⟨[],.tup [],Y.objs,Y.next⟩
  |.vw nm lo n=>match zD ks ety.zero with
   |some z=>match look Y.objs nm with
    |some (.arr og ks' rows)=>match kdsEq ks ks' with
     |true=>some ⟨[E.A.pNle (E.A.nadd lo n) (E.A.len rows)],.tup [],(nm,.arr og ks (clrA E.A rows lo n z)) :: Y.objs,Y.next⟩
     |false=>none
    |_=>none
   |none=>none
  |_=>none
 |none=>none
def xw (E:Env) (Y:St) (ev:Operand->SV):Op->Option WR
 |.alloc t=>match E.E.T t with
  |some ty=>match (svL ty.zero).all oneC with
   |true=>some ⟨[],.ptr Y.next 0,(Y.next,.cells (svL ty.zero)) :: Y.objs,Y.next+1⟩
   |false=>none
  |none=>none
 |.box _ x=>match (flat (ev x)).all oneC with
  |true=>some ⟨[],.ptr Y.next 0,(Y.next,.cells (flat (ev x))) :: Y.objs,Y.next+1⟩
  |false=>none
 |.buildSlice t n ps=>xbuildSlice E Y t n ps.toList ev
 |.store t x v=>xstore E Y t (ev x) (ev v)
 |.makeSlice t l c=>xmakeSlice E Y t (ev l) (ev c)
 |.call c=>match c.callee with
  |.builtin .append=>match c.args.toList,c.argTypes.toList with
   |[x,y],[t,t']=>match beqN t t' with
    |true=>xappend E Y t (ev x) (ev y)
    |false=>xzeros E Y t t' (ev x) (ev y)
   |_,_=>none
  |.builtin .copy=>match c.args.toList,c.argTypes.toList with
   |[x,y],t :: _=>xcopy E Y t (ev x) (ev y)
   |_,_=>none
  |.builtin .clear=>match c.args.toList,c.argTypes.toList with
   |[x],[t]=>xclear E Y t (ev x)
   |_,_=>none
  |_=>none
 |_=>none
def simpK:Kd->Bool
 |.int _=>true
 |.bool=>true
 |.str=>true
 |_=>false
def sameA (a b:Bool):Bool:=
 match a,b with
 |true,true=>true
 |false,false=>true
 |_,_=>false
def keyT (E:Env) (ty:CX.Ty) (ka:Bool) (kk:List Kd):Bool:=
 match zD kk ty.zero with
 |none=>false
 |some _=>kk.all simpK && match ka with
  |true=>match ty.kd with
   |.struct fs=>ty.eqp && beqN kk.length ty.size && simpF1 E.E kk.length fs
   |_=>false
  |false=>match ty.kd,kk with
   |.int _,[.int _]=>true
   |.str,[.str]=>true
   |.bool,[.bool]=>true
   |_,_=>false
def valD (Y:St) (a:Bool) (ks:List Kd) (v:SV):Option (List D):=
 match a,v with
 |true,.agg l=>dList Y ks l
 |true,_=>none
 |false,.agg _=>none
 |false,v=>dList Y ks [v]
def keyD (E:Env) (Y:St) (kt:Nat) (ka:Bool) (kk:List Kd) (key:SV):Option (List D):=
 match E.E.T kt with
 |some ty=>match keyT E ty ka kk with
  |true=>valD Y ka kk key
  |false=>none
 |none=>none
def xlookup3 (E:Env) (Y:St) (ok:Bool) (va:Bool) (vk:List Kd) (ent:Rows) (z kd:List D):Option QR:=
 match pack va (mkCells E.A Y.next vk (fun c=>E.A.mget ent kd c (z.getD c .nil)) 0) with
 |some v=>match ok with
  |true=>q0 (.tup [v,.sym (E.A.mhas ent kd)])
  |false=>q0 v
 |none=>none
def xlookup2 (E:Env) (Y:St) (kt:Nat) (key:SV) (ok:Bool) (ety:CX.Ty) (ka va:Bool) (kk vk:List Kd) (ent:Rows):Option QR:=
 match sameA va ety.agg,zD vk ety.zero,keyD E Y kt ka kk key with
 |true,some z,some kd=>xlookup3 E Y ok va vk ent z kd
 |_,_,_=>none
def xlookup (E:Env) (Y:St) (t:Nat) (m key:SV) (ok:Bool):Option QR:=
 match kindOf E.E t with
 |.map kt e=>match E.E.T e with
  |some ety=>match m with
   |.map nm=>match look Y.objs nm with
    |some (.mp ka va kk vk ent)=>xlookup2 E Y kt key ok ety ka va kk vk ent
    |_=>none
   |_=>none
  |none=>none
 |_=>none
def xmlen (E:Env) (Y:St) (t:Nat) (m:SV):Option QR:=
 match kindOf E.E t with
 |.map _ _=>match m with
  |.map nm=>match look Y.objs nm with
   |some (.mp _ _ _ _ ent)=>q0 (.int .i64 (E.A.nat (E.A.len ent)))
   |_=>none
  |.nilm=>q0 (.int .i64 0)
  |_=>none
 |_=>none
def xmR (E:Env) (Y:St) (ev:Operand->SV):Op->Option QR
 |.lookup t m k ok=>xlookup E Y t (ev m) (ev k) ok
 |.call c=>match c.callee with
  |.builtin .len=>match c.args.toList,c.argTypes.toList with
   |[x],[t]=>xmlen E Y t (ev x)
   |_,_=>none
  |_=>none
 |_=>none
def xmakeMap (E:Env) (Y:St) (t:Nat):Option WR:=
 match kindOf E.E t with
 |.map kt e=>match E.E.T kt,E.E.T e,E.ks kt,E.ks e with
  |some kty,some ety,some kk,some vk=>some ⟨[],.map Y.next,(Y.next,.mp kty.agg ety.agg kk vk []) :: Y.objs,Y.next+1⟩
  |_,_,_,_=>none
 |_=>none
def xmapUpdate (E:Env) (Y:St) (t:Nat) (m key v:SV):Option WR:=
 match kindOf E.E t with
 |.map kt _=>match m with
  |.map nm=>match look Y.objs nm with
   |some (.mp ka va kk vk ent)=>match keyD E Y kt ka kk key,valD Y va vk v with
    |some kd,some vd=>some ⟨[],.tup [],(nm,.mp ka va kk vk (E.A.mset ent kd vd)) :: Y.objs,Y.next⟩
    |_,_=>none
   |_=>none
  |_=>none
 |_=>none
def xmapDelete (E:Env) (Y:St) (t:Nat) (m key:SV):Option WR:=
 match kindOf E.E t with
 |.map kt _=>match m with
  |.map nm=>match look Y.objs nm with
   |some (.mp ka va kk vk ent)=>match keyD E Y kt ka kk key with
    |some kd=>some ⟨[],.tup [],(nm,.mp ka va kk vk (E.A.mdel ent kd)) :: Y.objs,Y.next⟩
    |none=>none
   |_=>none
  |_=>none
 |_=>none
def xmW (E:Env) (Y:St) (ev:Operand->SV):Op->Option WR
 |.makeMap t none=>xmakeMap E Y t
 |.makeMap t (some r)=>match ev r with
  |.int _ _=>xmakeMap E Y t
  |_=>none
 |.mapUpdate t m k v=>xmapUpdate E Y t (ev m) (ev k) (ev v)
 |.call c=>match c.callee with
  |.builtin .delete=>match c.args.toList,c.argTypes.toList with
   |[m,k],t :: _=>xmapDelete E Y t (ev m) (ev k)
   |_,_=>none
  |_=>none
 |_=>none
def frz (objs:List (Nat×SO)) (nm:Nat):List (Nat×SO):=
 match look objs nm with
 |some (.arr _ ks rows)=>(nm,.frz ks rows) :: objs
 |some (.mat _ ks rows _ none)=>(nm,.frz [.sl ks] rows) :: objs
 |_=>objs
mutual
def frzV (objs:List (Nat×SO)):SV->List (Nat×SO)
 |.slc nm=>frz objs nm
 |.agg l=>frzL objs l
 |_=>objs
def frzL (objs:List (Nat×SO)):List SV->List (Nat×SO)
 |[]=>objs
 |v :: l=>frzL (frzV objs v) l
end
def wants (ev:Operand->SV):Op->List SV
 |.buildSlice _ _ ps=>ps.toList.map fun p=>ev p.2
 |.store _ x v=>match ev x with
  |.el ..=>[ev v]
  |_=>[]
 |.mapUpdate _ _ _ v=>[ev v]
 |_=>[]
end HX

namespace HX
open Go CX
variable {ro:Addr->Option V}
def LenR (ks:List Kd) (rows:Rows):Prop:=(∀row∈rows,row.length=ks.length)/\rows.length<=9223372036854775807
def PtR (ro:Addr->Option V) (g:Nat->Option O) (B:Nat) (F:V->Prop) (v:V):Prop:=
 (∃(id base:Nat) (t:T V) (m:Nat) (u:V),v=.ptr id base/\id < B/\g id=some (.cells t m)/\base+1<=m/\t.get base=some u/\F u)\/∃(a:Addr) (u:V),v=.rptr a/\ro a=some u/\F u
theorem PtR.mono {g g':Nat->Option O} {B B':Nat} {F F':V->Prop} (hg:∀id o,id < B->g id=some o->g' id=some o) (hB:B<=B') (hF:∀u,F u->F' u) {v:V} (h:PtR ro g B F v):PtR ro g' B' F' v:=by
 rcases h with ⟨id,base,t,m,u,h1,h2,h3,h4,h5,h6⟩ |⟨a,u,h1,h2,h3⟩
 ·exact .inl ⟨id,base,t,m,u,h1,by omega,hg _ _ h2 h3,h4,h5,hF u h6⟩
 exact .inr ⟨a,u,h1,h2,hF u h3⟩
mutual
def FzC (ro:Addr->Option V) (g:Nat->Option O) (B:Nat):Kd->D->V->Prop
 |.int k,d,v=>(∃n,d=.i n)/\v=.int k d.int
 |.bool,d,v=>(∃b,d=.b b)/\v=.bool d.boo
 |.str,d,v=>(∃s,d=.s s)/\v=.str d.str
 |.fnc f,d,v=>d=.nil/\v=.fn (.func f) [] []
 |.pt k,d,v=>PtR ro g B (fun u=>FzC ro g B k d u) v
 |.clo f k,d,v=>∃w,v=.fn (.func f) [] [w]/\PtR ro g B (fun u=>FzC ro g B k d u) w
 |.sl ks,d,v=>(∃rows,d=.l rows/\LenR ks rows)/\((d.rows=[]/\v=.nils)\/(∃(id off:Nat) (cap:Option Nat),v=.slc id ks.length off d.rows.length cap/\0 < ks.length/\(∀c,cap=some c->d.rows.length<=c)/\
   id < B/\(∃t m,g id=some (.cells t m)/\off+d.rows.length * ks.length<=m/\∀i,i < d.rows.length->FzR ro g B ks (gt d.rows i) (fun c=>t.get (off+i * ks.length+c)) 0))\/
   ∃(a:Addr) (cap:Nat),v=.rslc a d.rows.length cap/\0 < ks.length/\d.rows.length<=cap/\∀i,i < d.rows.length->FzR ro g B ks (gt d.rows i) (fun c=>ro (a.add (i * ks.length+c))) 0)
def FzR (ro:Addr->Option V) (g:Nat->Option O) (B:Nat):List Kd->(Nat->D)->(Nat->Option V)->Nat->Prop
 |[],_,_,_=>True
 |k :: ks,f,u,c=>(∃v,u c=some v/\FzC ro g B k (f c) v)/\FzR ro g B ks f u (c+1)
end
abbrev FzS (ro:Addr->Option V) (g:Nat->Option O) (B:Nat) (ks:List Kd) (rows:Rows) (v:V):Prop:=FzC ro g B (.sl ks) (.l rows) v
mutual
theorem FzC.mono {g g':Nat->Option O} {B B':Nat} (hg:∀id o,id < B->g id=some o->g' id=some o) (hB:B<=B'):∀(k:Kd) (d:D) (v:V),FzC ro g B k d v->FzC ro g' B' k d v
 |.int _,_,_,h=>by simpa [FzC] using h
 |.bool,_,_,h=>by simpa [FzC] using h
 |.str,_,_,h=>by simpa [FzC] using h
 |.fnc _,_,_,h=>by simpa [FzC] using h
 |.pt k,_,_,h=>by
  simp only [FzC] at h ⊢
  exact h.mono hg hB fun u hu=>FzC.mono hg hB k _ u hu
 |.clo f k,_,_,h=>by
  simp only [FzC] at h ⊢
  obtain ⟨w,h1,h2⟩:=h
  exact ⟨w,h1,h2.mono hg hB fun u hu=>FzC.mono hg hB k _ u hu⟩
 |.sl ks,d,v,h=>by
  simp only [FzC] at h ⊢
  obtain ⟨h0,h⟩:=h
  refine ⟨h0,?_⟩
  rcases h with h |⟨id,off,cap,h1,h2,h3,h4,t,m,h5,h6,h7⟩ |⟨a,cap,h1,h2,h3,h4⟩
  ·exact .inl h
  ·exact .inr (.inl ⟨id,off,cap,h1,h2,h3,by omega,t,m,hg _ _ h4 h5,h6,fun i hi=>FzR.mono hg hB ks _ _ 0 (h7 i hi)⟩)
  exact .inr (.inr ⟨a,cap,h1,h2,h3,fun i hi=>FzR.mono hg hB ks _ _ 0 (h4 i hi)⟩)
theorem FzR.mono {g g':Nat->Option O} {B B':Nat} (hg:∀id o,id < B->g id=some o->g' id=some o) (hB:B<=B'):∀(ks:List Kd) (f:Nat->D) (u:Nat->Option V) (c:Nat),FzR ro g B ks f u c->FzR ro g' B' ks f u c
 |[],_,_,_,_=>trivial
 |k :: ks,f,u,c,h=>by
  simp only [FzR] at h ⊢
  obtain ⟨⟨v,h1,h2⟩,h3⟩:=h
  exact ⟨⟨v,h1,FzC.mono hg hB k _ v h2⟩,FzR.mono hg hB ks f u (c+1) h3⟩
end
theorem FzR.cells {g:Nat->Option O} {B:Nat}:∀(ks:List Kd) (f:Nat->D) (u u':Nat->Option V) (c c':Nat),(∀j,j < ks.length->u (c+j)=u' (c'+j))->∀f',(∀j,f (c+j)=f' (c'+j))->FzR ro g B ks f u c->FzR ro g B ks f' u' c'
 |[],_,_,_,_,_,_,_,_,_=>trivial
 |k :: ks,f,u,u',c,c',h,f',hf,hr=>by
  simp only [FzR] at hr ⊢
  obtain ⟨⟨v,h1,h2⟩,h3⟩:=hr
  refine ⟨⟨v,?_,?_⟩,FzR.cells ks f u u' (c+1) (c'+1) (fun j hj=>?_) f' (fun j=>?_) h3⟩
  ·rw [<-h1];have:=h 0 (by simp);simpa using this.symm
  ·have:=hf 0;simp only [kF] at this;rw [<-this];exact h2
  ·have:=h (j+1) (by simp;omega);rw [show c+1+j=c+(j+1) by omega,show c'+1+j=c'+(j+1) by omega];exact this
  have:=hf (j+1);rw [show c+1+j=c+(j+1) by omega,show c'+1+j=c'+(j+1) by omega];exact this
theorem FzR.get {g:Nat->Option O} {B:Nat}:∀(ks:List Kd) (f:Nat->D) (u:Nat->Option V) (c:Nat),FzR ro g B ks f u c->∀j k,ks[j]?=some k->∃v,u (c+j)=some v/\FzC ro g B k (f (c+j)) v
 |[],_,_,_,_,j,k,h=>by simp at h
 |k0 :: ks,f,u,c,hr,0,k,h=>by
  simp only [FzR] at hr
  simp only [zK,zA] at h
  subst h
  exact hr.1
 |k0 :: ks,f,u,c,hr,j+1,k,h=>by
  simp only [FzR] at hr
  have:=FzR.get ks f u (c+1) hr.2 j k (by simpa using h)
  rw [show c+(j+1)=c+1+j by omega]
  exact this
theorem FzR.of {g:Nat->Option O} {B:Nat}:∀(ks:List Kd) (f:Nat->D) (u:Nat->Option V) (c:Nat),(∀j k,ks[j]?=some k->∃v,u (c+j)=some v/\FzC ro g B k (f (c+j)) v)->FzR ro g B ks f u c
 |[],_,_,_,_=>trivial
 |k0 :: ks,f,u,c,h=>by
  simp only [FzR]
  refine ⟨by simpa using h 0 k0 (by simp),FzR.of ks f u (c+1) fun j k hk=>?_⟩
  have:=h (j+1) k (by simpa using hk)
  rw [show c+(j+1)=c+1+j by omega] at this
  exact this
theorem FzC.one {g:Nat->Option O} {B:Nat}:∀{k:Kd} {d:D} {v:V},FzC ro g B k d v->one1 v=true
 |.int _,_,_,h=>by simp only [FzC] at h;obtain ⟨_,rfl⟩:=h;rfl
 |.bool,_,_,h=>by simp only [FzC] at h;obtain ⟨_,rfl⟩:=h;rfl
 |.str,_,_,h=>by simp only [FzC] at h;obtain ⟨_,rfl⟩:=h;rfl
 |.fnc _,_,_,h=>by simp only [FzC] at h;obtain ⟨_,rfl⟩:=h;rfl
 |.pt _,_,_,h=>by simp only [FzC] at h;rcases h with ⟨_,_,_,_,_,rfl,_⟩ |⟨_,_,rfl,_⟩<;>rfl
 |.clo _ _,_,_,h=>by simp only [FzC] at h;obtain ⟨_,rfl,_⟩:=h;rfl
 |.sl ks,_,_,h=>by
  simp only [FzC] at h
  rcases h.2 with ⟨_,rfl⟩ |⟨_,_,_,rfl,_⟩ |⟨_,_,rfl,_⟩<;>rfl
structure Cx (ro:Addr->Option V) where
 ids:Nat->Nat
 hdr:Nat->V
 g:Nat->Option O
 bd:Nat->Nat
def VwR (C:Cx ro) (nm lo n:Nat) (v:V):Prop:=
 (C.hdr nm=.nils/\v=.nils/\n=0)\/∃es len cap0 off cap,C.hdr nm=.slc (C.ids nm) es 0 len cap0/\v=.slc (C.ids nm) es off n cap/\(n=0/\off=0\/off=lo * es)/\(∀c,cap=some c->n<=c/\∃c0,cap0=some c0/\c<=c0)/\lo+n<=len/\(lo=0->cap=cap0)
def FelR (C:Cx ro) (b:Nat) (ks:List Kd) (rows:Rows) (i off:Nat) (v:V):Prop:=
 (∃id base t m,v=.ptr id (base+off)/\id < C.bd b/\C.g id=some (.cells t m)/\base+ks.length<=m/\FzR ro C.g (C.bd b) ks (gt rows i) (fun c=>t.get (base+c)) 0)\/
 ∃a:Addr,v=.rptr (a.add off)/\FzR ro C.g (C.bd b) ks (gt rows i) (fun c=>ro (a.add c)) 0
theorem PtR.fel {C:Cx ro} {b:Nat} {k:Kd} {d:D} {v:V} (h:PtR ro C.g (C.bd b) (fun u=>FzC ro C.g (C.bd b) k d u) v):FelR C b [k] [[d]] 0 0 v:=by
 rcases h with ⟨id,base,t,m,u,h1,h2,h3,h4,h5,h6⟩ |⟨a,u,h1,h2,h3⟩
 ·refine .inl ⟨id,base,t,m,h1,h2,h3,h4,?_⟩
  simp only [FzR]
  exact ⟨⟨u,h5,h6⟩,trivial⟩
 have e:a.add 0=a:=by simp [Addr.add]
 refine .inr ⟨a,by rw [e];exact h1,?_⟩
 simp only [FzR]
 exact ⟨⟨u,by rw [e];exact h2,h3⟩,trivial⟩
theorem FelR.pt {C:Cx ro} {b:Nat} {k:Kd} {rows:Rows} {i:Nat} {v:V} (h:FelR C b [k] rows i 0 v):PtR ro C.g (C.bd b) (fun u=>FzC ro C.g (C.bd b) k (gt rows i 0) u) v:=by
 rcases h with ⟨id,base,t,m,h1,h2,h3,h4,h5⟩ |⟨a,h1,h2⟩
 ·simp only [FzR] at h5
  obtain ⟨⟨u,h5,h6⟩,_⟩:=h5
  exact .inl ⟨id,base,t,m,u,h1,h2,h3,h4,h5,h6⟩
 simp only [FzR] at h2
 obtain ⟨⟨u,h2,h3⟩,_⟩:=h2
 exact .inr ⟨a.add 0,u,h1,h2,h3⟩
def isHdr (v:V):Prop:=v=.nils\/∃id es off len cap,v=.slc id es off len cap
mutual
def RvS (C:Cx ro) (n:Nat):SV->V->Prop
 |.unk,_=>False
 |.int k x,v=>v=.int k x
 |.bool b,v=>v=.bool b
 |.sym b,v=>v=.bool b
 |.str s,v=>v=.str s
 |.ptr nm off,v=>nm < n/\v=.ptr (C.ids nm) off
 |.el nm es i off,v=>nm < n/\v=.ptr (C.ids nm) (i * es+off)
 |.fel b ks rows i off,v=>b<=n/\FelR C b ks rows i off v
 |.nilp,v=>v=.nilp
 |.slc nm,v=>nm < n/\v=C.hdr nm/\isHdr v
 |.vw nm lo m,v=>nm < n/\VwR C nm lo m v
 |.sc nm es off m,v=>nm < n/\0 < es/\∃cap,v=.slc (C.ids nm) es off m cap/\(∀c,cap=some c->m<=c)
 |.fz b ks rows,v=>b<=n/\FzS ro C.g (C.bd b) ks rows v
 |.mrow nm rn i,v=>(nm < n/\rn < n)/\isHdr v/\∃l,C.hdr rn=.tup l/\l[i]?=some v
 |.mel nm i,v=>nm < n/\v=.ptr (C.ids nm) i
 |.nils,v=>v=.nils
 |.map nm,v=>nm < n/\v=.map (C.ids nm)
 |.nilm,v=>v=.nilm
 |.fn f a b,v=>∃x y,RvSL C n a x/\RvSL C n b y/\v=.fn (.func f) x y
 |.yield nm,v=>nm < n/\v=.fn (.yield (C.ids nm)) [] []
 |.nilf,v=>v=.nilf
 |.iface t x,v=>∃y,RvS C n x y/\v=.iface t y
 |.nili,v=>v=.nili
 |.agg l,v=>∃x,RvSL C n l x/\v=.agg x
 |.tup l,v=>∃x,RvSL C n l x/\v=.tup x
def RvSL (C:Cx ro) (n:Nat):List SV->List V->Prop
 |[],[]=>True
 |s :: l,v :: x=>RvS C n s v/\RvSL C n l x
 |_,_=>False
end
structure Ag (n:Nat) (C C':Cx ro):Prop where
 ids:∀nm,nm < n->C'.ids nm=C.ids nm
 hdr:∀nm,nm < n->C'.hdr nm=C.hdr nm
 bd:∀b,b<=n->C'.bd b=C.bd b
 g:∀id o,C.g id=some o->C'.g id=some o
theorem Ag.refl (n:Nat) (C:Cx ro):Ag n C C:=⟨fun _ _=>rfl,fun _ _=>rfl,fun _ _=>rfl,fun _ _ h=>h⟩
theorem Ag.trans {n m:Nat} {C C1 C2:Cx ro} (hn:n<=m) (h:Ag n C C1) (k:Ag m C1 C2):Ag n C C2:=
 ⟨fun nm hh=>(k.ids nm (by omega)).trans (h.ids nm hh),fun nm hh=>(k.hdr nm (by omega)).trans (h.hdr nm hh),fun b hb=>(k.bd b (by omega)).trans (h.bd b hb),fun id o hg=>k.g id o (h.g id o hg)⟩
mutual
theorem RvS.ag {n m:Nat} {C C':Cx ro} (ha:Ag n C C') (hn:n<=m):∀(s:SV) (v:V),RvS C n s v->RvS C' m s v
 |.unk,_,h=>by simp [RvS] at h
 |.int ..,_,h=>by simpa [RvS] using h
 |.bool _,_,h=>by simpa [RvS] using h
 |.sym _,_,h=>by simpa [RvS] using h
 |.str _,_,h=>by simpa [RvS] using h
 |.ptr nm off,_,h=>by simp only [RvS] at h ⊢;exact ⟨by omega,by rw [ha.ids _ h.1];exact h.2⟩
 |.el nm es i off,_,h=>by simp only [RvS] at h ⊢;exact ⟨by omega,by rw [ha.ids _ h.1];exact h.2⟩
 |.fel b ks rows i off,_,h=>by
  simp only [RvS] at h ⊢
  obtain ⟨h0,⟨id,base,t,mm,h1,h2,h3,h4,h5⟩ |⟨a,h1,h2⟩⟩:=h
  ·exact ⟨by omega,.inl ⟨id,base,t,mm,h1,by rw [ha.bd _ h0];exact h2,ha.g _ _ h3,h4,by rw [ha.bd _ h0];exact FzR.mono (fun id o _ hg=>ha.g id o hg) (zB _) _ _ _ _ h5⟩⟩
  exact ⟨by omega,.inr ⟨a,h1,by rw [ha.bd _ h0];exact FzR.mono (fun id o _ hg=>ha.g id o hg) (zB _) _ _ _ _ h2⟩⟩
 |.nilp,_,h=>by simpa [RvS] using h
 |.slc nm,_,h=>by simp only [RvS] at h ⊢;exact ⟨by omega,by rw [ha.hdr _ h.1];exact h.2⟩
 |.vw nm lo k,_,h=>by
  simp only [RvS,VwR] at h ⊢
  exact ⟨by omega,by rw [ha.hdr _ h.1,ha.ids _ h.1];exact h.2⟩
 |.sc nm es off k,_,h=>by simp only [RvS] at h ⊢;exact ⟨by omega,h.2.1,by rw [ha.ids _ h.1];exact h.2.2⟩
 |.fz b ks rows,_,h=>by simp only [RvS] at h ⊢;exact ⟨by omega,by rw [ha.bd _ h.1];exact FzC.mono (fun id o _ hg=>ha.g id o hg) (zB _) _ _ _ h.2⟩
 |.mrow nm rn i,_,h=>by simp only [RvS] at h ⊢;exact ⟨⟨by omega,by omega⟩,h.2.1,by rw [ha.hdr _ h.1.2];exact h.2.2⟩
 |.mel nm i,_,h=>by simp only [RvS] at h ⊢;exact ⟨by omega,by rw [ha.ids _ h.1];exact h.2⟩
 |.nils,_,h=>by simpa [RvS] using h
 |.map nm,_,h=>by simp only [RvS] at h ⊢;exact ⟨by omega,by rw [ha.ids _ h.1];exact h.2⟩
 |.nilm,_,h=>by simpa [RvS] using h
 |.fn f a b,_,h=>by
  simp only [RvS] at h ⊢
  obtain ⟨x,y,h1,h2,h3⟩:=h
  exact ⟨x,y,RvSL.ag ha hn a x h1,RvSL.ag ha hn b y h2,h3⟩
 |.yield nm,_,h=>by simp only [RvS] at h ⊢;exact ⟨by omega,by rw [ha.ids _ h.1];exact h.2⟩
 |.nilf,_,h=>by simpa [RvS] using h
 |.iface t x,_,h=>by
  simp only [RvS] at h ⊢
  obtain ⟨y,h1,h2⟩:=h
  exact ⟨y,RvS.ag ha hn x y h1,h2⟩
 |.nili,_,h=>by simpa [RvS] using h
 |.agg l,_,h=>by
  simp only [RvS] at h ⊢
  obtain ⟨x,h1,h2⟩:=h
  exact ⟨x,RvSL.ag ha hn l x h1,h2⟩
 |.tup l,_,h=>by
  simp only [RvS] at h ⊢
  obtain ⟨x,h1,h2⟩:=h
  exact ⟨x,RvSL.ag ha hn l x h1,h2⟩
theorem RvSL.ag {n m:Nat} {C C':Cx ro} (ha:Ag n C C') (hn:n<=m):∀(l:List SV) (x:List V),RvSL C n l x->RvSL C' m l x
 |[],[],_=>trivial
 |s :: l,v :: x,h=>by simp only [RvSL] at h ⊢;exact ⟨RvS.ag ha hn s v h.1,RvSL.ag ha hn l x h.2⟩
 |[],_ :: _,h=>by simp [RvSL] at h
 |_ :: _,[],h=>by simp [RvSL] at h
end
theorem RvSL.length {C:Cx ro} {n:Nat}:∀{l:List SV} {x:List V},RvSL C n l x->x.length=l.length
 |[],[],_=>rfl
 |_ :: l,_ :: x,h=>by simp only [RvSL] at h;simp [RvSL.length h.2]
 |[],_ :: _,h=>by simp [RvSL] at h
 |_ :: _,[],h=>by simp [RvSL] at h
theorem RvSL.get {C:Cx ro} {n:Nat}:∀{l:List SV} {x:List V},RvSL C n l x->∀(i:Nat) (s:SV),l[i]?=some s->∃v,x[i]?=some v/\RvS C n s v
 |[],[],_,i,s,h=>by simp at h
 |s0 :: l,v :: x,h,0,s,hi=>by
  simp only [RvSL] at h
  simp only [zK,zA] at hi
  subst hi
  exact ⟨v,by simp,h.1⟩
 |_ :: l,_ :: x,h,i+1,s,hi=>by
  simp only [RvSL] at h
  simpa using RvSL.get h.2 i s (by simpa using hi)
 |[],_ :: _,h,_,_,_=>by simp [RvSL] at h
 |_ :: _,[],h,_,_,_=>by simp [RvSL] at h
theorem RvSL.append {C:Cx ro} {n:Nat}:∀{l l':List SV} {x x':List V},RvSL C n l x->RvSL C n l' x'->RvSL C n (l++l') (x++x')
 |[],_,[],_,_,h=>h
 |_ :: l,_,_ :: x,_,h,h'=>by simp only [RvSL,List.cons_append] at h ⊢;exact ⟨h.1,RvSL.append h.2 h'⟩
 |[],_,_ :: _,_,h,_=>by simp [RvSL] at h
 |_ :: _,_,[],_,h,_=>by simp [RvSL] at h
theorem RvSL.drop {C:Cx ro} {n:Nat}:∀{l:List SV} {x:List V} (k:Nat),RvSL C n l x->RvSL C n (l.drop k) (x.drop k)
 |[],[],k,h=>by simp [RvSL]
 |s :: l,v :: x,0,h=>h
 |s :: l,v :: x,k+1,h=>by simp only [RvSL] at h;simpa using RvSL.drop k h.2
 |[],_ :: _,_,h=>by simp [RvSL] at h
 |_ :: _,[],_,h=>by simp [RvSL] at h
theorem RvSL.take {C:Cx ro} {n:Nat}:∀{l:List SV} {x:List V} (k:Nat),RvSL C n l x->RvSL C n (l.take k) (x.take k)
 |[],[],k,h=>by simp [RvSL]
 |s :: l,v :: x,0,h=>by simp [RvSL]
 |s :: l,v :: x,k+1,h=>by simp only [RvSL] at h;simp only [qH,RvSL];exact ⟨h.1,RvSL.take k h.2⟩
 |[],_ :: _,_,h=>by simp [RvSL] at h
 |_ :: _,[],_,h=>by simp [RvSL] at h
theorem RvS.flat {C:Cx ro} {n:Nat} {s:SV} {v:V} (h:RvS C n s v):RvSL C n (flat s) (CX.flat v):=by
 cases s with
 |agg l=>simp only [RvS] at h;obtain ⟨x,h1,rfl⟩:=h;exact h1
 |_=>
  all_goals
   have hv:CX.flat v=[v]:=by
    cases v<;>first |rfl |skip
    all_goals (exfalso;simp [RvS,VwR,FelR,FzC,isHdr] at h)
   rw [hv]
   exact ⟨h,trivial⟩
def RegsS (C:Cx ro) (n:Nat) (l:List (Nat×SV)) (regs:T V):Prop:=∀t s,look l t=some s->s=.unk\/∃v,regs.get t=some v/\RvS C n s v
theorem RegsS.ag {n m:Nat} {C C':Cx ro} (ha:Ag n C C') (hn:n<=m) {l:List (Nat×SV)} {regs:T V} (h:RegsS C n l regs):RegsS C' m l regs:=fun t s hl=>by
 rcases h t s hl with h |⟨v,h1,h2⟩
 ·exact .inl h
 exact .inr ⟨v,h1,RvS.ag ha hn s v h2⟩
def AggR (a:Bool) (n:Nat) (v:V):Prop:=
 match a with
 |true=>∃l,v=.agg l/\l.length=n
 |false=>n=1/\one1 v=true
def EntR (C:Cx ro) (nx:Nat) (ka va:Bool) (kk vk:List Kd) (row:Nat->D) (e:V×V×Nat):Prop:=
 AggR ka kk.length e.1/\AggR va vk.length e.2.1/\FzR ro C.g nx (kk++vk) row (fun c=>(CX.flat e.1++CX.flat e.2.1)[c]?) 0
def RowO (C:Cx ro) (h:Nat->Option O) (nx:Nat) (ks:List Kd) (r:Rows) (v:V):Prop:=
 (0 < ks.length/\LenR ks r)/\((r=[]/\v=.nils)\/∃id t m cap,v=.slc id ks.length 0 r.length cap/\h id=some (.cells t m)/\r.length * ks.length<=m/\
   (∀c,cap=some c->r.length<=c/\c * ks.length<=m)/\∀i,i < r.length->FzR ro C.g nx ks (gt r i) (fun c=>t.get (i * ks.length+c)) 0)
def RowId (l:List V) (i id:Nat):Prop:=∃es off len cap,l[i]?=some (.slc id es off len cap)
def ObS (C:Cx ro) (n:Nat) (h:Nat->Option O) (nx nm:Nat):SO->Prop
 |.gone=>True
 |.cells l=>∃t,h (C.ids nm)=some (.cells t l.length)/\∀i s,l[i]?=some s->∃v,t.get i=some v/\one1 v=true/\RvS C n s v
 |.arr _ ks rows=>(0 < ks.length/\LenR ks rows)/\((rows=[]/\C.hdr nm=.nils)\/∃t m cap,C.hdr nm=.slc (C.ids nm) ks.length 0 rows.length cap/\h (C.ids nm)=some (.cells t m)/\rows.length * ks.length<=m/\
   (∀c,cap=some c->rows.length<=c/\c * ks.length<=m)/\∀i,i < rows.length->FzR ro C.g nx ks (gt rows i) (fun c=>t.get (i * ks.length+c)) 0)
 |.frz ks rows=>0 < ks.length/\FzS ro C.g nx ks rows (C.hdr nm)/\(rows=[]\/∃len cap,C.hdr nm=.slc (C.ids nm) ks.length 0 len cap)
 |.mat _ ks rows rn hole=>rn < n/\LenR [.sl ks] rows/\∃l,C.hdr rn=.tup l/\l.length=rows.length/\
   ((rows=[]/\C.hdr nm=.nils)\/∃t m cap,C.hdr nm=.slc (C.ids nm) 1 0 rows.length cap/\h (C.ids nm)=some (.cells t m)/\rows.length<=m/\
    (∀c,cap=some c->rows.length<=c/\c<=m)/\∀i,i < rows.length->hole≠some i->t.get i=l[i]?)/\
   (∀i v,l[i]?=some v->isHdr v/\(∃r,gt rows i 0=.l r)/\(hole≠some i->RowO C h nx ks (gt rows i 0).rows v))/\
   (∀i j id,hole≠some i->hole≠some j->RowId l i id->RowId l j id->i=j)/\∀i,hole≠some i->¬(C.hdr nm≠.nils/\RowId l i (C.ids nm))
 |.mp ka va kk vk ent=>∃l c,h (C.ids nm)=some (.map l c)/\l.length=ent.length/\∀i e,l[i]?=some e->EntR C nx ka va kk vk (gt ent i) e
 |.dfr b=>h (C.ids nm)=some (.dfr b)
 |.loop st j nt regs ps a b df=>df < n/\∃rg,h (C.ids nm)=some (.loop st j nt rg ps a b (C.ids df))/\RegsS C n regs rg
def ownS (C:Cx ro) (nm:Nat):SO->Prop
 |.cells _=>True
 |.arr ..=>C.hdr nm≠.nils
 |.mat ..=>C.hdr nm≠.nils
 |.mp ..=>True
 |.dfr _=>True
 |.loop ..=>True
 |_=>False
def subS (C:Cx ro):SO->Nat->Prop
 |.mat _ _ _ rn hole,id=>∃l i,C.hdr rn=.tup l/\hole≠some i/\RowId l i id
 |_,_=>False
def owns (C:Cx ro) (nm:Nat) (so:SO) (id:Nat):Prop:=(ownS C nm so/\C.ids nm=id)\/subS C so id
def OwnId (C:Cx ro) (objs:List (Nat×SO)) (id:Nat):Prop:=∃nm so,look objs nm=some so/\owns C nm so id
structure MSim (C:Cx ro) (objs:List (Nat×SO)) (n bar:Nat) (h:Nat->Option O) (nx:Nat):Prop where
 lt:∀nm so,look objs nm=some so->nm < n
 ob:∀nm so,look objs nm=some so->ObS C n h nx nm so
 own':∀nm so,look objs nm=some so->∀id,owns C nm so id->bar<=id/\id < nx/\C.g id=none
 inj':∀nm nm' so so',look objs nm=some so->look objs nm'=some so'->∀id,owns C nm so id->owns C nm' so' id->nm=nm'
 fz:∀id o,C.g id=some o->id < nx/\h id=some o
 bd:∀b,b<=n->C.bd b<=nx
 top:C.bd n=nx
 barle:bar<=nx
 z:C.bd 0=0
theorem MSim.own {C:Cx ro} {objs:List (Nat×SO)} {n bar:Nat} {h:Nat->Option O} {nx:Nat} (hM:MSim C objs n bar h nx):∀nm so,look objs nm=some so->ownS C nm so->bar<=C.ids nm/\C.ids nm < nx/\C.g (C.ids nm)=none:=
 fun nm so hl ho=>hM.own' nm so hl _ (.inl ⟨ho,rfl⟩)
theorem MSim.inj {C:Cx ro} {objs:List (Nat×SO)} {n bar:Nat} {h:Nat->Option O} {nx:Nat} (hM:MSim C objs n bar h nx):∀nm nm' so so',look objs nm=some so->look objs nm'=some so'->ownS C nm so->ownS C nm' so'->nm≠nm'->C.ids nm≠C.ids nm':=
 fun nm nm' so so' hl hl' ho ho' hne e=>hne (hM.inj' nm nm' so so' hl hl' _ (.inl ⟨ho,rfl⟩) (.inl ⟨ho',e.symm⟩))
def rnLt (n:Nat):SO->Prop
 |.mat _ _ _ rn _=>rn < n
 |_=>True
theorem MSim.rn {C:Cx ro} {objs:List (Nat×SO)} {n bar:Nat} {h:Nat->Option O} {nx:Nat} (hM:MSim C objs n bar h nx) {nm:Nat} {so:SO} (hl:look objs nm=some so):rnLt n so:=by
 have:=hM.ob _ _ hl
 cases so<;>first |trivial |skip
 simp only [ObS] at this
 exact this.1
theorem subS_ag {C C':Cx ro} {n:Nat} (ha:Ag n C C') {so:SO} (hr:rnLt n so) {id:Nat}:subS C' so id↔subS C so id:=by
 cases so<;>simp only [subS]
 rw [ha.hdr _ hr]
structure MExt (C:Cx ro) (objs:List (Nat×SO)) (n:Nat) (h:Nat->Option O) (nx:Nat) (C':Cx ro) (objs':List (Nat×SO)) (n':Nat) (h':Nat->Option O) (nx':Nat):Prop where
 ag:Ag n C C'
 le:n<=n'
 nxle:nx<=nx'
 keep:∀id,id < nx->¬OwnId C objs id->h' id=h id
 own:∀id,OwnId C' objs' id->OwnId C objs id\/nx<=id
 g:∀id o,C'.g id=some o->C.g id=some o\/OwnId C objs id\/nx<=id
theorem MExt.refl (C:Cx ro) (objs:List (Nat×SO)) (n:Nat) (h:Nat->Option O) (nx:Nat):MExt C objs n h nx C objs n h nx:=
 ⟨Ag.refl _ _,zB _,zB _,fun _ _ _=>rfl,fun _ h=>.inl h,fun _ _ h=>.inl h⟩
theorem MExt.trans {C C1 C2:Cx ro} {objs objs1 objs2:List (Nat×SO)} {n n1 n2:Nat} {h h1 h2:Nat->Option O} {nx nx1 nx2:Nat} (a:MExt C objs n h nx C1 objs1 n1 h1 nx1) (b:MExt C1 objs1 n1 h1 nx1 C2 objs2 n2 h2 nx2):MExt C objs n h nx C2 objs2 n2 h2 nx2:=by
 refine ⟨a.ag.trans a.le b.ag,zT a.le b.le,zT a.nxle b.nxle,fun id hid ho=>?_,fun id ho=>?_,fun id o hg=>?_⟩
 ·rw [b.keep id (xH hid a.nxle) fun hh=>?_,a.keep id hid ho]
  rcases a.own id hh with h' |h'
  ·exact ho h'
  omega
 ·rcases b.own id ho with h' |h'
  ·exact a.own id h'
  exact .inr (zT a.nxle h')
 rcases b.g id o hg with h' |h' |h'
 ·exact a.g id o h'
 ·exact .inr (a.own id h')
 exact .inr (.inr (zT a.nxle h'))
theorem MExt.less {C C':Cx ro} {objs objs':List (Nat×SO)} {n m n':Nat} {h h':Nat->Option O} {nx nx':Nat} (hm:m<=n) (a:MExt C objs n h nx C' objs' n' h' nx'):MExt C objs m h nx C' objs' n' h' nx':=
 ⟨⟨fun nm hh=>a.ag.ids nm (by omega),fun nm hh=>a.ag.hdr nm (by omega),fun b hb=>a.ag.bd b (by omega),a.ag.g⟩,zT hm a.le,a.nxle,a.keep,a.own,a.g⟩
def Inert (C:Cx ro) (objs:List (Nat×SO)) (bar:Nat) (h:Nat->Option O) (nx i:Nat):Prop:=h i=some (.dfr true)/\bar<=i/\i < nx/\¬OwnId C objs i/\C.g i=none
inductive DfR (C:Cx ro) (objs:List (Nat×SO)) (bar:Nat) (h:Nat->Option O) (nx:Nat):List Nat->List Nat->Prop
 |nil:DfR C objs bar h nx [] []
 |nm {d i:Nat} {r s:List Nat} (e:C.ids d=i) (lt:i < nx) (k:DfR C objs bar h nx r s):DfR C objs bar h nx (d :: r) (i :: s)
 |mk {i:Nat} {r s:List Nat} (x:Inert C objs bar h nx i) (n:i∉s) (k:DfR C objs bar h nx r s):DfR C objs bar h nx r (i :: s)
theorem Inert.ext {C C':Cx ro} {objs objs':List (Nat×SO)} {n n' bar:Nat} {h h':Nat->Option O} {nx nx' i:Nat} (e:MExt C objs n h nx C' objs' n' h' nx') (k:Inert C objs bar h nx i):Inert C' objs' bar h' nx' i:=by
 obtain ⟨a,b,c,d,f⟩:=k
 refine ⟨by rw [e.keep i c d];exact a,b,xH c e.nxle,fun ho=>?_,?_⟩
 ·rcases e.own i ho with h |h
  ·exact d h
  omega
 cases hg:C'.g i with
 |none=>rfl
 |some o=>
  rcases e.g i o hg with h |h |h
  ·rw [f] at h;cases h
  ·exact absurd h d
  omega
theorem DfR.ext {C C':Cx ro} {objs objs':List (Nat×SO)} {n n' bar:Nat} {h h':Nat->Option O} {nx nx':Nat} (e:MExt C objs n h nx C' objs' n' h' nx') {l s:List Nat} (k:DfR C objs bar h nx l s):(∀d∈l,d < n)->DfR C' objs' bar h' nx' l s:=by
 induction k with
 |nil=>exact fun _=>.nil
 |nm he hlt _ ih=>exact fun hl=>.nm (by rw [e.ag.ids _ (hl _ (.head _))];exact he) (xH hlt e.nxle) (ih fun d hd=>hl d (.tail _ hd))
 |mk hx hn _ ih=>exact fun hl=>.mk (hx.ext e) hn (ih hl)
theorem DfR.lt {C:Cx ro} {objs:List (Nat×SO)} {bar:Nat} {h:Nat->Option O} {nx:Nat} {l s:List Nat} (k:DfR C objs bar h nx l s):∀i∈s,i < nx:=by
 induction k with
 |nil=>intro i hi;cases hi
 |nm he hlt _ ih=>
  intro i hi
  rcases zL.1 hi with rfl |hi
  ·exact hlt
  exact ih i hi
 |mk hx hn _ ih=>
  intro i hi
  rcases zL.1 hi with rfl |hi
  ·exact hx.2.2.1
  exact ih i hi
structure Sim (C:Cx ro) (Y:St) (S:CX.St):Prop where
 nt:S.nt=Y.nt
 regs:RegsS C Y.next Y.regs S.regs
 m:MSim C Y.objs Y.next S.bar S.h.get S.nx
 df:DfR C Y.objs S.bar S.h.get S.nx Y.df S.df
 dflt:∀d∈Y.df,d < Y.next
end HX

namespace HX
open Go CX
variable {ro:Addr->Option V}
def EvOk (C:Cx ro) (n:Nat) (ev:Operand->SV) (evc:Operand->Option V):Prop:=∀x,ev x=.unk\/∃v,evc x=some v/\RvS C n (ev x) v
structure TOk (E:CX.Env):Prop where
 zlen:∀t ty,E.T t=some ty->ty.zero.length=ty.size
 zone:∀t ty,E.T t=some ty->∀v∈ty.zero,one1 v=true
 zt:∀t ty,E.T t=some ty->∀i,i < ty.size->ty.zt.get i=ty.zero[i]?
theorem TOk.of {E:CX.Env} {P:Program} (h:EnvOk E P):TOk E:=⟨fun t ty h'=>(h.T t ty h').zlen,fun t ty h'=>(h.T t ty h').zone,fun t ty h'=>(h.T t ty h').zt⟩
theorem EvOk.get {C:Cx ro} {n:Nat} {ev:Operand->SV} {evc:Operand->Option V} (h:EvOk C n ev evc) {x:Operand} {s:SV} (hx:ev x=s) (hs:s≠.unk):∃v,evc x=some v/\RvS C n s v:=by
 rcases h x with h |h
 ·exact absurd (hx.symm.trans h) hs
 rw [hx] at h;exact h
theorem kindEq_refl (k:IntKind):kindEq k k=true:=by cases k<;>rfl
theorem wrap_in {k:IntKind} (hk:signedK k=true) {n:Int} (h:k.min<=n/\n<=k.max):k.wrap n=n:=by
 revert h
 cases k<;>simp [signedK] at hk<;>simp only [IntKind.wrap,IntKind.min,IntKind.max,IntKind.bits,IntKind.signed]<;>simp<;>intro h1 h2<;>split<;>omega
theorem asB_ok {C:Cx ro} {n:Nat} {s:SV} {b:Bool} (h:asB s=some b) {v:V} (hv:RvS C n s v):v=.bool b:=by
 cases s<;>simp only [asB,zA] at h<;>first |cases h |skip
 all_goals (simp only [RvS] at hv;exact hv)
section
variable {E:Env} (hA:E.A=Ar.std) {C:Cx ro} {n:Nat}
include hA
theorem arith_ok {k:IntKind} {r:Int} {q:QR} (h:arith E.A k r=some q) (hp:∀p∈q.pre,p):∃m,q.sv=.int k m/\m=k.wrap r:=by
 unfold arith at h
 split at h
 next hk=>
  simp only [q1,zA] at h
  subst h
  have:=hp _ (.head _)
  rw [hA] at this
  exact ⟨r,rfl,(wrap_in hk this).symm⟩
 simp only [q0,zA] at h
 subst h
 rw [hA]
 exact ⟨_,rfl,rfl⟩
theorem lEq_dec (a b:List Nat):lEq a b=decide (a=b):=by
 rw [kM,lEq_iff,xQ]
theorem eqC_ok {z:V} {x y:SV} {b:Bool} (h:eqC E.A z x y=some b) {vx vy:V} (hx:RvS C n x vx) (hy:RvS C n y vy):eqK z vx vy=some b:=by
 unfold eqC at h
 split at h
 ·simp only [RvS] at hx hy
  subst hx hy
  split at h
  next hk=>
   have hk:=zV hk
   subst hk
   simp only [zA] at h
   subst h
   simp only [eqK,eq1,kindEq_refl,hA,Ar.std]
   rw [ieq_eq];rfl
  cases h
 ·simp only [RvS] at hx hy
  subst hx hy
  simp only [zA] at h
  subst h
  simp only [eqK,eq1,hA,Ar.std]
  rw [lEq_dec hA]
 ·split at h
  next a b ha hb=>
   simp only [zA] at h
   subst h
   have hx:=asB_ok ha hx
   have hy:=asB_ok hb hy
   subst hx hy
   rw [hA]
   cases a<;>cases b<;>rfl
  cases h
 cases h
theorem eqCs_ok:∀{zs:List V} {xs ys:List SV} {b:Bool},eqCs E.A zs xs ys=some b->∀{us vs:List V},RvSL C n xs us->RvSL C n ys vs->eqZ zs us vs=some b:=by
 intro zs
 induction zs with
 |nil=>
  intro xs ys b h us vs hx hy
  cases xs<;>cases ys<;>simp only [eqCs,zA] at h<;>try (cases h)
  cases us with
  |nil=>cases vs with
   |nil=>rfl
   |cons _ _=>simp [RvSL] at hy
  |cons _ _=>simp [RvSL] at hx
 |cons z zs ih=>
  intro xs ys b h us vs hx hy
  match xs,ys,us,vs,hx,hy with
  |x :: xs,y :: ys,u :: us,v :: vs,hx,hy=>
   simp only [RvSL] at hx hy
   unfold eqCs at h
   split at h
   next heq=>simp at heq
   next heq1 heq2 heq3=>
    simp only [xL] at heq1 heq2 heq3
    obtain ⟨rfl,rfl⟩:=heq1
    obtain ⟨rfl,rfl⟩:=heq2
    obtain ⟨rfl,rfl⟩:=heq3
    have h1:=eqC_ok hA h hx.1 hy.1
    cases us with
    |cons _ _=>simp [RvSL] at hx
    |nil=>cases vs with
     |cons _ _=>simp [RvSL] at hy
     |nil=>simp only [eqZ,h1];cases b<;>rfl
   next heq1 heq2 heq3=>
    simp only [xL] at heq1 heq2 heq3
    obtain ⟨rfl,rfl⟩:=heq1
    obtain ⟨rfl,rfl⟩:=heq2
    obtain ⟨rfl,rfl⟩:=heq3
    split at h
    next p q hp hq=>
     simp only [zA] at h
     subst h
     have h1:=eqC_ok hA hp hx.1 hy.1
     have h2:=ih hq hx.2 hy.2
     simp only [eqZ,h1,hA,Ar.std]
     cases p
     ·rfl
     simp [h2]
    cases h
   cases h
  |[],[],_,_,_,_=>simp [eqCs] at h
  |[],_ :: _,_,_,_,_=>simp [eqCs] at h
  |_ :: _,[],_,_,_,_=>simp [eqCs] at h
  |_ :: _,_ :: _,[],_,hx,_=>simp [RvSL] at hx
  |_ :: _,_ :: _,_ :: _,[],_,hy=>simp [RvSL] at hy
theorem isSl_ok {k:TK} (h:isSl k=true):∃e,k=.slice e:=by cases k<;>simp_all [isSl]
theorem isPtr_ok {k:TK} (h:isPtr k=true):∃e,k=.ptr e:=by cases k<;>simp_all [isPtr]
theorem fz_ne {g:Nat->Option O} {B:Nat} {ks:List Kd} {rows:Rows} {v:V} (h:FzS ro g B ks rows v) (hr:1<=rows.length):(∃id es off len cap,v=.slc id es off len cap)\/∃a len cap,v=.rslc a len cap:=by
 simp only [FzC,D.rows] at h
 rcases h.2 with ⟨h,_⟩ |⟨id,off,cap,h,_⟩ |⟨a,cap,h,_⟩
 ·rw [h] at hr;simp at hr
 ·exact .inl ⟨_,_,_,_,_,h⟩
 exact .inr ⟨_,_,_,h⟩
theorem xeq_ok {Y : St} {bar : Nat} {h : Nat -> Option O} {nx : Nat} (hM : MSim C Y.objs n bar h nx) {t : Nat} {x y : SV} {ps : List Prop} {b : Bool} (he : xeq E Y t x y = some (ps, b)) (hp : ∀ p ∈ ps, p) {vx vy : V} (hx : RvS C n x vx) (hy : RvS C n y vy) :
    vEq E.E t vx vy=some b:=by
  unfold xeq at he
  split at he
  · simp only [RvS] at hx hy
    subst hx hy
    split at he
    · rename_i hk
      have hk:=zV hk
      subst hk
      simp only [zA,zI] at he
      obtain ⟨rfl,rfl⟩:=he
      simp only [vEq,eq1,kindEq_refl,hA,Ar.std]
      rw [ieq_eq];rfl
    · cases he
  · simp only [RvS] at hx hy
    subst hx hy
    simp only [zA,zI] at he
    obtain ⟨rfl,rfl⟩:=he
    simp only [vEq,hA,Ar.std,lEq_dec hA]
  · simp only [RvS] at hx hy
    obtain ⟨xs,hx,rfl⟩:=hx
    obtain ⟨ys,hy,rfl⟩:=hy
    split at he
    · rename_i ty hty
      split at he
      · rename_i hq
        split at he
        · rename_i p hpp
          simp only [zA,zI] at he
          obtain ⟨rfl,rfl⟩:=he
          simp only [vEq,hty,hq]
          exact eqCs_ok hA hpp hx hy
        · cases he
      · cases he
    · cases he
  · simp only [RvS] at hx hy
    subst hx hy
    split at he
    · rename_i hs
      obtain ⟨e,hs⟩:=isSl_ok hA hs
      simp only [zA,zI] at he
      obtain ⟨rfl,rfl⟩:=he
      simp [vEq,hs]
    · cases he
  · simp only [RvS] at hx hy
    subst hy
    split at he
    · rename_i hs
      obtain ⟨e,hs⟩:=isSl_ok hA hs
      simp only [zA,zI] at he
      obtain ⟨rfl,rfl⟩:=he
      have:=hp _ (.head _)
      rw [hA] at this
      rcases fz_ne hA hx.2 this with ⟨_,_,_,_,_,rfl⟩ |⟨_,_,_,rfl⟩<;>simp [vEq,hs]
    · cases he
  · simp only [RvS] at hx hy
    obtain ⟨_,rfl,_⟩:=hx
    subst hy
    split at he
    · rename_i hs hl
      obtain ⟨e,hs⟩:=isSl_ok hA hs
      simp only [zA,zI] at he
      obtain ⟨rfl,rfl⟩:=he
      have:=hp _ (.head _)
      rw [hA] at this
      have ho:=hM.ob _ _ hl
      simp only [ObS] at ho
      obtain ⟨_,ho |⟨_,_,_,ho,_⟩⟩:=ho
      · rw [ho.1] at this;simp [Ar.std] at this
      · rw [ho];simp [vEq,hs]
    · rename_i hs hl
      obtain ⟨e,hs⟩:=isSl_ok hA hs
      simp only [zA,zI] at he
      obtain ⟨rfl,rfl⟩:=he
      have:=hp _ (.head _)
      rw [hA] at this
      have ho:=hM.ob _ _ hl
      simp only [ObS] at ho
      rcases fz_ne hA ho.2.1 this with ⟨_,_,_,_,_,e⟩ |⟨_,_,_,e⟩<;>(rw [e];simp [vEq,hs])
    · cases he
  all_goals
    first
    | (simp only [RvS, FelR] at hx hy
       subst hy
       split at he
       · rename_i hs
         obtain ⟨e,hs⟩:=isPtr_ok hA hs
         simp only [zA,zI] at he
         obtain ⟨rfl,rfl⟩:=he
         first
         |(subst hx;simp [vEq,hs])
         |(obtain ⟨_,rfl⟩:=hx;simp [vEq,hs])
         |(obtain ⟨_,⟨_,_,_,_,rfl,_⟩ |⟨_,rfl,_⟩⟩:=hx<;>simp [vEq,hs])
       · cases he)
    | (split at he
       · rename_i a b' ha hb hk
         simp only [zA,zI] at he
         obtain ⟨rfl,rfl⟩:=he
         have hx:=asB_ok ha hx
         have hy:=asB_ok hb hy
         subst hx hy
         have hk:kindOf E.E t=.bool:=by revert hk;cases kindOf E.E t<;>simp [isBool]
         simp only [vEq,hk,hA,Ar.std]
         cases a<;>cases b'<;>rfl
       · cases he)
    |cases he
theorem bin_int {op:BinOp} {t:Nat} {k k':IntKind} {a b:Int} {q:QR} {Y:St} (h:xbin E Y op t (.int k a) (.int k' b)=some q) (h1:op≠.eql) (h2:op≠.neq) (hp:∀p∈q.pre,p) :
  ∃v,RvS C n q.sv v/\∀f,bin E.E op t (.int k a) (.int k' b) f=f v:=by
 have arr:∀(r:Int) (q:QR),arith E.A k r=some q->(∀p∈q.pre,p)->∃v,RvS C n q.sv v/\∀f:V->R,wr k r (fun n=>f (.int k n))=f v:=by
  intro r q h hp
  obtain ⟨m,h1,h2⟩:=arith_ok hA h hp
  refine ⟨.int k m,by rw [h1];simp [RvS],fun f=>?_⟩
  rw [wr_eq,h2]
 have fin:∀(op:BinOp) (x:Int) (g:(V->R)->R) (q:QR),(∀f,g f=f (.int k x))->q.sv=.int k x->∃v,RvS C n q.sv v/\∀f,g f=f v:=fun _ x g q hg hq=>⟨.int k x,by rw [hq];simp [RvS],hg⟩
 have finB:∀(x:Bool) (g:(V->R)->R) (q:QR),(∀f,g f=f (.bool x))->q.sv=.sym x->∃v,RvS C n q.sv v/\∀f,g f=f v:=fun x g q hg hq=>⟨.bool x,by rw [hq];simp [RvS],hg⟩
 cases op
 case eql=>exact absurd rfl h1
 case neq=>exact absurd rfl h2
 case add=>(simp only [xbin] at h;split at h;cases h;rename_i hk0;(have hk0:=zV hk0);subst hk0);obtain ⟨v,h3,h4⟩:=arr _ _ h hp;exact ⟨v,h3,fun f=>by simp only [bin,kindEq_refl];rw [hA] at h4;exact h4 f⟩
 case sub=>(simp only [xbin] at h;split at h;cases h;rename_i hk0;(have hk0:=zV hk0);subst hk0);obtain ⟨v,h3,h4⟩:=arr _ _ h hp;exact ⟨v,h3,fun f=>by simp only [bin,kindEq_refl];rw [hA] at h4;exact h4 f⟩
 case mul=>(simp only [xbin] at h;split at h;cases h;rename_i hk0;(have hk0:=zV hk0);subst hk0);obtain ⟨v,h3,h4⟩:=arr _ _ h hp;exact ⟨v,h3,fun f=>by simp only [bin,kindEq_refl];rw [hA] at h4;exact h4 f⟩
 case quo=>
  (simp only [xbin] at h;split at h;cases h;rename_i hk0;(have hk0:=zV hk0);subst hk0)
  split at h
  next hk=>
   simp only [zA] at h
   subst h
   have p1:=hp _ (.head _)
   have p2:=hp _ (.tail _ (.head _))
   rw [hA] at p1 p2
   refine fin .quo _ _ _ (fun f=>?_) rfl
   have p1:b≠0:=p1
   simp only [bin,kindEq_refl,iz_eq,qN p1]
   rw [wr_eq,hA]
   exact congrArg (fun z=>f (.int k z)) (wrap_in hk p2)
  simp only [q1,zA] at h
  subst h
  have p1:=hp _ (.head _)
  rw [hA] at p1
  have p1:b≠0:=p1
  refine fin .quo _ _ _ (fun f=>?_) rfl
  simp only [bin,kindEq_refl,iz_eq,qN p1]
  rw [wr_eq,hA]
  rfl
 case rem=>
  (simp only [xbin] at h;split at h;cases h;rename_i hk0;(have hk0:=zV hk0);subst hk0)
  simp only [q1,zA] at h
  subst h
  have p1:=hp _ (.head _)
  rw [hA] at p1
  have p1:b≠0:=p1
  refine fin .quo _ _ _ (fun f=>?_) rfl
  simp only [bin,kindEq_refl,iz_eq,qN p1]
  rw [fI_eq,hA]
  rfl
 case and=>(simp only [xbin] at h;split at h;cases h;rename_i hk0;(have hk0:=zV hk0);subst hk0);simp only [q0,zA] at h;subst h;exact fin .and _ _ _ (fun f=>by simp only [bin,kindEq_refl];rw [fI_eq,hA];rfl) rfl
 case or=>(simp only [xbin] at h;split at h;cases h;rename_i hk0;(have hk0:=zV hk0);subst hk0);simp only [q0,zA] at h;subst h;exact fin .and _ _ _ (fun f=>by simp only [bin,kindEq_refl];rw [fI_eq,hA];rfl) rfl
 case xor=>(simp only [xbin] at h;split at h;cases h;rename_i hk0;(have hk0:=zV hk0);subst hk0);simp only [q0,zA] at h;subst h;exact fin .and _ _ _ (fun f=>by simp only [bin,kindEq_refl];rw [fI_eq,hA];rfl) rfl
 case andNot=>(simp only [xbin] at h;split at h;cases h;rename_i hk0;(have hk0:=zV hk0);subst hk0);simp only [q0,zA] at h;subst h;exact fin .and _ _ _ (fun f=>by simp only [bin,kindEq_refl];rw [fI_eq,hA];rfl) rfl
 case lss=>(simp only [xbin] at h;split at h;cases h;rename_i hk0;(have hk0:=zV hk0);subst hk0);simp only [q0,zA] at h;subst h;exact finB _ _ _ (fun f=>by simp only [bin,kindEq_refl];rw [fB_eq,ile_eq,hA];show _=f (.bool (decide (a < b)));by_cases hh:b<=a<;>simp [hh,Int.not_lt.2,Int.not_le.1]) rfl
 case geq=>(simp only [xbin] at h;split at h;cases h;rename_i hk0;(have hk0:=zV hk0);subst hk0);simp only [q0,zA] at h;subst h;exact finB _ _ _ (fun f=>by simp only [bin,kindEq_refl];rw [fB_eq,ile_eq,hA];rfl) rfl
 case gtr=>(simp only [xbin] at h;split at h;cases h;rename_i hk0;(have hk0:=zV hk0);subst hk0);simp only [q0,zA] at h;subst h;exact finB _ _ _ (fun f=>by simp only [bin,kindEq_refl];rw [fB_eq,ile_eq,hA];show _=f (.bool (decide (b < a)));by_cases hh:a<=b<;>simp [hh,Int.not_lt.2,Int.not_le.1]) rfl
 case leq=>(simp only [xbin] at h;split at h;cases h;rename_i hk0;(have hk0:=zV hk0);subst hk0);simp only [q0,zA] at h;subst h;exact finB _ _ _ (fun f=>by simp only [bin,kindEq_refl];rw [fB_eq,ile_eq,hA];rfl) rfl
 case shl=>
  simp only [xbin,q1,zA] at h
  subst h
  have p1:=hp _ (.head _)
  rw [hA] at p1
  have p1:0<=b:=p1
  refine fin .quo _ _ _ (fun f=>?_) rfl
  simp only [bin,ile_eq,kZ p1]
  rw [wr_eq,hA]
  have e:Int.ofNat (Nat.pow 2 (Nat.min b.toNat k.bits))=2 ^ (Nat.min b.toNat k.bits):=by
   show ((2 ^ (Nat.min b.toNat k.bits):Nat):Int)=_
   simp
  rw [e]
  rfl
 case shr=>
  simp only [xbin,q1,zA] at h
  subst h
  have p1:=hp _ (.head _)
  rw [hA] at p1
  have p1:0<=b:=p1
  refine fin .quo _ _ _ (fun f=>?_) rfl
  simp only [bin,ile_eq,kZ p1]
  rw [fI_eq,hA]
  show _=f (.int k (a.fdiv (2 ^ (Nat.min b.toNat k.bits))))
  (rw [fdiv_pow];try rfl)
 all_goals (simp only [xbin] at h;split at h<;>cases h)
end
end HX

namespace HX
open Go CX
variable {ro:Addr->Option V}
theorem bleT {a b:Nat} (h:a<=b):Nat.ble a b=true:=by rw [xV];exact h
theorem bltT {a b:Nat} (h:a < b):Nat.blt a b=true:=by rw [kB];exact h
mutual
theorem svV_ok {C:Cx ro} {n:Nat}:∀v:V,svV v=.unk\/RvS C n (svV v) v
 |.int ..=>.inr (by simp [svV,RvS])
 |.bool _=>.inr (by simp [svV,RvS])
 |.str _=>.inr (by simp [svV,RvS])
 |.nilp=>.inr (by simp [svV,RvS])
 |.nils=>.inr (by simp [svV,RvS])
 |.nilm=>.inr (by simp [svV,RvS])
 |.nilf=>.inr (by simp [svV,RvS])
 |.nili=>.inr (by simp [svV,RvS])
 |.agg l=>by
  simp only [svV,aggK]
  split
  next h=>
   exact .inr (by simp only [RvS];exact ⟨l,svL_ok l h,rfl⟩)
  exact .inl rfl
 |.ptr ..=>.inl rfl
 |.slc ..=>.inl rfl
 |.map ..=>.inl rfl
 |.fn ..=>.inl rfl
 |.iface ..=>.inl rfl
 |.tup ..=>.inl rfl
 |.raw ..=>.inl rfl
 |.rptr _=>.inl rfl
 |.rslc ..=>.inl rfl
theorem svL_ok {C:Cx ro} {n:Nat}:∀l:List V,(svL l).all oneC=true->RvSL C n (svL l) l
 |[],_=>trivial
 |v :: l,h=>by
  simp only [svL,kA,zC] at h
  simp only [svL,RvSL]
  refine ⟨?_,svL_ok l h.2⟩
  rcases svV_ok (C:=C) (n:=n) v with h1 |h1
  ·rw [h1] at h;simp [oneC] at h
  exact h1
end
theorem evR_ok {C:Cx ro} {n:Nat} {l:List (Nat×SV)} {regs:T V} (h:RegsS C n l regs):EvOk C n (evR l) (CX.evR regs):=fun x=>by
 cases x with
 |tmp t=>
  simp only [evR,CX.evR]
  split
  next s hs=>
   exact h t s hs
  exact .inl rfl
 |const v=>
  simp only [evR,CX.evR]
  split
  next v hv=>
   rcases svV_ok (C:=C) (n:=n) v with h1 |h1
   ·exact .inl h1
   exact .inr ⟨v,hv,h1⟩
  exact .inl rfl
 |func f=>exact .inr ⟨_,rfl,by simp only [evR,RvS];exact ⟨[],[],trivial,trivial,rfl⟩⟩
 |global g=>exact .inl rfl
theorem one_of {C:Cx ro} {n:Nat} {s:SV} {v:V} (h:RvS C n s v) (ho:oneC s=true):one1 v=true:=by
 cases s<;>simp only [oneC] at ho<;>first |(exact absurd ho (by decide)) |skip
 all_goals (simp only [RvS] at h)
 case int=>subst h;rfl
 case mrow=>rcases h.2.1 with rfl |⟨_,_,_,_,_,rfl⟩<;>rfl
 case mel=>obtain ⟨_,rfl⟩:=h;rfl
 case bool=>subst h;rfl
 case sym=>subst h;rfl
 case str=>subst h;rfl
 case ptr=>obtain ⟨_,rfl⟩:=h;rfl
 case el=>obtain ⟨_,rfl⟩:=h;rfl
 case fel=>obtain ⟨_,⟨_,_,_,_,rfl,_⟩ |⟨_,rfl,_⟩⟩:=h<;>rfl
 case nilp=>subst h;rfl
 case slc=>obtain ⟨_,_,rfl |⟨_,_,_,_,_,rfl⟩⟩:=h<;>rfl
 case vw=>obtain ⟨_,⟨_,rfl,_⟩ |⟨_,_,_,_,_,_,rfl,_⟩⟩:=h<;>rfl
 case sc=>obtain ⟨_,_,_,rfl,_⟩:=h;rfl
 case fz=>exact FzC.one h.2
 case nils=>subst h;rfl
 case map=>obtain ⟨_,rfl⟩:=h;rfl
 case nilm=>subst h;rfl
 case fn=>obtain ⟨_,_,_,_,rfl⟩:=h;rfl
 case yield=>obtain ⟨_,rfl⟩:=h;rfl
 case nilf=>subst h;rfl
 case iface=>obtain ⟨_,_,rfl⟩:=h;rfl
 case nili=>subst h;rfl
theorem one_all {C:Cx ro} {n:Nat}:∀{l:List SV} {x:List V},RvSL C n l x->l.all oneC=true->oneAll x=true
 |[],[],_,_=>rfl
 |s :: l,v :: x,h,ho=>by
  simp only [RvSL] at h
  simp only [kA,zC] at ho
  simp only [oneAll,one_of h.1 ho.1,one_all h.2 ho.2]
 |[],_ :: _,h,_=>by simp [RvSL] at h
 |_ :: _,[],h,_=>by simp [RvSL] at h
theorem over_rel {C:Cx ro} {n:Nat}:∀(l:List SV) (i:Nat) (s:List SV) (x xs:List V),RvSL C n l x->RvSL C n s xs->RvSL C n (over l i s) (CX.over x i xs)
 |l,i,[],x,xs,h,h'=>by
  cases xs with
  |nil=>cases l<;>cases x<;>simpa [over,CX.over] using h
  |cons _ _=>simp [RvSL] at h'
 |[],i,s0 :: s,x,xs,h,h'=>by
  cases x with
  |nil=>cases xs with
   |nil=>simp [RvSL] at h'
   |cons _ _=>simp [over,CX.over,RvSL]
  |cons _ _=>simp [RvSL] at h
 |a :: l,0,s0 :: s,x,xs,h,h'=>by
  cases x with
  |nil=>simp [RvSL] at h
  |cons y x=>cases xs with
   |nil=>simp [RvSL] at h'
   |cons z xs=>
    simp only [RvSL] at h h'
    simp only [over,CX.over,RvSL]
    exact ⟨h'.1,over_rel l 0 s x xs h.2 h'.2⟩
 |a :: l,i+1,s0 :: s,x,xs,h,h'=>by
  cases x with
  |nil=>simp [RvSL] at h
  |cons y x=>cases xs with
   |nil=>simp [RvSL] at h'
   |cons z xs=>
    simp only [RvSL] at h
    simp only [over,CX.over,RvSL]
    exact ⟨h.1,over_rel l i (s0 :: s) x (z :: xs) h.2 h'⟩
theorem over_one:∀(l:List SV) (i:Nat) (s:List SV),l.all oneC=true->s.all oneC=true->(over l i s).all oneC=true
 |l,i,[],h,_=>by cases l<;>simpa [over] using h
 |[],i,_ :: _,_,_=>by simp [over]
 |a :: l,0,b :: s,h,h'=>by
  simp only [kA,zC] at h h'
  simp only [over,kA,zC]
  exact ⟨h'.1,over_one l 0 s h.2 h'.2⟩
 |a :: l,i+1,b :: s,h,h'=>by
  simp only [kA,zC] at h
  simp only [over,kA,zC]
  exact ⟨h.1,over_one l i (b :: s) h.2 h'⟩
theorem over_len' {α:Type}:∀(l:List α) (i:Nat) (s:List α),(over l i s).length=l.length
 |l,i,[]=>by cases l<;>rfl
 |[],i,_ :: _=>rfl
 |a :: l,0,b :: s=>by simp [over,over_len' l 0 s]
 |a :: l,i+1,b :: s=>by simp [over,over_len' l i (b :: s)]
section
variable {E:Env} {C:Cx ro} {n:Nat} {ev:Operand->SV} {evc:Operand->Option V} (hev:EvOk C n ev evc)
include hev
theorem ev_flat {x:Operand} (ho:(flat (ev x)).all oneC=true):∃v,evc x=some v/\RvS C n (ev x) v/\RvSL C n (flat (ev x)) (CX.flat v)/\oneAll (CX.flat v)=true/\CX.len (CX.flat v)=(flat (ev x)).length:=by
 rcases hev x with h |⟨v,h1,h2⟩
 ·rw [h] at ho;simp [flat,oneC] at ho
 have h3:=h2.flat
 exact ⟨v,h1,h2,h3,one_all h3 ho,by rw [len_eq,h3.length]⟩
theorem fillS_ok {fs:List (Nat×Nat)}:∀(ps:List (Nat×Operand)) (l l':List SV),fillS E fs ev ps l=some l'->∀x,RvSL C n l x->l.all oneC=true->∃x',RvSL C n l' x'/\l'.all oneC=true/\l'.length=l.length/\∀k,CX.fillS E.E fs evc ps x k=k x'
 |[],l,l',h,x,hx,ho=>by
  simp only [fillS,zA] at h
  subst h
  exact ⟨x,hx,ho,rfl,fun _=>rfl⟩
 |(i,y) :: ps,l,l',h,x,hx,ho=>by
  simp only [fillS] at h
  split at h
  rotate_left
  ·cases h
  rename_i o ft hi
  split at h
  next ty hty=>
   split at h
   next hb=>
    simp only [zC,beqN_iff,bleN_iff] at hb
    obtain ⟨⟨b1,b2⟩,b3⟩:=hb
    obtain ⟨v,e1,e2,e3,e4,e5⟩:=ev_flat hev b3
    obtain ⟨x',f1,f2,f3,f4⟩:=fillS_ok ps _ _ h (CX.over x o (CX.flat v)) (over_rel _ _ _ _ _ hx e3) (over_one _ _ _ ho b3)
    refine ⟨x',f1,f2,by rw [f3,over_len'],fun k=>?_⟩
    simp only [CX.fillS,nth_eq,hi,e1,hty,e4]
    have e6:(Nat.beq (CX.len (CX.flat v)) ty.size && Nat.ble (Nat.add o (CX.len (CX.flat v))) (CX.len x) && true)=true:=by
     simp only [Bool.and_true,zC]
     exact ⟨by rw [e5,b1];exact xA _,bleT (by rw [e5,len_eq,hx.length];exact b2)⟩
    rw [e6]
    exact f4 k
   cases h
  cases h
theorem fillA_ok {es:Nat}:∀(ps:List (Nat×Operand)) (l l':List SV),fillA es ev ps l=some l'->∀x,RvSL C n l x->l.all oneC=true->∃x',RvSL C n l' x'/\l'.all oneC=true/\l'.length=l.length/\∀k,CX.fillA es evc ps x k=k x'
 |[],l,l',h,x,hx,ho=>by
  simp only [fillA,zA] at h
  subst h
  exact ⟨x,hx,ho,rfl,fun _=>rfl⟩
 |(i,y) :: ps,l,l',h,x,hx,ho=>by
  simp only [fillA] at h
  split at h
  next hb=>
   simp only [zC,beqN_iff,bleN_iff] at hb
   obtain ⟨⟨b1,b2⟩,b3⟩:=hb
   obtain ⟨v,e1,e2,e3,e4,e5⟩:=ev_flat hev b3
   obtain ⟨x',f1,f2,f3,f4⟩:=fillA_ok ps _ _ h (CX.over x (i * es) (CX.flat v)) (over_rel _ _ _ _ _ hx e3) (over_one _ _ _ ho b3)
   refine ⟨x',f1,f2,by rw [f3,over_len'],fun k=>?_⟩
   simp only [CX.fillA,e1,e4]
   have e6:(Nat.beq (CX.len (CX.flat v)) es && Nat.ble (Nat.add (Nat.mul i es) (CX.len (CX.flat v))) (CX.len x) && true)=true:=by
    simp only [Bool.and_true,zC]
    exact ⟨by rw [e5,b1];exact xA _,bleT (by rw [e5,len_eq,hx.length];exact b2)⟩
   rw [e6]
   exact f4 k
  cases h
def Yields (C:Cx ro) (n:Nat) (s:SV) (g:(V->R)->R):Prop:=∃v,RvS C n s v/\∀k,g k=k v
theorem build_ok {t:Nat} {ps:Array (Nat×Operand)} {q:QR} (h:xbuild E t ps.toList ev=some q):Yields C n q.sv (opP E.E evc (.build t ps)):=by
 unfold xbuild at h
 split at h
 rotate_left
 ·cases h
 rename_i ty hty
 split at h
 next fs hk=>
  split at h
  next l h1 h2=>
   simp only [q0,zA] at h
   subst h
   obtain ⟨x',f1,f2,f3,f4⟩:=fillS_ok hev _ _ _ h2 ty.zero (svL_ok _ h1) h1
   refine ⟨.agg x',by simp only [RvS];exact ⟨x',f1,rfl⟩,fun k=>?_⟩
   simp only [opP,hty,hk,f4,fL_eq]
  cases h
 next m e hk=>
  split at h
  next ety hety=>
   split at h
   next l h1 h2=>
    simp only [q0,zA] at h
    subst h
    obtain ⟨x',f1,f2,f3,f4⟩:=fillA_ok hev _ _ _ h2 ty.zero (svL_ok _ h1) h1
    refine ⟨.agg x',by simp only [RvS];exact ⟨x',f1,rfl⟩,fun k=>?_⟩
    simp only [opP,hty,hk,hety,f4,fL_eq]
   cases h
  cases h
 cases h
theorem evL_list:∀(l:List Operand),(l.map ev).all knownC=true->∃x,RvSL C n (l.map ev) x/\∀k:List V->R,evL evc l k=k x
 |[],_=>⟨[],trivial,fun _=>rfl⟩
 |y :: l,h=>by
  simp only [kD,kA,zC] at h
  obtain ⟨x,h1,h2⟩:=evL_list l h.2
  rcases hev y with hh |⟨v,e1,e2⟩
  ·rw [hh] at h;simp [knownC] at h
  refine ⟨v :: x,by simp only [kD,RvSL];exact ⟨e2,h1⟩,fun k=>?_⟩
  simp only [evL,e1,h2]
end
theorem pack_ok {C:Cx ro} {n:Nat} {agg:Bool} {l:List SV} {x:List V} {s:SV} (h:pack agg l=some s) (hl:RvSL C n l x):∃v,RvS C n s v/\∀k:V->R,packR agg x k=k v:=by
 unfold pack at h
 split at h
 ·simp only [zA] at h
  subst h
  exact ⟨.agg x,by simp only [RvS];exact ⟨x,hl,rfl⟩,fun _=>rfl⟩
 split at h
 ·simp only [zA] at h
  subst h
  match x,hl with
  |[v],hl=>simp only [RvSL] at hl;exact ⟨v,hl.1,fun _=>rfl⟩
  |[],hl=>simp [RvSL] at hl
  |_ :: _ :: _,hl=>simp [RvSL] at hl
 cases h
section
variable {E:Env} (hA:E.A=Ar.std) {C:Cx ro} {n:Nat}
theorem fieldAddr_ok {t i:Nat} {x:SV} {vx:V} (hx:RvS C n x vx) {q:QR} (h:xfieldAddr E t x i=some q) {evc:Operand->Option V} {o:Operand} (ho:evc o=some vx):Yields C n q.sv (opP E.E evc (.fieldAddr t o i)):=by
 unfold xfieldAddr at h
 split at h
 rotate_left
 ·cases h
 rename_i fs hk
 split at h
 rotate_left
 ·cases h
 rename_i off ft hi
 split at h
 rotate_left
 ·cases h
 rename_i ty hty
 split at h
 rotate_left
 ·cases h
 rename_i hpos
 have hpos:=zV hpos
 obtain ⟨m,hm⟩:∃m,ty.size=m+1:=⟨ty.size - 1,by omega⟩
 split at h
 ·simp only [q0,zA] at h
  subst h
  simp only [RvS] at hx
  obtain ⟨h1,rfl⟩:=hx
  refine ⟨_,by simp only [RvS];exact ⟨h1,rfl⟩,fun k=>?_⟩
  simp only [opP,hk,ho,nth_eq,hi,hty,hm,fN_eq]
  rfl
 ·simp only [q0,zA] at h
  subst h
  simp only [RvS] at hx
  obtain ⟨h1,rfl⟩:=hx
  refine ⟨_,by simp only [RvS];exact ⟨h1,rfl⟩,fun k=>?_⟩
  simp only [opP,hk,ho,nth_eq,hi,hty,hm,fN_eq]
  rw [<-xP];rfl
 ·simp only [q0,zA] at h
  subst h
  simp only [RvS,FelR] at hx
  obtain ⟨h0,⟨id,base,tt,mm,rfl,h2⟩ |⟨a,rfl,h2⟩⟩:=hx
  ·refine ⟨_,by simp only [RvS,FelR];exact ⟨h0,.inl ⟨id,base,tt,mm,rfl,h2⟩⟩,fun k=>?_⟩
   simp only [opP,hk,ho,nth_eq,hi,hty,hm,fN_eq]
   rw [<-xP];rfl
  refine ⟨_,by simp only [RvS,FelR];exact ⟨h0,.inr ⟨a,rfl,h2⟩⟩,fun k=>?_⟩
  simp only [opP,hk,ho,nth_eq,hi,hty,hm,CX.add_add]
 cases h
theorem field_ok {t i:Nat} {x:SV} {vx:V} (hx:RvS C n x vx) {q:QR} (h:xfield E t x i=some q) {evc:Operand->Option V} {o:Operand} (ho:evc o=some vx):Yields C n q.sv (opP E.E evc (.field t o i)):=by
 unfold xfield at h
 split at h
 rotate_left
 ·cases h
 rename_i fs l hk
 simp only [RvS] at hx
 obtain ⟨x,hx,rfl⟩:=hx
 split at h
 rotate_left
 ·cases h
 rename_i off ft hi
 split at h
 next ty hty=>
  split at h
  next hb=>
   simp only [bleN_iff] at hb
   split at h
   next v hv=>
    simp only [q0,zA] at h
    subst h
    obtain ⟨u,h1,h2⟩:=pack_ok hv (RvSL.take ty.size (RvSL.drop off hx))
    refine ⟨u,h1,fun k=>?_⟩
    have e6:Nat.ble (Nat.add off ty.size) (CX.len x)=true:=bleT (by rw [len_eq,hx.length];exact hb)
    simp only [opP,hk,ho,nth_eq,hi,hty,e6,fL_eq,take_eq,drop_eq,h2]
   cases h
  cases h
 cases h
theorem extract_ok {i:Nat} {l:List SV} {vx:V} (hx:RvS C n (.tup l) vx) {s:SV} (h:l[i]?=some s) {evc:Operand->Option V} {o:Operand} (ho:evc o=some vx):Yields C n s (opP E.E evc (.extract o i)):=by
 simp only [RvS] at hx
 obtain ⟨x,hx,rfl⟩:=hx
 obtain ⟨v,h1,h2⟩:=hx.get i s h
 exact ⟨v,h2,fun k=>by simp only [opP,ho,nth_eq,h1]⟩
include hA
theorem un_ok {op:UnOp} {t:Nat} {x:SV} {vx:V} (hx:RvS C n x vx) {q:QR} (h:xun E.A op x=some q) (hp:∀p∈q.pre,p) {evc:Operand->Option V} {o:Operand} (ho:evc o=some vx):Yields C n q.sv (opP E.E evc (.unOp op t o)):=by
 unfold xun at h
 split at h
 next k m=>
  simp only [RvS] at hx
  subst hx
  obtain ⟨r,h1,h2⟩:=arith_ok hA h hp
  refine ⟨.int k r,by rw [h1];simp [RvS],fun f=>?_⟩
  simp only [opP,ho,un]
  rw [wr_eq,h2,hA]
  have:Int.neg m=0 - m:=by show -m=0 - m;omega
  rw [this];rfl
 next b=>
  simp only [RvS] at hx
  subst hx
  simp only [q0,zA] at h
  subst h
  refine ⟨.bool (!b),by simp [RvS],fun f=>?_⟩
  simp only [opP,ho,un]
  cases b<;>rfl
 next b=>
  simp only [RvS] at hx
  subst hx
  simp only [q0,zA] at h
  subst h
  refine ⟨.bool (!b),by simp [RvS,hA,Ar.std],fun f=>?_⟩
  simp only [opP,ho,un]
  cases b<;>rfl
 cases h
theorem conv_ok {s t:Nat} {x:SV} {vx:V} (hx:RvS C n x vx) {q:QR} (h:xconv E s t x=some q) (hp:∀p∈q.pre,p) {evc:Operand->Option V} {o:Operand} (ho:evc o=some vx):Yields C n q.sv (opP E.E evc (.convert s t o)):=by
 unfold xconv at h
 split at h
 next ty k k' m hs ht=>
  simp only [RvS] at hx
  subst hx
  split at h
  next hk=>
   simp only [q1,zA] at h
   subst h
   have p1:=hp _ (.head _)
   rw [hA] at p1
   refine ⟨.int k m,by simp [RvS],fun f=>?_⟩
   simp only [opP,hs,ht,ho]
   rw [wr_eq,wrap_in hk p1]
  simp only [q0,zA] at h
  subst h
  refine ⟨.int k (k.wrap m),by simp [RvS,hA,Ar.std],fun f=>?_⟩
  simp only [opP,hs,ht,ho]
  rw [wr_eq]
 next ty b hs ht=>
  simp only [RvS] at hx
  subst hx
  simp only [q0,zA] at h
  subst h
  exact ⟨.str b,by simp [RvS],fun f=>by simp only [opP,hs,ht,ho]⟩
 cases h
theorem index_ok {t:Nat} {x i:SV} {vx vi:V} (hx:RvS C n x vx) (hi:RvS C n i vi) {q:QR} (h:xindex E t x i=some q) (hp:∀p∈q.pre,p) {evc:Operand->Option V} {o o':Operand} (ho:evc o=some vx) (ho':evc o'=some vi) :
  Yields C n q.sv (opP E.E evc (.index t o o')):=by
 unfold xindex at h
 split at h
 next ln e l k m hk=>
  simp only [RvS] at hx hi
  subst hi
  obtain ⟨x,hx,rfl⟩:=hx
  split at h
  rotate_left
  ·cases h
  rename_i ety hety
  split at h
  rotate_left
  ·cases h
  rename_i hb
  simp only [zC,xQ,bltN_iff,bleN_iff] at hb
  obtain ⟨⟨b1,b2⟩,b3⟩:=hb
  split at h
  next v hv=>
   simp only [q0,zA] at h
   subst h
   obtain ⟨u,h1,h2⟩:=pack_ok hv (RvSL.take ety.size (RvSL.drop (m.toNat * ety.size) hx))
   refine ⟨u,h1,fun k=>?_⟩
   obtain ⟨m',rfl⟩:∃m':Nat,m=Int.ofNat m':=⟨m.toNat,(Int.toNat_of_nonneg b1).symm⟩
   have e0:(Int.ofNat m').toNat=m':=rfl
   rw [e0] at b2 b3 h2
   have e6:(Nat.blt m' ln && Nat.ble (Nat.add (Nat.mul m' ety.size) ety.size) (CX.len x))=true:=by
    rw [zC]
    exact ⟨bltT b2,bleT (by rw [len_eq,hx.length];exact b3)⟩
   simp only [opP,hk,ho,ho',hety,e6,fL_eq,take_eq,drop_eq]
   exact h2 k
  cases h
 next s k m hk=>
  simp only [RvS] at hx hi
  subst hx hi
  simp only [zA] at h
  subst h
  have p1:=hp _ (.head _)
  have p2:=hp _ (.tail _ (.head _))
  rw [hA] at p1 p2
  have p1:0<=m:=p1
  have p2:m < (s.length:Int):=p2
  obtain ⟨m',rfl⟩:∃m':Nat,m=Int.ofNat m':=⟨m.toNat,(Int.toNat_of_nonneg p1).symm⟩
  have hlt:m' < s.length:=by have:((m':Nat):Int) < s.length:=p2;omega
  refine ⟨.int .u8 (Int.ofNat s[m']),?_,fun f=>?_⟩
  ·simp only [RvS,hA,Ar.std]
   have e0:(Int.ofNat m').toNat=m':=rfl
   rw [e0,zJ hlt];rfl
  simp only [opP,hk,ho,ho',nth_eq,zJ hlt]
 cases h
theorem minmax_ok (f:Int->Int->Int) (g:Int->Int->Bool) (hfg:∀a b,f a b=if g b a=true then b else a):∀(l:List SV) (k:IntKind) (m r:Int),minmax f k m l=some r->∀x,RvSL C n l x->∀F:V->R,CX.minmax g k m x F=F (.int k r)
 |[],k,m,r,h,x,hx,F=>by
  simp only [minmax,zA] at h
  subst h
  cases x with
  |nil=>rfl
  |cons _ _=>simp [RvSL] at hx
 |s :: l,k,m,r,h,x,hx,F=>by
  unfold minmax at h
  split at h
  ·cases ‹_=[]›
  rotate_left
  ·cases h
  rename_i k' m' l' heq
  simp only [xL] at heq
  obtain ⟨rfl,rfl⟩:=heq
  cases x with
  |nil=>simp [RvSL] at hx
  |cons v x=>
   simp only [RvSL] at hx
   obtain ⟨rfl,hx⟩:=hx
   split at h
   next hk=>
    have hk:=zV hk
    subst hk
    have ih:=minmax_ok f g hfg l k (f m m') r h x hx F
    simp only [CX.minmax,kindEq_refl]
    rw [hfg] at ih
    cases hg:g m' m with
    |true=>simpa [hg] using ih
    |false=>simpa [hg] using ih
   cases h
end
end HX

namespace HX
open Go CX
variable {ro:Addr->Option V}
theorem eSize_ok {E:Env} {t es:Nat} (h:eSize E t=some es):elemSize E.E t=some es/\0 < es/\∃e ty,kindOf E.E t=.slice e/\E.E.T e=some ty/\ty.size=es:=by
 unfold eSize at h
 split at h
 next e hk=>
  split at h
  next ty hty=>
   split at h
   next hp=>
    have hp:=zV hp
    simp only [zA] at h
    subst h
    refine ⟨?_,hp,e,ty,hk,hty,rfl⟩
    simp only [elemSize,hk,hty]
    obtain ⟨m,hm⟩:∃m,ty.size=m+1:=⟨ty.size - 1,by omega⟩
    rw [hm]
   cases h
  cases h
 cases h
def OptR (C:Cx ro) (n:Nat):Option SV->Option V->Prop
 |none,none=>True
 |some s,some v=>RvS C n s v
 |_,_=>False
theorem evO_ok {C:Cx ro} {n:Nat} {ev:Operand->SV} {evc:Operand->Option V} (hev:EvOk C n ev evc) (x:Option Operand) (h:∀y,x=some y->ev y≠.unk):∃o,evO evc x=some o/\OptR C n (x.map ev) o:=by
 cases x with
 |none=>exact ⟨none,rfl,trivial⟩
 |some y=>
  obtain ⟨v,h1,h2⟩:=hev.get rfl (h y rfl)
  exact ⟨some v,by simp [evO,h1],h2⟩
theorem norm_ok {C:Cx ro} {Y:St} {bar:Nat} {h:Nat->Option O} {nx:Nat} (hM:MSim C Y.objs Y.next bar h nx) {x:SV} {v:V} (hx:RvS C Y.next x v):RvS C Y.next (norm Y x) v:=by
 unfold norm
 split
 next nm=>
  split
  next ks rows hl=>
   have ho:=hM.ob _ _ hl
   simp only [ObS] at ho
   simp only [RvS] at hx ⊢
   obtain ⟨_,rfl,_⟩:=hx
   exact ⟨zB _,by rw [hM.top];exact ho.2.1⟩
  exact hx
 exact hx
theorem norm_unk {Y:St} {x:SV} (h:norm Y x≠.unk):x≠.unk:=fun e=>h (by subst e;rfl)
section
variable {E:Env} (hA:E.A=Ar.std)
include hA
theorem toNat_of {l:Int} (h:0<=l):∃m:Nat,l=Int.ofNat m/\l.toNat=m:=⟨l.toNat,(Int.toNat_of_nonneg h).symm,rfl⟩
theorem bounds_ok {C:Cx ro} {n m:Nat} {lo hi:Option SV} {p:List Prop} {l r:Nat} (h:bounds E.A m lo hi=some (p,l,r)) (hp:∀x∈p,x) {lo' hi':Option V} (h1:OptR C n lo lo') (h2:OptR C n hi hi') :
  bnd lo' 0=some l/\(∀d,(hi=none->d=m)->bnd hi' d=some (l+r))/\l+r<=m:=by
 rw [hA] at h
 unfold bounds at h
 split at h
 ·simp only [zA,zI] at h
  obtain ⟨rfl,rfl,rfl⟩:=h
  cases lo'<;>cases hi'<;>simp only [OptR] at h1 h2
  refine ⟨rfl,fun d hd=>?_,by omega⟩
  rw [hd rfl,zO];rfl
 next k a=>
  simp only [zA,zI] at h
  obtain ⟨rfl,rfl,rfl⟩:=h
  have p1:(0:Int)<=a:=hp _ (.head _)
  have p2:a<=(m:Int):=hp _ (.tail _ (.head _))
  cases lo'<;>cases hi'<;>simp only [OptR] at h1 h2
  simp only [RvS] at h1
  subst h1
  obtain ⟨b,rfl,hb⟩:=toNat_of hA p1
  have p2:((b:Nat):Int)<=m:=p2
  refine ⟨rfl,fun d hd=>?_,?_⟩
  ·rw [hd rfl]
   show some m=some (b+(m - b))
   rw [show b+(m - b)=m by omega]
  show b+(m - b)<=m;omega
 next k a=>
  simp only [zA,zI] at h
  obtain ⟨rfl,rfl,rfl⟩:=h
  have p1:(0:Int)<=a:=hp _ (.head _)
  have p2:a<=(m:Int):=hp _ (.tail _ (.head _))
  cases lo'<;>cases hi'<;>simp only [OptR] at h1 h2
  simp only [RvS] at h2
  subst h2
  obtain ⟨b,rfl,hb⟩:=toNat_of hA p1
  have p2:((b:Nat):Int)<=m:=p2
  refine ⟨rfl,fun d hd=>?_,?_⟩
  ·show some b=some (0+b)
   rw [zO]
  show 0+b<=m;omega
 rotate_left
 ·cases h
 rename_i k a k' a'
 simp only [zA,zI] at h
 obtain ⟨rfl,rfl,rfl⟩:=h
 have p1:(0:Int)<=a:=hp _ (.head _)
 have p2:a<=a':=hp _ (.tail _ (.head _))
 have p3:a'<=(m:Int):=hp _ (.tail _ (.tail _ (.head _)))
 cases lo'<;>cases hi'<;>simp only [OptR] at h1 h2
 simp only [RvS] at h1 h2
 subst h1 h2
 obtain ⟨b,rfl,hb⟩:=toNat_of hA p1
 obtain ⟨b',rfl,hb'⟩:=toNat_of hA (Int.le_trans p1 p2)
 have p2:((b:Nat):Int)<=b':=p2
 have p3:((b':Nat):Int)<=m:=p3
 refine ⟨rfl,fun d hd=>?_,?_⟩
 ·show some b'=some (b+(b' - b))
  rw [show b+(b' - b)=b' by omega]
 show b+(b' - b)<=m;omega
theorem sliceX_slc {es id off ln l r:Nat} {cap:Option Nat} {lo hi:Option V} (h1:bnd lo 0=some l) (h2:bnd hi ln=some (l+r)) (h3:cap=none->l+r<=ln) (hc:∀c,cap=some c->l+r<=c) :
  ∃off' cap',(∀k:V->R,CX.sliceX es (.slc id es off ln cap) lo hi k=k (.slc id es off' r cap'))/\(r=0/\off'=off\/off'=off+l * es)/\(∀c,cap'=some c->r<=c/\∃c0,cap=some c0/\c<=c0)/\off'<=off+l * es/\(l=0->cap'=cap):=by
 cases cap with
 |none=>
  refine ⟨off+l * es,none,fun k=>?_,.inr rfl,fun c hc=>by (cases hc),zB _,fun _=>rfl⟩
  simp only [CX.sliceX,xA,h1,h2,bleT (show l<=l+r by omega),bleT (h3 rfl),kL,fN_eq]
  rw [show Nat.sub (l+r) l=r by show l+r - l=r;omega];rfl
 |some c=>
  have hc:=hc c rfl
  have e:(Nat.ble l (l+r) && Nat.ble (l+r) c)=true:=by rw [bleT (show l<=l+r by omega),bleT (show l+r<=c by omega)];rfl
  by_cases hcl:c=l
  ·refine ⟨off,some 0,fun k=>?_,.inl ⟨by omega,rfl⟩,fun c' hc'=>by (cases hc';exact ⟨by omega,c,rfl,by omega⟩),by omega,fun h0=>by rw [hcl,h0]⟩
   simp only [CX.sliceX,xA,h1,h2,e,fN_eq,hcl]
   rw [show Nat.sub (l+r) l=r by show l+r - l=r;omega]
   subst hcl
   simp only [e]
  refine ⟨off+l * es,some (c - l),fun k=>?_,.inr rfl,fun c' hc'=>by (cases hc';exact ⟨by omega,c,rfl,by omega⟩),zB _,fun h0=>by rw [h0,kO]⟩
  have hne:Nat.beq c l=false:=by
   cases hb:Nat.beq c l with
   |true=>exact absurd (zF hb) hcl
   |false=>rfl
  simp only [CX.sliceX,xA,h1,h2,e,fN_eq,hne]
  rw [show Nat.sub (l+r) l=r by show l+r - l=r;omega];rfl
theorem sliceX_rslc {es ln l r cap:Nat} {a:Addr} {lo hi:Option V} (h1:bnd lo 0=some l) (h2:bnd hi ln=some (l+r)) (h3:l+r<=ln) (hc:ln<=cap) :
  ∃a' cap',(∀k:V->R,CX.sliceX es (.rslc a ln cap) lo hi k=k (.rslc a' r cap'))/\(r=0\/a'=a.add (l * es))/\r<=cap':=by
 have e:(Nat.ble l (l+r) && Nat.ble (l+r) cap)=true:=by rw [bleT (show l<=l+r by omega),bleT (show l+r<=cap by omega)];rfl
 by_cases hcl:cap=l
 ·refine ⟨a,0,fun k=>?_,.inl (by omega),by omega⟩
  subst hcl
  simp only [CX.sliceX,h1,h2,e,xA]
  rw [show Nat.sub (cap+r) cap=r by show cap+r - cap=r;omega]
 refine ⟨a.add (l * es),cap - l,fun k=>?_,.inr rfl,by omega⟩
 have hne:Nat.beq cap l=false:=by
  cases hb:Nat.beq cap l with
  |true=>exact absurd (zF hb) hcl
  |false=>rfl
 simp only [CX.sliceX,h1,h2,e,hne]
 rw [show Nat.sub (l+r) l=r by show l+r - l=r;omega];rfl
theorem gt_sub {rows:Rows} {l m i:Nat} (h:i < m):gt ((rows.drop l).take m) i=gt rows (l+i):=by
 funext c
 simp only [gt,zH,xJ,xR,h,if_true]
theorem slice_ok {C:Cx ro} {Y:St} {bar:Nat} {h:Nat->Option O} {nx:Nat} (hM:MSim C Y.objs Y.next bar h nx) {ev:Operand->SV} {evc:Operand->Option V} (hev:EvOk C Y.next ev evc) {t:Nat} {x:Operand} {lo hi:Option Operand} {q:QR}
  (hq:xslice E Y t (ev x) (lo.map ev) (hi.map ev)=some q) (hp:∀p∈q.pre,p):Yields C Y.next q.sv (opP E.E evc (.slice t x lo hi none)):=by
 have lohi:∀{m:Nat} {p:List Prop} {l r:Nat},bounds E.A m (lo.map ev) (hi.map ev)=some (p,l,r)->(∀y,lo=some y->ev y≠.unk)/\(∀y,hi=some y->ev y≠.unk):=by
  intro m p l r hb
  constructor<;>intro y hy hu
  ·rw [hy] at hb;simp only [zX,hu] at hb
   cases hi<;>simp [bounds] at hb
  rw [hy] at hb;simp only [zX,hu] at hb
  cases lo<;>simp [bounds] at hb
 unfold xslice at hq
 split at hq
 next b ks rows hx=>
  split at hq
  rotate_left
  ·cases hq
  rename_i es hes
  split at hq
  rotate_left
  ·cases hq
  rename_i hb
  simp only [beqN_iff] at hb
  subst hb
  split at hq
  rotate_left
  ·cases hq
  rename_i p l r hbd
  simp only [zA] at hq
  subst hq
  obtain ⟨v,ex,hv⟩:=hev.get (x:=x) rfl (norm_unk (Y:=Y) (by rw [hx];intro e;cases e))
  have hv:=norm_ok hM hv
  rw [hx] at hv
  simp only [RvS] at hv
  obtain ⟨hes1,hes2,e,ty,hk,_⟩:=eSize_ok hes
  obtain ⟨lo',el,hl⟩:=evO_ok hev lo (lohi hbd).1
  obtain ⟨hi',eh,hh⟩:=evO_ok hev hi (lohi hbd).2
  obtain ⟨b1,b2,b3⟩:=bounds_ok hA hbd hp hl hh
  have e0:E.A.len rows=rows.length:=by rw [hA];rfl
  rw [e0] at b2 b3
  have e1:E.A.sub' rows l r=(rows.drop l).take r:=by rw [hA];rfl
  have elen:((rows.drop l).take r).length=r:=by rw [zZ,xG];omega
  simp only [FzC,D.rows] at hv
  obtain ⟨hbn,⟨_,hrows,hlen0⟩,⟨hr,rfl⟩ |⟨id,off,cap,rfl,g2,g3,g4,tt,m,g5,g6,g7⟩ |⟨a,cap,rfl,g2,g3,g7⟩⟩:=hv
  all_goals (simp only [D.l.injEq] at hrows;subst hrows)
  ·refine ⟨.nils,?_,fun k=>?_⟩
   ·simp only [RvS,e1,FzC,D.rows]
    exact ⟨hbn,⟨_,rfl,⟨fun row h=>hlen0.1 row (kE (xT h)),by rw [elen];have:=hlen0.2;omega⟩⟩,.inl ⟨by rw [hr];simp,by trivial⟩⟩
   have hl0:l=0:=by rw [hr] at b3;simp at b3;omega
   have hr0:r=0:=by rw [hr] at b3;simp at b3;omega
   subst hl0 hr0
   have b2':bnd hi' 0=some 0:=b2 0 (fun _=>by rw [hr];rfl)
   simp only [opP,ex,el,eh,sliceA,hes1,CX.sliceX,b1,b2']
  ·have b2':=b2 rows.length (fun _=>rfl)
   obtain ⟨off',cap',s1,s2,s3,s4,_⟩:=sliceX_slc hA (es:=ks.length) (id:=id) (off:=off) (cap:=cap) b1 b2' (fun _=>b3) (fun c h=>zT b3 (g3 c h))
   refine ⟨.slc id ks.length off' r cap',?_,fun k=>?_⟩
   rotate_left
   ·simp only [opP,ex,el,eh,sliceA,hes1];exact s1 k
   simp only [RvS,e1,FzC,D.rows]
   have hle:off'+r * ks.length<=off+rows.length * ks.length:=by
    have:l * ks.length+r * ks.length<=rows.length * ks.length:=by rw [<-zR];exact zP _ b3
    omega
   refine ⟨hbn,⟨_,rfl,⟨fun row h=>hlen0.1 row (kE (xT h)),by rw [elen];have:=hlen0.2;omega⟩⟩,.inr (.inl ⟨id,off',cap',by rw [elen],g2,by rw [elen];exact fun c hc=>(s3 c hc).1,g4,tt,m,g5,by rw [elen];omega,fun i hi=>?_⟩)⟩
   rw [elen] at hi
   rw [gt_sub hA hi]
   have hoff:off'=off+l * ks.length:=by rcases s2 with ⟨h,_⟩ |h;omega;exact h
   refine FzR.cells _ _ _ _ 0 0 (fun j _=>?_) _ (fun _=>rfl) (g7 (l+i) (by omega))
   rw [hoff,zR]
   congr 1
   omega
  have b2':=b2 rows.length (fun _=>rfl)
  obtain ⟨a',cap',s1,s2,s3⟩:=sliceX_rslc hA (es:=ks.length) (a:=a) (cap:=cap) b1 b2' b3 g3
  refine ⟨.rslc a' r cap',?_,fun k=>?_⟩
  rotate_left
  ·simp only [opP,ex,el,eh,sliceA,hes1];exact s1 k
  simp only [RvS,e1,FzC,D.rows]
  refine ⟨hbn,⟨_,rfl,⟨fun row h=>hlen0.1 row (kE (xT h)),by rw [elen];have:=hlen0.2;omega⟩⟩,.inr (.inr ⟨a',cap',by rw [elen],g2,by rw [elen];exact s3,fun i hi=>?_⟩)⟩
  rw [elen] at hi
  rw [gt_sub hA hi]
  have hoff:a'=a.add (l * ks.length):=by rcases s2 with h |h;omega;exact h
  refine FzR.cells _ _ _ _ 0 0 (fun j _=>?_) _ (fun _=>rfl) (g7 (l+i) (by omega))
  simp only [hoff,CX.add_add,zR]
  congr 2
  omega
 next nm hx=>
  split at hq
  rotate_left
  ·cases hq
  rename_i og ks rows es hl hes
  split at hq
  rotate_left
  ·cases hq
  rename_i hb
  simp only [beqN_iff] at hb
  subst hb
  split at hq
  rotate_left
  ·cases hq
  rename_i p l r hbd
  simp only [zA] at hq
  subst hq
  obtain ⟨v,ex,hv⟩:=hev.get (x:=x) rfl (norm_unk (Y:=Y) (by rw [hx];intro e;cases e))
  have hv:=norm_ok hM hv
  rw [hx] at hv
  simp only [RvS] at hv
  obtain ⟨hnm,rfl,_⟩:=hv
  obtain ⟨hes1,hes2,e,ty,hk,_⟩:=eSize_ok hes
  obtain ⟨lo',el,hlo⟩:=evO_ok hev lo (lohi hbd).1
  obtain ⟨hi',eh,hh⟩:=evO_ok hev hi (lohi hbd).2
  obtain ⟨b1,b2,b3⟩:=bounds_ok hA hbd hp hlo hh
  have e0:E.A.len rows=rows.length:=by rw [hA];rfl
  rw [e0] at b2 b3
  have ho:=hM.ob _ _ hl
  simp only [ObS] at ho
  obtain ⟨_,⟨hr,hh0⟩ |⟨tt,m,cap,hh0,_,_,hc,_⟩⟩:=ho
  ·have hl0:l=0:=by rw [hr] at b3;simp at b3;omega
   have hr0:r=0:=by rw [hr] at b3;simp at b3;omega
   refine ⟨.nils,by simp only [RvS,VwR];exact ⟨hnm,.inl ⟨hh0,by trivial,hr0⟩⟩,fun k=>?_⟩
   subst hl0 hr0
   have b2':bnd hi' 0=some 0:=b2 0 (fun _=>by rw [hr];rfl)
   simp only [opP,ex,el,eh,hh0,sliceA,hes1,CX.sliceX,b1,b2']
  have b2':=b2 rows.length (fun _=>rfl)
  obtain ⟨off',cap',s1,s2,s3,_,s5⟩:=sliceX_slc hA (es:=ks.length) (id:=C.ids nm) (off:=0) (cap:=cap) b1 b2' (fun _=>b3) (fun c h=>zT b3 (hc c h).1)
  refine ⟨.slc (C.ids nm) ks.length off' r cap',?_,fun k=>?_⟩
  rotate_left
  ·simp only [opP,ex,el,eh,hh0,sliceA,hes1];exact s1 k
  simp only [RvS,VwR]
  exact ⟨hnm,.inr ⟨_,_,_,off',cap',hh0,rfl,by simpa using s2,s3,b3,s5⟩⟩
 next nm off hx=>
  split at hq
  rotate_left
  ·cases hq
  rename_i m e hk
  split at hq
  rotate_left
  ·cases hq
  rename_i ety l r hety hl hr
  split at hq
  rotate_left
  ·cases hq
  rename_i hb
  simp only [zC,bleN_iff,bltN_iff,xQ] at hb
  obtain ⟨⟨⟨c1,c2⟩,c3⟩,c4⟩:=hb
  simp only [q0,zA] at hq
  subst hq
  obtain ⟨v,ex,hv⟩:=hev.get (x:=x) rfl (norm_unk (Y:=Y) (by rw [hx];intro e;cases e))
  have hv:=norm_ok hM hv
  rw [hx] at hv
  simp only [RvS] at hv
  obtain ⟨hnm,rfl⟩:=hv
  have lit:∀{o:Option Operand} {d l:Nat},litN (o.map ev) d=some l->∃o',evO evc o=some o'/\bnd o' d=some l:=by
   intro o d l h
   cases o with
   |none=>simp only [Option.map_none,litN,zA] at h;subst h;exact ⟨none,rfl,rfl⟩
   |some y=>
    simp only [zX] at h
    unfold litN at h
    split at h
    ·cases ‹some _=none›
    next k a d' he=>
     simp only [zA] at he
     split at h
     next ha=>
      have ha:=zV ha
      simp only [zA] at h
      subst h
      obtain ⟨v,e1,e2⟩:=hev.get he (by intro e;cases e)
      simp only [RvS] at e2
      subst e2
      obtain ⟨b,rfl,hb⟩:=toNat_of hA ha
      exact ⟨some (.int a (Int.ofNat b)),by simp only [evO,e1],rfl⟩
     cases h
    cases h
  obtain ⟨lo',el,hl'⟩:=lit hl
  obtain ⟨hi',eh,hr'⟩:=lit hr
  have hne:Nat.beq m l=false:=by
   cases hb:Nat.beq m l with
   |true=>have:=zF hb;omega
   |false=>rfl
  have hz:Nat.beq ety.size 0=false:=by
   cases hb:Nat.beq ety.size 0 with
   |true=>have:=zF hb;omega
   |false=>rfl
  refine ⟨.slc (C.ids nm) ety.size (off+l * ety.size) (r - l) (some (m - l)),?_,fun k=>?_⟩
  ·simp only [RvS]
   exact ⟨hnm,c4,some (m - l),rfl,fun c hc=>by cases hc;omega⟩
  simp only [opP,ex,el,eh,sliceA,hk,hety,hl',hr',bleT c1,bleT c2,kL,hz,fN_eq,hne]
  rfl
 next hx=>
  split at hq
  rotate_left
  ·cases hq
  rename_i es hes
  split at hq
  rotate_left
  ·cases hq
  rename_i p l r hbd
  simp only [zA] at hq
  subst hq
  obtain ⟨v,ex,hv⟩:=hev.get (x:=x) rfl (norm_unk (Y:=Y) (by rw [hx];intro e;cases e))
  have hv:=norm_ok hM hv
  rw [hx] at hv
  simp only [RvS] at hv
  subst hv
  obtain ⟨hes1,hes2,e,ty,hk,_⟩:=eSize_ok hes
  obtain ⟨lo',el,hl⟩:=evO_ok hev lo (lohi hbd).1
  obtain ⟨hi',eh,hh⟩:=evO_ok hev hi (lohi hbd).2
  obtain ⟨b1,b2,b3⟩:=bounds_ok hA hbd hp hl hh
  have hl0:l=0:=by omega
  have hr0:r=0:=by omega
  subst hl0 hr0
  have b2':=b2 0 (fun _=>rfl)
  refine ⟨.nils,by simp [RvS],fun k=>?_⟩
  simp only [opP,ex,el,eh,sliceA,hes1,CX.sliceX,b1,b2']
 cases hq
theorem slice3_ok {C:Cx ro} {Y:St} {bar:Nat} {h:Nat->Option O} {nx:Nat} (hM:MSim C Y.objs Y.next bar h nx) {ev:Operand->SV} {evc:Operand->Option V} (hev:EvOk C Y.next ev evc) {t:Nat} {x lo hi mx:Operand} {q:QR}
  (hq:xslice3 E Y t (ev x) (ev lo) (ev hi) (ev mx)=some q) (hp:∀p∈q.pre,p):Yields C Y.next q.sv (opP E.E evc (.slice t x (some lo) (some hi) (some mx))):=by
 unfold xslice3 at hq
 split at hq
 rotate_left
 ·cases hq
 rename_i nm k1 l k2 b k3 m hx hlo hhi hmx
 split at hq
 rotate_left
 ·cases hq
 rename_i og ks rows es hl hes
 split at hq
 rotate_left
 ·cases hq
 rename_i hb
 simp only [beqN_iff] at hb
 subst hb
 simp only [zA] at hq
 subst hq
 have p1:=hp _ (.head _)
 have p2:=hp _ (.tail _ (.head _))
 have p3:=hp _ (.tail _ (.tail _ (.head _)))
 have p4:=hp _ (.tail _ (.tail _ (.tail _ (.head _))))
 have p5:=hp _ (.tail _ (.tail _ (.tail _ (.tail _ (.head _)))))
 rw [hA] at p1 p2 p3 p4 p5
 have p1:0<=l:=p1
 have p2:l<=b:=p2
 have p3:b<=m:=p3
 have p4:l < m:=p4
 have p5:m<=(rows.length:Int):=p5
 obtain ⟨l',rfl,el'⟩:=toNat_of hA p1
 obtain ⟨b',rfl,eb'⟩:=toNat_of hA (show 0<=b by omega)
 obtain ⟨m',rfl,em'⟩:=toNat_of hA (show 0<=m by omega)
 have p2:l'<=b':=by omega
 have p3:b'<=m':=by omega
 have p4:l' < m':=by omega
 have p5:m'<=rows.length:=by omega
 obtain ⟨v,ex,hv⟩:=hev.get (x:=x) rfl (norm_unk (Y:=Y) (by rw [hx];intro e;cases e))
 have hv:=norm_ok hM hv
 rw [hx] at hv
 simp only [RvS] at hv
 obtain ⟨hnm,rfl,_⟩:=hv
 obtain ⟨hes1,hes2,_⟩:=eSize_ok hes
 obtain ⟨v1,e1,f1⟩:=hev.get hlo (by intro e;cases e)
 obtain ⟨v2,e2,f2⟩:=hev.get hhi (by intro e;cases e)
 obtain ⟨v3,e3,f3⟩:=hev.get hmx (by intro e;cases e)
 simp only [RvS] at f1 f2 f3
 subst f1 f2 f3
 have ho:=hM.ob _ _ hl
 simp only [ObS] at ho
 obtain ⟨_,⟨hr,hh0⟩ |⟨tt,m0,cap,hh0,_⟩⟩:=ho
 ·rw [hr] at p5;simp at p5;omega
 have hne:Nat.beq m' l'=false:=by
  cases hb:Nat.beq m' l' with
  |true=>have:=zF hb;omega
  |false=>rfl
 have eo:E.A.toNat (E.A.mul (Int.ofNat l') (E.A.nat ks.length))=l' * ks.length:=by
  rw [hA]
  show Int.toNat ((l':Int) * (ks.length:Int))=_
  rw [<-Int.natCast_mul,kY]
 have en:E.A.nsub (E.A.toNat (Int.ofNat b')) (E.A.toNat (Int.ofNat l'))=b' - l':=by rw [hA];rfl
 refine ⟨.slc (C.ids nm) ks.length (0+l' * ks.length) (b' - l') (some (m' - l')),?_,fun k=>?_⟩
 ·simp only [RvS,eo,en,zO]
  exact ⟨hnm,hes2,some (m' - l'),rfl,fun c hc=>by cases hc;omega⟩
 have ec:(Nat.ble l' b' && Nat.ble b' m' && Nat.ble m' rows.length)=true:=by rw [bleT p2,bleT p3,bleT p5];rfl
 simp only [opP,evO,ex,e1,e2,e3,hh0,hes1,slice3X,xA,bnd,ec,hne,fN_eq]
 rfl
end
end HX

namespace HX
open Go CX
variable {ro:Addr->Option V}
section
variable {E:Env} (hA:E.A=Ar.std)
include hA
theorem indexAddr_ok {C:Cx ro} {Y:St} {bar:Nat} {h:Nat->Option O} {nx:Nat} (hM:MSim C Y.objs Y.next bar h nx) {t:Nat} {x i:SV} {vx vi:V} (hx:RvS C Y.next x vx) (hi:RvS C Y.next i vi) {q:QR}
  (hq:xindexAddr E Y t x i=some q) (hp:∀p∈q.pre,p) {evc:Operand->Option V} {o o':Operand} (ho:evc o=some vx) (ho':evc o'=some vi):Yields C Y.next q.sv (opP E.E evc (.indexAddr t o o')):=by
 unfold xindexAddr at hq
 split at hq
 next e hk=>
  split at hq
  rotate_left
  ·cases hq
  rename_i ety k a hety
  simp only [RvS] at hi
  subst hi
  have hx':=norm_ok hM hx
  split at hq
  next nm hn=>
   split at hq
   next og ks rows hl=>
    split at hq
    rotate_left
    ·cases hq
    rename_i hb
    simp only [zC,beqN_iff,xQ] at hb
    simp only [zA] at hq
    subst hq
    have p1:=hp _ (.head _)
    have p2:=hp _ (.tail _ (.head _))
    rw [hA] at p1 p2
    have p1:0<=a:=p1
    obtain ⟨b,rfl,hb'⟩:=toNat_of hA p1
    have p2:((b:Nat):Int) < ((rows.length:Nat):Int):=p2
    have p2:b < rows.length:=by omega
    rw [hn] at hx'
    simp only [RvS] at hx'
    obtain ⟨hnm,rfl,_⟩:=hx'
    have hob:=hM.ob _ _ hl
    simp only [ObS] at hob
    obtain ⟨_,⟨hr,hh0⟩ |⟨tt,m,cap,hh0,_,_,hc,_⟩⟩:=hob
    ·rw [hr] at p2;simp at p2
    refine ⟨.ptr (C.ids nm) (b * ks.length+0),?_,fun f=>?_⟩
    ·simp only [RvS,hA];exact ⟨hnm,rfl⟩
    have e6:(Nat.beq ety.size ks.length && Nat.blt b rows.length)=true:=by rw [hb.1,xA,bltT p2];rfl
    simp only [opP,hk,ho,ho',hety,hh0,e6,fN_eq]
    congr 2
    show 0+b * ks.length=_
    omega
   next og ks rows rn hole hl=>
    split at hq
    rotate_left
    ·cases hq
    rename_i hb
    simp only [beqN_iff] at hb
    simp only [zA] at hq
    subst hq
    have p1:=hp _ (.head _)
    have p2:=hp _ (.tail _ (.head _))
    rw [hA] at p1 p2
    have p1:0<=a:=p1
    obtain ⟨b,rfl,hb'⟩:=toNat_of hA p1
    have p2:((b:Nat):Int) < ((rows.length:Nat):Int):=p2
    have p2:b < rows.length:=by omega
    rw [hn] at hx'
    simp only [RvS] at hx'
    obtain ⟨hnm,rfl,_⟩:=hx'
    have hob:=hM.ob _ _ hl
    simp only [ObS] at hob
    obtain ⟨_,_,l,_,_,⟨hr,hh0⟩ |⟨tt,m,cap,hh0,_⟩,_⟩:=hob
    ·rw [hr] at p2;simp at p2
    refine ⟨.ptr (C.ids nm) b,?_,fun f=>?_⟩
    ·simp only [RvS,hA];exact ⟨hnm,rfl⟩
    have e6:(Nat.beq ety.size 1 && Nat.blt b rows.length)=true:=by rw [hb,xA,bltT p2];rfl
    simp only [opP,hk,ho,ho',hety,hh0,e6,fN_eq]
    congr 2
    show 0+b * 1=_
    omega
   cases hq
  next nm lo m hn=>
   split at hq
   rotate_left
   ·cases hq
   rename_i og ks rows hl
   split at hq
   rotate_left
   ·cases hq
   rename_i hb
   simp only [zC,beqN_iff,xQ] at hb
   simp only [zA] at hq
   subst hq
   have p0:=hp _ (.head _)
   have p1:=hp _ (.tail _ (.head _))
   have p2:=hp _ (.tail _ (.tail _ (.head _)))
   rw [hA] at p0 p1 p2
   have p1:0<=a:=p1
   obtain ⟨b,rfl,hb'⟩:=toNat_of hA p1
   have p2:((b:Nat):Int) < ((m:Nat):Int):=p2
   have p2:b < m:=by omega
   rw [hn] at hx'
   simp only [RvS,VwR] at hx'
   have hob:=hM.ob _ _ hl
   simp only [ObS] at hob
   obtain ⟨hnm,⟨_,_,hm⟩ |⟨es,len,cap0,off,cap,hh0,rfl,hoff,hcap⟩⟩:=hx'
   ·omega
   have hes:es=ks.length:=by
    obtain ⟨_,⟨_,hh1⟩ |⟨_,_,_,hh1,_⟩⟩:=hob
    ·rw [hh0] at hh1;cases hh1
    rw [hh0] at hh1;cases hh1;rfl
   subst hes
   have hoff:off=lo * ks.length:=by rcases hoff with ⟨h,_⟩ |h;omega;exact h
   subst hoff
   refine ⟨.ptr (C.ids nm) ((lo+b) * ks.length+0),?_,fun f=>?_⟩
   ·simp only [RvS,hA];exact ⟨hnm,rfl⟩
   have e6:(Nat.beq ety.size ks.length && Nat.blt b m)=true:=by rw [hb.1,xA,bltT p2];rfl
   simp only [opP,hk,ho,ho',hety,e6,fN_eq]
   congr 2
   show lo * ks.length+b * ks.length=_
   rw [zR];omega
  next bb ks rows hn=>
   split at hq
   rotate_left
   ·cases hq
   rename_i hb
   simp only [zC,beqN_iff,xQ] at hb
   simp only [zA] at hq
   subst hq
   have p1:=hp _ (.head _)
   have p2:=hp _ (.tail _ (.head _))
   rw [hA] at p1 p2
   have p1:0<=a:=p1
   obtain ⟨b,rfl,hb'⟩:=toNat_of hA p1
   have p2:((b:Nat):Int) < ((rows.length:Nat):Int):=p2
   have p2:b < rows.length:=by omega
   rw [hn] at hx'
   simp only [RvS,FzC,D.rows] at hx'
   have hv:RvS C Y.next (norm Y x) vx:=norm_ok hM hx
   obtain ⟨hbn,_,⟨hr,_⟩ |⟨id,off,cap,rfl,g2,g3,g4,tt,m,g5,g6,g7⟩ |⟨a,cap,rfl,g2,g3,g7⟩⟩:=hx'
   ·rw [hr] at p2;simp at p2
   ·refine ⟨.ptr id (off+b * ks.length+0),?_,fun f=>?_⟩
    ·simp only [RvS,FelR]
     refine ⟨hbn,.inl ⟨id,off+b * ks.length,tt,m,rfl,g4,g5,?_,?_⟩⟩
     ·have:(b+1) * ks.length<=rows.length * ks.length:=zP _ p2
      rw [zR] at this;omega
     rw [hA];exact g7 b p2
    have e6:(Nat.beq ety.size ks.length && Nat.blt b rows.length)=true:=by rw [hb.1,xA,bltT p2];rfl
    simp only [opP,hk,ho,ho',hety,e6,fN_eq]
    rfl
   refine ⟨.rptr ((a.add (b * ks.length)).add 0),?_,fun f=>?_⟩
   ·simp only [RvS,FelR]
    refine ⟨hbn,.inr ⟨a.add (b * ks.length),rfl,?_⟩⟩
    rw [hA]
    refine FzR.cells _ _ _ _ 0 0 (fun j _=>?_) _ (fun _=>rfl) (g7 b p2)
    simp only [CX.add_add]
   have e6:Nat.blt b rows.length=true:=bltT p2
   simp only [opP,hk,ho,ho',hety,e6,CX.add_add]
   rw [hb.1];rfl
  next nm es off m hn=>
   split at hq
   next c1 c2 c3=>
    have c1:=zV c1
    simp only [bltN_iff,beqN_iff] at c2 c3
    simp only [q0,zA] at hq
    subst hq
    obtain ⟨b,rfl,hb'⟩:=toNat_of hA c1
    rw [hb'] at c2
    rw [hn] at hx'
    simp only [RvS] at hx'
    obtain ⟨hnm,hes,cap,rfl,_⟩:=hx'
    refine ⟨.ptr (C.ids nm) (off+b * es),?_,fun f=>?_⟩
    ·simp only [RvS];exact ⟨hnm,rfl⟩
    have e6:(Nat.beq ety.size es && Nat.blt b m)=true:=by rw [c3,xA,bltT c2];rfl
    simp only [opP,hk,ho,ho',hety,e6,fN_eq]
    rfl
   cases hq
  cases hq
 next ln e hk=>
  split at hq
  rotate_left
  ·cases hq
  rename_i k a ety hety
  simp only [RvS] at hi
  subst hi
  split at hq
  rotate_left
  ·cases hq
  rename_i c1 c2
  have c1:=zV c1
  simp only [bltN_iff] at c2
  obtain ⟨b,rfl,hb'⟩:=toNat_of hA c1
  rw [hb'] at c2 hq
  have e6:Nat.blt b ln=true:=bltT c2
  split at hq
  ·simp only [q0,zA] at hq
   subst hq
   simp only [RvS] at hx
   obtain ⟨hnm,rfl⟩:=hx
   refine ⟨_,by simp only [RvS];exact ⟨hnm,rfl⟩,fun f=>?_⟩
   simp only [opP,hk,ho,ho',hety,e6,fN_eq];rfl
  ·simp only [q0,zA] at hq
   subst hq
   simp only [RvS] at hx
   obtain ⟨hnm,rfl⟩:=hx
   refine ⟨_,by simp only [RvS];exact ⟨hnm,rfl⟩,fun f=>?_⟩
   simp only [opP,hk,ho,ho',hety,e6,fN_eq];rw [<-xP];rfl
  ·simp only [q0,zA] at hq
   subst hq
   simp only [RvS,FelR] at hx
   obtain ⟨hbn,⟨id,base,tt,mm,rfl,h2⟩ |⟨a,rfl,h2⟩⟩:=hx
   ·refine ⟨_,by simp only [RvS,FelR];exact ⟨hbn,.inl ⟨id,base,tt,mm,rfl,h2⟩⟩,fun f=>?_⟩
    simp only [opP,hk,ho,ho',hety,e6,fN_eq];rw [<-xP];rfl
   refine ⟨_,by simp only [RvS,FelR];exact ⟨hbn,.inr ⟨a,rfl,h2⟩⟩,fun f=>?_⟩
   simp only [opP,hk,ho,ho',hety,e6,CX.add_add];rfl
  cases hq
 cases hq
theorem len_ok {C:Cx ro} {Y:St} {bar:Nat} {h:Nat->Option O} {nx:Nat} (hM:MSim C Y.objs Y.next bar h nx) {t:Nat} {x:SV} {vx:V} (hx:RvS C Y.next x vx) {q:QR} (hq:xlen E Y t x=some q) :
  ∃v,RvS C Y.next q.sv v/\∀k,biP E.E .len [vx] [t] k=k v:=by
 have hx':=norm_ok hM hx
 unfold xlen at hq
 split at hq
 next e nm hk hn=>
  rw [hn] at hx'
  split at hq
  next og ks rows hl=>
   simp only [q0,zA] at hq
   subst hq
   simp only [RvS] at hx'
   obtain ⟨hnm,rfl,_⟩:=hx'
   have hob:=hM.ob _ _ hl
   simp only [ObS] at hob
   refine ⟨.int .i64 (rows.length:Int),by simp only [RvS,hA];rfl,fun f=>?_⟩
   obtain ⟨_,⟨hr,hh0⟩ |⟨tt,m,cap,hh0,_,_,hc,_⟩⟩:=hob
   ·simp only [biP,hk,hh0,hr];rfl
   simp only [biP,hk,hh0];rfl
  next og ks rows rn hole hl=>
   simp only [q0,zA] at hq
   subst hq
   simp only [RvS] at hx'
   obtain ⟨hnm,rfl,_⟩:=hx'
   have hob:=hM.ob _ _ hl
   simp only [ObS] at hob
   refine ⟨.int .i64 (rows.length:Int),by simp only [RvS,hA];rfl,fun f=>?_⟩
   obtain ⟨_,_,l,_,_,⟨hr,hh0⟩ |⟨tt,m,cap,hh0,_⟩,_⟩:=hob
   ·simp only [biP,hk,hh0,hr];rfl
   simp only [biP,hk,hh0];rfl
  cases hq
 next e nm lo m hk hn=>
  rw [hn] at hx'
  simp only [q0,zA] at hq
  subst hq
  simp only [RvS,VwR] at hx'
  refine ⟨.int .i64 (m:Int),by simp only [RvS,hA];rfl,fun f=>?_⟩
  obtain ⟨hnm,⟨_,rfl,hm⟩ |⟨es,len,cap0,off,cap,hh0,rfl,_⟩⟩:=hx'
  ·simp only [biP,hk,hm];rfl
  simp only [biP,hk];rfl
 next e b ks rows hk hn=>
  rw [hn] at hx'
  simp only [q0,zA] at hq
  subst hq
  simp only [RvS,FzC,D.rows] at hx'
  refine ⟨.int .i64 (rows.length:Int),by simp only [RvS,hA];rfl,fun f=>?_⟩
  obtain ⟨_,_,⟨hr,rfl⟩ |⟨id,off,cap,rfl,_⟩ |⟨a,cap,rfl,_⟩⟩:=hx'
  ·simp only [biP,hk,hr];rfl
  ·simp only [biP,hk];rfl
  simp only [biP,hk];rfl
 next e nm es off m hk hn=>
  rw [hn] at hx'
  simp only [q0,zA] at hq
  subst hq
  simp only [RvS] at hx'
  obtain ⟨_,_,cap,rfl,_⟩:=hx'
  exact ⟨.int .i64 (m:Int),by simp only [RvS],fun f=>by simp only [biP,hk];rfl⟩
 next e hk hn=>
  rw [hn] at hx'
  simp only [q0,zA] at hq
  subst hq
  simp only [RvS] at hx'
  subst hx'
  exact ⟨.int .i64 0,by simp only [RvS],fun f=>by simp only [biP,hk]⟩
 next s hk hn=>
  rw [hn] at hx'
  simp only [q0,zA] at hq
  subst hq
  simp only [RvS] at hx'
  subst hx'
  exact ⟨.int .i64 (s.length:Int),by simp only [RvS,hA];rfl,fun f=>by simp only [biP,hk,fN_eq];rfl⟩
 cases hq
theorem bi_ok {C:Cx ro} {Y:St} {bar:Nat} {h:Nat->Option O} {nx:Nat} (hM:MSim C Y.objs Y.next bar h nx) {b:Builtin} {args:List SV} {xs:List V} {ts:List Nat} (hx:RvSL C Y.next args xs) {q:QR} (hq:xbi E Y b args ts=some q) :
  ∃v,RvS C Y.next q.sv v/\∀k,biP E.E b xs ts k=k v:=by
 unfold xbi at hq
 split at hq
 ·split at hq
  ·match xs,hx with
   |[v],hx=>simp only [RvSL] at hx;exact len_ok hA hM hx.1 hq
   |[],hx=>simp [RvSL] at hx
   |_ :: _ :: _,hx=>simp [RvSL] at hx
  cases hq
 ·split at hq
  next t=>
   split at hq
   next hk=>
    obtain ⟨e,hk⟩:=isSl_ok hA hk
    simp only [q0,zA] at hq
    subst hq
    match xs,hx with
    |[v],hx=>
     simp only [RvSL,RvS,and_true] at hx
     subst hx
     exact ⟨.int .i64 0,by simp [RvS],fun f=>by simp only [biP,hk]⟩
    |[],hx=>simp [RvSL] at hx
    |_ :: _ :: _,hx=>simp [RvSL] at hx
   cases hq
  cases hq
 ·split at hq
  next k n r=>
   split at hq
   next m hm=>
    simp only [q0,zA] at hq
    subst hq
    match xs,hx with
    |v :: xs,hx=>
     simp only [RvSL,RvS] at hx
     obtain ⟨rfl,hx⟩:=hx
     refine ⟨.int k m,by simp [RvS],fun f=>?_⟩
     simp only [biP]
     exact CX_minmax hA hm hx f
    |[],hx=>simp [RvSL] at hx
   cases hq
  cases hq
 ·split at hq
  next k n r=>
   split at hq
   next m hm=>
    simp only [q0,zA] at hq
    subst hq
    match xs,hx with
    |v :: xs,hx=>
     simp only [RvSL,RvS] at hx
     obtain ⟨rfl,hx⟩:=hx
     refine ⟨.int k m,by simp [RvS],fun f=>?_⟩
     simp only [biP]
     exact CX_minmax' hA hm hx f
    |[],hx=>simp [RvSL] at hx
   cases hq
  cases hq
 cases hq
where
 CX_minmax {E:Env} (hA:E.A=Ar.std) {C:Cx ro} {σn:Nat} {k:IntKind} {n m:Int} {r:List SV} (hm:minmax E.A.min k n r=some m) {xs:List V} (hx:RvSL C σn r xs) (f:V->R):CX.minmax ilt k n xs (fun v=>f v)=f (.int k m):=
  minmax_ok hA E.A.min ilt (fun a b=>by rw [ilt_eq,hA];simp [Ar.std]) r k n m hm xs hx f
 CX_minmax' {E:Env} (hA:E.A=Ar.std) {C:Cx ro} {σn:Nat} {k:IntKind} {n m:Int} {r:List SV} (hm:minmax E.A.max k n r=some m) {xs:List V} (hx:RvSL C σn r xs) (f:V->R):CX.minmax igt k n xs (fun v=>f v)=f (.int k m):=
  minmax_ok hA E.A.max igt (fun a b=>by rw [igt_eq,hA];simp [Ar.std]) r k n m hm xs hx f
theorem mkCell_ok {C:Cx ro} {n b:Nat} (hb:b<=n) {k:Kd} {d:D} {v:V} (h:FzC ro C.g (C.bd b) k d v):RvS C n (mkCell E.A b k d) v:=by
 rw [hA]
 cases k with
 |int k=>simp only [FzC] at h;simpa [mkCell,RvS,Ar.std] using h.2
 |bool=>simp only [FzC] at h;simpa [mkCell,RvS,Ar.std] using h.2
 |str=>simp only [FzC] at h;simpa [mkCell,RvS,Ar.std] using h.2
 |fnc f=>simp only [FzC] at h;simp only [mkCell,RvS];exact ⟨[],[],trivial,trivial,h.2⟩
 |pt k=>
  simp only [FzC] at h
  simp only [mkCell,RvS]
  exact ⟨hb,h.fel⟩
 |clo f k=>
  simp only [FzC] at h
  obtain ⟨w,rfl,h⟩:=h
  simp only [mkCell,RvS]
  exact ⟨[],[w],trivial,⟨by simp only [RvS];exact ⟨hb,h.fel⟩,trivial⟩,rfl⟩
 |sl ks=>
  simp only [mkCell,RvS]
  refine ⟨hb,?_⟩
  simp only [FzC] at h ⊢
  obtain ⟨⟨rows,rfl,hl⟩,h⟩:=h
  exact ⟨⟨rows,rfl,hl⟩,h⟩
theorem mkCells_ok {C:Cx ro} {n b:Nat} (hb:b<=n):∀(ks:List Kd) (f:Nat->D) (u:Nat->Option V) (c:Nat),FzR ro C.g (C.bd b) ks f u c->∃x,RvSL C n (mkCells E.A b ks f c) x/\x.length=ks.length/\∀j,j < ks.length->u (c+j)=x[j]?
 |[],_,_,_,_=>⟨[],trivial,rfl,fun j hj=>by simp at hj⟩
 |k :: ks,f,u,c,h=>by
  simp only [FzR] at h
  obtain ⟨⟨v,h1,h2⟩,h3⟩:=h
  obtain ⟨x,g1,g2,g3⟩:=mkCells_ok hb ks f u (c+1) h3
  refine ⟨v :: x,by simp only [mkCells,RvSL];exact ⟨mkCell_ok hA hb h2,g1⟩,by simp [g2],fun j hj=>?_⟩
  cases j with
  |zero=>simpa using h1
  |succ j=>
   rw [show c+(j+1)=c+1+j by omega,g3 j (by simpa using hj)]
   simp
theorem FzR_part {g:Nat->Option O} {B:Nat} {ks:List Kd} {f:Nat->D} {u:Nat->Option V} (h:FzR ro g B ks f u 0) (off m:Nat):FzR ro g B ((ks.drop off).take m) f u off:=by
 refine FzR.of _ _ _ _ fun j k hk=>?_
 rw [xJ,xR] at hk
 split at hk
 ·have:=FzR.get ks f u 0 h (off+j) k hk
  simpa using this
 cases hk
omit hA in
theorem rdA_eq {ro:Addr->Option V} {a:Addr}:∀(l:List V) (i:Nat) (k:List V->R),(∀j,j < l.length->ro (a.add (i+j))=l[j]?)->rdA ro a i l.length k=k l
 |[],_,_,_=>rfl
 |v :: l,i,k,h=>by
  have h0:=h 0 (by simp)
  simp only [kF,zK] at h0
  simp only [zY,rdA,h0]
  exact rdA_eq l (Nat.succ i) _ (fun j hj=>by rw [show Nat.succ i+j=i+(j+1) by omega,h (j+1) (by simpa using hj)];rfl)
theorem load_ok (hT:TOk E.E) {C:Cx E.E.ro} {Y:St} {bar:Nat} {h:Nat->Option O} {nx:Nat} (hM:MSim C Y.objs Y.next bar h nx) {t:Nat} {x:SV} {vx:V} (hx:RvS C Y.next x vx) {q:QR} (hq:xload E Y t x=some q) (hp:∀p∈q.pre,p)
  {evc:Operand->Option V} {o:Operand} (ho:evc o=some vx):∃v,RvS C Y.next q.sv v/\((∃id off,vx=.ptr id off/\∀hv:T O,hv.get id=h id->∀k,opL E.E hv evc (.load t o) k=k v)\/
   ∃a,vx=.rptr a/\∀(hv:T O) (k:V->R),opL E.E hv evc (.load t o) k=k v):=by
 unfold xload at hq
 split at hq
 ·cases hq
 rename_i ty hty
 split at hq
 next nm off=>
  simp only [RvS] at hx
  obtain ⟨hnm,rfl⟩:=hx
  split at hq
  rotate_left
  ·cases hq
  rename_i l hl
  split at hq
  rotate_left
  ·cases hq
  rename_i hb
  simp only [bleN_iff] at hb
  split at hq
  rotate_left
  ·cases hq
  rename_i s hs
  simp only [q0,zA] at hq
  subst hq
  have hob:=hM.ob _ _ hl
  simp only [ObS] at hob
  obtain ⟨tt,h1,h2⟩:=hob
  have key:∀(m i:Nat),i+m<=l.length->∃x,RvSL C Y.next ((l.drop i).take m) x/\x.length=m/\∀j,j < m->tt.get (i+j)=x[j]?:=by
   intro m
   induction m with
   |zero=>intro i _;exact ⟨[],by simp [RvSL],rfl,fun j hj=>by omega⟩
   |succ m ih=>
    intro i hi
    obtain ⟨x,a1,a2,a3⟩:=ih (i+1) (by omega)
    have hlt:i < l.length:=by omega
    obtain ⟨v,b1,b2,b3⟩:=h2 i l[i] (zJ hlt)
    refine ⟨v :: x,?_,by simp [a2],fun j hj=>?_⟩
    ·rw [List.drop_eq_getElem_cons hlt,qH]
     exact ⟨b3,a1⟩
    cases j with
    |zero=>simpa using b1
    |succ j=>rw [show i+(j+1)=i+1+j by omega,a3 j (by omega)];simp
  obtain ⟨xs,a1,a2,a3⟩:=key ty.size off hb
  obtain ⟨u,c1,c2⟩:=pack_ok hs a1
  refine ⟨u,c1,.inl ⟨C.ids nm,off,rfl,fun hv hhv k=>?_⟩⟩
  simp only [opL,hty,ho,hhv,h1]
  rw [show Nat.ble (Nat.add off ty.size) l.length=true from bleT hb]
  have:=rd_eq (t:=tt) xs off (fun l=>packR ty.agg l fun v=>k v) (fun j hj=>a3 j (by omega))
  rw [a2] at this
  simp only [this]
  exact c2 k
 next nm es i off=>
  simp only [RvS] at hx
  obtain ⟨hnm,rfl⟩:=hx
  split at hq
  next og ks rows hl=>
   split at hq
   rotate_left
   ·cases hq
   rename_i hb
   simp only [zC,bleN_iff,beqN_iff] at hb
   obtain ⟨b1,rfl⟩:=hb
   split at hq
   rotate_left
   ·cases hq
   rename_i s hs
   simp only [zA] at hq
   subst hq
   have p1:=hp _ (.head _)
   rw [hA] at p1
   have p1:((i:Nat):Int) < ((rows.length:Nat):Int):=p1
   have p1:i < rows.length:=by omega
   have hob:=hM.ob _ _ hl
   simp only [ObS] at hob
   obtain ⟨_,⟨hr,_⟩ |⟨tt,m,cap,hh0,h1,h2,_,h3⟩⟩:=hob
   ·rw [hr] at p1;simp at p1
   have hrow:=FzR_part hA (h3 i p1) off ty.size
   rw [<-hM.top] at hrow
   obtain ⟨xs,a1,a2,a3⟩:=mkCells_ok hA (zB _) _ _ _ _ hrow
   have alen:xs.length=ty.size:=by rw [a2,zZ,xG];omega
   have a1':RvSL C Y.next (mkCells E.A Y.next ((ks.drop off).take ty.size) (E.A.get rows i) off) xs:=by
    have:E.A.get rows i=gt rows i:=by rw [hA];rfl
    rw [this];exact a1
   obtain ⟨u,c1,c2⟩:=pack_ok hs a1'
   refine ⟨u,c1,.inl ⟨C.ids nm,i * ks.length+off,rfl,fun hv hhv k=>?_⟩⟩
   simp only [opL,hty,ho,hhv,h1]
   have hle:Nat.add (i * ks.length+off) ty.size<=m:=by
    have:(i+1) * ks.length<=rows.length * ks.length:=zP _ p1
    rw [zR] at this
    show i * ks.length+off+ty.size<=m
    omega
   rw [bleT hle]
   have:=rd_eq (t:=tt) xs (i * ks.length+off) (fun l=>packR ty.agg l fun v=>k v) (fun j hj=>by rw [<-a3 j (by omega)];congr 1;omega)
   rw [alen] at this
   simp only [this]
   exact c2 k
  rotate_left
  ·cases hq
  rename_i ks rows hl
  split at hq
  rotate_left
  ·cases hq
  rename_i hb
  simp only [zC,bleN_iff,beqN_iff] at hb
  obtain ⟨b1,rfl⟩:=hb
  split at hq
  rotate_left
  ·cases hq
  rename_i s hs
  simp only [zA] at hq
  subst hq
  have p1:=hp _ (.head _)
  rw [hA] at p1
  have p1:((i:Nat):Int) < ((rows.length:Nat):Int):=p1
  have p1:i < rows.length:=by omega
  have hob:=hM.ob _ _ hl
  simp only [ObS,FzC,D.rows] at hob
  obtain ⟨_,hfz,hloc⟩:=hob
  rcases hfz.2 with ⟨hr,_⟩ |⟨id,off0,cap,hh0,g2,g3,g4,tt,m,g5,g6,g7⟩ |⟨a,cap,hh0,_⟩
  ·rw [hr] at p1;simp at p1
  ·skip
   rcases hloc with hr |⟨len',cap',hloc⟩
   ·rw [hr] at p1;simp at p1
   rw [hh0] at hloc
   simp only [V.slc.injEq] at hloc
   obtain ⟨rfl,_,rfl,_,_⟩:=hloc
   have hrow:=FzR_part hA (g7 i p1) off ty.size
   rw [<-hM.top] at hrow
   obtain ⟨xs,a1,a2,a3⟩:=mkCells_ok hA (zB _) _ _ _ _ hrow
   have alen:xs.length=ty.size:=by rw [a2,zZ,xG];omega
   have a1':RvSL C Y.next (mkCells E.A Y.next ((ks.drop off).take ty.size) (E.A.get rows i) off) xs:=by
    have:E.A.get rows i=gt rows i:=by rw [hA];rfl
    rw [this];exact a1
   obtain ⟨u,c1,c2⟩:=pack_ok hs a1'
   have hg:=(hM.fz _ _ g5).2
   refine ⟨u,c1,.inl ⟨C.ids nm,i * ks.length+off,rfl,fun hv hhv k=>?_⟩⟩
   simp only [opL,hty,ho,hhv,hg]
   have hle:Nat.add (i * ks.length+off) ty.size<=m:=by
    have:(i+1) * ks.length<=rows.length * ks.length:=zP _ p1
    rw [zR] at this
    show i * ks.length+off+ty.size<=m
    omega
   rw [bleT hle]
   have:=rd_eq (t:=tt) xs (i * ks.length+off) (fun l=>packR ty.agg l fun v=>k v) (fun j hj=>by rw [<-a3 j (by omega)];congr 1;omega)
   rw [alen] at this
   simp only [this]
   exact c2 k
  rcases hloc with hr |⟨len',cap',hloc⟩
  ·rw [hr] at p1;simp at p1
  rw [hh0] at hloc;cases hloc
 next nm i=>
  simp only [RvS] at hx
  obtain ⟨hnm,rfl⟩:=hx
  split at hq
  rotate_left
  ·cases hq
  rename_i og ks rows rn hl
  split at hq
  rotate_left
  ·cases hq
  rename_i hb hagg
  simp only [beqN_iff] at hb
  simp only [zA] at hq
  subst hq
  have p1:=hp _ (.head _)
  rw [hA] at p1
  have p1:((i:Nat):Int) < ((rows.length:Nat):Int):=p1
  have p1:i < rows.length:=by omega
  have hob:=hM.ob _ _ hl
  simp only [ObS] at hob
  obtain ⟨h0,_,l,h1,h2,⟨hr,_⟩ |⟨tt,m,cap,a1,a2,a3,a4,a5⟩,h4,_⟩:=hob
  ·rw [hr] at p1;simp at p1
  obtain ⟨v,hv⟩:∃v,l[i]?=some v:=⟨l[i]'(by omega),zJ (by omega)⟩
  refine ⟨v,by simp only [RvS];exact ⟨⟨hnm,h0⟩,(h4 i v hv).1,l,h1,hv⟩,.inl ⟨C.ids nm,i,rfl,fun hw hhv k=>?_⟩⟩
  simp only [opL,hty,ho,hhv,a2]
  rw [bleT (show Nat.add i ty.size<=m by show i+ty.size<=m;omega)]
  have:=rd_eq (t:=tt) [v] i (fun l=>packR ty.agg l fun v=>k v) (fun j hj=>by
   have:j=0:=by simpa using hj
   subst this
   rw [kF,a5 i p1 (by simp),hv];rfl)
  rw [hb]
  simp only [zY,xI,zO] at this
  rw [hagg] at this ⊢
  exact this
 next b ks rows i off=>
  simp only [RvS,FelR] at hx
  obtain ⟨hbn,⟨id,base,tt,m,rfl,g1,g2,g3,g4⟩ |⟨a,rfl,g4⟩⟩:=hx
  ·split at hq
   rotate_left
   ·cases hq
   rename_i hb
   simp only [bleN_iff] at hb
   split at hq
   rotate_left
   ·cases hq
   rename_i s hs
   simp only [q0,zA] at hq
   subst hq
   have hrow:=FzR_part hA g4 off ty.size
   obtain ⟨xs,a1,a2,a3⟩:=mkCells_ok hA hbn _ _ _ _ hrow
   have alen:xs.length=ty.size:=by rw [a2,zZ,xG];omega
   have a1':RvSL C Y.next (mkCells E.A b ((ks.drop off).take ty.size) (E.A.get rows i) off) xs:=by
    have:E.A.get rows i=gt rows i:=by rw [hA];rfl
    rw [this];exact a1
   obtain ⟨u,c1,c2⟩:=pack_ok hs a1'
   have hg:=(hM.fz _ _ g2).2
   refine ⟨u,c1,.inl ⟨id,base+off,rfl,fun hv hhv k=>?_⟩⟩
   simp only [opL,hty,ho,hhv,hg]
   have hle:Nat.add (base+off) ty.size<=m:=by
    show base+off+ty.size<=m
    omega
   rw [bleT hle]
   have:=rd_eq (t:=tt) xs (base+off) (fun l=>packR ty.agg l fun v=>k v) (fun j hj=>by rw [<-a3 j (by omega)];congr 1;omega)
   rw [alen] at this
   simp only [this]
   exact c2 k
  split at hq
  rotate_left
  ·cases hq
  rename_i hb
  simp only [bleN_iff] at hb
  split at hq
  next s hs=>
   simp only [q0,zA] at hq
   subst hq
   have hrow:=FzR_part hA g4 off ty.size
   obtain ⟨xs,a1,a2,a3⟩:=mkCells_ok hA hbn _ _ _ _ hrow
   have alen:xs.length=ty.size:=by rw [a2,zZ,xG];omega
   have a1':RvSL C Y.next (mkCells E.A b ((ks.drop off).take ty.size) (E.A.get rows i) off) xs:=by
    have:E.A.get rows i=gt rows i:=by rw [hA];rfl
    rw [this];exact a1
   obtain ⟨u,c1,c2⟩:=pack_ok hs a1'
   refine ⟨u,c1,.inr ⟨a.add off,rfl,fun hv k=>?_⟩⟩
   simp only [opL,hty,ho]
   have:=rdA_eq (ro:=E.E.ro) (a:=a.add off) xs 0 (fun l=>packR ty.agg l fun v=>k v) (fun j hj=>by rw [<-a3 j (by omega)];simp only [CX.add_add,zO])
   rw [alen] at this
   simp only [this]
   exact c2 k
  cases hq
 cases hq
omit hA in
theorem s2a_row {ro:Addr->Option V} {g:Nat->Option O} {B n:Nat} {k:Kd} {rows:Rows} {u:Nat->Option V} (h:∀i,i < rows.length->FzR ro g B [k] (gt rows i) (fun c=>u (i * 1+c)) 0) (hn:n<=rows.length) :
  FzR ro g B (List.replicate n k) (gt [(List.range n).map fun j=>gt rows j 0] 0) u 0:=by
 refine FzR.of _ _ _ _ fun j k' hk=>?_
 rw [xX] at hk
 split at hk
 next hj=>
  simp only [zA] at hk
  subst hk
  obtain ⟨v,h1,h2⟩:=FzR.get [k] _ _ 0 (h j (by omega)) 0 k rfl
  refine ⟨v,by simpa using h1,?_⟩
  have e:gt [(List.range n).map fun j=>gt rows j 0] 0 (0+j)=gt rows j 0:=by simp [gt,hj]
  rw [e]
  simpa using h2
 cases hk
omit hA in
theorem add_0 (a:Addr):a.add 0=a:=by
 have:=CX.add_add a 0 0
 unfold Addr.add at *
 cases a with
 |mk b o e=>cases e<;>simp
theorem s2a_ok {C:Cx ro} {Y:St} {bar:Nat} {h:Nat->Option O} {nx:Nat} (hM:MSim C Y.objs Y.next bar h nx) {t:Nat} {x:SV} {vx:V} (hx:RvS C Y.next x vx) {q:QR}
  (hq:xs2a E Y t x=some q) (hp:∀p∈q.pre,p) {evc:Operand->Option V} {o:Operand} (ho:evc o=some vx):Yields C Y.next q.sv (opP E.E evc (.sliceToArrayPointer t o)):=by
 unfold xs2a at hq
 split at hq
 rotate_left
 ·cases hq
 rename_i n e hk
 split at hq
 rotate_left
 ·cases hq
 rename_i ety hety
 have hx':=norm_ok hM hx
 split at hq
 rotate_left
 ·cases hq
 rename_i b k rows hn
 split at hq
 rotate_left
 ·cases hq
 rename_i hb
 simp only [zC,beqN_iff,bltN_iff] at hb
 simp only [zA] at hq
 subst hq
 have p1:=hp _ (.head _)
 rw [hA] at p1
 have p1:((n:Nat):Int)<=((rows.length:Nat):Int):=p1
 have p1:n<=rows.length:=by omega
 obtain ⟨m0,rfl⟩:∃m0,n=m0+1:=⟨n - 1,by omega⟩
 rw [hn] at hx'
 simp only [RvS,FzC,D.rows] at hx'
 obtain ⟨hbn,_,⟨hr,_⟩ |⟨id,off,cap,rfl,g2,g3,g4,tt,m,g5,g6,g7⟩ |⟨a,cap,rfl,g2,g3,g7⟩⟩:=hx'
 ·rw [hr] at p1;simp at p1
 ·refine ⟨.ptr id (off+0),?_,fun f=>?_⟩
  ·simp only [RvS,FelR]
   refine ⟨hbn,.inl ⟨id,off,tt,m,rfl,g4,g5,?_,?_⟩⟩
   ·simp only [xC,zY,xI] at g6 ⊢;omega
   rw [hA]
   exact s2a_row (u:=fun c=>tt.get (off+c)) (fun i hi=>by have:=g7 i hi;simpa [xP] using this) p1
  have e6:(Nat.beq ety.size 1 && Nat.ble (m0+1) rows.length)=true:=by rw [hb.1,xA,bleT p1];rfl
  simp only [zY,xI,zO] at *
  simp only [opP,hk,ho,hety,e6]
  rfl
 refine ⟨.rptr (a.add 0),?_,fun f=>?_⟩
 ·simp only [RvS,FelR]
  refine ⟨hbn,.inr ⟨a,rfl,?_⟩⟩
  rw [hA]
  exact s2a_row (u:=fun c=>ro (a.add c)) (fun i hi=>by have:=g7 i hi;simpa using this) p1
 simp only [opP,hk,ho,bleT p1,add_0]
theorem q0_unk {v:SV} {q:QR} (h:(match knownC v with |true=>q0 v |false=>none)=some q):v≠.unk/\q.sv=v:=by
 split at h
 next hk=>
  simp only [q0,zA] at h
  subst h
  exact ⟨fun e=>by subst e;simp [knownC] at hk,rfl⟩
 cases h
set_option maxHeartbeats 2000000 in
theorem xq0_ok {C:Cx ro} {Y:St} {bar:Nat} {h:Nat->Option O} {nx:Nat} (hM:MSim C Y.objs Y.next bar h nx) {ev:Operand->SV} {evc:Operand->Option V} (hev:EvOk C Y.next ev evc) {op:Op} {q:QR} (hq:xq0 E Y ev op=some q) (hp:∀p∈q.pre,p) :
  Yields C Y.next q.sv (opP E.E evc op):=by
 unfold xq0 at hq
 split at hq
 next x=>
  obtain ⟨h1,h2⟩:=q0_unk hA hq
  obtain ⟨v,e1,e2⟩:=hev.get rfl h1
  exact ⟨v,by rw [h2];exact e2,fun k=>by simp only [opP,e1]⟩
 next x=>
  obtain ⟨h1,h2⟩:=q0_unk hA hq
  obtain ⟨v,e1,e2⟩:=hev.get rfl h1
  exact ⟨v,by rw [h2];exact e2,fun k=>by simp only [opP,e1]⟩
 next c a b=>
  split at hq
  next hc=>
   obtain ⟨h1,h2⟩:=q0_unk hA hq
   obtain ⟨v,e1,e2⟩:=hev.get rfl h1
   obtain ⟨w,e3,e4⟩:=hev.get hc (by intro e;cases e)
   simp only [RvS] at e4
   subst e4
   exact ⟨v,by rw [h2];exact e2,fun k=>by simp only [opP,e1,e3]⟩
  next hc=>
   obtain ⟨h1,h2⟩:=q0_unk hA hq
   obtain ⟨v,e1,e2⟩:=hev.get rfl h1
   obtain ⟨w,e3,e4⟩:=hev.get hc (by intro e;cases e)
   simp only [RvS] at e4
   subst e4
   exact ⟨v,by rw [h2];exact e2,fun k=>by simp only [opP,e1,e3]⟩
  cases hq
 ·exact build_ok hev hq
 next x=>
  split at hq
  next nm off hx=>
   simp only [q0,zA] at hq
   subst hq
   obtain ⟨v,e1,e2⟩:=hev.get hx (by intro e;cases e)
   refine ⟨v,e2,fun k=>?_⟩
   simp only [RvS] at e2
   obtain ⟨_,rfl⟩:=e2
   simp only [opP,e1]
  next nm es i off hx=>
   simp only [q0,zA] at hq
   subst hq
   obtain ⟨v,e1,e2⟩:=hev.get hx (by intro e;cases e)
   refine ⟨v,e2,fun k=>?_⟩
   simp only [RvS] at e2
   obtain ⟨_,rfl⟩:=e2
   simp only [opP,e1]
  next b ks rows i off hx=>
   simp only [q0,zA] at hq
   subst hq
   obtain ⟨v,e1,e2⟩:=hev.get hx (by intro e;cases e)
   refine ⟨v,e2,fun k=>?_⟩
   simp only [RvS,FelR] at e2
   obtain ⟨_,⟨_,_,_,_,rfl,_⟩ |⟨_,rfl,_⟩⟩:=e2<;>simp only [opP,e1]
  next f a b hx=>
   simp only [q0,zA] at hq
   subst hq
   obtain ⟨v,e1,e2⟩:=hev.get hx (by intro e;cases e)
   refine ⟨v,e2,fun k=>?_⟩
   simp only [RvS] at e2
   obtain ⟨_,_,_,_,rfl⟩:=e2
   simp only [opP,e1]
  cases hq
 next op t x y ty=>
  exact bin_op hA hM hev hq hp
 next op t x=>
  have hx:ev x≠.unk:=fun e=>by rw [e] at hq;cases op<;>simp [xun] at hq
  obtain ⟨v,e1,e2⟩:=hev.get rfl hx
  exact un_ok hA e2 hq hp e1
 next f a b=>
  split at hq
  next f=>
   split at hq
   next hk=>
    rw [zC] at hk
    simp only [q0,zA] at hq
    subst hq
    obtain ⟨x,a1,a2⟩:=evL_list hev a.toList hk.1
    obtain ⟨y,b1,b2⟩:=evL_list hev b.toList hk.2
    exact ⟨.fn (.func f) x y,by simp only [RvS];exact ⟨x,y,a1,b1,rfl⟩,fun k=>by simp only [opP,a2,b2]⟩
   cases hq
  cases hq
 ·exact slice_ok hA hM hev hq hp
 ·exact slice3_ok hA hM hev hq hp
 next t x i=>
  have hx:ev x≠.unk:=fun e=>by rw [e] at hq;unfold xfieldAddr at hq;split at hq<;>(try split at hq)<;>(try split at hq)<;>(try split at hq)<;>simp at hq
  obtain ⟨v,e1,e2⟩:=hev.get rfl hx
  exact fieldAddr_ok e2 hq e1
 next t x i=>
  have hx:ev x≠.unk:=fun e=>by rw [e] at hq;unfold xfield at hq;split at hq<;>simp_all
  obtain ⟨v,e1,e2⟩:=hev.get rfl hx
  exact field_ok e2 hq e1
 next t x i=>
  have hi:ev i≠.unk:=fun e=>by rw [e] at hq;unfold xindexAddr at hq;split at hq<;>(try split at hq)<;>simp_all
  have hx:ev x≠.unk:=fun e=>by
   rw [e] at hq;unfold xindexAddr at hq
   split at hq
   ·split at hq
    ·simp [norm] at hq
    cases hq
   ·split at hq
    ·split at hq<;>simp at hq
    cases hq
   cases hq
  obtain ⟨v,e1,e2⟩:=hev.get rfl hx
  obtain ⟨w,e3,e4⟩:=hev.get rfl hi
  exact indexAddr_ok hA hM e2 e4 hq hp e1 e3
 next t x i=>
  have hi:ev i≠.unk:=fun e=>by rw [e] at hq;unfold xindex at hq;split at hq<;>simp_all
  have hx:ev x≠.unk:=fun e=>by rw [e] at hq;unfold xindex at hq;split at hq<;>simp_all
  obtain ⟨v,e1,e2⟩:=hev.get rfl hx
  obtain ⟨w,e3,e4⟩:=hev.get rfl hi
  exact index_ok hA e2 e4 hq hp e1 e3
 next x i=>
  split at hq
  next l hx=>
   split at hq
   next s hs=>
    obtain ⟨h1,h2⟩:=q0_unk hA hq
    obtain ⟨v,e1,e2⟩:=hev.get hx (by intro e;cases e)
    rw [h2]
    exact extract_ok e2 hs e1
   cases hq
  cases hq
 next t x=>
  have hx:ev x≠.unk:=fun e=>by
   rw [e] at hq;unfold xs2a at hq
   split at hq
   ·split at hq
    ·simp [norm] at hq
    cases hq
   cases hq
  obtain ⟨v,e1,e2⟩:=hev.get rfl hx
  exact s2a_ok hA hM e2 hq hp e1
 next s t x=>
  have hx:ev x≠.unk:=fun e=>by rw [e] at hq;unfold xconv at hq;split at hq<;>simp_all
  obtain ⟨v,e1,e2⟩:=hev.get rfl hx
  exact conv_ok hA e2 hq hp e1
 next c=>
  split at hq
  next b hc=>
   have hk:(c.args.toList.map ev).all knownC=true:=by
    cases hall:(c.args.toList.map ev).all knownC with
    |true=>rfl
    |false=>
     exfalso
     exact bi_unk hq hall
   obtain ⟨x,a1,a2⟩:=evL_list hev c.args.toList hk
   obtain ⟨v,b1,b2⟩:=bi_ok hA hM a1 hq
   exact ⟨v,b1,fun k=>by simp only [opP,hc,a2];exact b2 k⟩
  cases hq
 cases hq
where
 bin_op {E:Env} (hA:E.A=Ar.std) {C:Cx ro} {Y:St} {bar:Nat} {h:Nat->Option O} {nx:Nat} (hM:MSim C Y.objs Y.next bar h nx) {ev:Operand->SV} {evc:Operand->Option V} (hev:EvOk C Y.next ev evc) {op:BinOp} {t ty:Nat} {x y:Operand} {q:QR} (hq:xbin E Y op t (ev x) (ev y)=some q) (hp:∀p∈q.pre,p) :
   Yields C Y.next q.sv (opP E.E evc (.binOp op t x y ty)):=by
  by_cases he:op=.eql
  ·subst he
   simp only [xbin] at hq
   split at hq
   next p b hb=>
    simp only [zA] at hq
    subst hq
    have hx:ev x≠.unk:=fun e=>by rw [e] at hb;simp [xeq,asB] at hb
    have hy:ev y≠.unk:=fun e=>by rw [e] at hb;cases hh:ev x<;>rw [hh] at hb<;>simp [xeq,asB] at hb
    obtain ⟨v,e1,e2⟩:=hev.get rfl hx
    obtain ⟨w,e3,e4⟩:=hev.get rfl hy
    have:=xeq_ok hA hM hb hp e2 e4
    exact ⟨.bool b,by simp [RvS],fun k=>by simp only [opP,e1,e3,bin,this,fB_eq]⟩
   cases hq
  by_cases hn:op=.neq
  ·subst hn
   simp only [xbin] at hq
   split at hq
   next p b hb=>
    simp only [zA] at hq
    subst hq
    have hx:ev x≠.unk:=fun e=>by rw [e] at hb;simp [xeq,asB] at hb
    have hy:ev y≠.unk:=fun e=>by rw [e] at hb;cases hh:ev x<;>rw [hh] at hb<;>simp [xeq,asB] at hb
    obtain ⟨v,e1,e2⟩:=hev.get rfl hx
    obtain ⟨w,e3,e4⟩:=hev.get rfl hy
    have:=xeq_ok hA hM hb hp e2 e4
    refine ⟨.bool (!b),by simp [RvS,hA,Ar.std],fun k=>?_⟩
    simp only [opP,e1,e3,bin,this,fB_eq]
    cases b<;>rfl
   cases hq
  have:∃k a k' a',ev x=.int k a/\ev y=.int k' a':=by
   unfold xbin at hq
   split at hq
   ·exact absurd rfl he
   ·exact absurd rfl hn
   split at hq
   next h1 h2=>
    exact ⟨_,_,_,_,h1,h2⟩
   cases hq
  obtain ⟨k,a,k',a',hx,hy⟩:=this
  rw [hx,hy] at hq
  obtain ⟨v,e1,e2⟩:=hev.get hx (by intro e;cases e)
  obtain ⟨w,e3,e4⟩:=hev.get hy (by intro e;cases e)
  simp only [RvS] at e2 e4
  subst e2 e4
  obtain ⟨v,h3,h4⟩:=bin_int (C:=C) (n:=Y.next) hA hq he hn hp
  exact ⟨v,h3,fun f=>by simp only [opP,e1,e3];exact h4 f⟩
 bi_unk {E:Env} {Y:St} {b:Builtin} {l:List SV} {ts:List Nat} {q:QR} (h:xbi E Y b l ts=some q) (hk:l.all knownC=false):False:=by
  have mm:∀(f:Int->Int->Int) (k:IntKind) (r:List SV) (n m:Int),minmax f k n r=some m->r.all knownC=true:=by
   intro f k r
   induction r with
   |nil=>intros;rfl
   |cons s r ih=>
    intro n m h
    unfold minmax at h
    split at h
    ·cases ‹_=[]›
    next heq=>
     simp only [xL] at heq
     obtain ⟨rfl,rfl⟩:=heq
     split at h
     ·simp only [kA,knownC,Bool.true_and];exact ih _ _ h
     cases h
    cases h
  unfold xbi at h
  split at h
  ·split at h
   next x t=>
    simp only [kA,List.all_nil,Bool.and_true] at hk
    cases x<;>simp [knownC] at hk
    unfold xlen at h
    split at h<;>simp_all [norm]
   cases h
  ·split at h
   ·simp [knownC] at hk
   cases h
  ·split at h
   ·split at h
    next hm=>
     simp only [kA,knownC,Bool.true_and,mm _ _ _ _ _ hm] at hk;cases hk
    cases h
   cases h
  ·split at h
   ·split at h
    next hm=>
     simp only [kA,knownC,Bool.true_and,mm _ _ _ _ _ hm] at hk;cases hk
    cases h
   cases h
  cases h
end
end HX
