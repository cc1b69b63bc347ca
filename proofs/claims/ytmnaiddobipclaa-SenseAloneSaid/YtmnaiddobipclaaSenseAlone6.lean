/-
  Texts of the executors: HxDraw, HxVc, HxDrawOk, HxDrawOk2, HxVcOk, HxLoop, HxSub, HxFn, HxU, HxBt.
-/
import Derived.Test.YtmnaiddobipclaaSenseAlone5
set_option linter.all false
namespace HX
open Go CX
structure StuckD (ops:List Oper) (σ:St):Prop where
 out:False
def maskS (ml:List (Nat×Nat)):List Edge→Nat→Option Nat
 |[],acc=>some acc
 |e :: r,acc=>match bindsA e with
  |false=>maskS ml r acc
  |true=>match look ml e.on with
   |some m=>maskS ml r (Nat.lor acc (Nat.lor m (Nat.shiftLeft 1 e.on)))
   |none=>none
def prepS:List Oper→Nat→List (Nat×Nat)→List (Nat×Nat)→Option (List (Nat×Nat)×List (Nat×Nat))
 |[],_,ml,dl=>some (ml,dl)
 |o :: r,i,ml,dl=>match maskS ml o.after.toList 0 with
  |some m=>match o.dst with
   |none=>prepS r (i+1) ((i,m) :: ml) dl
   |some d=>match look dl d with
    |none=>prepS r (i+1) ((i,m) :: ml) ((d,i) :: dl)
    |some _=>none
  |none=>none
def visS (ml dl:List (Nat×Nat)) (i cl t:Nat):Bool:=
 match look dl t with
 |none=>true
 |some j=>match CX.bit cl j with
  |true=>true
  |false=>match look ml j with
   |some m=>CX.bit m i
   |none=>false
def evDS (ml dl:List (Nat×Nat)) (i cl:Nat) (regs:List (Nat×SV)) (x:Operand):SV:=
 match x with
 |.tmp t=>match visS ml dl i cl t with
  |true=>evR regs (.tmp t)
  |false=>.unk
 |x=>evR regs x
def gvisS (ml dl:List (Nat×Nat)) (i cl:Nat) (all:List Oper) (o:Oper):Bool:=
 match o.guard with
 |none=>true
 |some (g,_)=>match all[g]? with
  |some og=>match og.dst with
   |some d=>visS ml dl i cl d
   |none=>true
  |none=>true
def laterOkS (E:CX.Env) (ml:List (Nat×Nat)) (i:Nat):List Oper→Nat→Bool
 |[],_=>true
 |o :: r,j=>match Nat.beq (clsOf E o.op) 0 with
  |true=>laterOkS E ml i r (j+1)
  |false=>match look ml j with
   |some m=>match CX.bit m i with
    |true=>laterOkS E ml i r (j+1)
    |false=>false
   |none=>false
inductive At where
 |cl (nm:Nat)
 |ar (nm:Nat)
 |fz (b:Nat)
inductive FpS where
 |all
 |q
 |ls (A:List At) (wr:Bool)
structure RcS where
 i:Nat
 fp:FpS
 al:Bool
def isCl:Option SO→Bool
 |some (.cells _)=>true
 |_=>false
def isAr:Option SO→Bool
 |some (.arr ..)=>true
 |_=>false
def atomsOf (E:Env) (σ:St) (x:SV):Option (List Prop×List At):=
 match x with
 |.ptr nm _=>match isCl (look σ.objs nm) with
  |true=>some ([],[.cl nm])
  |false=>none
 |.el nm _ i _=>match look σ.objs nm with
  |some (.arr _ _ rows)=>some ([E.A.pLt (E.A.nat i) (E.A.nat (E.A.len rows))],[.ar nm])
  |_=>none
 |.fel b _ _ _ _=>some ([],[.fz b])
 |.slc nm=>match isAr (look σ.objs nm) with
  |true=>some ([],[.ar nm])
  |false=>none
 |.vw nm _ _=>match isAr (look σ.objs nm) with
  |true=>some ([],[.ar nm])
  |false=>none
 |.sc nm _ _ _=>match isCl (look σ.objs nm) with
  |true=>some ([],[.cl nm])
  |false=>none
 |.fz b _ _=>some ([],[.fz b])
 |.nils=>some ([],[])
 |_=>none
def footS (E:Env) (σ:St) (ev:Operand→SV) (op:Op):Option (List Prop×List At):=
 match op with
 |.load _ x=>atomsOf E σ (ev x)
 |.store _ x _=>atomsOf E σ (ev x)
 |.call c=>match c.args.toList with
  |[x,y]=>match atomsOf E σ (ev x),atomsOf E σ (ev y) with
   |some (p,a),some (q,b)=>some (p++q,a++b)
   |_,_=>none
  |_=>none
 |.alloc _ |.box .. |.buildSlice .. |.makeSlice ..=>some ([],[])
 |_=>none
def oldA (σ0:List (Nat×SO)) (n0:Nat):At→Bool
 |.cl nm=>isCl (look σ0 nm)
 |.ar nm=>isAr (look σ0 nm)
 |.fz b=>bleN b n0
def disA (objs:List (Nat×SO)):At→At→Bool
 |.fz b,.fz b'=>beqN b 0 || beqN b' 0
 |.fz b,.cl y=>beqN b 0 || isCl (look objs y)
 |.fz b,.ar y=>beqN b 0 || isAr (look objs y)
 |.cl x,.fz b=>beqN b 0 || isCl (look objs x)
 |.ar x,.fz b=>beqN b 0 || isAr (look objs x)
 |.cl x,.cl y=>!(beqN x y) && (isCl (look objs x) && isCl (look objs y))
 |.cl x,.ar y=>!(beqN x y) && (isCl (look objs x) && isAr (look objs y))
 |.ar x,.cl y=>!(beqN x y) && (isAr (look objs x) && isCl (look objs y))
 |.ar x,.ar y=>!(beqN x y) && (isAr (look objs x) && isAr (look objs y))
def disL (objs:List (Nat×SO)) (A B:List At):Bool:=A.all fun a=>B.all fun b=>disA objs a b
def noA:List At→Bool
 |[]=>true
 |_=>false
def pairS (σ0:List (Nat×SO)) (n0:Nat) (objs:List (Nat×SO)) (A:List At) (wr:Bool) (r:RcS):Bool:=
 match r.fp with
 |.all=>false
 |.q=>match wr with
  |true=>noA A
  |false=>!r.al || A.all (oldA σ0 n0)
 |.ls B wr'=>(!r.al || A.all (oldA σ0 n0)) && match wr || wr' with
  |false=>true
  |true=>disL objs A B
def pairQ (r:RcS):Bool:=
 !r.al && match r.fp with
 |.all=>false
 |.q=>true
 |.ls B wr=>match wr with
  |true=>noA B
  |false=>true
def fitsL (p:RcS→Bool) (cl:Nat):List RcS→Bool
 |[]=>true
 |r :: rs=>match CX.bit cl r.i with
  |true=>fitsL p cl rs
  |false=>match p r with
   |true=>fitsL p cl rs
   |false=>false
def memW (E:Env) (σ0:List (Nat×SO)) (n0 cl i:Nat) (recs:List RcS) (ev:Operand→SV) (op:Op) (K:SV→List RcS→St→Prop) (σ:St):Prop:=
 match xw E σ ev op with
 |some w=>match footS E σ ev op with
  |some (p,A)=>match fitsL (pairS σ0 n0 σ.objs A true) cl recs with
   |true=>preK p (preK w.pre (K w.sv (⟨i,.ls A true,!(beqN w.next σ.next)⟩ :: recs) (σ.mem w.objs w.next)))
   |false=>StuckO op σ
  |none=>StuckO op σ
 |none=>StuckO op σ
def isCtr (E:Env) (f:SV):Bool:=
 match f with
 |.fn g _ _=>match E.sig g with
  |some _=>true
  |none=>false
 |_=>false
def memC (E:Env) (ci:CI) (cl i:Nat) (recs:List RcS) (ev:Operand→SV) (op:Op) (K:SV→List RcS→St→Prop) (σ:St):Prop:=
 match op with
 |.call c=>match c.callee with
  |.value f=>match fitsL pairQ cl recs && isCtr E (ev f) with
   |true=>match knownC (ev f) && (c.args.toList.map ev).all knownC with
    |true=>callS E ci (ev f) (c.args.toList.map ev) σ fun v σ'=>K v (⟨i,.q,true⟩ :: recs) σ'
    |false=>StuckO op σ
   |false=>StuckO op σ
  |_=>StuckO op σ
 |_=>StuckO op σ
def stepL3 (E:Env) (σ0:List (Nat×SO)) (n0:Nat) (i cl:Nat) (recs:List RcS) (op:Op) (σ:St) (K:SV→List RcS→St→Prop) (q:QR) (p:List Prop) (A:List At):Prop:=
 match fitsL (pairS σ0 n0 σ.objs A false) cl recs with
 |true=>preK p (preK q.pre (K q.sv (⟨i,.ls A false,false⟩ :: recs) σ))
 |false=>StuckO op σ
def stepL2 (E:Env) (σ0:List (Nat×SO)) (n0:Nat) (i cl:Nat) (recs:List RcS) (ev:Operand→SV) (op:Op) (σ:St) (K:SV→List RcS→St→Prop) (q:QR):Prop:=
 match footS E σ ev op with
 |some (p,A)=>stepL3 E σ0 n0 i cl recs op σ K q p A
 |none=>StuckO op σ
def stepL1 (E:Env) (σ0:List (Nat×SO)) (n0:Nat) (i cl:Nat) (recs:List RcS) (ev:Operand→SV) (op:Op) (σ:St) (K:SV→List RcS→St→Prop):Prop:=
 match xq1 E σ ev op with
 |some q=>stepL2 E σ0 n0 i cl recs ev op σ K q
 |none=>StuckO op σ
def stepL (E:Env) (σ0:List (Nat×SO)) (n0:Nat) (ml:List (Nat×Nat)) (r:List Oper) (i cl:Nat) (recs:List RcS) (ev:Operand→SV) (op:Op) (σ:St) (K:SV→List RcS→St→Prop):Prop:=
 match fitsL (fun _=>false) cl recs && laterOkS E.E ml i r (i+1) with
 |true=>execL E ev op σ fun v σ'=>K v (⟨i,.all,true⟩ :: recs) σ'
 |false=>stepL1 E σ0 n0 i cl recs ev op σ K
def stepW (E:Env) (σ0:List (Nat×SO)) (n0:Nat) (ml:List (Nat×Nat)) (r:List Oper) (i cl:Nat) (recs:List RcS) (ev:Operand→SV) (op:Op) (σ:St) (K:SV→List RcS→St→Prop):Prop:=
 match fitsL (fun _=>false) cl recs && laterOkS E.E ml i r (i+1) with
 |true=>execW E ev op (fun v σ'=>K v (⟨i,.all,true⟩ :: recs) σ') (σ.mem (frzL σ.objs (wants ev op)) σ.next)
 |false=>memW E σ0 n0 cl i recs ev op K (σ.mem (frzL σ.objs (wants ev op)) σ.next)
def stepC (E:Env) (ci:CI) (ml:List (Nat×Nat)) (r:List Oper) (i cl:Nat) (recs:List RcS) (ev:Operand→SV) (op:Op) (σ:St) (K:SV→List RcS→St→Prop):Prop:=
 match fitsL (fun _=>false) cl recs && laterOkS E.E ml i r (i+1) with
 |true=>execC E ci ev op σ fun v σ'=>K v (⟨i,.all,true⟩ :: recs) σ'
 |false=>memC E ci cl i recs ev op K σ
def stepS (E:Env) (ci:CI) (σ0:List (Nat×SO)) (n0:Nat) (ml:List (Nat×Nat)) (r:List Oper) (i cl:Nat) (recs:List RcS) (ev:Operand→SV) (op:Op) (σ:St) (K:SV→List RcS→St→Prop):Prop:=
 match clsOf E.E op with
 |0=>exec0 E σ ev op fun v=>K v recs σ
 |1=>stepL E σ0 n0 ml r i cl recs ev op σ K
 |2=>stepW E σ0 n0 ml r i cl recs ev op σ K
 |3=>stepC E ci ml r i cl recs ev op σ K
 |_=>StuckO op σ
theorem stepS_imp (E:Env) (ci:CI) (σ0:List (Nat×SO)) (n0:Nat) (ml:List (Nat×Nat)) (r:List Oper) (i cl:Nat) (recs:List RcS) (ev:Operand→SV) (op:Op) (σ:St) (K:SV→List RcS→St→Prop) (h:stepS E ci σ0 n0 ml r i cl recs ev op σ K) :
 match clsOf E.E op with
 |0=>exec0 E σ ev op fun v=>K v recs σ
 |c=>match fitsL (fun _=>false) cl recs && laterOkS E.E ml i r (i+1) with
  |true=>exec1 E ci ev op σ fun v σ'=>K v (⟨i,.all,true⟩ :: recs) σ'
  |false=>match c with
   |1=>match xq1 E σ ev op with
    |some q=>match footS E σ ev op with
     |some (p,A)=>match fitsL (pairS σ0 n0 σ.objs A false) cl recs with
      |true=>preK p (preK q.pre (K q.sv (⟨i,.ls A false,false⟩ :: recs) σ))
      |false=>StuckO op σ
     |none=>StuckO op σ
    |none=>StuckO op σ
   |2=>memW E σ0 n0 cl i recs ev op K (σ.mem (frzL σ.objs (wants ev op)) σ.next)
   |3=>memC E ci cl i recs ev op K σ
   |_=>StuckO op σ:=by
 unfold stepS at h
 split at h
 ·rename_i hc;rw [hc];exact h
 ·rename_i hc
  rw [hc]
  unfold stepL at h
  show (match fitsL (fun _=>false) cl recs && laterOkS E.E ml i r (i+1) with
   |true=>exec1 E ci ev op σ fun v σ'=>K v (⟨i,.all,true⟩ :: recs) σ'
   |false=>stepL1 E σ0 n0 i cl recs ev op σ K)
  split at h
  ·unfold exec1;rw [hc];exact h
  ·exact h
 ·rename_i hc
  rw [hc]
  unfold stepW at h
  show (match fitsL (fun _=>false) cl recs && laterOkS E.E ml i r (i+1) with
   |true=>exec1 E ci ev op σ fun v σ'=>K v (⟨i,.all,true⟩ :: recs) σ'
   |false=>memW E σ0 n0 cl i recs ev op K (σ.mem (frzL σ.objs (wants ev op)) σ.next))
  split at h
  ·unfold exec1;rw [hc];exact h
  ·exact h
 ·rename_i hc
  rw [hc]
  unfold stepC at h
  show (match fitsL (fun _=>false) cl recs && laterOkS E.E ml i r (i+1) with
   |true=>exec1 E ci ev op σ fun v σ'=>K v (⟨i,.all,true⟩ :: recs) σ'
   |false=>memC E ci cl i recs ev op K σ)
  split at h
  ·unfold exec1;rw [hc];exact h
  ·exact h
 ·exact h.out.elim
def drawP (o:Oper) (σ:St) (x:Option St) (k:St→Prop):Prop:=
 match x with
 |some σ'=>k σ'
 |none=>StuckG o σ
def drawB (E:Env) (ci:CI) (σ0:List (Nat×SO)) (n0:Nat) (ml dl:List (Nat×Nat)) (o:Oper) (r:List Oper) (i:Nat) (recs:List RcS) (cl:Nat) (next:List RcS→St→Prop) (b:Bool) (σ:St):Prop:=
 match b with
 |false=>drawP o σ (putS σ o.dst (.tup [])) (next recs)
 |true=>stepS E ci σ0 n0 ml r i cl recs (evDS ml dl i cl σ.regs) o.op σ fun v recs σ'=>drawP o σ' (putS σ' o.dst v) (next recs)
def drawG (E:Env) (ci:CI) (σ0:List (Nat×SO)) (n0:Nat) (all:List Oper) (ml dl:List (Nat×Nat)) (o:Oper) (r:List Oper) (i:Nat) (recs:List RcS) (σ:St) (cl:Nat) (next:List RcS→St→Prop):Prop:=
 match gvisS ml dl i cl all o with
 |false=>StuckG o σ
 |true=>wantS σ all o (drawB E ci σ0 n0 ml dl o r i recs cl next)
def drawS (E:Env) (ci:CI) (σ0:List (Nat×SO)) (n0:Nat) (all:List Oper) (ml dl:List (Nat×Nat)):List Oper→Nat→List RcS→St→(St→Prop)→Prop
 |[],_,_,σ,K=>K σ
 |o :: r,i,recs,σ,K=>match look ml i with
  |none=>StuckG o σ
  |some cl=>drawG E ci σ0 n0 all ml dl o r i recs σ cl fun recs σ'=>drawS E ci σ0 n0 all ml dl r (i+1) recs σ' K
theorem drawS_cons (E:Env) (ci:CI) (σ0:List (Nat×SO)) (n0:Nat) (all:List Oper) (ml dl:List (Nat×Nat)) (o:Oper) (r:List Oper) (i:Nat) (recs:List RcS) (σ:St) (K:St→Prop):drawS E ci σ0 n0 all ml dl (o :: r) i recs σ K =
 match look ml i with
 |none=>StuckG o σ
 |some cl=>match gvisS ml dl i cl all o with
  |false=>StuckG o σ
  |true=>wantS σ all o fun b σ=>match b with
   |false=>match putS σ o.dst (.tup []) with
    |some σ'=>drawS E ci σ0 n0 all ml dl r (i+1) recs σ' K
    |none=>StuckG o σ
   |true=>stepS E ci σ0 n0 ml r i cl recs (evDS ml dl i cl σ.regs) o.op σ fun v recs σ'=>match putS σ' o.dst v with
    |some σ'=>drawS E ci σ0 n0 all ml dl r (i+1) recs σ' K
    |none=>StuckG o σ':=rfl
def regionS (E:Env) (ci:CI) (ops:List Oper) (σ:St) (K:St→Prop):Prop:=
 match prepS ops 0 [] [] with
 |some (ml,dl)=>drawS E ci σ.objs σ.next ops ml dl ops 0 [] σ K
 |none=>StuckD ops σ
end HX

namespace HX
open Go CX
structure StuckC (c:Code) (σ:St):Prop where
 out:False
structure StuckR (fn:String) (σ:St):Prop where
 out:False
structure Leaf (E:CX.Env) (rd:Option Nat) (lo:Nat) (c:Code) (Q:Ex→St→Prop) (σ:St):Prop where
 out:SWP E rd lo c Q σ
def thenQ (k:St→Prop) (Q:Ex→St→Prop):Ex→St→Prop
 |.normal,σ=>k σ
 |e,σ=>Q e σ
def inBlockQ (id:Nat) (Q:Ex→St→Prop):Ex→St→Prop
 |.exit id',σ=>match beqN id' id with
  |true=>Q .normal σ
  |false=>Q (.exit id') σ
 |e,σ=>Q e σ
def resOne (E:Env) (σ:St):ResultVar→Option SV
 |.tmp t=>match look σ.regs t with
  |some .unk=>none
  |x=>x
 |.cell a t=>match E.E.T t,look σ.regs a with
  |some ty,some (.ptr nm off)=>match look σ.objs nm with
   |some (.cells l)=>match bleN (off+ty.size) l.length with
    |true=>pack ty.agg ((l.drop off).take ty.size)
    |false=>none
   |_=>none
  |_,_=>none
def resAll (E:Env) (σ:St):List ResultVar→Option (List SV)
 |[]=>some []
 |x :: r=>match resOne E σ x with
  |some v=>match resAll E σ r with
   |some vs=>some (v :: vs)
   |none=>none
  |none=>none
def takeS:List Nat→List (Nat×SO)→Option (List (Nat×SO))
 |[],l=>some l
 |d :: r,l=>match look l d with
  |some (.dfr true)=>takeS r ((d,.dfr false) :: l)
  |_=>none
def retP (E:Env) (fn:Func) (σ0:St) (K:SV→St→Prop) (σ:St):Prop:=
 match takeS σ.df σ.objs with
 |some objs=>match resAll E (σ.mem objs σ.next) fn.results.toList with
  |some vs=>K (one vs) (σ0.mem objs σ.next)
  |none=>StuckR fn.name σ
 |none=>StuckR fn.name σ
def retK (E:Env) (fn:Func) (σ0:St) (K:SV→St→Prop):Ex→St→Prop
 |.ret,σ=>retP E fn σ0 K σ
 |.normal,σ=>retP E fn σ0 K σ
 |_,σ=>StuckR fn.name σ
def enterS:Nat→List SV→List (Nat×SV)
 |_,[]=>[]
 |t,v :: vs=>(t,v) :: enterS (t+1) vs
def bindS (nt:Nat):List Nat→List SV→List (Nat×SV)→Option (List (Nat×SV))
 |[],[],r=>some r
 |p :: ps,v :: vs,r=>match bltN p nt with
  |true=>bindS nt ps vs ((p,v) :: r)
  |false=>none
 |_,_,_=>none
def exitS:Option Code→(Ex→St→Prop)→St→Prop
 |none,Q,σ=>Q .normal σ
 |some .ret,Q,σ=>Q .ret σ
 |some (.exit id),Q,σ=>Q (.exit id) σ
 |_,_,σ=>StuckC .skip σ
def shutM:Option Nat→List (Nat×SO)→Option (List (Nat×SO))
 |none,l=>some l
 |some d,l=>match look l d with
  |some (.dfr true)=>some ((d,.gone) :: l)
  |_=>none
def rangeK1 (Q:Ex→St→Prop) (σ:St) (j:Option Code) (next:Nat):Option (List (Nat×SO))→Prop
 |some objs=>exitS j Q ⟨σ.nt,σ.regs,objs,next,σ.df⟩
 |none=>StuckC .skip σ
def rangeK (nm:Nat) (mk:Option Nat) (Q:Ex→St→Prop) (σ:St):SV→St→Prop:=fun _ σ2=>
 match look σ2.objs nm with
 |some (.loop st j nt regs ps a b d)=>match st with
  |.busy=>StuckC .skip σ
  |_=>rangeK1 Q σ j σ2.next (shutM mk ((nm,.loop .exhausted j nt regs ps a b d) :: σ2.objs))
 |_=>StuckC .skip σ
def rangeS (rd:Option Nat) (ci:CI) (g:SV) (ps:List Nat) (asg body:Code) (Q:Ex→St→Prop) (σ:St):Prop:=
 match g with
 |.fn f ga gb=>match rd with
  |none=>ci (.fn f ga gb) [.yield (σ.next+1)] (σ.mem ((σ.next+1,.loop .ready none σ.nt σ.regs ps asg body σ.next) :: (σ.next,.dfr true) :: σ.objs) (σ.next+2)) (rangeK (σ.next+1) (some σ.next) Q σ)
  |some l=>match look σ.objs l with
   |some (.loop _ _ _ _ _ _ _ d)=>ci (.fn f ga gb) [.yield σ.next] (σ.mem ((σ.next,.loop .ready none σ.nt σ.regs ps asg body d) :: σ.objs) (σ.next+1)) (rangeK σ.next none Q σ)
   |_=>StuckC .skip σ
 |_=>StuckC .skip σ
def knowO (σ:St) (c:Operand) (b:Bool):St:=
 match c with
 |.tmp t=>σ.know t b
 |_=>σ
def vc (E:Env) (rd:Option Nat) (lo:Nat) (ci:CI):Code→(Ex→St→Prop)→St→Prop
 |.skip,Q,σ=>Q .normal σ
 |.label _,Q,σ=>Q .normal σ
 |.seq a b,Q,σ=>vc E rd lo ci a (thenQ (fun σ'=>vc E rd lo ci b Q σ') Q) σ
 |.ret,Q,σ=>Q .ret σ
 |.exit id,Q,σ=>Q (.exit id) σ
 |.block id b,Q,σ=>vc E rd lo ci b (inBlockQ id Q) σ
 |.cond c a b,Q,σ=>match evR σ.regs c with
  |.bool true=>vc E rd lo ci a Q σ
  |.bool false=>vc E rd lo ci b Q σ
  |.sym p=>Br p (fun _=>vc E rd lo ci a Q (knowO σ c true)) (fun _=>vc E rd lo ci b Q (knowO σ c false))
  |_=>StuckC (.cond c .skip .skip) σ
 |.region _ ops draw,Q,σ=>match draw with
  |false=>seqS E ci ops.toList ops.toList σ (fun σ'=>Q .normal σ')
  |true=>regionS E ci ops.toList σ (fun σ'=>Q .normal σ')
 |.rangeFunc g ps asg body,Q,σ=>rangeS rd ci (evR σ.regs g) ps.toList asg body Q σ
 |c,Q,σ=>Leaf E.E rd lo c Q σ
def yieldK2 (nm:Nat) (σ0:St) (K:SV→St→Prop):Ex→St→Prop:=fun e σ=>
 match look σ.objs nm with
 |some (.loop _ _ nt regs ps a b d)=>match e with
  |.normal=>K (.bool true) (σ0.mem ((nm,.loop .ready none nt regs ps a b d) :: σ.objs) σ.next)
  |.ret=>K (.bool false) (σ0.mem ((nm,.loop .done (some .ret) nt regs ps a b d) :: σ.objs) σ.next)
  |.exit id=>K (.bool false) (σ0.mem ((nm,.loop .done (some (.exit id)) nt regs ps a b d) :: σ.objs) σ.next)
 |_=>StuckC .skip σ
def yieldK1 (E:Env) (ci:CI) (nm nt:Nat) (body:Code) (σ0:St) (K:SV→St→Prop):Ex→St→Prop
 |.normal,σ=>match look σ.objs nm with
  |some (.loop .ready j nt' regs' ps' a' b' d)=>vc E (some nm) σ0.next ci body (yieldK2 nm σ0 K) ⟨nt,σ.regs,(nm,.loop .busy j nt' regs' ps' a' b' d) :: σ.objs,σ.next,σ.df⟩
  |_=>StuckC .skip σ
 |_,σ=>StuckC .skip σ
def ciN (E:Env) (inl:Nat→Option Func):Nat→CI
 |0,_,_,_,_=>False
 |n+1,f,args,σ,K=>match f with
  |.fn g a b=>match inl g with
   |some fn=>match fn.body with
    |some c=>match bleN (a++args++b).length fn.ntmps with
     |true=>vc E none σ.next (ciN E inl n) c (retK E fn σ K) ⟨fn.ntmps,enterS 0 (a++args++b),σ.objs,σ.next,[]⟩
     |false=>StuckF g args σ
    |none=>StuckF g args σ
   |none=>StuckF g args σ
  |.yield nm=>match look σ.objs nm with
   |some (.loop .ready _ nt regs ps asg body _)=>match bindS nt ps args regs with
    |some regs'=>vc E (some nm) σ.next (ciN E inl n) asg (yieldK1 E (ciN E inl n) nm nt body σ K) ⟨nt,regs',σ.objs,σ.next,[]⟩
    |none=>StuckF nm args σ
   |_=>StuckF nm args σ
  |_=>StuckF 0 args σ
end HX

namespace HX
open Go CX
variable {ro:Addr→Option V}
theorem maskS_ok {β:Type} {ml:List (Nat×Nat)} {ms:T Nat} (hm:∀j,ms.get j=look ml j):∀(es:List Edge) (acc m:Nat),maskS ml es acc=some m→∀k:Nat→Option β,maskOf ms es acc k=k m
 |[],acc,m,h,k=>by simp only [maskS,Option.some.injEq] at h;subst h;rfl
 |e :: r,acc,m,h,k=>by
  simp only [maskS] at h
  simp only [maskOf]
  split at h
  ·rename_i hb;simp only [hb];exact maskS_ok hm r acc m h k
  ·rename_i hb
   split at h
   ·rename_i x hx
    rw [←hm] at hx
    simp only [hb,hx,fN_eq]
    exact maskS_ok hm r _ m h k
   ·cases h
theorem prepS_ok {β:Type}:∀(r:List Oper) (i:Nat) (ml dl ml' dl':List (Nat×Nat)),prepS r i ml dl=some (ml',dl')→∀ms dm:T Nat,(∀j,ms.get j=look ml j)→(∀t,dm.get t=look dl t)→
  ∃ms' dm':T Nat,(∀j,ms'.get j=look ml' j)∧(∀t,dm'.get t=look dl' t)∧∀k:T Nat→T Nat→Option β,prep r i ms dm k=k ms' dm'
 |[],i,ml,dl,ml',dl',h,ms,dm,hm,hd=>by
  simp only [prepS,Option.some.injEq,Prod.mk.injEq] at h
  obtain ⟨rfl,rfl⟩:=h
  exact ⟨ms,dm,hm,hd,fun k=>rfl⟩
 |o :: r,i,ml,dl,ml',dl',h,ms,dm,hm,hd=>by
  simp only [prepS] at h
  split at h
  ·rename_i m hmask
   have hm':∀j,(ms.up i (some m)).get j=look ((i,m) :: ml) j:=fun j=>by
    rw [T.get_up,look_cons]
    split
    ·rename_i e;rw [if_pos e.symm]
    ·rename_i e;rw [if_neg (Ne.symm e)];exact hm j
   split at h
   ·rename_i ho
    obtain ⟨ms',dm',a,b,c⟩:=prepS_ok (β:=β) r (i+1) _ _ _ _ h _ dm hm' hd
    refine ⟨ms',dm',a,b,fun k=>?_⟩
    simp only [prep,maskS_ok hm _ _ _ hmask,T.set_eq,ho]
    exact c k
   ·rename_i d ho
    split at h
    ·rename_i hl
     have hd':∀t,(dm.up d (some i)).get t=look ((d,i) :: dl) t:=fun t=>by
      rw [T.get_up,look_cons]
      split
      ·rename_i e;rw [if_pos e.symm]
      ·rename_i e;rw [if_neg (Ne.symm e)];exact hd t
     obtain ⟨ms',dm',a,b,c⟩:=prepS_ok (β:=β) r (i+1) _ _ _ _ h _ _ hm' hd'
     refine ⟨ms',dm',a,b,fun k=>?_⟩
     rw [←hd] at hl
     simp only [prep,maskS_ok hm _ _ _ hmask,T.set_eq,ho,hl]
     exact c k
    ·cases h
  ·cases h
section
variable {ml dl:List (Nat×Nat)} {ms dm:T Nat} (hm:∀j,ms.get j=look ml j) (hd:∀t,dm.get t=look dl t)
include hm hd
theorem visS_ok {regs:T V} {i cl t:Nat} (h:visS ml dl i cl t=true):CX.getD regs ms dm i cl t=regs.get t:=by
 unfold visS at h
 unfold CX.getD
 rw [hd]
 split at h
 ·rename_i hl;rw [hl]
 ·rename_i j hl
  rw [hl]
  simp only
  split at h
  ·rename_i hb;rw [hb]
  ·rename_i hb
   rw [hb]
   simp only
   rw [hm]
   split at h
   ·rename_i m hl2;rw [hl2];simp only;rw [h]
   ·cases h
theorem evDS_ok {C:Cx ro} {n:Nat} {l:List (Nat×SV)} {regs:T V} (hR:RegsS C n l regs) {i cl:Nat}:EvOk C n (evDS ml dl i cl l) (evD regs ms dm i cl):=fun x=>by
 cases x with
 |tmp t=>
  simp only [evDS,evD]
  split
  ·rename_i hv
   rw [visS_ok hm hd hv]
   exact evR_ok hR (.tmp t)
  ·exact .inl rfl
 |const v=>exact evR_ok hR (.const v)
 |func f=>exact evR_ok hR (.func f)
 |global g=>exact .inl rfl
theorem wantB_of {regs:T V} {all:List Oper} {o:Oper} {b:Bool} (h:∀k:Bool→R,wantX regs all o k=k b) {i cl:Nat} (hv:gvisS ml dl i cl all o=true):wantB regs ms dm i cl all o=some b:=by
 have inj:∀{x:Bool},(some (Ex.normal,(⟨cond x 1 0,0,.e,.e,0,[]⟩:CX.St)):R)=some (.normal,⟨cond b 1 0,0,.e,.e,0,[]⟩)→x=b:=by
  intro x hx
  cases x<;>cases b<;>first |rfl |(simp at hx)
 have h:=h fun x=>some (.normal,⟨cond x 1 0,0,.e,.e,0,[]⟩)
 unfold wantX at h
 unfold wantB
 unfold gvisS at hv
 cases hg:o.guard with
 |none=>rw [hg] at h;simp only at h;rw [inj h]
 |some p=>
  obtain ⟨g,want⟩:=p
  rw [hg] at h hv
  simp only [nth_eq] at h hv ⊢
  cases ho:all[g]? with
  |none=>rw [ho] at h;cases h
  |some og=>
   rw [ho] at h hv
   simp only at h hv ⊢
   cases hdst:og.dst with
   |none=>rw [hdst] at h;cases h
   |some d=>
    rw [hdst] at h hv
    simp only at h hv ⊢
    rw [visS_ok hm hd hv]
    cases hr:regs.get d with
    |none=>rw [hr] at h;cases h
    |some u=>
     rw [hr] at h
     cases u with
     |bool x=>cases x<;>cases want<;>exact congrArg some (inj h)
     |tup l=>cases l with
      |nil=>exact congrArg some (inj h)
      |cons _ _=>cases h
     |_=>cases h
end
theorem laterOk_ok {E:CX.Env} {ml:List (Nat×Nat)} {ms:T Nat} (hm:∀j,ms.get j=look ml j) {i:Nat}:∀(r:List Oper) (j:Nat),laterOk E ms i r j=laterOkS E ml i r j
 |[],_=>rfl
 |o :: r,j=>by
  simp only [laterOk,laterOkS,hm,laterOk_ok hm r]
  rfl
theorem disj_of:∀(a b:List Nat),(∀x∈a,x∉b)→disj a b=true
 |[],_,_=>rfl
 |x :: r,b,h=>by
  have h1:CX.memN x b=false:=by
   cases hb:CX.memN x b with
   |false=>rfl
   |true=>exact absurd ((CX.memN_iff b).1 hb) (h x (.head _))
  simp only [disj,h1]
  exact disj_of r b fun y hy=>h y (.tail _ hy)
theorem outs_of {lo hi:Nat}:∀(l:List Nat),(∀x∈l,¬(lo≤x∧x < hi))→outs lo hi l=true
 |[],_=>rfl
 |x :: r,h=>by
  have h1:(Nat.ble lo x && Nat.blt x hi)=false:=by
   cases hb:(Nat.ble lo x && Nat.blt x hi) with
   |false=>rfl
   |true=>
    rw [Bool.and_eq_true,Nat.ble_eq,Nat.blt_eq] at hb
    exact absurd hb (h x (.head _))
  simp only [outs,h1]
  exact outs_of r fun y hy=>h y (.tail _ hy)
theorem below_of {nx:Nat}:∀(l:List Nat),(∀x∈l,x < nx)→below nx l=true
 |[],_=>rfl
 |x :: r,h=>by
  simp only [below,bltT (h x (.head _))]
  exact below_of r fun y hy=>h y (.tail _ hy)
theorem fits_of {cl:Nat} {fp:Fp}:∀(rs:List Rc),(∀r∈rs,CX.bit cl r.i=true∨pairOk fp r=true)→fits cl fp rs=true
 |[],_=>rfl
 |r :: rs,h=>by
  simp only [fits]
  rcases h r (.head _) with h1 |h1
  ·rw [h1];exact fits_of rs fun y hy=>h y (.tail _ hy)
  ·cases hb:CX.bit cl r.i with
   |true=>exact fits_of rs fun y hy=>h y (.tail _ hy)
   |false=>simp only [h1];exact fits_of rs fun y hy=>h y (.tail _ hy)
theorem fitsL_ok {p:RcS→Bool} {cl:Nat}:∀(rs:List RcS),fitsL p cl rs=true→∀r∈rs,CX.bit cl r.i=true∨p r=true
 |[],_,_,hr=>by cases hr
 |r' :: rs,h,r,hr=>by
  simp only [fitsL] at h
  have next:fitsL p cl rs=true:=by
   split at h
   ·exact h
   ·split at h
    ·exact h
    ·cases h
  rcases List.mem_cons.1 hr with rfl |hr
  ·split at h
   ·exact .inl ‹_›
   ·split at h
    ·exact .inr ‹_›
    ·cases h
  ·exact fitsL_ok rs next r hr
theorem without_same {cl:Nat}:∀(rs:List Rc) (h:T O),(∀r∈rs,CX.bit cl r.i=true∨r.hi≤r.lo)→withoutS cl rs h=h
 |[],_,_=>rfl
 |r :: rs,h,hr=>by
  simp only [withoutS]
  cases hb:CX.bit cl r.i with
  |true=>exact without_same rs h fun y hy=>hr y (.tail _ hy)
  |false=>
   simp only
   rcases hr r (.head _) with h1 |h1
   ·rw [h1] at hb;cases hb
   ·rw [show Nat.sub r.hi r.lo=0 from Nat.sub_eq_zero_of_le h1]
    exact without_same rs _ fun y hy=>hr y (.tail _ hy)
def AtR (C:Cx ro) (n:Nat):At→Nat→Prop
 |.cl nm,id=>nm < n∧id=C.ids nm
 |.ar nm,id=>nm < n∧id=C.ids nm∧C.hdr nm≠.nils
 |.fz b,id=>b≤n∧id < C.bd b∧∃o,C.g id=some o
theorem AtR.ag {C C':Cx ro} {n m:Nat} (ha:Ag n C C') (hn:n≤m) {a:At} {id:Nat} (h:AtR C n a id):AtR C' m a id:=by
 cases a with
 |cl nm=>exact ⟨by have:=h.1;omega,by rw [ha.ids _ h.1];exact h.2⟩
 |ar nm=>exact ⟨by have:=h.1;omega,by rw [ha.ids _ h.1];exact h.2.1,by rw [ha.hdr _ h.1];exact h.2.2⟩
 |fz b=>
  obtain ⟨h1,h2,o,h3⟩:=h
  exact ⟨by omega,by rw [ha.bd _ h1];exact h2,o,ha.g _ _ h3⟩
def FtR (C:Cx ro) (n:Nat) (A:List At) (F:List Nat):Prop:=∀id∈F,∃a∈A,AtR C n a id
def FpR (C:Cx ro) (n:Nat):FpS→Fp→Prop
 |.all,.all=>True
 |.q,.q=>True
 |.ls A wr,.ls F wr'=>wr=wr'∧FtR C n A F
 |_,_=>False
structure RcR (C:Cx ro) (n nx0:Nat) (r:RcS) (x:Rc):Prop where
 i:x.i=r.i
 fp:FpR C n r.fp x.fp
 lo:nx0≤x.lo
 al:r.al=false→x.hi≤x.lo
theorem RcR.ag {C C':Cx ro} {n m nx0:Nat} (ha:Ag n C C') (hn:n≤m) {r:RcS} {x:Rc} (h:RcR C n nx0 r x):RcR C' m nx0 r x:=by
 refine ⟨h.i,?_,h.lo,h.al⟩
 have:=h.fp
 revert this
 cases r.fp<;>cases x.fp<;>simp only [FpR]<;>intro hh<;>first |trivial |exact hh |skip
 exact ⟨hh.1,fun id hid=>let ⟨a,h1,h2⟩:=hh.2 id hid;⟨a,h1,h2.ag ha hn⟩⟩
def RcsR (C:Cx ro) (n nx0:Nat):List RcS→List Rc→Prop
 |[],[]=>True
 |r :: rs,x :: xs=>RcR C n nx0 r x∧RcsR C n nx0 rs xs
 |_,_=>False
theorem RcsR.ag {C C':Cx ro} {n m nx0:Nat} (ha:Ag n C C') (hn:n≤m):∀{rs:List RcS} {xs:List Rc},RcsR C n nx0 rs xs→RcsR C' m nx0 rs xs
 |[],[],_=>trivial
 |_ :: _,_ :: _,h=>⟨h.1.ag ha hn,RcsR.ag ha hn h.2⟩
 |[],_ :: _,h=>h.elim
 |_ :: _,[],h=>h.elim
theorem RcsR.mem {C:Cx ro} {n nx0:Nat}:∀{rs:List RcS} {xs:List Rc},RcsR C n nx0 rs xs→∀x∈xs,∃r∈rs,RcR C n nx0 r x
 |[],[],_,_,hx=>by cases hx
 |r :: rs,x' :: xs,h,x,hx=>by
  rcases List.mem_cons.1 hx with rfl |hx
  ·exact ⟨r,.head _,h.1⟩
  ·obtain ⟨r',a,b⟩:=RcsR.mem h.2 x hx
   exact ⟨r',.tail _ a,b⟩
 |[],_ :: _,h,_,_=>h.elim
 |_ :: _,[],h,_,_=>h.elim
theorem isCl_ok {s:Option SO} (h:isCl s=true):∃l,s=some (.cells l):=by
 unfold isCl at h
 split at h
 ·exact ⟨_,rfl⟩
 ·cases h
theorem isAr_ok {s:Option SO} (h:isAr s=true):∃og ks rows,s=some (.arr og ks rows):=by
 unfold isAr at h
 split at h
 ·exact ⟨_,_,_,rfl⟩
 ·cases h
section
variable {C:Cx ro} {objs:List (Nat×SO)} {n bar:Nat} {h:Nat→Option O} {nx:Nat} (hM:MSim C objs n bar h nx)
include hM
theorem dis_ok {a b:At} (hd:disA objs a b=true) {x y:Nat} (hx:AtR C n a x) (hy:AtR C n b y):x≠y:=by
 have fzc:∀{bb nm:Nat} {x y:Nat} {so:SO},AtR C n (.fz bb) x→look objs nm=some so→ownS C nm so→y=C.ids nm→x≠y:=by
  intro bb nm x y so hx hl ho hy e
  obtain ⟨_,_,o,hg⟩:=hx
  have:=(hM.own _ _ hl ho).2.2
  rw [e,hy,this] at hg
  cases hg
 have fz0:∀{bb x:Nat},beqN bb 0=true→¬AtR C n (.fz bb) x:=fun {bb x} hb h=>by
  rw [beqN_iff] at hb
  subst hb
  have:=h.2.1
  rw [hM.z] at this
  omega
 cases a<;>cases b<;>simp only [disA,Bool.and_eq_true,Bool.or_eq_true,Bool.not_eq_true'] at hd
 case cl.cl=>
  obtain ⟨h1,h2,h3⟩:=hd
  obtain ⟨l,hl⟩:=isCl_ok h2
  obtain ⟨l',hl'⟩:=isCl_ok h3
  rw [hx.2,hy.2]
  exact hM.inj _ _ _ _ hl hl' trivial trivial (fun e=>by rw [←beqN_iff,h1] at e;cases e)
 case cl.ar=>
  obtain ⟨h1,h2,h3⟩:=hd
  obtain ⟨l,hl⟩:=isCl_ok h2
  obtain ⟨og,ks,rows,hl'⟩:=isAr_ok h3
  rw [hx.2,hy.2.1]
  exact hM.inj _ _ _ _ hl hl' trivial hy.2.2 (fun e=>by rw [←beqN_iff,h1] at e;cases e)
 case ar.cl=>
  obtain ⟨h1,h2,h3⟩:=hd
  obtain ⟨l,hl⟩:=isCl_ok h3
  obtain ⟨og,ks,rows,hl'⟩:=isAr_ok h2
  rw [hx.2.1,hy.2]
  exact hM.inj _ _ _ _ hl' hl hx.2.2 trivial (fun e=>by rw [←beqN_iff,h1] at e;cases e)
 case ar.ar=>
  obtain ⟨h1,h2,h3⟩:=hd
  obtain ⟨og,ks,rows,hl⟩:=isAr_ok h2
  obtain ⟨og',ks',rows',hl'⟩:=isAr_ok h3
  rw [hx.2.1,hy.2.1]
  exact hM.inj _ _ _ _ hl hl' hx.2.2 hy.2.2 (fun e=>by rw [←beqN_iff,h1] at e;cases e)
 case fz.cl=>
  rcases hd with hd |hd
  ·exact absurd hx (fz0 hd)
  obtain ⟨l,hl⟩:=isCl_ok hd
  exact fzc hx hl trivial hy.2
 case fz.ar=>
  rcases hd with hd |hd
  ·exact absurd hx (fz0 hd)
  obtain ⟨og,ks,rows,hl⟩:=isAr_ok hd
  exact fzc hx hl hy.2.2 hy.2.1
 case cl.fz=>
  rcases hd with hd |hd
  ·exact absurd hy (fz0 hd)
  obtain ⟨l,hl⟩:=isCl_ok hd
  exact (fzc hy hl trivial hx.2).symm
 case ar.fz=>
  rcases hd with hd |hd
  ·exact absurd hy (fz0 hd)
  obtain ⟨og,ks,rows,hl⟩:=isAr_ok hd
  exact (fzc hy hl hx.2.2 hx.2.1).symm
 case fz.fz=>
  rcases hd with hd |hd
  ·exact absurd hx (fz0 hd)
  ·exact absurd hy (fz0 hd)
theorem old_ok {C':Cx ro} {n':Nat} (ha:Ag n C C') {a:At} (ho:oldA objs n a=true) {x:Nat} (hx:AtR C' n' a x):x < nx:=by
 cases a with
 |cl nm=>
  obtain ⟨l,hl⟩:=isCl_ok ho
  rw [hx.2,ha.ids _ (hM.lt _ _ hl)]
  exact (hM.own _ _ hl trivial).2.1
 |ar nm=>
  obtain ⟨og,ks,rows,hl⟩:=isAr_ok ho
  have hlt:=hM.lt _ _ hl
  rw [hx.2.1,ha.ids _ hlt]
  exact (hM.own _ _ hl (by have:=hx.2.2;rw [ha.hdr _ hlt] at this;exact this)).2.1
 |fz b=>
  simp only [oldA,bleN_iff] at ho
  have:=hx.2.1
  rw [ha.bd _ ho] at this
  exact Nat.lt_of_lt_of_le this (hM.bd _ ho)
end
theorem pairS_ok {C0:Cx ro} {σ0:List (Nat×SO)} {n0 bar0:Nat} {h0:Nat→Option O} {nx0:Nat} (hM0:MSim C0 σ0 n0 bar0 h0 nx0) {C:Cx ro} (ha:Ag n0 C0 C) {objs:List (Nat×SO)} {n bar:Nat} {h:Nat→Option O} {nx:Nat} (hM:MSim C objs n bar h nx)
  {A:List At} {F:List Nat} (hF:FtR C n A F) {wr:Bool} {r:RcS} {x:Rc} (hx:RcR C n nx0 r x) (hp:pairS σ0 n0 objs A wr r=true):pairOk (.ls F wr) x=true:=by
 have hout:(!r.al || A.all (oldA σ0 n0))=true→outs x.lo x.hi F=true:=by
  intro ho
  refine outs_of F fun id hid hh=>?_
  rw [Bool.or_eq_true,Bool.not_eq_true'] at ho
  rcases ho with ho |ho
  ·have:=hx.al ho;omega
  ·obtain ⟨a,h1,h2⟩:=hF id hid
   have:=old_ok hM0 ha (List.all_eq_true.1 ho a h1) h2
   have:=hx.lo
   omega
 have hfp:=hx.fp
 unfold pairS at hp
 cases hr:r.fp with
 |all=>rw [hr] at hp;cases hp
 |q=>
  rw [hr] at hp hfp
  cases hxf:x.fp<;>rw [hxf] at hfp<;>simp only [FpR] at hfp
  simp only [pairOk,hxf]
  cases wr with
  |true=>
   simp only [noA] at hp ⊢
   cases F with
   |nil=>rfl
   |cons id F=>
    obtain ⟨a,h1,_⟩:=hF id (.head _)
    split at hp
    ·cases h1
    ·cases hp
  |false=>exact hout hp
 |ls B wr'=>
  rw [hr] at hp hfp
  cases hxf:x.fp<;>rw [hxf] at hfp<;>simp only [FpR] at hfp
  rename_i F' wr2
  obtain ⟨rfl,hB⟩:=hfp
  simp only [Bool.and_eq_true] at hp
  obtain ⟨hp1,hp2⟩:=hp
  simp only [pairOk,hxf,hout hp1]
  have hdis:disL objs A B=true→disj F F'=true:=by
   intro hd
   refine disj_of F F' fun id hid hid'=>?_
   obtain ⟨a,a1,a2⟩:=hF id hid
   obtain ⟨b,b1,b2⟩:=hB id hid'
   exact dis_ok hM (List.all_eq_true.1 (List.all_eq_true.1 hd a a1) b b1) a2 b2 rfl
  cases wr<;>cases wr'<;>simp only [Bool.or_false,Bool.or_true,Bool.true_or] at hp2 ⊢<;>exact hdis hp2
theorem fitsA_ok {C:Cx ro} {n nx0:Nat} {p:RcS→Bool} {cl:Nat} {rs:List RcS} {xs:List Rc} (hR:RcsR C n nx0 rs xs) (h:fitsL p cl rs=true) {fp:Fp} (hp:∀r x,RcR C n nx0 r x→p r=true→pairOk fp x=true):fits cl fp xs=true:=by
 refine fits_of xs fun x hx=>?_
 obtain ⟨r,h1,h2⟩:=hR.mem x hx
 rcases fitsL_ok rs h r h1 with hb |hb
 ·exact .inl (by rw [h2.i];exact hb)
 ·exact .inr (hp r x h2 hb)
theorem atomsOf_ok {E:Env} (hA:E.A=Ar.std) {C:Cx ro} {σ:St} {bar:Nat} {h:Nat→Option O} {nx:Nat} (hM:MSim C σ.objs σ.next bar h nx) {x:SV} {v:V} (hx:RvS C σ.next x v) {p:List Prop} {A:List At} (ha:atomsOf E σ x=some (p,A)) (hp:∀q∈p,q):∀id∈footV v,id < nx∧∃a∈A,AtR C σ.next a id:=by
 have slcv:∀{nm:Nat},nm < σ.next→isHdr (C.hdr nm)→isAr (look σ.objs nm)=true→∀id∈footV (C.hdr nm),id < nx∧∃a∈[At.ar nm],AtR C σ.next a id:=by
  intro nm hnm hh hl id hid
  obtain ⟨og,ks,rows,hl⟩:=isAr_ok hl
  have ho:=hM.ob _ _ hl
  simp only [ObS] at ho
  obtain ⟨_,⟨_,e⟩ |⟨t,m,cap,e,_⟩⟩:=ho
  ·rw [e] at hid;simp [footV] at hid
  ·rw [e] at hid
   simp only [footV,List.mem_singleton] at hid
   have hne:C.hdr nm≠.nils:=by rw [e];intro e;cases e
   exact ⟨by rw [hid];exact (hM.own _ _ hl hne).2.1,.ar nm,by simp,hnm,hid,hne⟩
 unfold atomsOf at ha
 split at ha
 ·split at ha
  ·rename_i hl
   obtain ⟨l,hl⟩:=isCl_ok hl
   simp only [Option.some.injEq,Prod.mk.injEq] at ha
   obtain ⟨rfl,rfl⟩:=ha
   simp only [RvS] at hx
   obtain ⟨h1,rfl⟩:=hx
   intro id hid
   simp only [footV,List.mem_singleton] at hid
   exact ⟨by rw [hid];exact (hM.own _ _ hl trivial).2.1,_,.head _,h1,hid⟩
  ·cases ha
 ·rename_i nm es i off
  split at ha
  ·rename_i og ks rows hl
   simp only [Option.some.injEq,Prod.mk.injEq] at ha
   obtain ⟨rfl,rfl⟩:=ha
   simp only [RvS] at hx
   obtain ⟨h1,rfl⟩:=hx
   intro id hid
   simp only [footV,List.mem_singleton] at hid
   have hne:C.hdr nm≠.nils:=by
    have p1:=hp _ (.head _)
    rw [hA] at p1
    have ho:=hM.ob _ _ hl
    simp only [ObS] at ho
    obtain ⟨_,⟨hr,_⟩ |⟨t,m,cap,e,_⟩⟩:=ho
    ·rw [hr] at p1
     simp [Ar.std] at p1
     omega
    ·rw [e];intro e;cases e
   exact ⟨by rw [hid];exact (hM.own _ _ hl hne).2.1,_,.head _,h1,hid,hne⟩
  ·cases ha
 ·rename_i b ks rows i off
  simp only [Option.some.injEq,Prod.mk.injEq] at ha
  obtain ⟨rfl,rfl⟩:=ha
  simp only [RvS,FelR] at hx
  obtain ⟨h0,⟨id',base,t,m,rfl,h2,h3,_⟩ |⟨a,rfl,_⟩⟩:=hx
  ·intro id hid
   simp only [footV,List.mem_singleton] at hid
   subst hid
   exact ⟨(hM.fz _ _ h3).1,_,.head _,h0,h2,_,h3⟩
  ·intro id hid;simp [footV] at hid
 ·split at ha
  ·rename_i hl
   simp only [Option.some.injEq,Prod.mk.injEq] at ha
   obtain ⟨rfl,rfl⟩:=ha
   simp only [RvS] at hx
   obtain ⟨h1,rfl,h2⟩:=hx
   exact slcv h1 h2 hl
  ·cases ha
 ·rename_i nm lo m
  split at ha
  ·rename_i hl
   obtain ⟨og,ks,rows,hl⟩:=isAr_ok hl
   simp only [Option.some.injEq,Prod.mk.injEq] at ha
   obtain ⟨rfl,rfl⟩:=ha
   simp only [RvS,VwR] at hx
   obtain ⟨h1,⟨_,rfl,_⟩ |⟨es,len,cap0,off,cap,e,rfl,_⟩⟩:=hx
   ·intro id hid;simp [footV] at hid
   ·intro id hid
    simp only [footV,List.mem_singleton] at hid
    have hne:C.hdr nm≠.nils:=by rw [e];intro e;cases e
    exact ⟨by rw [hid];exact (hM.own _ _ hl hne).2.1,_,.head _,h1,hid,hne⟩
  ·cases ha
 ·split at ha
  ·rename_i hl
   obtain ⟨l,hl⟩:=isCl_ok hl
   simp only [Option.some.injEq,Prod.mk.injEq] at ha
   obtain ⟨rfl,rfl⟩:=ha
   simp only [RvS] at hx
   obtain ⟨h1,_,cap,rfl,_⟩:=hx
   intro id hid
   simp only [footV,List.mem_singleton] at hid
   exact ⟨by rw [hid];exact (hM.own _ _ hl trivial).2.1,_,.head _,h1,hid⟩
  ·cases ha
 ·simp only [Option.some.injEq,Prod.mk.injEq] at ha
  obtain ⟨rfl,rfl⟩:=ha
  simp only [RvS,FzC,D.rows] at hx
  obtain ⟨h0,_,⟨_,rfl⟩ |⟨id',off,cap,rfl,_,_,h2,t,m,h3,_⟩ |⟨a,cap,rfl,_⟩⟩:=hx
  ·intro id hid;simp [footV] at hid
  ·intro id hid
   simp only [footV,List.mem_singleton] at hid
   subst hid
   exact ⟨(hM.fz _ _ h3).1,_,.head _,h0,h2,_,h3⟩
  ·intro id hid;simp [footV] at hid
 ·simp only [Option.some.injEq,Prod.mk.injEq] at ha
  obtain ⟨rfl,rfl⟩:=ha
  simp only [RvS] at hx
  subst hx
  intro id hid;simp [footV] at hid
 ·cases ha
theorem footS_ok {E:Env} (hA:E.A=Ar.std) {C:Cx ro} {σ:St} {bar:Nat} {h:Nat→Option O} {nx:Nat} (hM:MSim C σ.objs σ.next bar h nx) {ev:Operand→SV} {evc:Operand→Option V} (hev:EvOk C σ.next ev evc) {op:Op} {p:List Prop} {A:List At} (ha:footS E σ ev op=some (p,A)) (hp:∀q∈p,q)
  {F:List Nat} (hF:foot evc op=some F):∀id∈F,id < nx∧∃a∈A,AtR C σ.next a id:=by
 have ne:∀{y:Operand} {r:List Prop×List At},atomsOf E σ (ev y)=some r→ev y≠.unk:=fun h e=>by rw [e] at h;simp [atomsOf] at h
 have one:∀{y:Operand} {p:List Prop} {A:List At} {F:List Nat},atomsOf E σ (ev y)=some (p,A)→(∀q∈p,q)→foot1 evc y=some F→∀id∈F,id < nx∧∃a∈A,AtR C σ.next a id:=by
  intro y p A F h hp hF
  obtain ⟨v,e1,e2⟩:=hev.get rfl (ne h)
  rw [foot1_eq e1] at hF
  simp only [Option.some.injEq] at hF
  subst hF
  exact atomsOf_ok hA hM e2 h hp
 unfold footS at ha
 split at ha
 ·exact one ha hp hF
 ·exact one ha hp hF
 ·rename_i c
  split at ha
  ·rename_i x y hargs
   split at ha
   ·rename_i p1 a1 p2 a2 hx hy
    simp only [Option.some.injEq,Prod.mk.injEq] at ha
    obtain ⟨rfl,rfl⟩:=ha
    simp only [foot,hargs] at hF
    split at hF
    ·rename_i f1 f2 h1 h2
     simp only [Option.some.injEq] at hF
     subst hF
     intro id hid
     rcases List.mem_append.1 hid with hid |hid
     ·obtain ⟨d,a,b,c⟩:=one hx (fun q hq=>hp q (List.mem_append_left _ hq)) h1 id hid
      exact ⟨d,a,List.mem_append_left _ b,c⟩
     ·obtain ⟨d,a,b,c⟩:=one hy (fun q hq=>hp q (List.mem_append_right _ hq)) h2 id hid
      exact ⟨d,a,List.mem_append_right _ b,c⟩
    ·cases hF
   ·cases ha
  ·cases ha
 all_goals first
  |(simp only [foot,Option.some.injEq] at hF;subst hF;intro id hid;cases hid)
  |cases ha
end HX

namespace HX
open Go CX
variable {ro:Addr→Option V}
theorem MSim.cong {C:Cx ro} {objs:List (Nat×SO)} {n bar:Nat} {h h2:Nat→Option O} {nx:Nat} (hM:MSim C objs n bar h nx) (hh:∀id,id < nx→h2 id=h id):MSim C objs n bar h2 nx:=
 ⟨hM.lt,fun nm so hl=>ObS.mono (Ag.refl _ _) (Nat.le_refl _) (Nat.le_refl _) (hM.lt _ _ hl) (fun hw=>hh _ (hM.own _ _ hl hw).2.1) (hM.ob _ _ hl),hM.own,hM.inj,
  fun id o hg=>⟨(hM.fz _ _ hg).1,by rw [hh _ (hM.fz _ _ hg).1];exact (hM.fz _ _ hg).2⟩,hM.bd,hM.top,hM.barle,hM.z⟩
theorem memD_of {E:CX.Env} {ih:IH} {ms dm:T Nat} {i cl:Nat} {recs:List Rc} {o:Oper} {S:CX.St} {fp:Fp} {hv:T O} {barv:Nat} {v:V} {h' h2:T O} {nx':Nat}
  (h1:belowF S.nx fp=true) (hfits:fits cl fp recs=true) (h3:S.bar≤S.nx) (hview:∀k:T O→Nat→Option (CX.St×List Rc),viewX cl recs fp S.h S.bar S.nx k=k hv barv)
  (hop:opA E ih barv (evD S.regs ms dm i cl) hv S.nx o.op retV=retV v h' nx') (hle:S.nx≤nx') (hmerge:∀k:T O→Option (CX.St×List Rc),mergeX fp S.h h' S.bar S.nx nx' k=k h2) :
  memD E ih ms dm i cl recs o S fp=putO ⟨S.nt,S.bar,S.regs,h2,nx',S.df⟩ o.dst v fun S'=>some (S',⟨i,fp,S.nx,nx'⟩ :: recs):=by
 obtain ⟨nt,bar,regs,h,nx,df⟩:=S
 have e:(belowF nx fp && fits cl fp recs && Nat.ble bar nx)=true:=by
  rw [show belowF nx fp=true from h1,hfits,bleT h3];rfl
 simp only [memD,e]
 rw [hview]
 simp only at hop
 rw [hop]
 simp only [retV,outV,bleT hle]
 rw [hmerge]
theorem fitsAll_eq {C:Cx ro} {n nx0 cl:Nat}:∀{rs:List RcS} {xs:List Rc},RcsR C n nx0 rs xs→fits cl .all xs=fitsL (fun _=>false) cl rs
 |[],[],_=>rfl
 |r :: rs,x :: xs,h=>by
  simp only [fits,fitsL,h.1.i,pairOk,fitsAll_eq h.2]
  cases CX.bit cl r.i<;>rfl
 |[],_ :: _,h=>h.elim
 |_ :: _,[],h=>h.elim
noncomputable def stepT (E:CX.Env) (ih:IH) (ms dm:T Nat) (r:List Oper) (o:Oper) (i cl:Nat) (recs:List Rc) (S:CX.St):Option (CX.St×List Rc):=
 match clsOf E o.op with
 |0=>outV (opP E (evD S.regs ms dm i cl) o.op (fun v=>retV v .e 0)) fun v _ _=>putO S o.dst v fun S=>some (S,recs)
 |c=>match pickD E ms dm cl r i recs o S c with
  |some fp=>memD E ih ms dm i cl recs o S fp
  |none=>none
structure StepR (E:CX.Env) (ms dm:T Nat) (r:List Oper) (o:Oper) (i cl:Nat) (xs:List Rc) (S:CX.St) (nx0:Nat) (C:Cx E.ro) (σ:St) (K:SV→List RcS→St→Prop) (v:V) (C':Cx E.ro) (h':T O) (nx':Nat) (s:SV) (σ':St) (rs':List RcS) (xs':List Rc):Prop where
 run:Evt fun n=>stepT E (cx E n) ms dm r o i cl xs S=putO ⟨S.nt,S.bar,S.regs,h',nx',S.df⟩ o.dst v fun S'=>some (S',xs')
 m:MSim C' σ'.objs σ'.next S.bar h'.get nx'
 e:MExt C σ.objs σ.next S.h.get S.nx C' σ'.objs σ'.next h'.get nx'
 v:RvS C' σ'.next s v
 nt:σ'.nt=σ.nt
 regs:σ'.regs=σ.regs
 df:σ'.df=σ.df
 recs:RcsR C' σ'.next nx0 rs' xs'
 k:K s rs' σ'
section
variable {E:Env} (hE:EnvOk E)
include hE
theorem putO_ok {σ σ':St} {dst:Option Nat} {s:SV} (h:putS σ dst s=some σ') {C:Cx E.E.ro} {S:CX.St} (hnt:S.nt=σ.nt) (hR:RegsS C σ.next σ.regs S.regs) {v:V} (hv:RvS C σ.next s v) {β:Type} :
  ∃regs,(∀k:CX.St→Option β,putO S dst v k=k ⟨S.nt,S.bar,regs,S.h,S.nx,S.df⟩)∧RegsS C σ.next σ'.regs regs∧σ'.nt=σ.nt∧σ'.objs=σ.objs∧σ'.next=σ.next∧σ'.df=σ.df:=by
 obtain ⟨regs,p1,p2⟩:=putS_ok hE h hnt hR hv S.h S.nx
 refine ⟨regs,fun k=>?_,p2⟩
 obtain ⟨nt,bar,rg,hp,nx,df⟩:=S
 unfold putD at p1
 unfold putO
 cases dst with
 |none=>
  have:=p1 fun S=>some (.normal,S)
  simp at this
  simp only
  rw [this]
 |some d=>
  simp only at p1 ⊢
  cases hb:Nat.blt d nt with
  |false=>
   have:=p1 fun S=>some (.normal,S)
   rw [hb] at this
   cases this
  |true=>
   have:=p1 fun S=>some (.normal,S)
   rw [hb] at this
   simp [T.set_eq] at this
   simp only [T.set_eq]
   rw [this]
theorem callS_q {ci:CI} {f:SV} {args:List SV} {σ:St} {K:SV→St→Prop} (h:callS E ci f args σ K) (hc:isCtr E f=true) {C:Cx E.E.ro} {bar:Nat} {hp:T O} {nx:Nat} (hM:MSim C σ.objs σ.next bar hp.get nx) {vf:V} {va:List V} (hf:RvS C σ.next f vf) (ha:RvSL C σ.next args va) :
  CallQ E.E (fun n k=>callV E.E (cx E.E n) nx hp nx vf va k) C σ bar hp.get nx K:=by
 unfold isCtr at hc
 rw [callS_eq] at h
 split at h
 ·rename_i g a b
  split at h
  ·rename_i sg hs
   simp only [RvS] at hf
   obtain ⟨x,y,f1,f2,rfl⟩:=hf
   have hargs:RvSL C σ.next (a++args++b) (x++va++y):=RvSL.append (RvSL.append f1 ha) f2
   split at h
   ·exact callC_ok hE hs h hM (Nat.le_refl _) hargs
   ·obtain ⟨C1,h1,e1⟩:=hM.frzL (a++args++b)
    obtain ⟨v,C',h',nx',s,σ',k1,k2,k3,k4,k5,k6,k7,k8,k9⟩:=callC_ok hE hs h h1 (Nat.le_refl nx) (RvSL.ag e1.ag (Nat.le_refl _) _ _ hargs)
    exact ⟨v,C',h',nx',s,σ',k1,k2,e1.trans k3,k4,k5,k6,k7,k8,k9⟩
  ·rename_i hs
   simp only [hs] at hc;cases hc
 ·rename_i hno
  exfalso
  cases f<;>first |exact hno _ _ _ rfl |simp at hc
set_option maxHeartbeats 1000000 in
theorem stepS_ok {ci:CI} (hci:CIOk E.E ci) {C0:Cx E.E.ro} {σ0:List (Nat×SO)} {n0 bar0:Nat} {h0:Nat→Option O} {nx0:Nat} (hM0:MSim C0 σ0 n0 bar0 h0 nx0) {ml:List (Nat×Nat)} {ms dm:T Nat} (hm:∀j,ms.get j=look ml j) {r:List Oper} {i cl:Nat} {rs:List RcS} {o:Oper} {σ:St} {ev:Operand→SV} {K:SV→List RcS→St→Prop}
  (h:stepS E ci σ0 n0 ml r i cl rs ev o.op σ K) {C:Cx E.E.ro} {S:CX.St} (hM:MSim C σ.objs σ.next S.bar S.h.get S.nx) (ha:Ag n0 C0 C) (hn0:n0≤σ.next) (hnx0:nx0≤S.nx) {xs:List Rc} (hR:RcsR C σ.next nx0 rs xs) (hev:EvOk C σ.next ev (evD S.regs ms dm i cl)) :
  ∃v C' h' nx' s σ' rs' xs',StepR E.E ms dm r o i cl xs S nx0 C σ K v C' h' nx' s σ' rs' xs':=by
 have h:=stepS_imp _ _ _ _ _ _ _ _ _ _ _ _ _ h
 split at h
 ·rename_i hc
  obtain ⟨sv,v,v1,v2,h2⟩:=exec0_ok hE h hM hev
  refine ⟨v,C,S.h,S.nx,sv,σ,rs,xs,⟨Evt.of fun n=>?_,hM,MExt.refl _ _ _ _ _,v1,rfl,rfl,rfl,hR,h2⟩⟩
  unfold stepT
  split
  ·rw [v2];rfl
  ·rename_i hn;exact absurd hc hn
 ·rename_i hc0
  have hst:∀(n:Nat) (fp:Fp),pickD E.E ms dm cl r i xs o S (clsOf E.E o.op)=some fp→stepT E.E (cx E.E n) ms dm r o i cl xs S=memD E.E (cx E.E n) ms dm i cl xs o S fp:=by
   intro n fp hp
   unfold stepT
   split
   ·rename_i hc;exact absurd hc hc0
   ·simp only [hp]
  have hall:(fits cl .all xs && laterOk E.E ms i r (Nat.succ i))=(fitsL (fun _=>false) cl rs && laterOkS E.E ml i r (i+1)):=by
   rw [fitsAll_eq hR,laterOk_ok hm]
  split at h
  ·-- all memory
   rename_i hfa
   rw [hfa] at hall
   have hpick:pickD E.E ms dm cl r i xs o S (clsOf E.E o.op)=some .all:=by
    simp only [pickD,hall]
   rw [Bool.and_eq_true] at hall
   obtain ⟨v,C',h',nx',s,σ',k1,k2,k3,k4,k5,k6,k7,k8⟩:=exec1_ok hE hci h hM hev
   refine ⟨v,C',h',nx',s,σ',⟨i,.all,true⟩ :: rs,⟨i,.all,S.nx,nx'⟩ :: xs,⟨k1.mono fun n hn=>?_,k2,k3,k4,k5,k6,k7,⟨⟨rfl,trivial,hnx0,fun e=>by cases e⟩,hR.ag k3.ag k3.le⟩,k8⟩⟩
   rw [hst n _ hpick]
   exact memD_of (hv:=S.h) (barv:=S.bar) rfl hall.1 hM.barle (fun _=>rfl) (hn retV) k3.nxle (fun _=>rfl)
  ·rename_i hfa
   rw [hfa] at hall
   split at h
   ·-- a load
    rename_i hc
    split at h
    ·rename_i q hq
     split at h
     ·rename_i p A hfo
      split at h
      ·rename_i hfit
       obtain ⟨hp,h⟩:=preK_ok h
       obtain ⟨h1,h2⟩:=preK_ok h
       unfold xq1 at hq
       split at hq
       ·rename_i t x hop
        have hx:ev x≠.unk:=fun e=>by rw [e] at hq;unfold xload at hq;split at hq<;>simp at hq
        obtain ⟨vx,e1,e2⟩:=hev.get rfl hx
        have hF:foot (evD S.regs ms dm i cl) o.op=some (footV vx):=by rw [hop];simp only [foot];exact foot1_eq e1
        have hFt:=footS_ok hE.A hM hev hfo hp hF
        have hpick:pickD E.E ms dm cl r i xs o S (clsOf E.E o.op)=some (.ls (footV vx) false):=by
         simp only [pickD,hall,hc,hF]
        obtain ⟨v,v1,v2⟩:=load_ok hE.A hE.T hM e2 hq h1 e1
        have hFt':FtR C σ.next A (footV vx):=fun id hid=>(hFt id hid).2
        refine ⟨v,C,S.h,S.nx,q.sv,σ,⟨i,.ls A false,false⟩ :: rs,⟨i,.ls (footV vx) false,S.nx,S.nx⟩ :: xs,⟨Evt.of fun n=>?_,hM,MExt.refl _ _ _ _ _,v1,rfl,rfl,rfl,⟨⟨rfl,⟨rfl,hFt'⟩,hnx0,fun _=>Nat.le_refl _⟩,hR⟩,h2⟩⟩
        rw [hst n _ hpick]
        refine memD_of (hv:=partS S.h (footV vx) .e) (barv:=S.nx) (below_of _ fun id hid=>(hFt id hid).1) (fitsA_ok hR hfit fun r x hx hp=>pairS_ok hM0 ha hM hFt' hx hp) hM.barle (fun k=>?_) (h':=partS S.h (footV vx) .e) ?_ (Nat.le_refl _) (fun k=>?_)
        ·simp only [viewX];rw [part_eq]
        ·have v3:∀k,opL E.E (partS S.h (footV vx) .e) (evD S.regs ms dm i cl) (.load t x) k=k v:=by
          rcases v2 with ⟨id,off,e,v2⟩ |⟨a,e,v2⟩
          ·refine v2 _ ?_
           rw [partS_get,if_pos (by rw [e];simp [footV])]
          ·exact v2 _
         have hcl:clsOf E.E (.load t x)=1:=rfl
         rw [hop]
         simp only [opA,hcl]
         exact v3 _
        ·simp only [mergeX,show Nat.sub S.nx S.nx=0 from Nat.sub_self _,copyN]
       ·cases hq
      ·exact h.out.elim
     ·exact h.out.elim
    ·exact h.out.elim
   ·-- a write
    rename_i hc
    obtain ⟨C1,m1,e1⟩:=hM.frzL (wants ev o.op)
    unfold memW at h
    split at h
    ·rename_i w hw
     split at h
     ·rename_i p A hfo
      split at h
      ·rename_i hfit
       obtain ⟨hp,h⟩:=preK_ok h
       obtain ⟨h1,h2⟩:=preK_ok h
       have hev1:=hev.ag hE e1.ag (Nat.le_refl _)
       obtain ⟨F,hF,v,C',hw',nx',w1,w2,w3,w4,w5⟩:=xw_ok (σ:=σ.mem (frzL σ.objs (wants ev o.op)) σ.next) hE.A m1 hE.T hev1 hw h1
       have hFt:=footS_ok (σ:=σ.mem (frzL σ.objs (wants ev o.op)) σ.next) hE.A m1 hev1 hfo hp hF
       have hFt':FtR C1 σ.next A F:=fun id hid=>(hFt id hid).2
       have hR1:RcsR C1 σ.next nx0 rs xs:=hR.ag e1.ag (Nat.le_refl _)
       have hpick:pickD E.E ms dm cl r i xs o S (clsOf E.E o.op)=some (.ls F true):=by
        simp only [pickD,hall,hc,hF]
       obtain ⟨hv',r1,r2⟩:=w5 (partS S.h F .e) S.bar (fun id hid=>by rw [partS_get,if_pos hid]) (fun _ _ h=>h)
       have hget:(copyS hv' S.nx (Nat.sub nx' S.nx) (partS hv' (geL S.bar F) S.h)).get=hw':=by
        funext id
        have hle:=w2.nxle
        rw [copyS_get,partS_get]
        by_cases hnew:S.nx≤id∧id < nx'
        ·rw [if_pos ⟨hnew.1,by show id < S.nx+(nx' - S.nx);omega⟩,r2,if_pos (.inr hnew)]
        ·rw [if_neg (by show ¬(S.nx≤id∧id < S.nx+(nx' - S.nx));omega)]
         by_cases hid:id∈geL S.bar F
         ·rw [if_pos hid,r2,if_pos (.inl ((geL_mem F).1 hid).1)]
         ·rw [if_neg hid]
          by_cases hF':id∈F
          ·have hlt:=(hFt id hF').1
           refine (w2.keep id hlt fun hown=>hid ((geL_mem F).2 ⟨hF',?_⟩)).symm
           obtain ⟨nm,so,a,b,rfl⟩:=hown
           exact (m1.own _ _ a b).1
          ·exact (w4 id hF' hnew).symm
       rw [←hget] at w1 w2
       refine ⟨v,C',_,nx',w.sv,(σ.mem (frzL σ.objs (wants ev o.op)) σ.next).mem w.objs w.next,⟨i,.ls A true,!(beqN w.next σ.next)⟩ :: rs,⟨i,.ls F true,S.nx,nx'⟩ :: xs,⟨Evt.of fun n=>?_,w1,e1.trans w2,w3,rfl,rfl,rfl,⟨⟨rfl,⟨rfl,fun id hid=>let ⟨a,b,c⟩:=hFt' id hid;⟨a,b,c.ag w2.ag w2.le⟩⟩,hnx0,fun hal=>?_⟩,hR1.ag w2.ag w2.le⟩,h2⟩⟩
       ·rw [hst n _ hpick]
        refine memD_of (hv:=partS S.h F .e) (barv:=S.bar) (below_of _ fun id hid=>(hFt id hid).1) (fitsA_ok hR1 hfit fun r x hx hp=>pairS_ok hM0 (ha.trans hn0 e1.ag) m1 hFt' hx hp) hM.barle (fun k=>?_) (h':=hv') ?_ w2.nxle (fun k=>?_)
        ·simp only [viewX];rw [part_eq]
        ·simp only [opA,hc];exact r1 _
        ·simp only [mergeX];rw [part_eq,copyN_eq]
       ·simp only [Bool.not_eq_false',beqN_iff] at hal
        have t1:=w1.top
        have t2:=m1.top
        have hal:w.next=σ.next:=hal
        rw [hal] at t1
        have:=w2.ag.bd σ.next (Nat.le_refl _)
        show nx'≤S.nx
        have t2:C1.bd σ.next=S.nx:=t2
        omega
      ·exact h.out.elim
     ·exact h.out.elim
    ·exact h.out.elim
   ·-- a call
    rename_i hc
    unfold memC at h
    split at h
    ·rename_i c hop
     split at h
     ·rename_i f hcf
      split at h
      ·rename_i hfq
       rw [Bool.and_eq_true] at hfq
       split at h
       ·rename_i hk
        rw [Bool.and_eq_true] at hk
        obtain ⟨va,a1,a2⟩:=evL_list hev c.args.toList hk.2
        obtain ⟨vf,f1,f2⟩:=hev.get (x:=f) rfl (fun e=>by rw [e] at hk;simp [knownC] at hk)
        obtain ⟨v,C',h',nx',s,σ',k1,k2,k3,k4,k5,k6,k7,k8,k9⟩:=callS_q hE h hfq.2 hM f2 a1
        have hpick:pickD E.E ms dm cl r i xs o S (clsOf E.E o.op)=some .q:=by
         simp only [pickD,hall,hc]
        have hle:=k3.nxle
        have hcong:∀id,id < nx'→(copyS h' S.nx (Nat.sub nx' S.nx) S.h).get id=h'.get id:=by
         intro id hid
         rw [copyS_get]
         split
         ·rfl
         ·rename_i hn
          have hlt:id < S.nx:=by
           have hn:¬(S.nx≤id∧id < S.nx+(nx' - S.nx)):=hn
           omega
          exact (k9 id hlt).symm
        refine ⟨v,C',copyS h' S.nx (Nat.sub nx' S.nx) S.h,nx',s,σ',⟨i,.q,true⟩ :: rs,⟨i,.q,S.nx,nx'⟩ :: xs,⟨k1.mono fun n hn=>?_,k2.cong hcong,?_,k4,k5,k6,k7,⟨⟨rfl,trivial,hnx0,fun e=>by cases e⟩,hR.ag k3.ag k3.le⟩,k8⟩⟩
        ·rw [hst n _ hpick]
         refine memD_of (hv:=S.h) (barv:=S.nx) rfl (fitsA_ok hR hfq.1 fun r x hx hp=>?_) hM.barle (fun k=>?_) (h':=h') ?_ hle (fun k=>?_)
         ·unfold pairQ at hp
          rw [Bool.and_eq_true] at hp
          have hfp:=hx.fp
          cases hrf:r.fp with
          |all=>rw [hrf] at hp;cases hp.2
          |q=>
           rw [hrf] at hfp
           cases hxf:x.fp<;>rw [hxf] at hfp<;>simp only [FpR] at hfp
           simp only [pairOk,hxf]
          |ls B wr=>
           rw [hrf] at hfp hp
           cases hxf:x.fp<;>rw [hxf] at hfp<;>simp only [FpR] at hfp
           rename_i F' wr2
           obtain ⟨rfl,hB⟩:=hfp
           simp only [pairOk,hxf]
           cases wr with
           |false=>rfl
           |true=>
            have hp2:=hp.2
            simp only [noA] at hp2
            cases F' with
            |nil=>rfl
            |cons id F=>
             obtain ⟨a,b1,_⟩:=hB id (.head _)
             split at hp2
             ·cases b1
             ·cases hp2
         ·simp only [viewX]
          rw [without_eq,without_same]
          intro x hx
          obtain ⟨r',h1',h2'⟩:=hR.mem x hx
          rcases fitsL_ok _ hfq.1 r' h1' with hb |hb
          ·exact .inl (by rw [h2'.i];exact hb)
          ·unfold pairQ at hb
           rw [Bool.and_eq_true,Bool.not_eq_true'] at hb
           exact .inr (h2'.al hb.1)
         ·have hcl:clsOf E.E (.call c)=3:=by rw [←hop];exact hc
          rw [hop]
          simp only [opA,hcl,hcf,f1,a2]
          exact hn retV
         ·simp only [mergeX];rw [copyN_eq]
        ·exact ⟨k3.ag,k3.le,k3.nxle,fun id hid ho=>by
          rw [hcong id (by omega)];exact k3.keep id hid ho,k3.own,k3.g⟩
       ·exact h.out.elim
      ·exact h.out.elim
     ·exact h.out.elim
    ·exact h.out.elim
   ·exact h.out.elim
theorem drawS_ok {ci:CI} (hci:CIOk E.E ci) {C0:Cx E.E.ro} {σ0:List (Nat×SO)} {n0 bar0:Nat} {h0:Nat→Option O} {nx0:Nat} (hM0:MSim C0 σ0 n0 bar0 h0 nx0) {all:List Oper} {ml dl:List (Nat×Nat)} {ms dm:T Nat} (hm:∀j,ms.get j=look ml j) (hd:∀t,dm.get t=look dl t) {lo:Nat} :
  ∀(r:List Oper) (i:Nat) (rs:List RcS) (σ:St) (K:St→Prop),drawS E ci σ0 n0 all ml dl r i rs σ K→∀(C:Cx E.E.ro) S xs,Sim C σ S→Ag n0 C0 C→n0≤σ.next→lo≤σ.next→nx0≤S.nx→RcsR C σ.next nx0 rs xs→
   ∃S' C' σ',Evt (fun n=>drawGo E.E (cx E.E n) all ms dm r i xs S=some S')∧Sim C' σ' S'∧Ext lo C σ S C' σ' S'∧K σ'
 |[],i,rs,σ,K,h,C,S,xs,hS,ha,hn0,hlo,hnx0,hR=>⟨S,C,σ,Evt.of fun _=>rfl,hS,Ext.refl _ _ _ hlo,h⟩
 |o :: r,i,rs,σ,K,h,C,S,xs,hS,ha,hn0,hlo,hnx0,hR=>by
  rw [drawS_cons] at h
  split at h
  ·exact h.out.elim
  ·rename_i cl hcl
   have hcl':ms.get i=some cl:=by rw [hm];exact hcl
   split at h
   ·exact h.out.elim
   ·rename_i hgv
    obtain ⟨b,σa,hb,hRa,⟨q1,q2,q3,q4⟩,hw⟩:=wantS_ok hE h hS.regs
    have hwB:=wantB_of hm hd hw hgv
    have hSa:Sim C σa S:=⟨by rw [q1];exact hS.nt,by rw [q3];exact hRa,by rw [q2,q3];exact hS.m,by rw [q2,q4];exact hS.df,by rw [q4,q3];exact hS.dflt⟩
    have eq0:Ext lo C σ S C σa S:=⟨by rw [q2,q3];exact (MExt.refl _ _ _ _ _).less hlo,rfl,fun _ h=>.inl h⟩
    have hlo:lo≤σa.next:=by rw [q3];exact hlo
    have hn0:n0≤σa.next:=by rw [q3];exact hn0
    have hR:RcsR C σa.next nx0 rs xs:=by rw [q3];exact hR
    have hS:=hSa
    cases b with
    |false=>
     simp only at hb
     split at hb
     ·rename_i σ2 hput
      obtain ⟨regs,p1,p2,p3,p4,p5,p6⟩:=putO_ok hE hput (S:=S) hS.nt hS.regs (v:=.tup []) (by simp only [RvS];exact ⟨[],trivial,rfl⟩) (β:=CX.St×List Rc)
      have hS2:Sim C σ2 ⟨S.nt,S.bar,regs,S.h,S.nx,S.df⟩:=by
       refine ⟨by rw [p3];exact hS.nt,by rw [p5];exact p2,by rw [p4,p5];exact hS.m,by rw [p4,p6];exact hS.df,by rw [p6,p5];exact hS.dflt⟩
      have hE2:Ext lo C σa S C σ2 ⟨S.nt,S.bar,regs,S.h,S.nx,S.df⟩:=⟨by rw [p4,p5];exact (MExt.refl _ _ _ _ _).less hlo,rfl,fun _ h=>.inl h⟩
      obtain ⟨S',C',σ',e1,e2,e3,e4⟩:=drawS_ok hci hM0 hm hd r (i+1) rs σ2 K hb C _ xs hS2 ha (by rw [p5];exact hn0) hE2.m.le hnx0 (by rw [p5];exact hR)
      refine ⟨S',C',σ',e1.mono fun n hn=>?_,e2,eq0.trans (hE2.trans e3),e4⟩
      simp only [drawGo,stepD,hcl',hwB,p1]
      exact hn
     ·exact hb.out.elim
    |true=>
     simp only at hb
     obtain ⟨v,C1,h1,nx1,s,σ1,rs1,xs1,k⟩:=stepS_ok hE hci hM0 hm hb hS.m ha hn0 hnx0 hR (evDS_ok hm hd hS.regs)
     have kk:=k.k
     split at kk
     ·rename_i σ2 hput
      have hR1:RegsS C1 σ1.next σ1.regs S.regs:=by rw [k.regs];exact RegsS.ag k.e.ag k.e.le hS.regs
      obtain ⟨regs,p1,p2,p3,p4,p5,p6⟩:=putO_ok hE hput (S:=⟨S.nt,S.bar,S.regs,h1,nx1,S.df⟩) (by rw [k.nt];exact hS.nt) hR1 k.v (β:=CX.St×List Rc)
      have hS2:Sim C1 σ2 ⟨S.nt,S.bar,regs,h1,nx1,S.df⟩:=by
       refine ⟨by rw [p3,k.nt];exact hS.nt,by rw [p5];exact p2,by rw [p4,p5];exact k.m,?_,?_⟩
       ·rw [p4,p6,k.df]
        exact hS.df.ext k.e hS.dflt
       ·rw [p6,k.df,p5];exact fun d hd=>Nat.lt_of_lt_of_le (hS.dflt d hd) k.e.le
      have hE2:Ext lo C σa S C1 σ2 ⟨S.nt,S.bar,regs,h1,nx1,S.df⟩:=⟨by rw [p4,p5];exact k.e.less hlo,rfl,fun _ h=>.inl h⟩
      obtain ⟨S',C',σ',e1,e2,e3,e4⟩:=drawS_ok hci hM0 hm hd r (i+1) rs1 σ2 K kk C1 _ xs1 hS2 (ha.trans hn0 k.e.ag) (by rw [p5];exact Nat.le_trans hn0 k.e.le) hE2.m.le (Nat.le_trans hnx0 k.e.nxle) (by rw [p5];exact k.recs)
      refine ⟨S',C',σ',(k.run.and e1).mono fun n hn=>?_,e2,eq0.trans (hE2.trans e3),e4⟩
      have hrun:stepT E.E (cx E.E n) ms dm r o i cl xs S=some (⟨S.nt,S.bar,regs,h1,nx1,S.df⟩,xs1):=by rw [hn.1,p1]
      have hst:stepD E.E (cx E.E n) all ms dm r o i xs S=stepT E.E (cx E.E n) ms dm r o i cl xs S:=by
       simp only [stepD,hcl',hwB]
       unfold stepT
       rfl
      simp only [drawGo,hst,hrun]
      exact hn.2
     ·exact kk.out.elim
theorem regionS_ok {ci:CI} (hci:CIOk E.E ci) {lo:Nat} {ops:List Oper} {σ:St} {K:St→Prop} (h:regionS E ci ops σ K) (C:Cx E.E.ro) (S:CX.St) (hS:Sim C σ S) (hlo:lo≤σ.next) :
  ∃S' C' σ',Evt (fun n=>(match prep ops 0 .e .e (fun ms dm=>some (ms,dm)) with
   |some (ms,dm)=>match drawGo E.E (cx E.E n) ops ms dm ops 0 [] S with
    |some S=>some (Ex.normal,S)
    |none=>none
   |none=>none)=some (.normal,S'))∧Sim C' σ' S'∧Ext lo C σ S C' σ' S'∧K σ':=by
 unfold regionS at h
 split at h
 ·rename_i ml dl hprep
  obtain ⟨ms,dm,hm,hd,hk⟩:=prepS_ok (β:=T Nat×T Nat) ops 0 [] [] ml dl hprep .e .e (fun j=>rfl) (fun t=>rfl)
  obtain ⟨S',C',σ',e1,e2,e3,e4⟩:=drawS_ok hE hci hS.m hm hd ops 0 [] σ K h C S [] hS (Ag.refl _ _) (Nat.le_refl _) hlo (Nat.le_refl _) trivial
  refine ⟨S',C',σ',e1.mono fun n hn=>?_,e2,e3,e4⟩
  rw [hk]
  show (match drawGo E.E (cx E.E n) ops ms dm ops 0 [] S with
   |some S=>some (Ex.normal,S)
   |none=>none)=some (Ex.normal,S')
  rw [hn]
 ·exact h.out.elim
end
end HX

namespace HX
open Go CX
variable {ro:Addr→Option V}
theorem MSim.new {C:Cx ro} {objs:List (Nat×SO)} {n bar:Nat} {h:Nat→Option O} {nx:Nat} (hM:MSim C objs n bar h nx) {so:SO} {o:O} (hob:ObS (C.put n nx .nilp (nx+1)) (n+1) (fun id=>if id=nx then some o else h id) (nx+1) n so) :
  MSim (C.put n nx .nilp (nx+1)) ((n,so) :: objs) (n+1) bar (fun id=>if id=nx then some o else h id) (nx+1)∧MExt C objs n h nx (C.put n nx .nilp (nx+1)) ((n,so) :: objs) (n+1) (fun id=>if id=nx then some o else h id) (nx+1):=by
 refine hM.put (dead:=none) (fun _ e=>by cases e) hM.barle (Nat.lt_succ_self _) (Nat.le_succ _) ?_ (fun nm s hl ho=>?_) (fun id hid _=>if_neg hid) (.inr (Nat.le_refl _)) hob
 ·cases hg:C.g nx with
  |none=>rfl
  |some o=>have:=(hM.fz _ _ hg).1;omega
 ·have:=(hM.own _ _ hl ho).2.1;omega
theorem up_get (h:T O) (i:Nat) (o:O):(h.up i (some o)).get=fun id=>if id=i then some o else h.get id:=by
 funext id
 exact T.get_up _ _ _ _
theorem enter_ok {C:Cx ro} {n:Nat}:∀(args:List SV) (va:List V) (i:Nat) (t:T V) (l:List (Nat×SV)),RvSL C n args va→RegsS C n l t→(∀j s,look l j=some s→j < i)→
  ∃t',(∀k:T V→R,enterRegs va i t k=k t')∧∀j s,look (enterS i args) j=some s→∃v,t'.get j=some v∧RvS C n s v
 |[],[],i,t,l,_,hl,_=>⟨t,fun _=>rfl,fun j s h=>by simp [enterS,look] at h⟩
 |s :: args,v :: va,i,t,l,ha,hl,hlt=>by
  simp only [RvSL] at ha
  have key:∀(args:List SV) (va:List V) (i:Nat) (t:T V),RvSL C n args va→∃t',(∀k:T V→R,enterRegs va i t k=k t')∧(∀j,j < i→t'.get j=t.get j)∧∀j s,look (enterS i args) j=some s→∃v,t'.get j=some v∧RvS C n s v:=by
   intro args
   induction args with
   |nil=>
    intro va i t ha
    cases va with
    |nil=>exact ⟨t,fun _=>rfl,fun _ _=>rfl,fun j s h=>by simp [enterS,look] at h⟩
    |cons _ _=>simp [RvSL] at ha
   |cons s args ih=>
    intro va i t ha
    cases va with
    |nil=>simp [RvSL] at ha
    |cons v va=>
     simp only [RvSL] at ha
     obtain ⟨t',h1,h2,h3⟩:=ih va (i+1) (t.up i (some v)) ha.2
     refine ⟨t',fun k=>by simp only [enterRegs,T.set_eq];exact h1 k,fun j hj=>?_,fun j s' hl=>?_⟩
     ·rw [h2 j (by omega),T.get_up,if_neg (by omega)]
     ·simp only [enterS,look_cons] at hl
      split at hl
      ·rename_i e
       simp only [Option.some.injEq] at hl
       subst e hl
       exact ⟨v,by rw [h2 _ (Nat.lt_succ_self _),T.get_up,if_pos rfl],ha.1⟩
      ·exact h3 j s' hl
  obtain ⟨t',h1,_,h3⟩:=key (s :: args) (v :: va) i t (by simp only [RvSL];exact ha)
  exact ⟨t',h1,h3⟩
 |[],_ :: _,_,_,_,h,_,_=>by simp [RvSL] at h
 |_ :: _,[],_,_,_,h,_,_=>by simp [RvSL] at h
theorem bind_ok {C:Cx ro} {n nt:Nat}:∀(ps:List Nat) (args:List SV) (va:List V) (l l':List (Nat×SV)) (t:T V),bindS nt ps args l=some l'→RvSL C n args va→RegsS C n l t→
  ∃t',(∀k:T V→R,paramsX nt ps va t k=k t')∧RegsS C n l' t'
 |[],[],va,l,l',t,h,ha,hR=>by
  simp only [bindS,Option.some.injEq] at h
  subst h
  cases va with
  |nil=>exact ⟨t,fun _=>rfl,hR⟩
  |cons _ _=>simp [RvSL] at ha
 |p :: ps,s :: args,va,l,l',t,h,ha,hR=>by
  simp only [bindS] at h
  split at h
  ·rename_i hp
   simp only [bltN_iff] at hp
   cases va with
   |nil=>simp [RvSL] at ha
   |cons v va=>
    simp only [RvSL] at ha
    obtain ⟨t',h1,h2⟩:=bind_ok ps args va _ l' (t.up p (some v)) h ha.2 (fun j s' hl=>by
     rw [look_cons] at hl
     split at hl
     ·rename_i e
      simp only [Option.some.injEq] at hl
      subst e hl
      exact .inr ⟨v,by rw [T.get_up,if_pos rfl],ha.1⟩
     ·rename_i e
      rcases hR j s' hl with h |⟨u,a,b⟩
      ·exact .inl h
      ·exact .inr ⟨u,by rw [T.get_up,if_neg (Ne.symm e)];exact a,b⟩)
    exact ⟨t',fun k=>by simp only [paramsX,bltT hp,T.set_eq];exact h1 k,h2⟩
  ·cases h
 |[],_ :: _,_,_,_,_,h,_,_=>by simp [bindS] at h
 |_ :: _,[],_,_,_,_,h,_,_=>by simp [bindS] at h
theorem MSim.drop {C:Cx ro} {objs:List (Nat×SO)} {n bar:Nat} {h:Nat→Option O} {nx:Nat} (hM:MSim C objs n bar h nx) {nm:Nat} (hnm:nm < n) :
  MSim C ((nm,.gone) :: objs) n bar h nx∧MExt C objs n h nx C ((nm,.gone) :: objs) n h nx:=by
 have key:∀{nm' s},look ((nm,SO.gone) :: objs) nm'=some s→(s=.gone∧nm'=nm)∨(nm≠nm'∧look objs nm'=some s):=fun {nm' s} hl=>by
  rw [look_cons] at hl
  split at hl
  ·rename_i e;simp only [Option.some.injEq] at hl;exact .inl ⟨hl.symm,e.symm⟩
  ·rename_i e;exact .inr ⟨e,hl⟩
 refine ⟨⟨fun nm' s hl=>?_,fun nm' s hl=>?_,fun nm' s hl ho=>?_,fun a b s s' hla hlb hoa hob hne=>?_,hM.fz,hM.bd,hM.top,hM.barle,hM.z⟩,Ag.refl _ _,Nat.le_refl _,Nat.le_refl _,fun _ _ _=>rfl,fun id ho=>?_,fun id o hg=>.inl hg⟩
 ·rcases key hl with ⟨_,rfl⟩ |⟨_,h⟩
  ·exact hnm
  ·exact hM.lt _ _ h
 ·rcases key hl with ⟨rfl,rfl⟩ |⟨_,h⟩
  ·trivial
  ·exact hM.ob _ _ h
 ·rcases key hl with ⟨rfl,rfl⟩ |⟨_,h⟩
  ·exact ho.elim
  ·exact hM.own _ _ h ho
 ·rcases key hla with ⟨rfl,rfl⟩ |⟨_,h⟩
  ·exact hoa.elim
  ·rcases key hlb with ⟨rfl,rfl⟩ |⟨_,k⟩
   ·exact hob.elim
   ·exact hM.inj _ _ _ _ h k hoa hob hne
 ·obtain ⟨nm',s,hl,ho,e⟩:=ho
  rcases key hl with ⟨rfl,rfl⟩ |⟨_,h⟩
  ·exact ho.elim
  ·exact .inl ⟨nm',s,h,ho,e⟩
structure Took (C:Cx ro) (objs:List (Nat×SO)) (h:Nat→Option O) (ids:List Nat) (nx:Nat) (objs':List (Nat×SO)) (h':Nat→Option O):Prop where
 keep:∀id,id < nx→¬OwnId C objs id→id∉ids→h' id=h id
 own:∀id,OwnId C objs' id→OwnId C objs id
theorem MExt.took {C0 C:Cx ro} {objs0 objs objs':List (Nat×SO)} {n0 n nx0 nx:Nat} {h0 h h':Nat→Option O} {ids:List Nat} (a:MExt C0 objs0 n0 h0 nx0 C objs n h nx) (k:Took C objs h ids nx objs' h') (hi:∀i∈ids,nx0≤i):MExt C0 objs0 n0 h0 nx0 C objs' n h' nx:=by
 refine ⟨a.ag,a.le,a.nxle,fun id hid ho=>?_,fun id ho=>a.own id (k.own id ho),a.g⟩
 rw [k.keep id (Nat.lt_of_lt_of_le hid a.nxle) (fun hh=>?_) (fun hm=>by have:=hi id hm;omega),a.keep id hid ho]
 rcases a.own id hh with h |h
 ·exact ho h
 ·omega
theorem take_ok {C:Cx ro} {n bar nx:Nat}:∀(ids df:List Nat) (objs objs':List (Nat×SO)) (h:T O),takeS df objs=some objs'→MSim C objs n bar h.get nx→DfR C objs bar h.get nx df ids→(∀d∈df,d < n)→∃h':T O,(∀k:T O→R,takeDf bar ids h k=k h')∧MSim C objs' n bar h'.get nx∧Took C objs h.get ids nx objs' h'.get
 |[],df,objs,objs',h,hd,hM,hdf,hlt=>by
  cases hdf
  simp only [takeS,Option.some.injEq] at hd
  subst hd
  exact ⟨h,fun _=>rfl,hM,fun _ _ _ _=>rfl,fun _ h=>h⟩
 |i :: ids,df,objs,objs',h,hd,hM,hdf,hlt=>by
  cases hdf with
  |nm he hi hk=>
   rename_i d df
   subst he
   simp only [takeS] at hd
   split at hd
   ·rename_i hl
    have ho:h.get (C.ids d)=some (.dfr true):=hM.ob _ _ hl
    obtain ⟨a,b⟩:=hM.upd (so:=.dfr false) hl trivial trivial (o:=.dfr false) (by simp only [ObS,if_true])
    rw [←up_get] at a b
    obtain ⟨h',k1,k2,k3⟩:=take_ok ids df _ objs' _ hd a (hk.ext b fun d hd=>hlt d (.tail _ hd)) (fun d hd=>hlt d (.tail _ hd))
    refine ⟨h',fun k=>?_,k2,fun id h1 h2 h3=>?_,fun id ho=>?_⟩
    ·have e:geB bar (C.ids d)=true:=bleT (hM.own _ _ hl trivial).1
     simp only [takeDf,ho,e,T.set_eq]
     exact k1 k
    ·rw [k3.keep id h1 (fun hh=>?_) (fun hm=>h3 (.tail _ hm)),b.keep id h1 h2]
     rcases b.own id hh with h |h
     ·exact h2 h
     ·omega
    ·rcases b.own id (k3.own id ho) with h |h
     ·exact h
     ·obtain ⟨nm,so,hl',ho',rfl⟩:=k3.own id ho
      have:=(a.own _ _ hl' ho').2.1
      omega
   ·cases hd
  |mk hx hn hk=>
   obtain ⟨x1,x2,x3,x4,x5⟩:=hx
   have e1:∀id,id≠i→(h.up i (some (.dfr false))).get id=h.get id:=fun id hne=>by rw [T.get_up,if_neg hne]
   have ne:∀{nm so},look objs nm=some so→ownS C nm so→C.ids nm≠i:=fun {nm so} hl ho e=>x4 ⟨nm,so,hl,ho,e⟩
   have a:MSim C objs n bar (h.up i (some (.dfr false))).get nx:=⟨hM.lt,fun nm so hl=>ObS.mono (Ag.refl _ _) (Nat.le_refl _) (Nat.le_refl _) (hM.lt _ _ hl) (fun ho=>e1 _ (ne hl ho)) (hM.ob _ _ hl),hM.own,hM.inj,
    fun id o hg=>⟨(hM.fz _ _ hg).1,by rw [e1 id (fun e=>by rw [e,x5] at hg;cases hg)];exact (hM.fz _ _ hg).2⟩,hM.bd,hM.top,hM.barle,hM.z⟩
   have dk:∀{l s},DfR C objs bar h.get nx l s→i∉s→DfR C objs bar (h.up i (some (.dfr false))).get nx l s:=by
    intro l s k
    induction k with
    |nil=>exact fun _=>.nil
    |nm he hi _ ih=>exact fun hn=>.nm he hi (ih fun hm=>hn (.tail _ hm))
    |mk hx hm _ ih=>exact fun hn=>.mk ⟨by rw [e1 _ (fun e=>hn (e ▸ .head _))];exact hx.1,hx.2⟩ hm (ih fun hm=>hn (.tail _ hm))
   obtain ⟨h',k1,k2,k3⟩:=take_ok ids df objs objs' _ hd a (dk hk hn) hlt
   refine ⟨h',fun k=>?_,k2,fun id h1 h2 h3=>?_,k3.own⟩
   ·have e:geB bar i=true:=bleT x2
    simp only [takeDf,x1,e,T.set_eq]
    exact k1 k
   ·rw [k3.keep id h1 h2 (fun hm=>h3 (.tail _ hm)),e1 id (fun e=>h3 (e ▸ .head _))]
section
variable {E:Env} (hE:EnvOk E)
include hE
theorem resAll_ok {C:Cx E.E.ro} {σ:St} {bar:Nat} {h:T O} {nx:Nat} (hM:MSim C σ.objs σ.next bar h.get nx) {regs:T V} (hR:RegsS C σ.next σ.regs regs):∀(l:List ResultVar) {vs:List SV},resAll E σ l=some vs→∃x,RvSL C σ.next vs x∧∀k:List V→R,resultsX E.E regs h l k=k x
 |[],vs,hv=>by
  simp only [resAll,Option.some.injEq] at hv
  subst hv
  exact ⟨[],trivial,fun _=>rfl⟩
 |r :: l,vs,hv=>by
  simp only [resAll] at hv
  split at hv
  ·rename_i s hs
   split at hv
   ·rename_i ss hss
    simp only [Option.some.injEq] at hv
    subst hv
    obtain ⟨x,x1,x2⟩:=resAll_ok hM hR l hss
    cases r with
    |tmp t=>
     simp only [resOne] at hs
     split at hs
     ·cases hs
     ·rename_i hno
      rcases hR t s hs with h0 |⟨v,v1,v2⟩
      ·subst h0;exact absurd hs hno
      ·refine ⟨v :: x,by simp only [RvSL];exact ⟨v2,x1⟩,fun k=>?_⟩
       simp only [resultsX,v1,x2]
    |cell a t=>
     simp only [resOne] at hs
     split at hs
     ·rename_i ty nm off hty ha
      rcases hR a _ ha with h0 |⟨v,v1,v2⟩
      ·cases h0
      ·split at hs
       ·rename_i cl hl
        split at hs
        ·rename_i hle
         have hq:xload E σ t (.ptr nm off)=some ⟨[],s⟩:=by
          simp only [xload,hty,hl,hle,hs,q0]
         let evc:Operand→Option V:=fun _=>some v
         obtain ⟨w,w1,w2⟩:=load_ok hE.A hE.T hM v2 hq (fun _ h=>by cases h) (evc:=evc) (o:=.global 0) rfl
         simp only [RvS] at v2
         obtain ⟨_,rfl⟩:=v2
         have w3:∀k,opL E.E h evc (.load t (.global 0)) k=k w:=by
          rcases w2 with ⟨id,off,e,w2⟩ |⟨a,e,w2⟩
          ·cases e;exact w2 h rfl
          ·cases e
         refine ⟨w :: x,by simp only [RvSL];exact ⟨w1,x1⟩,fun k=>?_⟩
         simp only [opL,hty,evc] at w3
         simp only [resultsX,hty,v1]
         have:=w3 (fun v=>resultsX E.E regs h l fun l=>k (v :: l))
         exact this.trans (x2 _)
        ·cases hs
       ·cases hs
     ·cases hs
   ·cases hv
  ·cases hv
theorem exitS_ok {j:Option Code} {Q:Ex→St→Prop} {σ:St} (h:exitS j Q σ) {S:CX.St}:∃e,exitOf j S=some (e,S)∧Q e σ:=by
 unfold exitS at h
 split at h
 ·exact ⟨.normal,rfl,h⟩
 ·exact ⟨.ret,rfl,h⟩
 ·exact ⟨.exit _,rfl,h⟩
 ·exact h.out.elim
def mkDf (C:Cx ro):Option Nat→List Nat→List Nat
 |none,l=>l
 |some d,l=>C.ids d :: l
theorem rangeK_ok {lo nm : Nat} {mk : Option Nat} {Q : Ex → St → Prop} {σ σ2 : St} {v : SV} (hk : rangeK nm mk Q σ v σ2) {C C2 : Cx E.E.ro} {S : CX.St} (hS : Sim C σ S) (hlo : lo ≤ σ.next) {h2 : T O} {nx2 : Nat} (hM : MSim C2 σ2.objs σ2.next S.bar h2.get nx2) (hext : MExt C σ.objs σ.next S.h.get S.nx C2 σ2.objs σ2.next h2.get nx2)
    {dfc:List Nat} (hdf:dfc=mkDf C2 mk S.df) (hmk:∀d,mk=some d→S.nx≤C2.ids d) {id:Nat} (hid:C2.ids nm=id) :
    ∃ e S' C' σ', (match h2.get id with
          |some (.loop .busy ..)=>none
          |some (.loop _ j ..)=>setLoop S.bar h2 id .exhausted j fun h=>exitOf j ⟨S.nt,S.bar,S.regs,h,nx2,dfc⟩
          |_=>none)=some (e,S')∧Sim C' σ' S'∧Ext lo C σ S C' σ' S'∧Q e σ':=by
  subst hid hdf
  unfold rangeK at hk
  split at hk
  · rename_i st j nt regs ps a b d hl
    have hob:=hM.ob _ _ hl
    simp only [ObS] at hob
    obtain ⟨hd,rg,o1,o2⟩:=hob
    have hbar:geB S.bar (C2.ids nm)=true:=bleT (hM.own _ _ hl trivial).1
    obtain ⟨m1,m2⟩:=hM.upd (so:=.loop .exhausted j nt regs ps a b d) hl trivial trivial (o:=.loop .exhausted j nt rg ps a b (C2.ids d)) (by simp only [ObS,if_true];exact ⟨hd,rg,rfl,o2⟩)
    rw [←up_get] at m1 m2
    have e12:=hext.trans m2
    have hdl:∀d∈σ.df,d < σ2.next:=fun d hd=>Nat.lt_of_lt_of_le (hS.dflt d hd) hext.le
    have hrun : ∀ {e : Ex} {dfc : List Nat}, exitOf j ⟨S.nt, S.bar, S.regs, h2.up (C2.ids nm) (some (.loop .exhausted j nt rg ps a b (C2.ids d))), nx2, dfc⟩ = some (e, ⟨S.nt, S.bar, S.regs, h2.up (C2.ids nm) (some (.loop .exhausted j nt rg ps a b (C2.ids d))), nx2, dfc⟩) →
        (setLoop S.bar h2 (C2.ids nm) .exhausted j fun h=>exitOf j ⟨S.nt,S.bar,S.regs,h,nx2,dfc⟩)=some (e,⟨S.nt,S.bar,S.regs,h2.up (C2.ids nm) (some (.loop .exhausted j nt rg ps a b (C2.ids d))),nx2,dfc⟩):=fun e1=>by
      simp only [setLoop,o1,hbar,T.set_eq]
      exact e1
    have fin:rangeK1 Q σ j σ2.next (shutM mk ((nm,.loop .exhausted j nt regs ps a b d) :: σ2.objs))→∃e S' C' σ',(setLoop S.bar h2 (C2.ids nm) .exhausted j fun h=>exitOf j ⟨S.nt,S.bar,S.regs,h,nx2,mkDf C2 mk S.df⟩)=some (e,S')∧Sim C' σ' S'∧Ext lo C σ S C' σ' S'∧Q e σ':=by
      intro hx
      cases mk with
      |none=>
        obtain ⟨e,e1,e2⟩:=exitS_ok hE hx (S:=⟨S.nt,S.bar,S.regs,h2.up (C2.ids nm) (some (.loop .exhausted j nt rg ps a b (C2.ids d))),nx2,S.df⟩)
        exact ⟨e,_,C2,⟨σ.nt,σ.regs,(nm,.loop .exhausted j nt regs ps a b d) :: σ2.objs,σ2.next,σ.df⟩,hrun e1,⟨hS.nt,RegsS.ag hext.ag hext.le hS.regs,m1,hS.df.ext e12 hS.dflt,hdl⟩,⟨e12.less hlo,rfl,fun _ h=>.inl h⟩,e2⟩
      |some dm=>
        cases hsh:shutM (some dm) ((nm,.loop .exhausted j nt regs ps a b d) :: σ2.objs) with
        |none=>rw [hsh] at hx;exact hx.out.elim
        |some objs=>
          rw [hsh] at hx
          simp only [shutM] at hsh
          split at hsh
          · rename_i hlm
            simp only [Option.some.injEq] at hsh
            subst hsh
            obtain ⟨m3,e3⟩:=m1.drop (m1.lt _ _ hlm)
            have hob:=m1.ob _ _ hlm
            simp only [ObS] at hob
            obtain ⟨w1,w2,w3⟩:=m1.own _ _ hlm trivial
            have hin:Inert C2 ((dm,.gone) :: (nm,.loop .exhausted j nt regs ps a b d) :: σ2.objs) S.bar (h2.up (C2.ids nm) (some (.loop .exhausted j nt rg ps a b (C2.ids d)))).get nx2 (C2.ids dm):=by
              refine ⟨hob,w1,w2,fun ho=>?_,w3⟩
              obtain ⟨nm',so,hl',ho',e⟩:=ho
              rw [look_cons] at hl'
              split at hl'
              · simp only [Option.some.injEq] at hl'
                subst hl'
                exact ho'.elim
              · rename_i hne
                exact m1.inj _ _ _ _ hl' hlm ho' trivial (Ne.symm hne) e
            obtain ⟨e,e1,e2⟩:=exitS_ok hE hx (S:=⟨S.nt,S.bar,S.regs,h2.up (C2.ids nm) (some (.loop .exhausted j nt rg ps a b (C2.ids d))),nx2,C2.ids dm :: S.df⟩)
            refine ⟨e,_,C2,⟨σ.nt,σ.regs,(dm,.gone) :: (nm,.loop .exhausted j nt regs ps a b d) :: σ2.objs,σ2.next,σ.df⟩,hrun e1,⟨hS.nt,RegsS.ag hext.ag hext.le hS.regs,m3,.mk hin (fun hm=>?_) (hS.df.ext (e12.trans e3) hS.dflt),hdl⟩,⟨(e12.trans e3).less hlo,rfl,fun i hi=>?_⟩,e2⟩
            · have:=hS.df.lt _ hm
              have:=hmk dm rfl
              omega
            · rcases List.mem_cons.1 hi with rfl |hi
              · exact .inr (hmk dm rfl)
              · exact .inl hi
          · cases hsh
    rw [o1]
    cases st with
    |busy=>exact hk.out.elim
    |ready=>exact fin hk
    |done=>exact fin hk
    |exhausted=>exact fin hk
  · exact hk.out.elim
theorem range_ok {ci:CI} (hci:CIOk E.E ci) {rd:Option Nat} {lo:Nat} {g:Operand} {ps:Array Nat} {asg body:Code} {Q:Ex→St→Prop} {σ:St} (h:rangeS rd ci (evR σ.regs g) ps.toList asg body Q σ):SWP E.E rd lo (.rangeFunc g ps asg body) Q σ:=by
 intro C S hS hlo hrd
 unfold rangeS at h
 split at h
 ·rename_i f ga gb hg
  obtain ⟨vg,g1,g2⟩:=(evR_ok hS.regs).get hg (by intro e;cases e)
  split at h
  ·-- a new loop
   obtain ⟨a1,a2⟩:=hS.m.new (so:=.dfr true) (o:=.dfr true) (by simp only [ObS,Cx.put,if_true])
   rw [←up_get] at a1 a2
   obtain ⟨b1,b2⟩:=a1.new (so:=.loop .ready none σ.nt σ.regs ps.toList asg body σ.next) (o:=.loop .ready none S.nt S.regs ps.toList asg body S.nx) (by
    simp only [ObS]
    refine ⟨by omega,S.regs,?_,?_⟩
    ·rw [hS.nt];simp [Cx.put]
    ·exact RegsS.ag ((a2.trans (MExt.refl _ _ _ _ _)).ag.trans (Nat.le_succ _) (Ag.put _ _ _ _ _)) (by omega) hS.regs)
   rw [←up_get] at b1 b2
   have e12:=a2.trans b2
   obtain ⟨v,C',h',nx',s,σ',k1,k2,k3,k4,k5,k6,k7,k8⟩:=hci _ _ _ _ h _ S.bar _ _ b1 vg [.fn (.yield (S.nx+1)) [] []] (RvS.ag e12.ag e12.le _ _ g2) (by simp [RvSL,RvS,Cx.put,St.mem])
   have hids:C'.ids (σ.next+1)=S.nx+1:=by rw [k3.ag.ids _ (by simp [St.mem])];simp [Cx.put]
   have hid0:C'.ids σ.next=S.nx:=by rw [k3.ag.ids _ (by simp [St.mem])];simp [Cx.put]
   have hext:=e12.trans k3
   obtain ⟨e,S',C2,σ2,r1,r2,r3,r4⟩:=rangeK_ok hE k8 hS hlo k2 hext (dfc:=S.nx :: S.df) (by simp only [mkDf,hid0]) (fun d hd=>by
    simp only [Option.some.injEq] at hd
    subst hd
    omega) hids
   refine ⟨e,S',C2,σ2,k1.succ fun n hn=>?_,r2,r3,r4⟩
   show cxBody E.E (cx E.E n) none (.rangeFunc g ps asg body) S=_
   simp only [RvS] at g2
   obtain ⟨x,y,f1,f2,rfl⟩:=g2
   simp only [cxBody,rangeX,g1,CX.new,T.set_eq]
   have:=hn fun _ h nx=>match h.get (S.nx+1) with
     |some (.loop .busy ..)=>none
     |some (.loop _ j ..)=>setLoop S.bar h (S.nx+1) .exhausted j fun h=>exitOf j ⟨S.nt,S.bar,S.regs,h,nx,S.nx :: S.df⟩
     |_=>none
   exact this.trans r1
  ·rename_i l
   split at h
   ·rename_i st0 j0 nt0 regs0 ps0 as0 b0 d hl
    have hob:=hS.m.ob _ _ hl
    simp only [ObS] at hob
    obtain ⟨hd,rg,o1,o2⟩:=hob
    obtain ⟨b1,b2⟩:=hS.m.new (so:=.loop .ready none σ.nt σ.regs ps.toList asg body d) (o:=.loop .ready none S.nt S.regs ps.toList asg body (C.ids d)) (by
     simp only [ObS]
     refine ⟨by omega,S.regs,?_,RegsS.ag (Ag.put _ _ _ _ _) (Nat.le_succ _) hS.regs⟩
     rw [hS.nt]
     simp only [Cx.put,if_true]
     rw [if_neg (by omega)])
    rw [←up_get] at b1 b2
    obtain ⟨v,C',h',nx',s,σ',k1,k2,k3,k4,k5,k6,k7,k8⟩:=hci _ _ _ _ h _ S.bar _ _ b1 vg [.fn (.yield S.nx) [] []] (RvS.ag b2.ag b2.le _ _ g2) (by simp [RvSL,RvS,Cx.put,St.mem])
    have hids:C'.ids σ.next=S.nx:=by rw [k3.ag.ids _ (by simp [St.mem])];simp [Cx.put]
    have hext:=b2.trans k3
    obtain ⟨e,S',C2,σ2,r1,r2,r3,r4⟩:=rangeK_ok hE k8 hS hlo k2 hext (dfc:=S.df) rfl (fun d hd=>by cases hd) hids
    refine ⟨e,S',C2,σ2,k1.succ fun n hn=>?_,r2,r3,r4⟩
    show cxBody E.E (cx E.E n) (some (C.ids l)) (.rangeFunc g ps asg body) S=_
    simp only [RvS] at g2
    obtain ⟨x,y,f1,f2,rfl⟩:=g2
    simp only [cxBody,rangeX,g1,o1,CX.new,T.set_eq]
    have:=hn fun _ h nx=>match h.get S.nx with
     |some (.loop .busy ..)=>none
     |some (.loop _ j ..)=>setLoop S.bar h S.nx .exhausted j fun h=>exitOf j ⟨S.nt,S.bar,S.regs,h,nx,S.df⟩
     |_=>none
    exact this.trans r1
   ·exact h.out.elim
 ·exact h.out.elim
theorem rd_ag {rd:Option Nat} {n:Nat} (h:∀l,rd=some l→l < n) {C C':Cx E.E.ro} (ha:Ag n C C'):rd.map C'.ids=rd.map C.ids:=by
 cases rd with
 |none=>rfl
 |some l=>simp only [Option.map_some];rw [ha.ids l (h l rfl)]
theorem vc_ok {ci:CI} (hci:CIOk E.E ci) {rd:Option Nat} {lo:Nat}:∀(c:Code) (Q:Ex→St→Prop) (σ:St),vc E rd lo ci c Q σ→SWP E.E rd lo c Q σ
 |.skip,Q,σ,h=>fun C S hS hlo _=>⟨.normal,S,C,σ,(Evt.of fun _=>trivial).succ fun n _=>rfl,hS,Ext.refl _ _ _ hlo,h⟩
 |.label _,Q,σ,h=>fun C S hS hlo _=>⟨.normal,S,C,σ,(Evt.of fun _=>trivial).succ fun n _=>rfl,hS,Ext.refl _ _ _ hlo,h⟩
 |.ret,Q,σ,h=>fun C S hS hlo _=>⟨.ret,S,C,σ,(Evt.of fun _=>trivial).succ fun n _=>rfl,hS,Ext.refl _ _ _ hlo,h⟩
 |.exit id,Q,σ,h=>fun C S hS hlo _=>⟨.exit id,S,C,σ,(Evt.of fun _=>trivial).succ fun n _=>rfl,hS,Ext.refl _ _ _ hlo,h⟩
 |.seq a b,Q,σ,h=>fun C S hS hlo hrd=>by
  obtain ⟨e,S1,C1,σ1,k1,k2,k3,k4⟩:=vc_ok hci a _ σ h C S hS hlo hrd
  cases e with
  |normal=>
   obtain ⟨e,S2,C2,σ2,l1,l2,l3,l4⟩:=vc_ok hci b Q σ1 k4 C1 S1 k2 k3.m.le hrd
   refine ⟨e,S2,C2,σ2,(k1.and l1).succ fun n hn=>?_,l2,k3.trans l3,l4⟩
   show cxBody E.E (cx E.E n) (rd.map C.ids) (.seq a b) S=_
   have hn2:=hn.2
   rw [rd_ag hE hrd k3.m.ag] at hn2
   simp only [cxBody,hn.1,hn2]
  |ret=>
   refine ⟨.ret,S1,C1,σ1,k1.succ fun n hn=>?_,k2,k3,k4⟩
   show cxBody E.E (cx E.E n) (rd.map C.ids) (.seq a b) S=_
   simp only [cxBody,hn]
  |exit i=>
   refine ⟨.exit i,S1,C1,σ1,k1.succ fun n hn=>?_,k2,k3,k4⟩
   show cxBody E.E (cx E.E n) (rd.map C.ids) (.seq a b) S=_
   simp only [cxBody,hn]
 |.block id b,Q,σ,h=>fun C S hS hlo hrd=>by
  obtain ⟨e,S1,C1,σ1,k1,k2,k3,k4⟩:=vc_ok hci b _ σ h C S hS hlo hrd
  cases e with
  |normal=>
   refine ⟨.normal,S1,C1,σ1,k1.succ fun n hn=>?_,k2,k3,k4⟩
   show cxBody E.E (cx E.E n) (rd.map C.ids) (.block id b) S=_
   simp only [cxBody,hn]
  |ret=>
   refine ⟨.ret,S1,C1,σ1,k1.succ fun n hn=>?_,k2,k3,k4⟩
   show cxBody E.E (cx E.E n) (rd.map C.ids) (.block id b) S=_
   simp only [cxBody,hn]
  |exit i=>
   simp only [inBlockQ] at k4
   split at k4
   ·rename_i hb
    simp only [beqN_iff] at hb
    refine ⟨.normal,S1,C1,σ1,k1.succ fun n hn=>?_,k2,k3,k4⟩
    show cxBody E.E (cx E.E n) (rd.map C.ids) (.block id b) S=_
    simp only [cxBody,hn,hb,Nat.beq_refl]
   ·rename_i hb
    simp only [beqN_not] at hb
    refine ⟨.exit i,S1,C1,σ1,k1.succ fun n hn=>?_,k2,k3,k4⟩
    show cxBody E.E (cx E.E n) (rd.map C.ids) (.block id b) S=_
    have hne:Nat.beq i id=false:=by
     cases he:Nat.beq i id with
     |true=>exact absurd (Nat.eq_of_beq_eq_true he) hb
     |false=>rfl
    simp only [cxBody,hn,hne]
 |.cond c a b,Q,σ,h=>fun C S hS hlo hrd=>by
  simp only [vc] at h
  have hx:=evR_ok hS.regs
  have go:∀(bb:Bool) (σ:St),Sim C σ S→lo≤σ.next→CX.evR S.regs c=some (.bool bb)→(match bb with |true=>vc E rd lo ci a Q σ |false=>vc E rd lo ci b Q σ)→∃e S' C' σ',Evt (fun n=>cx E.E n (rd.map C.ids) (.cond c a b) S=some (e,S'))∧Sim C' σ' S'∧Ext lo C σ S C' σ' S'∧Q e σ':=by
   intro bb σ hS hlo hb h
   cases bb with
   |true=>
    obtain ⟨e,S1,C1,σ1,k1,k2,k3,k4⟩:=vc_ok hci a Q σ h C S hS hlo hrd
    refine ⟨e,S1,C1,σ1,k1.succ fun n hn=>?_,k2,k3,k4⟩
    show cxBody E.E (cx E.E n) (rd.map C.ids) (.cond c a b) S=_
    simp only [cxBody,hb,hn]
   |false=>
    obtain ⟨e,S1,C1,σ1,k1,k2,k3,k4⟩:=vc_ok hci b Q σ h C S hS hlo hrd
    refine ⟨e,S1,C1,σ1,k1.succ fun n hn=>?_,k2,k3,k4⟩
    show cxBody E.E (cx E.E n) (rd.map C.ids) (.cond c a b) S=_
    simp only [cxBody,hb,hn]
  have kn:∀bb,CX.evR S.regs c=some (.bool bb)→Sim C (knowO σ c bb) S∧lo≤(knowO σ c bb).next∧Ext lo C σ S C (knowO σ c bb) S:=by
   intro bb hb
   unfold knowO
   split
   ·exact ⟨⟨hS.nt,know_ok hS.regs hb,hS.m,hS.df,hS.dflt⟩,hlo,(MExt.refl _ _ _ _ _).less hlo,rfl,fun _ h=>.inl h⟩
   ·exact ⟨hS,hlo,Ext.refl _ _ _ hlo⟩
  split at h
  ·rename_i he
   obtain ⟨v,v1,v2⟩:=hx.get he (by intro e;cases e)
   simp only [RvS] at v2
   subst v2
   exact go true σ hS hlo v1 h
  ·rename_i he
   obtain ⟨v,v1,v2⟩:=hx.get he (by intro e;cases e)
   simp only [RvS] at v2
   subst v2
   exact go false σ hS hlo v1 h
  ·rename_i p he
   obtain ⟨v,v1,v2⟩:=hx.get he (by intro e;cases e)
   simp only [RvS] at v2
   subst v2
   cases hp:p with
   |true=>rw [hp] at v1;exact let ⟨e,S',C',σ',k1,k2,k3,k4⟩:=go true (knowO σ c true) (kn true v1).1 (kn true v1).2.1 v1 (h.t hp);⟨e,S',C',σ',k1,k2,(kn true v1).2.2.trans k3,k4⟩
   |false=>rw [hp] at v1;exact let ⟨e,S',C',σ',k1,k2,k3,k4⟩:=go false (knowO σ c false) (kn false v1).1 (kn false v1).2.1 v1 (h.e hp);⟨e,S',C',σ',k1,k2,(kn false v1).2.2.trans k3,k4⟩
  ·exact h.out.elim
 |.region id ops draw,Q,σ,h=>fun C S hS hlo hrd=>by
  simp only [vc] at h
  cases draw with
  |true=>
   obtain ⟨S1,C1,σ1,k1,k2,k3,k4⟩:=regionS_ok hE hci h C S hS hlo
   refine ⟨.normal,S1,C1,σ1,k1.succ fun n hn=>?_,k2,k3,k4⟩
   show cxBody E.E (cx E.E n) (rd.map C.ids) (.region id ops true) S=_
   simp only [cxBody]
   exact hn
  |false=>
   obtain ⟨S1,C1,σ1,k1,k2,k3,k4⟩:=seqS_ok hE hci ops.toList σ _ h C S hS hlo
   refine ⟨.normal,S1,C1,σ1,k1.succ fun n hn=>?_,k2,k3,k4⟩
   show cxBody E.E (cx E.E n) (rd.map C.ids) (.region id ops false) S=_
   simp only [cxBody]
   exact hn _
 |.rangeFunc g ps asg body,Q,σ,h=>range_ok hE hci h
 |.loop c,Q,σ,h=>Leaf.out h
 |.scope ..,Q,σ,h=>Leaf.out h
 |.goto ..,Q,σ,h=>Leaf.out h
 |.refuse ..,Q,σ,h=>Leaf.out h
theorem outV_ret (v:V) (h:T O) (nx:Nat) (k:V→T O→Nat→R):outV (retV v h nx) k=k v h nx:=rfl
theorem retP_ok {fn:Func} {σ0 σ:St} {K:SV→St→Prop} (h:retP E fn σ0 K σ) {C:Cx E.E.ro} {S:CX.St} (hS:Sim C σ S) :
  ∃(v:V) (h':T O) (s:SV) (objs:List (Nat×SO)),(∀k:V→T O→Nat→R,outV (takeDf S.bar S.df S.h fun h=>resultsX E.E S.regs h fn.results.toList fun l=>retV (CX.one l) h S.nx) k=k v h' S.nx)∧MSim C objs σ.next S.bar h'.get S.nx∧Took C σ.objs S.h.get S.df S.nx objs h'.get∧RvS C σ.next s v∧K s (σ0.mem objs σ.next):=by
 unfold retP at h
 split at h
 ·rename_i objs ho
  split at h
  ·rename_i vs hv
   obtain ⟨h',t1,t2,t3⟩:=take_ok S.df σ.df σ.objs objs S.h ho hS.m hS.df hS.dflt
   obtain ⟨x,x1,x2⟩:=resAll_ok (σ:=σ.mem objs σ.next) hE t2 hS.regs fn.results.toList hv
   refine ⟨CX.one x,h',one vs,objs,fun k=>?_,t2,t3,RvSL_one x1,h⟩
   rw [t1,x2]
   exact outV_ret hE _ _ _ _
  ·exact h.out.elim
 ·exact h.out.elim
omit hE in
theorem yext {C C1 C2 C3 C4:Cx E.E.ro} {o o1 o2 o3 o4:List (Nat×SO)} {lo n1 n2 n3 n4:Nat} {h h1 h2 h3 h4:Nat→Option O} {x x1 x2 x3 x4:Nat} (a:MExt C o lo h x C1 o1 n1 h1 x1) (b:MExt C1 o1 n1 h1 x1 C2 o2 n2 h2 x2) (c:MExt C2 o2 lo h2 x2 C3 o3 n3 h3 x3) (d:MExt C3 o3 n3 h3 x3 C4 o4 n4 h4 x4) :
  MExt C o lo h x C4 o4 n4 h4 x4:=by
 have ab:=a.trans b
 have cd:=c.trans d
 exact ⟨ab.ag.trans (Nat.le_refl _) cd.ag,cd.le,Nat.le_trans ab.nxle cd.nxle,fun id hid ho=>by
  rw [cd.keep id (Nat.lt_of_lt_of_le hid ab.nxle) fun hh=>?_,ab.keep id hid ho]
  rcases ab.own id hh with h' |h'
  ·exact ho h'
  ·omega,fun id ho=>by
  rcases cd.own id ho with h' |h'
  ·exact ab.own id h'
  ·exact .inr (Nat.le_trans ab.nxle h'),fun id o hg=>by
  rcases cd.g id o hg with h' |h' |h'
  ·exact ab.g id o h'
  ·exact .inr (ab.own id h')
  ·exact .inr (.inr (Nat.le_trans ab.nxle h'))⟩
theorem ciN_ok {inl:Nat→Option Func} (hinl:∀f fn,inl f=some fn→E.E.fn f=some fn∧E.E.ext f=none):∀n,CIOk E.E (ciN E inl n)
 |0=>fun _ _ _ _ h=>h.elim
 |n+1=>by
  intro f args σ K h C bar hp nx hM vf va hf ha
  simp only [ciN] at h
  split at h
  ·rename_i g a b
   simp only [RvS] at hf
   obtain ⟨x,y,f1,f2,rfl⟩:=hf
   have hargs:RvSL C σ.next (a++args++b) (x++va++y):=RvSL.append (RvSL.append f1 ha) f2
   split at h
   ·rename_i fn hfn
    split at h
    ·rename_i c hb
     split at h
     ·rename_i hle
      simp only [bleN_iff] at hle
      obtain ⟨t',t1,t2⟩:=enter_ok (C:=C) (n:=σ.next) _ _ 0 .e [] hargs (fun t s h=>by simp [look] at h) (fun j s h=>by simp [look] at h)
      obtain ⟨e,S',C',σ',k1,k2,k3,k4⟩:=vc_ok hE (ciN_ok hinl n) (rd:=none) c _ _ h C ⟨fn.ntmps,bar,t',hp,nx,[]⟩ ⟨rfl,fun j s hl=>.inr (t2 j s hl),hM,.nil,fun d hd=>by cases hd⟩ (Nat.le_refl _) (fun l hl=>by cases hl)
      have hrun:∀n,cx E.E n none c ⟨fn.ntmps,bar,t',hp,nx,[]⟩=some (e,S')→(e=.normal∨e=.ret)→∀k,callV E.E (cx E.E n) bar hp nx (.fn (.func g) x y) va k=outV (takeDf bar S'.df S'.h fun h=>resultsX E.E S'.regs h fn.results.toList fun l=>retV (CX.one l) h S'.nx) k:=by
       intro n hn he k
       have hlen:Nat.ble (CX.len (x++va++y)) fn.ntmps=true:=bleT (by rw [len_eq,hargs.length];exact hle)
       simp only [callV,callF,(hinl _ _ hfn).1,(hinl _ _ hfn).2,hb,hlen,t1,hn]
       rcases he with rfl |rfl<;>rfl
      have fin:retP E fn σ K σ'→(e=.normal∨e=.ret)→CallOk E.E (fun n k=>callV E.E (cx E.E n) bar hp nx (.fn (.func g) x y) va k) C σ bar hp.get nx K:=by
       intro hr he
       obtain ⟨v,h',s,objs,r1,r2,r3,r4,r5⟩:=retP_ok hE hr k2
       rw [k3.bar] at r1 r2
       exact ⟨v,C',h',S'.nx,s,σ.mem objs σ'.next,k1.mono fun n hn k=>(hrun n hn he k).trans (r1 k),r2,k3.m.took r3 (fun i hi=>(k3.df i hi).resolve_left (by intro h;cases h)),r4,rfl,rfl,rfl,r5⟩
      cases e with
      |normal=>exact fin k4 (.inl rfl)
      |ret=>exact fin k4 (.inr rfl)
      |exit i=>exact (StuckR.out k4).elim
     ·exact h.out.elim
    ·exact h.out.elim
   ·exact h.out.elim
  ·rename_i nm
   simp only [RvS] at hf
   obtain ⟨hnm,rfl⟩:=hf
   split at h
   ·rename_i j0 nt regs ps asg body d hl
    have hob:=hM.ob _ _ hl
    simp only [ObS] at hob
    obtain ⟨hd,rg,o1,o2⟩:=hob
    split at h
    ·rename_i regs' hbind
     obtain ⟨t',t1,t2⟩:=bind_ok ps args va regs regs' rg hbind ha o2
     obtain ⟨e1,S1,C1,σ1,k1,k2,k3,k4⟩:=vc_ok hE (ciN_ok hinl n) (rd:=some nm) asg _ _ h C ⟨nt,bar,t',hp,nx,[]⟩ ⟨rfl,t2,hM,.nil,fun d hd=>by cases hd⟩ (Nat.le_refl _) (fun l hl=>by cases hl;exact hnm)
     cases e1 with
     |normal=>
      simp only [yieldK1] at k4
      split at k4
      ·rename_i j nt' rgs' ps' a' b' d' hl1
       have hob1:=k2.m.ob _ _ hl1
       simp only [ObS] at hob1
       obtain ⟨hd1,rg1,p1,p2⟩:=hob1
       have hnm1:nm < σ1.next:=Nat.lt_of_lt_of_le hnm k3.m.le
       have hid1:C1.ids nm=C.ids nm:=k3.m.ag.ids _ hnm
       have hbar1:geB bar (C1.ids nm)=true:=bleT (by have:=(k2.m.own _ _ hl1 trivial).1;rw [k3.bar] at this;exact this)
       obtain ⟨m1,m2⟩:=k2.m.upd (so:=.loop .busy j nt' rgs' ps' a' b' d') hl1 trivial trivial (o:=.loop .busy j nt' rg1 ps' a' b' (C1.ids d')) (by simp only [ObS,if_true];exact ⟨hd1,rg1,rfl,p2⟩)
       rw [←up_get] at m1 m2
       rw [k3.bar] at m1
       obtain ⟨e2,S2,C2,σ2,l1,l2,l3,l4⟩:=vc_ok hE (ciN_ok hinl n) (rd:=some nm) body _ _ k4 C1 ⟨nt,bar,S1.regs,S1.h.up (C1.ids nm) (some (.loop .busy j nt' rg1 ps' a' b' (C1.ids d'))),S1.nx,S1.df⟩ ⟨rfl,k2.regs,m1,by have:=k2.df.ext m2 k2.dflt;rw [k3.bar] at this;exact this,k2.dflt⟩ k3.m.le (fun l hl=>by cases hl;exact hnm)
       have hbar2:S2.bar=bar:=l3.bar
       have hid2:C2.ids nm=C.ids nm:=(l3.m.ag.ids _ hnm).trans hid1
       unfold yieldK2 at l4
       split at l4
       ·rename_i st2 j2 nt2 rgs2 ps2 a2 b2 d2 hl2
        have hob2:=l2.m.ob _ _ hl2
        simp only [ObS] at hob2
        obtain ⟨hd2,rg2,q1,q2⟩:=hob2
        have hbar3:geB bar (C.ids nm)=true:=bleT (by have:=(l2.m.own _ _ hl2 trivial).1;rw [hbar2,hid2] at this;exact this)
        have hg2:S2.h.get (C.ids nm)=some (.loop st2 j2 nt2 rg2 ps2 a2 b2 (C2.ids d2)):=by rw [←hid2];exact q1
        have fin:∀(st:LoopState) (jj:Option Code) (bb:Bool),K (.bool bb) (σ.mem ((nm,.loop st jj nt2 rgs2 ps2 a2 b2 d2) :: σ2.objs) σ2.next)→
          (∀n,cx E.E n (some (C.ids nm)) body ⟨nt,bar,S1.regs,S1.h.up (C1.ids nm) (some (.loop .busy j nt' rg1 ps' a' b' (C1.ids d'))),S1.nx,S1.df⟩=some (e2,S2)→cx E.E n (some (C.ids nm)) asg ⟨nt,bar,t',hp,nx,[]⟩=some (.normal,S1)→
           ∀k,callY (cx E.E n) bar hp nx (C.ids nm) va k=outV (setLoop bar S2.h (C.ids nm) st jj fun h=>retV (.bool bb) h S2.nx) k)→
          CallOk E.E (fun n k=>callV E.E (cx E.E n) bar hp nx (.fn (.yield (C.ids nm)) [] []) va k) C σ bar hp.get nx K:=by
         intro st jj bb hK hrun
         obtain ⟨w1,w2⟩:=l2.m.upd (so:=.loop st jj nt2 rgs2 ps2 a2 b2 d2) hl2 trivial trivial (o:=.loop st jj nt2 rg2 ps2 a2 b2 (C2.ids d2)) (by simp only [ObS,if_true];exact ⟨hd2,rg2,rfl,q2⟩)
         rw [←up_get] at w1 w2
         rw [hbar2] at w1
         refine ⟨.bool bb,C2,_,S2.nx,.bool bb,σ.mem ((nm,.loop st jj nt2 rgs2 ps2 a2 b2 d2) :: σ2.objs) σ2.next,(k1.and l1).mono fun n hn k=>?_,w1,yext k3.m m2 l3.m w2,by simp only [RvS],rfl,rfl,rfl,hK⟩
         have h2:=hn.2
         simp only [Option.map_some,hid1] at h2
         have h2':cx E.E n (some (C.ids nm)) body ⟨nt,bar,S1.regs,S1.h.up (C1.ids nm) (some (.loop .busy j nt' rg1 ps' a' b' (C1.ids d'))),S1.nx,S1.df⟩=some (e2,S2):=by rw [hid1];exact h2
         show callV E.E (cx E.E n) bar hp nx (.fn (.yield (C.ids nm)) [] []) va k=_
         simp only [callV]
         rw [hrun n h2' hn.1 k]
         simp only [setLoop,hg2,hbar3,T.set_eq,hid2]
         rfl
        have base:∀n,cx E.E n (some (C.ids nm)) body ⟨nt,bar,S1.regs,S1.h.up (C1.ids nm) (some (.loop .busy j nt' rg1 ps' a' b' (C1.ids d'))),S1.nx,S1.df⟩=some (e2,S2)→cx E.E n (some (C.ids nm)) asg ⟨nt,bar,t',hp,nx,[]⟩=some (.normal,S1)→
          ∀k,callY (cx E.E n) bar hp nx (C.ids nm) va k=match (some (e2,S2):R) with
           |some (.normal,⟨_,_,_,h,nx,_⟩)=>outV (setLoop bar h (C.ids nm) .ready none fun h=>retV (.bool true) h nx) k
           |some (.ret,⟨_,_,_,h,nx,_⟩)=>outV (setLoop bar h (C.ids nm) .done (some .ret) fun h=>retV (.bool false) h nx) k
           |some (.exit e,⟨_,_,_,h,nx,_⟩)=>outV (setLoop bar h (C.ids nm) .done (some (.exit e)) fun h=>retV (.bool false) h nx) k
           |none=>none:=by
         intro n hb2 ha2 k
         have p1':S1.h.get (C.ids nm)=some (.loop .ready j nt' rg1 ps' a' b' (C1.ids d')):=by rw [←hid1];exact p1
         have hbar1':geB bar (C.ids nm)=true:=by rw [←hid1];exact hbar1
         rw [hid1] at hb2
         simp only [callY,o1,t1,ha2,p1',hbar1',T.set_eq,hb2]
         rfl
        cases e2 with
        |normal=>exact fin .ready none true l4 fun n h1 h2 k=>by rw [base n h1 h2]
        |ret=>exact fin .done (some .ret) false l4 fun n h1 h2 k=>by rw [base n h1 h2]
        |exit i=>exact fin .done (some (.exit i)) false l4 fun n h1 h2 k=>by rw [base n h1 h2]
       ·exact l4.out.elim
      ·exact k4.out.elim
     |ret=>exact (StuckC.out k4).elim
     |exit i=>exact (StuckC.out k4).elim
    ·exact h.out.elim
   ·exact h.out.elim
  ·exact h.out.elim
end
end HX

namespace HX
open Go CX
variable {ro:Addr→Option V}
def Sub (lo:Nat) (σ T:St):Prop:=∀(ro:Addr→Option V) (C:Cx ro) S,Sim C σ S→lo≤σ.next→∃C':Cx ro,Sim C' T S∧Ext lo C σ S C' T S
def loopQ {X:Type} (lo:Nat) (T:X→St) (Inv:X→Prop) (μ:X→Nat) (Q:Ex→St→Prop) (x:X):Ex→St→Prop
 |.normal,σ=>∃x',Inv x'∧μ x' < μ x∧Sub lo σ (T x')
 |e,σ=>Q e σ
theorem loop_ok {E:CX.Env} {rd:Option Nat} {lo:Nat} {c:Code} {Q:Ex→St→Prop} {σ:St} {X:Type} (T:X→St) (Inv:X→Prop) (μ:X→Nat) (x0:X) (h0:Inv x0) (hs:Sub lo σ (T x0)) (hT:∀x,lo≤(T x).next)
  (round:∀x,Inv x→SWP E rd lo c (loopQ lo T Inv μ Q x) (T x)):SWP E rd lo (.loop c) Q σ:=by
 have key:∀(m:Nat) (x:X),μ x≤m→Inv x→SWP E rd lo (.loop c) Q (T x):=by
  intro m
  induction m with
  |zero=>
   intro x hm hx C S hS hlo hrd
   obtain ⟨e,S1,C1,σ1,k1,k2,k3,k4⟩:=round x hx C S hS hlo hrd
   cases e with
   |normal=>obtain ⟨x',_,h2,_⟩:=k4;omega
   |ret=>
    refine ⟨.ret,S1,C1,σ1,k1.succ fun n hn=>?_,k2,k3,k4⟩
    show cxBody E (cx E n) (rd.map C.ids) (.loop c) S=_
    simp only [cxBody,hn]
   |exit i=>
    refine ⟨.exit i,S1,C1,σ1,k1.succ fun n hn=>?_,k2,k3,k4⟩
    show cxBody E (cx E n) (rd.map C.ids) (.loop c) S=_
    simp only [cxBody,hn]
  |succ m ih=>
   intro x hm hx C S hS hlo hrd
   obtain ⟨e,S1,C1,σ1,k1,k2,k3,k4⟩:=round x hx C S hS hlo hrd
   cases e with
   |normal=>
    obtain ⟨x',h1,h2,h3⟩:=k4
    obtain ⟨C2,s1,s2⟩:=h3 _ C1 S1 k2 k3.m.le
    obtain ⟨e,S3,C3,σ3,l1,l2,l3,l4⟩:=ih x' (by omega) h1 C2 S1 s1 (hT x') hrd
    have e12:=k3.trans s2
    have hmap:rd.map C2.ids=rd.map C.ids:=by
     cases rd with
     |none=>rfl
     |some l=>simp only [Option.map_some];rw [e12.m.ag.ids l (hrd l rfl)]
    refine ⟨e,S3,C3,σ3,(k1.and l1).succ fun n hn=>?_,l2,e12.trans l3,l4⟩
    show cxBody E (cx E n) (rd.map C.ids) (.loop c) S=_
    have h2':=hn.2
    rw [hmap] at h2'
    simp only [cxBody,hn.1,h2']
   |ret=>
    refine ⟨.ret,S1,C1,σ1,k1.succ fun n hn=>?_,k2,k3,k4⟩
    show cxBody E (cx E n) (rd.map C.ids) (.loop c) S=_
    simp only [cxBody,hn]
   |exit i=>
    refine ⟨.exit i,S1,C1,σ1,k1.succ fun n hn=>?_,k2,k3,k4⟩
    show cxBody E (cx E n) (rd.map C.ids) (.loop c) S=_
    simp only [cxBody,hn]
 intro C S hS hlo hrd
 obtain ⟨C1,s1,s2⟩:=hs _ C S hS hlo
 obtain ⟨e,S3,C3,σ3,l1,l2,l3,l4⟩:=key _ x0 (Nat.le_refl _) h0 C1 S s1 (hT x0) hrd
 have hmap:rd.map C1.ids=rd.map C.ids:=by
  cases rd with
  |none=>rfl
  |some l=>simp only [Option.map_some];rw [s2.m.ag.ids l (hrd l rfl)]
 rw [hmap] at l1
 exact ⟨e,S3,C3,σ3,l1,l2,s2.trans l3,l4⟩
theorem SWP.again {E:CX.Env} {rd:Option Nat} {lo:Nat} {c:Code} {Q:Ex→St→Prop} {σ T:St} (hs:Sub lo σ T) (hT:lo≤T.next) (h:SWP E rd lo c Q T):SWP E rd lo c Q σ:=by
 intro C S hS hlo hrd
 obtain ⟨C1,s1,s2⟩:=hs _ C S hS hlo
 obtain ⟨e,S3,C3,σ3,l1,l2,l3,l4⟩:=h C1 S s1 hT hrd
 have hmap:rd.map C1.ids=rd.map C.ids:=by
  cases rd with
  |none=>rfl
  |some l=>simp only [Option.map_some];rw [s2.m.ag.ids l (hrd l rfl)]
 rw [hmap] at l1
 exact ⟨e,S3,C3,σ3,l1,l2,s2.trans l3,l4⟩
abbrev Sgm:=List (Nat×Option Nat)
mutual
def infSV:SV→SV→Sgm→Sgm
 |.slc i',.slc i,s=>match look s i' with
  |some _=>s
  |none=>(i',some i) :: s
 |.slc i',.nils,s=>match look s i' with
  |some _=>s
  |none=>(i',none) :: s
 |.ptr i' _,.ptr i _,s=>match look s i' with
  |some _=>s
  |none=>(i',some i) :: s
 |.map i',.map i,s=>match look s i' with
  |some _=>s
  |none=>(i',some i) :: s
 |.sc i' _ _ _,.sc i _ _ _,s=>match look s i' with
  |some _=>s
  |none=>(i',some i) :: s
 |.yield i',.yield i,s=>match look s i' with
  |some _=>s
  |none=>(i',some i) :: s
 |.agg l',.agg l,s=>infL l' l s
 |.tup l',.tup l,s=>infL l' l s
 |.fn _ a' b',.fn _ a b,s=>infL b' b (infL a' a s)
 |.iface _ v',.iface _ v,s=>infSV v' v s
 |_,_,s=>s
def infL:List SV→List SV→Sgm→Sgm
 |x' :: r',x :: r,s=>infL r' r (infSV x' x s)
 |_,_,s=>s
end
def infRegs (S:List (Nat×SV)):List (Nat×SV)→Sgm→Sgm
 |[],s=>s
 |(t,v') :: r,s=>match look S t with
  |some v=>infRegs S r (infSV v' v s)
  |none=>infRegs S r s
def imgN (lo:Nat) (s:Sgm) (i':Nat):Option Nat:=
 match bltN i' lo with
 |true=>some i'
 |false=>match look s i' with
  |some (some i)=>some i
  |_=>none
def infObjs (lo:Nat) (S:List (Nat×SO)):List (Nat×SO)→Sgm→Sgm
 |[],s=>s
 |(i',.cells l') :: r,s=>match imgN lo s i' with
  |some i=>match look S i with
   |some (.cells l)=>infObjs lo S r (infL l' l s)
   |_=>infObjs lo S r s
  |none=>infObjs lo S r s
 |_ :: r,s=>infObjs lo S r s
def infDf:List Nat→List Nat→Sgm→Sgm
 |d' :: r',d :: r,s=>infDf r' r (match look s d' with
  |some _=>s
  |none=>(d',some d) :: s)
 |_,_,s=>s
structure Bd where
 s:Sgm
 lo:Nat
 nx:Nat
def ckNm (B:Bd) (i' i:Nat):Bool:=bltN i' B.nx && (match imgN B.lo B.s i' with |some j=>beqN j i |none=>false)
def ckNil (B:Bd) (i':Nat):Bool:=bltN i' B.nx && (match bltN i' B.lo with |true=>false |false=>match look B.s i' with |some none=>true |_=>false)
def ckB (B:Bd) (b' b:Nat):Bool:=
 match bltN B.lo b' with
 |true=>bleN b' B.nx
 |false=>beqN b' b && bleN b B.lo
def ckF (B:Bd) (b':Nat):Bool:=bltN B.lo b' && bleN b' B.nx
mutual
def ckSV (σ:St) (B:Bd):SV→SV→Option (List Prop)
 |.int k' n',.int k n=>match decide (k'=k) with
  |true=>some [n'=n]
  |false=>none
 |.bool b',.bool b=>some [b'=b]
 |.sym b',.sym b=>some [b'=b]
 |.sym b',.bool b=>some [b'=b]
 |.str s',.str s=>some [s'=s]
 |.ptr i' o',.ptr i o=>match beqN o' o && ckNm B i' i with
  |true=>some []
  |false=>none
 |.el i' es' x' o',.el i es x o=>match beqN o' o && beqN es' es && ckNm B i' i with
  |true=>some [x'=x]
  |false=>none
 |.fel b' ks' rows' x' o',.fel b ks rows x o=>match beqN o' o && kdsEq ks' ks && ckB B b' b with
  |true=>some [rows'=rows,x'=x]
  |false=>none
 |.nilp,.nilp=>some []
 |.slc i',.slc i=>match ckNm B i' i with
  |true=>some []
  |false=>none
 |.slc i',.nils=>match ckNil B i' with
  |true=>some []
  |false=>none
 |.vw i' lo' n',.vw i lo n=>match ckNm B i' i with
  |true=>some [lo'=lo,n'=n]
  |false=>none
 |.sc i' es' o' n',.sc i es o n=>match ckNm B i' i && beqN es' es && beqN o' o && beqN n' n with
  |true=>some []
  |false=>none
 |.fz b' ks' rows',.fz b ks rows=>match kdsEq ks' ks && ckB B b' b with
  |true=>some [rows'=rows]
  |false=>none
 |.fz b' ks' rows',.slc i=>match look σ.objs i with
  |some (.frz ks rows)=>match kdsEq ks' ks && ckF B b' with
   |true=>some [rows'=rows]
   |false=>none
  |_=>none
 |.fz b' _ rows',.nils=>match ckF B b' with
  |true=>some [rows'=[]]
  |false=>none
 |.nils,.nils=>some []
 |.map i',.map i=>match ckNm B i' i with
  |true=>some []
  |false=>none
 |.nilm,.nilm=>some []
 |.fn f' a' b',.fn f a b=>match beqN f' f,ckL σ B a' a,ckL σ B b' b with
  |true,some p,some q=>some (p++q)
  |_,_,_=>none
 |.yield i',.yield i=>match ckNm B i' i with
  |true=>some []
  |false=>none
 |.nilf,.nilf=>some []
 |.iface t' v',.iface t v=>match beqN t' t with
  |true=>ckSV σ B v' v
  |false=>none
 |.nili,.nili=>some []
 |.agg l',.agg l=>ckL σ B l' l
 |.tup l',.tup l=>ckL σ B l' l
 |_,_=>none
def ckL (σ:St) (B:Bd):List SV→List SV→Option (List Prop)
 |[],[]=>some []
 |x' :: r',x :: r=>match ckSV σ B x' x with
  |some p=>match ckL σ B r' r with
   |some q=>some (p++q)
   |none=>none
  |none=>none
 |_,_=>none
end
def ckRegs (σ:St) (B:Bd) (S:List (Nat×SV)):List (Nat×SV)→Option (List Prop)
 |[]=>some []
 |(t,v') :: r=>match look S t with
  |some v=>match ckSV σ B v' v with
   |some p=>match ckRegs σ B S r with
    |some q=>some (p++q)
    |none=>none
   |none=>none
  |none=>none
def ckOb (σ:St) (B:Bd) (i':Nat):SO→Option (List Prop)
 |.gone=>match bltN i' B.nx with
  |true=>some []
  |false=>none
 |.cells l'=>match imgN B.lo B.s i' with
  |some i=>match look σ.objs i with
   |some (.cells l)=>match ckNm B i' i with
    |true=>ckL σ B l' l
    |false=>none
   |_=>none
  |none=>none
 |.arr _ ks' rows'=>match imgN B.lo B.s i' with
  |some i=>match look σ.objs i with
   |some (.arr _ ks rows)=>match ckNm B i' i && kdsEq ks' ks with
    |true=>some [rows'=rows]
    |false=>none
   |_=>none
  |none=>match ckNil B i' && decide (0 < ks'.length) with
   |true=>some [rows'=[]]
   |false=>none
 |.frz ks' rows'=>match imgN B.lo B.s i' with
  |some i=>match look σ.objs i with
   |some (.frz ks rows)=>match ckNm B i' i && kdsEq ks' ks with
    |true=>some [rows'=rows]
    |false=>none
   |_=>none
  |none=>none
 |.mp ka' va' kk' vk' ent'=>match imgN B.lo B.s i' with
  |some i=>match look σ.objs i with
   |some (.mp ka va kk vk ent)=>match ckNm B i' i && (sameA ka' ka && sameA va' va && (kdsEq kk' kk && kdsEq vk' vk)) with
    |true=>some [ent'=ent]
    |false=>none
   |_=>none
  |none=>none
 |.dfr b'=>match imgN B.lo B.s i' with
  |some i=>match look σ.objs i with
   |some (.dfr b)=>match ckNm B i' i with
    |true=>some [b'=b]
    |false=>none
   |_=>none
  |none=>none
 |.loop st' j' nt' regs' ps' a' b' d'=>match imgN B.lo B.s i' with
  |some i=>match look σ.objs i with
   |some (.loop st j nt regs ps a b d)=>match ckNm B i' i && ckNm B d' d && beqN nt' nt with
    |true=>match ckRegs σ B regs regs' with
     |some q=>some ((st'=st) :: (j'=j) :: (ps'=ps) :: (a'=a) :: (b'=b) :: q)
     |none=>none
    |false=>none
   |_=>none
  |none=>none
def ckObjs (σ:St) (B:Bd):List (Nat×SO)→Option (List Prop)
 |[]=>some []
 |(i',x') :: r=>match ckOb σ B i' x' with
  |some p=>match ckObjs σ B r with
   |some q=>some (p++q)
   |none=>none
  |none=>none
def ckDf (B:Bd):List Nat→List Nat→Bool
 |[],[]=>true
 |d' :: r',d :: r=>ckNm B d' d && ckDf B r' r
 |_,_=>false
def memN (x:Nat):List Nat→Bool
 |[]=>false
 |y :: r=>match beqN x y with
  |true=>true
  |false=>memN x r
def nodupN:List Nat→Bool
 |[]=>true
 |x :: r=>!memN x r && nodupN r
def imgs (B:Bd):List (Nat×SO)→List Nat
 |[]=>[]
 |(_,.gone) :: r=>imgs B r
 |(_,.frz ..) :: r=>imgs B r
 |(i',_) :: r=>match imgN B.lo B.s i' with
  |some i=>i :: imgs B r
  |none=>imgs B r
structure StuckS (B:Bd) (σ T:St):Prop where
 out:False
def allP:List Prop→Prop
 |[]=>True
 |[p]=>p
 |p :: r=>p∧allP r
def bdOf (lo:Nat) (σ T:St):Bd:=
 ⟨infObjs lo σ.objs T.objs (infObjs lo σ.objs T.objs (infDf T.df σ.df (infRegs σ.regs T.regs []))),lo,T.next⟩
def subP (lo:Nat) (σ T:St):Prop:=
 match bdOf lo σ T with
 |⟨s,lo,nx⟩=>match beqN σ.nt T.nt && bltN lo T.next && nodupN (imgs ⟨s,lo,nx⟩ T.objs) && ckDf ⟨s,lo,nx⟩ T.df σ.df with
  |false=>StuckS ⟨s,lo,nx⟩ σ T
  |true=>match ckRegs σ ⟨s,lo,nx⟩ σ.regs T.regs,ckObjs σ ⟨s,lo,nx⟩ T.objs with
   |some p,some q=>allP (p++q)
   |_,_=>StuckS ⟨s,lo,nx⟩ σ T
theorem allP_ok:∀l:List Prop,allP l→∀p∈l,p
 |[],_,_,h=>by simp at h
 |[p],h,q,hq=>by
  simp only [List.mem_singleton] at hq
  subst hq;exact h
 |p :: q :: r,h,x,hx=>by
  rcases List.mem_cons.1 hx with rfl |hx
  ·exact h.1
  ·exact allP_ok (q :: r) h.2 x hx
theorem memN_iff {x:Nat}:∀{l:List Nat},memN x l=true↔x∈l
 |[]=>by simp [memN]
 |y :: r=>by
  simp only [memN,List.mem_cons]
  split
  ·rename_i h;simp only [beqN_iff] at h;simp [h]
  ·rename_i h;simp only [beqN_not] at h;rw [memN_iff];simp [h]
theorem nodupN_ok:∀{l:List Nat},nodupN l=true→l.Nodup
 |[],_=>.nil
 |x :: r,h=>by
  simp only [nodupN,Bool.and_eq_true,Bool.not_eq_true',Bool.eq_false_iff] at h
  exact List.nodup_cons.2 ⟨fun hx=>h.1 (memN_iff.2 hx),nodupN_ok h.2⟩
noncomputable def Cx.ren (C:Cx ro) (B:Bd) (nx:Nat):Cx ro:=
 ⟨fun i'=>match imgN B.lo B.s i' with |some i=>C.ids i |none=>0,fun i'=>match imgN B.lo B.s i' with |some i=>C.hdr i |none=>.nils,C.g,fun b=>if b≤B.lo then C.bd b else nx⟩
theorem imgN_lo {lo:Nat} {s:Sgm} {i:Nat} (h:i < lo):imgN lo s i=some i:=by
 have:bltN i lo=true:=by simpa using h
 simp only [imgN,this]
theorem Ag.ren (C:Cx ro) (B:Bd) (nx:Nat):Ag B.lo C (C.ren B nx):=
 ⟨fun nm h=>by simp only [Cx.ren,imgN_lo h],fun nm h=>by simp only [Cx.ren,imgN_lo h],fun b h=>by simp only [Cx.ren];rw [if_pos h],fun _ _ h=>h⟩
section
variable {C:Cx ro} {σ:St} {bar:Nat} {h:Nat→Option O} {nx:Nat} (hM:MSim C σ.objs σ.next bar h nx) {B:Bd}
include hM
theorem ckNm_ok {i' i:Nat} (hk:ckNm B i' i=true):i' < B.nx∧imgN B.lo B.s i'=some i∧(C.ren B nx).ids i'=C.ids i∧(C.ren B nx).hdr i'=C.hdr i:=by
 simp only [ckNm,Bool.and_eq_true,bltN_iff] at hk
 obtain ⟨h1,h2⟩:=hk
 split at h2
 ·rename_i j hj
  simp only [beqN_iff] at h2
  subst h2
  exact ⟨h1,hj,by simp only [Cx.ren,hj],by simp only [Cx.ren,hj]⟩
 ·cases h2
theorem ckNil_ok {i':Nat} (hk:ckNil B i'=true):i' < B.nx∧imgN B.lo B.s i'=none∧(C.ren B nx).hdr i'=.nils:=by
 simp only [ckNil,Bool.and_eq_true,bltN_iff] at hk
 obtain ⟨h1,h2⟩:=hk
 split at h2
 ·cases h2
 ·rename_i hlo
  split at h2
  ·rename_i hs
   have:imgN B.lo B.s i'=none:=by simp only [imgN,hlo,hs]
   exact ⟨h1,this,by simp only [Cx.ren,this]⟩
  ·cases h2
theorem ckB_ok {b' b:Nat} (hb:b≤σ.next) (hk:ckB B b' b=true) (hlo:B.lo≤B.nx):b'≤B.nx∧C.bd b≤(C.ren B nx).bd b':=by
 unfold ckB at hk
 split at hk
 ·rename_i h1
  simp only [bltN_iff] at h1
  simp only [bleN_iff] at hk
  refine ⟨hk,?_⟩
  simp only [Cx.ren]
  rw [if_neg (by omega)]
  exact hM.bd b hb
 ·simp only [Bool.and_eq_true,beqN_iff,bleN_iff] at hk
  obtain ⟨rfl,h2⟩:=hk
  refine ⟨by omega,?_⟩
  simp only [Cx.ren]
  rw [if_pos h2]
  exact Nat.le_refl _
theorem ckF_ok {b':Nat} (hk:ckF B b'=true):b'≤B.nx∧(C.ren B nx).bd b'=nx:=by
 simp only [ckF,Bool.and_eq_true,bltN_iff,bleN_iff] at hk
 refine ⟨hk.2,?_⟩
 simp only [Cx.ren]
 rw [if_neg (by omega)]
mutual
theorem ckSV_ok (hlo:B.lo≤B.nx):∀(s' s:SV) (ps:List Prop),ckSV σ B s' s=some ps→(∀p∈ps,p)→∀v,RvS C σ.next s v→RvS (C.ren B nx) B.nx s' v:=by
 intro s' s ps hc hp v hv
 unfold ckSV at hc
 split at hc
 ·split at hc
  ·rename_i hk
   have hk:=of_decide_eq_true hk
   subst hk
   simp only [Option.some.injEq] at hc
   subst hc
   have:=hp _ (.head _)
   subst this
   exact hv
  ·cases hc
 ·simp only [Option.some.injEq] at hc
  subst hc
  have:=hp _ (.head _)
  subst this
  exact hv
 ·simp only [Option.some.injEq] at hc
  subst hc
  have:=hp _ (.head _)
  subst this
  exact hv
 ·simp only [Option.some.injEq] at hc
  subst hc
  have:=hp _ (.head _)
  subst this
  exact hv
 ·simp only [Option.some.injEq] at hc
  subst hc
  have:=hp _ (.head _)
  subst this
  exact hv
 ·split at hc
  ·rename_i hk
   simp only [Bool.and_eq_true,beqN_iff] at hk
   obtain ⟨rfl,hk⟩:=hk
   obtain ⟨a,b,c,d⟩:=ckNm_ok hM hk
   simp only [RvS] at hv ⊢
   exact ⟨a,by rw [c];exact hv.2⟩
  ·cases hc
 ·split at hc
  ·rename_i hk
   simp only [Bool.and_eq_true,beqN_iff] at hk
   obtain ⟨⟨rfl,rfl⟩,hk⟩:=hk
   obtain ⟨a,b,c,d⟩:=ckNm_ok hM hk
   simp only [Option.some.injEq] at hc
   subst hc
   have:=hp _ (.head _)
   subst this
   simp only [RvS] at hv ⊢
   exact ⟨a,by rw [c];exact hv.2⟩
  ·cases hc
 ·split at hc
  ·rename_i hk
   simp only [Bool.and_eq_true,beqN_iff] at hk
   obtain ⟨⟨rfl,hk1⟩,hk⟩:=hk
   have hk1:=kds_eq hk1
   subst hk1
   simp only [Option.some.injEq] at hc
   subst hc
   have:=hp _ (.head _)
   subst this
   have:=hp _ (.tail _ (.head _))
   subst this
   simp only [RvS,FelR] at hv ⊢
   obtain ⟨h0,⟨id,base,t,m,a1,a2,a3,a4,a5⟩ |⟨a,a1,a5⟩⟩:=hv<;>obtain ⟨b1,b2⟩:=ckB_ok hM h0 hk hlo
   ·exact ⟨b1,.inl ⟨id,base,t,m,a1,by omega,a3,a4,FzR.mono (fun _ _ _ h=>h) b2 _ _ _ _ a5⟩⟩
   ·exact ⟨b1,.inr ⟨a,a1,FzR.mono (fun _ _ _ h=>h) b2 _ _ _ _ a5⟩⟩
  ·cases hc
 ·simpa [RvS] using hv
 ·split at hc
  ·rename_i hk
   obtain ⟨a,b,c,d⟩:=ckNm_ok hM hk
   simp only [RvS] at hv ⊢
   exact ⟨a,by rw [d];exact hv.2.1,hv.2.2⟩
  ·cases hc
 ·split at hc
  ·rename_i hk
   obtain ⟨a,b,c⟩:=ckNil_ok hM hk
   simp only [RvS] at hv ⊢
   exact ⟨a,by rw [c];exact hv,.inl hv⟩
  ·cases hc
 ·split at hc
  ·rename_i hk
   obtain ⟨a,b,c,d⟩:=ckNm_ok hM hk
   simp only [Option.some.injEq] at hc
   subst hc
   have:=hp _ (.head _)
   subst this
   have:=hp _ (.tail _ (.head _))
   subst this
   simp only [RvS,VwR] at hv ⊢
   exact ⟨a,by rw [c,d];exact hv.2⟩
  ·cases hc
 ·split at hc
  ·rename_i hk
   simp only [Bool.and_eq_true,beqN_iff] at hk
   obtain ⟨⟨⟨hk,rfl⟩,rfl⟩,rfl⟩:=hk
   obtain ⟨a,b,c,d⟩:=ckNm_ok hM hk
   simp only [RvS] at hv ⊢
   exact ⟨a,hv.2.1,by rw [c];exact hv.2.2⟩
  ·cases hc
 ·split at hc
  ·rename_i hk
   simp only [Bool.and_eq_true] at hk
   obtain ⟨hk1,hk⟩:=hk
   have hk1:=kds_eq hk1
   subst hk1
   simp only [Option.some.injEq] at hc
   subst hc
   have:=hp _ (.head _)
   subst this
   simp only [RvS] at hv ⊢
   obtain ⟨b1,b2⟩:=ckB_ok hM hv.1 hk hlo
   exact ⟨b1,FzC.mono (fun _ _ _ h=>h) b2 _ _ _ hv.2⟩
  ·cases hc
 ·split at hc
  ·rename_i hl
   split at hc
   ·rename_i hk
    simp only [Bool.and_eq_true] at hk
    obtain ⟨hk1,hk⟩:=hk
    have hk1:=kds_eq hk1
    subst hk1
    simp only [Option.some.injEq] at hc
    subst hc
    have:=hp _ (.head _)
    subst this
    obtain ⟨b1,b2⟩:=ckF_ok (C:=C) hM hk
    simp only [RvS] at hv ⊢
    obtain ⟨_,rfl,_⟩:=hv
    exact ⟨b1,by rw [b2];exact (hM.ob _ _ hl).2.1⟩
   ·cases hc
  ·cases hc
 ·split at hc
  ·rename_i hk
   simp only [Option.some.injEq] at hc
   subst hc
   have:=hp _ (.head _)
   subst this
   obtain ⟨b1,b2⟩:=ckF_ok (C:=C) hM hk
   simp only [RvS] at hv ⊢
   subst hv
   exact ⟨b1,by simp only [FzC,D.rows];exact ⟨⟨[],rfl,fun _ h=>(by cases h),by simp⟩,.inl (by simp)⟩⟩
  ·cases hc
 ·simpa [RvS] using hv
 ·split at hc
  ·rename_i hk
   obtain ⟨a,b,c,d⟩:=ckNm_ok hM hk
   simp only [RvS] at hv ⊢
   exact ⟨a,by rw [c];exact hv.2⟩
  ·cases hc
 ·simpa [RvS] using hv
 ·split at hc
  ·rename_i p q hf hp1 hp2
   simp only [beqN_iff] at hf
   subst hf
   simp only [Option.some.injEq] at hc
   subst hc
   simp only [RvS] at hv ⊢
   obtain ⟨x,y,a1,a2,a3⟩:=hv
   exact ⟨x,y,ckL_ok hlo _ _ _ hp1 (fun r hr=>hp r (List.mem_append_left _ hr)) x a1,ckL_ok hlo _ _ _ hp2 (fun r hr=>hp r (List.mem_append_right _ hr)) y a2,a3⟩
  ·cases hc
 ·split at hc
  ·rename_i hk
   obtain ⟨a,b,c,d⟩:=ckNm_ok hM hk
   simp only [RvS] at hv ⊢
   exact ⟨a,by rw [c];exact hv.2⟩
  ·cases hc
 ·simpa [RvS] using hv
 ·split at hc
  ·rename_i hk
   simp only [beqN_iff] at hk
   subst hk
   simp only [RvS] at hv ⊢
   obtain ⟨y,a1,a2⟩:=hv
   exact ⟨y,ckSV_ok hlo _ _ _ hc hp y a1,a2⟩
  ·cases hc
 ·simpa [RvS] using hv
 ·simp only [RvS] at hv ⊢
  obtain ⟨x,a1,a2⟩:=hv
  exact ⟨x,ckL_ok hlo _ _ _ hc hp x a1,a2⟩
 ·simp only [RvS] at hv ⊢
  obtain ⟨x,a1,a2⟩:=hv
  exact ⟨x,ckL_ok hlo _ _ _ hc hp x a1,a2⟩
 ·cases hc
theorem ckL_ok (hlo:B.lo≤B.nx):∀(l' l:List SV) (ps:List Prop),ckL σ B l' l=some ps→(∀p∈ps,p)→∀x,RvSL C σ.next l x→RvSL (C.ren B nx) B.nx l' x
 |[],[],ps,hc,hp,x,hx=>by
  cases x with
  |nil=>trivial
  |cons _ _=>simp [RvSL] at hx
 |s' :: l',s :: l,ps,hc,hp,x,hx=>by
  simp only [ckL] at hc
  split at hc
  ·rename_i p hp1
   split at hc
   ·rename_i q hq1
    simp only [Option.some.injEq] at hc
    subst hc
    cases x with
    |nil=>simp [RvSL] at hx
    |cons v x=>
     simp only [RvSL] at hx ⊢
     exact ⟨ckSV_ok hlo _ _ _ hp1 (fun r hr=>hp r (List.mem_append_left _ hr)) v hx.1,ckL_ok hlo _ _ _ hq1 (fun r hr=>hp r (List.mem_append_right _ hr)) x hx.2⟩
   ·cases hc
  ·cases hc
 |[],_ :: _,ps,hc,_,_,_=>by simp [ckL] at hc
 |_ :: _,[],ps,hc,_,_,_=>by simp [ckL] at hc
end
end
end HX

namespace HX
open Go CX
variable {ro:Addr→Option V}
section
variable {C:Cx ro} {σ:St} {bar:Nat} {h:Nat→Option O} {nx:Nat} (hM:MSim C σ.objs σ.next bar h nx) {B:Bd}
include hM
theorem ckRegs_ok (hlo:B.lo≤B.nx) {S:List (Nat×SV)} {regs:T V} (hR:RegsS C σ.next S regs):∀(l:List (Nat×SV)) (ps:List Prop),ckRegs σ B S l=some ps→(∀p∈ps,p)→RegsS (C.ren B nx) B.nx l regs
 |[],ps,_,_,t,s,hl=>by simp [look] at hl
 |(t',v') :: r,ps,hc,hp,t,s,hl=>by
  simp only [ckRegs] at hc
  split at hc
  ·rename_i v hv
   split at hc
   ·rename_i p hp1
    split at hc
    ·rename_i q hq1
     simp only [Option.some.injEq] at hc
     subst hc
     rw [look_cons] at hl
     split at hl
     ·rename_i e
      simp only [Option.some.injEq] at hl
      subst e hl
      rcases hR _ _ hv with h0 |⟨u,u1,u2⟩
      ·subst h0
       exfalso
       cases v'<;>simp [ckSV] at hp1
      ·exact .inr ⟨u,u1,ckSV_ok hM hlo _ _ _ hp1 (fun r hr=>hp r (List.mem_append_left _ hr)) u u2⟩
     ·exact ckRegs_ok hlo hR r q hq1 (fun x hx=>hp x (List.mem_append_right _ hx)) t s hl
    ·cases hc
   ·cases hc
  ·cases hc
theorem ckOb_ok (hlo:B.lo≤B.nx) (hlon:B.lo≤σ.next) {i':Nat} {so':SO} {ps:List Prop} (hc:ckOb σ B i' so'=some ps) (hp:∀p∈ps,p) :
  i' < B.nx∧ObS (C.ren B nx) B.nx h nx i' so'∧(ownS (C.ren B nx) i' so'→∃i so,imgN B.lo B.s i'=some i∧look σ.objs i=some so∧ownS C i so∧(C.ren B nx).ids i'=C.ids i):=by
 have ha:=Ag.ren C B nx
 unfold ckOb at hc
 split at hc
 ·split at hc
  ·rename_i hk
   simp only [bltN_iff] at hk
   exact ⟨hk,trivial,fun h=>h.elim⟩
  ·cases hc
 ·split at hc
  ·rename_i i hi
   split at hc
   ·rename_i l hl
    split at hc
    ·rename_i hk
     obtain ⟨a,b,c,d⟩:=ckNm_ok hM hk
     refine ⟨a,?_,fun _=>⟨i,_,hi,hl,trivial,c⟩⟩
     have hob:=hM.ob _ _ hl
     simp only [ObS] at hob ⊢
     obtain ⟨t,o1,o2⟩:=hob
     have key:∀(l' l:List SV) (ps:List Prop),ckL σ B l' l=some ps→(∀p∈ps,p)→l'.length=l.length∧∀(j:Nat) (s':SV),l'[j]?=some s'→∃(s:SV) (p:List Prop),l[j]?=some s∧ckSV σ B s' s=some p∧∀x∈p,x:=by
      intro l'
      induction l' with
      |nil=>
       intro l ps hc hp
       cases l with
       |nil=>exact ⟨rfl,fun j s' h=>by simp at h⟩
       |cons _ _=>simp [ckL] at hc
      |cons s' l' ih=>
       intro l ps hc hp
       cases l with
       |nil=>simp [ckL] at hc
       |cons s l=>
        simp only [ckL] at hc
        split at hc
        ·rename_i p hp1
         split at hc
         ·rename_i q hq1
          simp only [Option.some.injEq] at hc
          subst hc
          obtain ⟨h1,h2⟩:=ih l q hq1 (fun x hx=>hp x (List.mem_append_right _ hx))
          refine ⟨by simp [h1],fun j s'' hj=>?_⟩
          cases j with
          |zero=>
           simp only [List.getElem?_cons_zero,Option.some.injEq] at hj
           subst hj
           exact ⟨s,p,by simp,hp1,fun x hx=>hp x (List.mem_append_left _ hx)⟩
          |succ j=>
           obtain ⟨s2,p2,e1,e2⟩:=h2 j s'' (by simpa using hj)
           exact ⟨s2,p2,by simpa using e1,e2⟩
         ·cases hc
        ·cases hc
     obtain ⟨k1,k2⟩:=key _ _ _ hc hp
     refine ⟨t,by rw [c,k1];exact o1,fun j s' hj=>?_⟩
     obtain ⟨s,p,e1,e2,e3⟩:=k2 j s' hj
     obtain ⟨v,v1,v2,v3⟩:=o2 j s e1
     exact ⟨v,v1,v2,ckSV_ok hM hlo _ _ _ e2 e3 v v3⟩
    ·cases hc
   ·cases hc
  ·cases hc
 ·rename_i og' ks' rows'
  split at hc
  ·rename_i i hi
   split at hc
   ·rename_i og ks rows hl
    split at hc
    ·rename_i hk
     rw [Bool.and_eq_true] at hk
     have hks:=kds_eq hk.2
     subst hks
     obtain ⟨a,b,c,d⟩:=ckNm_ok hM hk.1
     simp only [Option.some.injEq] at hc
     subst hc
     have:=hp _ (.head _)
     subst this
     refine ⟨a,?_,fun ho=>⟨i,_,hi,hl,by simpa only [ownS,d] using ho,c⟩⟩
     have hob:=hM.ob _ _ hl
     simp only [ObS,c,d] at hob ⊢
     exact hob
    ·cases hc
   ·cases hc
  ·split at hc
   ·rename_i hk
    rw [Bool.and_eq_true] at hk
    obtain ⟨a,b,c⟩:=ckNil_ok hM hk.1
    simp only [Option.some.injEq] at hc
    subst hc
    have:=hp _ (.head _)
    subst this
    refine ⟨a,?_,fun ho=>by simp only [ownS,c] at ho;exact absurd rfl ho⟩
    simp only [ObS]
    exact ⟨⟨of_decide_eq_true hk.2,fun _ h=>(by cases h),by simp⟩,.inl ⟨trivial,c⟩⟩
   ·cases hc
 ·split at hc
  ·rename_i i hi
   split at hc
   ·rename_i ks rows hl
    split at hc
    ·rename_i hk
     rw [Bool.and_eq_true] at hk
     have hks:=kds_eq hk.2
     subst hks
     obtain ⟨a,b,c,d⟩:=ckNm_ok hM hk.1
     simp only [Option.some.injEq] at hc
     subst hc
     have:=hp _ (.head _)
     subst this
     refine ⟨a,?_,fun ho=>ho.elim⟩
     have hob:=hM.ob _ _ hl
     simp only [ObS,c,d] at hob ⊢
     exact hob
    ·cases hc
   ·cases hc
  ·cases hc
 ·split at hc
  ·rename_i i hi
   split at hc
   ·rename_i ka va kk vk ent hl
    split at hc
    ·rename_i hk
     simp only [Bool.and_eq_true] at hk
     obtain ⟨hk,⟨hk1,hk2⟩,hk3,hk4⟩:=hk
     have hk1:=sameA_eq hk1
     have hk2:=sameA_eq hk2
     have hk3:=kds_eq hk3
     have hk4:=kds_eq hk4
     subst hk1 hk2 hk3 hk4
     obtain ⟨a,b,c,d⟩:=ckNm_ok hM hk
     simp only [Option.some.injEq] at hc
     subst hc
     have:=hp _ (.head _)
     subst this
     refine ⟨a,?_,fun ho=>⟨i,_,hi,hl,trivial,c⟩⟩
     have hob:=hM.ob _ _ hl
     simp only [ObS,c] at hob ⊢
     exact hob
    ·cases hc
   ·cases hc
  ·cases hc
 ·split at hc
  ·rename_i i hi
   split at hc
   ·rename_i b hl
    split at hc
    ·rename_i hk
     obtain ⟨a,b,c,d⟩:=ckNm_ok hM hk
     simp only [Option.some.injEq] at hc
     subst hc
     have:=hp _ (.head _)
     subst this
     refine ⟨a,?_,fun ho=>⟨i,_,hi,hl,trivial,c⟩⟩
     have hob:=hM.ob _ _ hl
     simp only [ObS,c] at hob ⊢
     exact hob
    ·cases hc
   ·cases hc
  ·cases hc
 ·split at hc
  ·rename_i i hi
   split at hc
   ·rename_i st j nt regs ps0 a0 b0 d hl
    split at hc
    ·rename_i hk
     simp only [Bool.and_eq_true,beqN_iff] at hk
     obtain ⟨⟨hk1,hk2⟩,rfl⟩:=hk
     obtain ⟨a,b,c,_⟩:=ckNm_ok hM hk1
     obtain ⟨a2,b2,c2,_⟩:=ckNm_ok hM hk2
     split at hc
     ·rename_i q hq
      simp only [Option.some.injEq] at hc
      subst hc
      have e1:=hp _ (.head _)
      have e2:=hp _ (.tail _ (.head _))
      have e3:=hp _ (.tail _ (.tail _ (.head _)))
      have e4:=hp _ (.tail _ (.tail _ (.tail _ (.head _))))
      have e5:=hp _ (.tail _ (.tail _ (.tail _ (.tail _ (.head _)))))
      subst e1 e2 e3 e4 e5
      refine ⟨a,?_,fun ho=>⟨i,_,hi,hl,trivial,c⟩⟩
      have hob:=hM.ob _ _ hl
      simp only [ObS,c,c2] at hob ⊢
      obtain ⟨h1,rg,h2,h3⟩:=hob
      exact ⟨a2,rg,h2,ckRegs_ok hM hlo h3 _ _ hq fun x hx=>hp x (.tail _ (.tail _ (.tail _ (.tail _ (.tail _ hx)))))⟩
     ·cases hc
    ·cases hc
   ·cases hc
  ·cases hc
theorem ckObjs_ok:∀(l:List (Nat×SO)) (ps:List Prop),ckObjs σ B l=some ps→(∀p∈ps,p)→∀i' so',look l i'=some so'→∃p,ckOb σ B i' so'=some p∧∀x∈p,x
 |[],ps,_,_,i',so',hl=>by simp [look] at hl
 |(i,x) :: r,ps,hc,hp,i',so',hl=>by
  simp only [ckObjs] at hc
  split at hc
  ·rename_i p hp1
   split at hc
   ·rename_i q hq1
    simp only [Option.some.injEq] at hc
    subst hc
    rw [look_cons] at hl
    split at hl
    ·rename_i e
     simp only [Option.some.injEq] at hl
     subst e hl
     exact ⟨p,hp1,fun y hy=>hp y (List.mem_append_left _ hy)⟩
    ·exact ckObjs_ok r q hq1 (fun y hy=>hp y (List.mem_append_right _ hy)) i' so' hl
   ·cases hc
  ·cases hc
omit hM in
theorem imgs_mem:∀(l:List (Nat×SO)) (i':Nat) (so:SO) (i:Nat),look l i'=some so→(∀C:Cx ro,ownS C i' so→True)→so≠.gone→(∀ks rows,so≠.frz ks rows)→imgN B.lo B.s i'=some i→i∈imgs B l
 |[],i',so,i,hl,_,_,_,_=>by simp [look] at hl
 |(j,x) :: r,i',so,i,hl,h0,h1,h2,hi=>by
  rw [look_cons] at hl
  split at hl
  ·rename_i e
   simp only [Option.some.injEq] at hl
   subst e hl
   cases x with
   |gone=>exact absurd rfl h1
   |frz ks rows=>exact absurd rfl (h2 ks rows)
   |_=>all_goals (simp only [imgs,hi];exact List.mem_cons_self)
  ·have ih:=imgs_mem r i' so i hl h0 h1 h2 hi
   unfold imgs
   split
   ·cases ‹(j,x) :: r=[]›
   ·rename_i heq;simp only [List.cons.injEq] at heq;obtain ⟨_,rfl⟩:=heq;exact ih
   ·rename_i heq;simp only [List.cons.injEq] at heq;obtain ⟨_,rfl⟩:=heq;exact ih
   ·rename_i heq
    simp only [List.cons.injEq] at heq
    obtain ⟨_,rfl⟩:=heq
    split
    ·exact List.mem_cons_of_mem _ ih
    ·exact ih
omit hM in
theorem imgs_inj:∀(l:List (Nat×SO)),(imgs B l).Nodup→∀(a b:Nat) (x y:SO) (i:Nat),a≠b→look l a=some x→look l b=some y→x≠.gone→(∀ks rows,x≠.frz ks rows)→y≠.gone→(∀ks rows,y≠.frz ks rows)→imgN B.lo B.s a=some i→imgN B.lo B.s b=some i→False
 |[],_,a,b,x,y,i,_,hl,_,_,_,_,_,_,_=>by simp [look] at hl
 |(j,z) :: r,hn,a,b,x,y,i,hab,hla,hlb,hx,hx',hy,hy',hia,hib=>by
  have hr:(imgs B r).Nodup:=by
   unfold imgs at hn
   split at hn
   ·cases ‹(j,z) :: r=[]›
   ·rename_i heq;simp only [List.cons.injEq] at heq;obtain ⟨_,rfl⟩:=heq;exact hn
   ·rename_i heq;simp only [List.cons.injEq] at heq;obtain ⟨_,rfl⟩:=heq;exact hn
   ·rename_i heq
    simp only [List.cons.injEq] at heq
    obtain ⟨_,rfl⟩:=heq
    split at hn
    ·exact (List.nodup_cons.1 hn).2
    ·exact hn
  have head:∀(w:SO),w≠.gone→(∀ks rows,w≠.frz ks rows)→z=w→imgN B.lo B.s j=some i→i∉imgs B r:=by
   intro w h1 h2 e hi
   subst e
   have:imgs B ((j,z) :: r)=i :: imgs B r:=by
    cases z with
    |gone=>exact absurd rfl h1
    |frz ks rows=>exact absurd rfl (h2 ks rows)
    |_=>all_goals simp only [imgs,hi]
   rw [this] at hn
   exact (List.nodup_cons.1 hn).1
  rw [look_cons] at hla hlb
  split at hla
  ·rename_i e
   simp only [Option.some.injEq] at hla
   subst e
   split at hlb
   ·rename_i e2;exact hab e2
   ·exact head x hx hx' hla hia (imgs_mem (ro:=fun _=>none) r b y i hlb (fun _ _=>trivial) hy hy' hib)
  ·split at hlb
   ·rename_i e
    simp only [Option.some.injEq] at hlb
    subst e
    exact head y hy hy' hlb hib (imgs_mem (ro:=fun _=>none) r a x i hla (fun _ _=>trivial) hx hx' hia)
   ·exact imgs_inj r hr a b x y i hab hla hlb hx hx' hy hy' hia hib
end
theorem ownS_ne {C:Cx ro} {nm:Nat} {so:SO} (h:ownS C nm so):so≠.gone∧∀ks rows,so≠.frz ks rows:=by
 cases so<;>simp_all [ownS]
theorem subP_ok {lo:Nat} {σ T:St} (hs:subP lo σ T):Sub lo σ T:=by
 intro ro C S hS hlon
 unfold subP at hs
 split at hs
 rename_i s lo' nx' hB
 have hlo':lo'=lo:=by have:=congrArg Bd.lo hB;exact this.symm
 have hnx':nx'=T.next:=by have:=congrArg Bd.nx hB;exact this.symm
 subst hlo' hnx'
 split at hs
 ·exact hs.out.elim
 ·rename_i hb
  simp only [Bool.and_eq_true,beqN_iff,bltN_iff] at hb
  obtain ⟨⟨⟨b1,b2⟩,b3⟩,b4⟩:=hb
  split at hs
  ·rename_i p q hp hq
   have hall:=allP_ok _ hs
   have hM:=hS.m
   have hle:(⟨s,lo',T.next⟩:Bd).lo≤(⟨s,lo',T.next⟩:Bd).nx:=Nat.le_of_lt b2
   have hobs:=ckObjs_ok hM T.objs q hq (fun x hx=>hall x (List.mem_append_right _ hx))
   have ob:∀{i' so'},look T.objs i'=some so'→_:=fun {i' so'} hl=>(fun ⟨pp,h1,h2⟩=>ckOb_ok hM hle hlon h1 h2) (hobs i' so' hl)
   have hnd:=nodupN_ok b3
   refine ⟨C.ren ⟨s,lo',T.next⟩ S.nx,⟨by rw [hS.nt,b1],ckRegs_ok hM hle hS.regs T.regs p hp (fun x hx=>hall x (List.mem_append_left _ hx)),⟨fun nm so hl=>(ob hl).1,fun nm so hl=>(ob hl).2.1,fun nm so hl ho=>?_,fun a b x y hla hlb hoa hob hne=>?_,hM.fz,fun b hb=>?_,?_,hM.barle,((Ag.ren C ⟨s,lo',T.next⟩ S.nx).bd 0 (Nat.zero_le _)).trans hM.z⟩,?_,?_⟩,⟨Ag.ren C ⟨s,lo',T.next⟩ S.nx,Nat.le_of_lt b2,Nat.le_refl _,fun _ _ _=>rfl,fun id hid=>?_,fun id o hg=>.inl hg⟩,rfl,fun _ h=>.inl h⟩
   ·obtain ⟨i,so0,h1,h2,h3,h4⟩:=(ob hl).2.2 ho
    rw [h4]
    exact hM.own _ _ h2 h3
   ·obtain ⟨i,x0,h1,h2,h3,h4⟩:=(ob hla).2.2 hoa
    obtain ⟨j,y0,k1,k2,k3,k4⟩:=(ob hlb).2.2 hob
    rw [h4,k4]
    refine hM.inj _ _ _ _ h2 k2 h3 k3 fun e=>?_
    subst e
    exact imgs_inj T.objs hnd a b x y i hne hla hlb (ownS_ne hoa).1 (ownS_ne hoa).2 (ownS_ne hob).1 (ownS_ne hob).2 h1 k1
   ·simp only [Cx.ren]
    split
    ·rename_i hbl;exact hM.bd b (Nat.le_trans hbl hlon)
    ·exact Nat.le_refl _
   ·simp only [Cx.ren]
    rw [if_neg (Nat.not_le.2 b2)]
   ·have own':∀id,OwnId (C.ren ⟨s,lo',T.next⟩ S.nx) T.objs id→OwnId C σ.objs id:=fun id hid=>by
     obtain ⟨nm,so,hl,ho,e⟩:=hid
     obtain ⟨i,so0,h1,h2,h3,h4⟩:=(ob hl).2.2 ho
     exact ⟨i,so0,h2,h3,by rw [←e,h4]⟩
    have key:∀{l ids:List Nat},DfR C σ.objs S.bar S.h.get S.nx l ids→∀l',ckDf ⟨s,lo',T.next⟩ l' l=true→DfR (C.ren ⟨s,lo',T.next⟩ S.nx) T.objs S.bar S.h.get S.nx l' ids:=by
     intro l ids k
     induction k with
     |nil=>
      intro l' h
      cases l' with
      |nil=>exact .nil
      |cons _ _=>simp [ckDf] at h
     |nm he hi _ ih=>
      intro l' h
      cases l' with
      |nil=>simp [ckDf] at h
      |cons d' l'=>
       simp only [ckDf,Bool.and_eq_true] at h
       exact .nm ((ckNm_ok hM h.1).2.2.1.trans he) hi (ih l' h.2)
     |mk hx hn _ ih=>exact fun l' h=>.mk ⟨hx.1,hx.2.1,hx.2.2.1,fun ho=>hx.2.2.2.1 (own' _ ho),hx.2.2.2.2⟩ hn (ih l' h)
    exact key hS.df _ b4
   ·have key:∀(l' l:List Nat),ckDf ⟨s,lo',T.next⟩ l' l=true→∀d∈l',d < T.next:=by
     intro l'
     induction l' with
     |nil=>intro l h d hd;cases hd
     |cons d' l' ih=>
      intro l h d hd
      cases l with
      |nil=>simp [ckDf] at h
      |cons d0 l=>
       simp only [ckDf,Bool.and_eq_true] at h
       rcases List.mem_cons.1 hd with rfl |hd
       ·exact (ckNm_ok hM h.1).1
       ·exact ih l h.2 d hd
    exact key _ _ b4
   ·obtain ⟨nm,so,hl,ho,e⟩:=hid
    obtain ⟨i,so0,h1,h2,h3,h4⟩:=(ob hl).2.2 ho
    exact .inl ⟨i,so0,h2,h3,by rw [←e,h4]⟩
  ·exact hs.out.elim
end HX

namespace HX
open Go CX
variable {ro:Addr→Option V}
mutual
def ShK:Kd→D→Prop
 |.int _,d=>∃n,d=.i n
 |.bool,d=>∃b,d=.b b
 |.str,d=>∃s,d=.s s
 |.fnc _,d=>d=.nil
 |.pt k,d=>ShK k d
 |.sl ks,d=>∃rows,d=.l rows∧(∀row∈rows,ShL ks row)∧rows.length≤9223372036854775807
def ShL:List Kd→List D→Prop
 |[],[]=>True
 |k :: ks,d :: ds=>ShK k d∧ShL ks ds
 |_,_=>False
end
def ShR (ks:List Kd) (rows:Rows):Prop:=(∀row∈rows,ShL ks row)∧rows.length≤9223372036854775807
mutual
theorem ShK.of {g:Nat→Option O} {B:Nat}:∀(k:Kd) (d:D) (v:V),FzC ro g B k d v→ShK k d
 |.int _,_,_,h=>by simp only [FzC] at h;simp only [ShK];exact h.1
 |.bool,_,_,h=>by simp only [FzC] at h;simp only [ShK];exact h.1
 |.str,_,_,h=>by simp only [FzC] at h;simp only [ShK];exact h.1
 |.fnc _,_,_,h=>by simp only [FzC] at h;simp only [ShK];exact h.1
 |.pt k,_,_,h=>by
  simp only [FzC] at h
  obtain ⟨_,_,_,_,_,_,_,_,_,_,h6⟩:=h
  simp only [ShK]
  exact ShK.of k _ _ h6
 |.sl ks,_,_,h=>by
  simp only [FzC] at h
  simp only [ShK]
  obtain ⟨⟨rows,rfl,hl⟩,h⟩:=h
  refine ⟨rows,rfl,fun row hr=>?_,hl.2⟩
  obtain ⟨i,hi,rfl⟩:=List.getElem_of_mem hr
  rcases h with ⟨h,_⟩ |⟨id,off,cap,_,_,_,_,t,m,_,_,h⟩ |⟨a,cap,_,_,_,h⟩
  ·simp only [D.rows] at h;subst h;simp at hi
  all_goals
   have:=ShL.of ks (gt rows i) _ 0 (h i hi) rows[i] (hl.1 _ hr) (fun j hj=>by simp [gt,List.getD_eq_getElem?_getD,hi])
   exact this
theorem ShL.of {g:Nat→Option O} {B:Nat}:∀(ks:List Kd) (f:Nat→D) (u:Nat→Option V) (c:Nat),FzR ro g B ks f u c→∀row:List D,row.length=ks.length→(∀j,j < ks.length→f (c+j)=row.getD j .nil)→ShL ks row
 |[],_,_,_,_,row,hl,_=>by
  have:row=[]:=List.length_eq_zero_iff.1 hl
  subst this;trivial
 |k :: ks,f,u,c,h,row,hl,hf=>by
  simp only [FzR] at h
  cases row with
  |nil=>simp at hl
  |cons d row=>
   simp only [ShL]
   obtain ⟨⟨v,_,h1⟩,h2⟩:=h
   refine ⟨?_,ShL.of ks f u (c+1) h2 row (by simpa using hl) fun j hj=>?_⟩
   ·have:=hf 0 (by simp)
    simp only [Nat.add_zero,List.getD_cons_zero] at this
    rw [←this];exact ShK.of k _ v h1
   ·have:=hf (j+1) (by simp;omega)
    rw [show c+1+j=c+(j+1) by omega,this];simp
end
def allK:Kd→(D→Prop)→Prop
 |.int _,K=>∀n:Int,K (.i n)
 |.bool,K=>∀b:Bool,K (.b b)
 |.str,K=>∀s:List Nat,K (.s s)
 |.fnc _,K=>K .nil
 |.pt k,K=>allK k K
 |.sl ks,K=>∀rows:Rows,ShR ks rows→K (.l rows)
def allL:List Kd→(List D→Prop)→Prop
 |[],K=>K []
 |k :: ks,K=>allK k fun d=>allL ks fun l=>K (d :: l)
def allA:List (Bool×List Kd)→(List (List D)→Prop)→Prop
 |[],K=>K []
 |(_,ks) :: r,K=>allL ks fun d=>allA r fun l=>K (d :: l)
theorem allK_ok:∀{k:Kd} {K:D→Prop},allK k K→∀{d:D},ShK k d→K d
 |.int _,K,h,d,hd=>by simp only [ShK] at hd;simp only [allK] at h;obtain ⟨n,rfl⟩:=hd;exact h n
 |.bool,K,h,d,hd=>by simp only [ShK] at hd;simp only [allK] at h;obtain ⟨n,rfl⟩:=hd;exact h n
 |.str,K,h,d,hd=>by simp only [ShK] at hd;simp only [allK] at h;obtain ⟨n,rfl⟩:=hd;exact h n
 |.sl _,K,h,d,hd=>by simp only [ShK] at hd;simp only [allK] at h;obtain ⟨rows,rfl,hr⟩:=hd;exact h rows hr
 |.fnc _,K,h,d,hd=>by simp only [ShK] at hd;simp only [allK] at h;subst hd;exact h
 |.pt k,K,h,d,hd=>by simp only [ShK] at hd;simp only [allK] at h;exact allK_ok (k:=k) h hd
theorem allL_ok:∀{ks:List Kd} {K:List D→Prop},allL ks K→∀{l:List D},ShL ks l→K l
 |[],K,h,[],_=>h
 |k :: ks,K,h,d :: l,hd=>by
  simp only [ShL] at hd
  exact allL_ok (K:=fun l=>K (d :: l)) (allK_ok h hd.1) hd.2
 |[],_,_,_ :: _,hd=>by simp [ShL] at hd
 |_ :: _,_,_,[],hd=>by simp [ShL] at hd
theorem ShL_arg {g:Nat→Option O} {B:Nat} {a:Bool} {ks:List Kd} {d:List D} {v:V} (hl:d.length=ks.length) (h:FzA ro g B a ks (fun c=>d.getD c .nil) v):ShL ks d:=by
 obtain ⟨x,x1,x2,_⟩:=h
 exact ShL.of (g:=g) (B:=B) ks (fun c=>d.getD c .nil) (fun j=>x[j]?) 0 (FzR.of _ _ _ _ fun j k hk=>by simpa using x2 j k hk) d hl (fun j _=>by simp)
theorem allA_ok {g:Nat→Option O} {B:Nat}:∀{ps:List (Bool×List Kd)} {K:List (List D)→Prop},allA ps K→∀{ds:List (List D)} {vs:List V},ArgsFz ro g B ps ds vs→K ds
 |[],K,h,[],_,_=>h
 |(a,ks) :: ps,K,h,d :: ds,v :: vs,hd=>by
  simp only [ArgsFz] at hd
  exact allA_ok (K:=fun l=>K (d :: l)) (allL_ok h (ShL_arg hd.1 hd.2.1)) hd.2.2
 |[],_,_,_ :: _,_,hd=>by simp [ArgsFz] at hd
 |_ :: _,_,_,[],_,hd=>by simp [ArgsFz] at hd
 |_ :: _,_,_,_ :: _,[],hd=>by simp [ArgsFz] at hd
def argC (b:Nat):Kd→D→SV
 |.int k,.i n=>.int k n
 |.bool,.b x=>.sym x
 |.str,.s x=>.str x
 |.fnc f,.nil=>.fn f [] []
 |.sl ks,.l rows=>.fz b ks rows
 |.pt k,d=>.fel b [k] [[d]] 0 0
 |_,_=>.unk
def argL (b:Nat):List Kd→List D→List SV
 |k :: ks,d :: ds=>argC b k d :: argL b ks ds
 |_,_=>[]
def argsSV (b:Nat):List (Bool×List Kd)→List (List D)→Option (List SV)
 |[],[]=>some []
 |(g,ks) :: ps,d :: ds=>match pack g (argL b ks d),argsSV b ps ds with
  |some v,some vs=>some (v :: vs)
  |_,_=>none
 |_,_=>none
def eqRow (f:Nat→D):List D→Nat→List Prop
 |[],_=>[]
 |d :: ds,c=>(f c=d) :: eqRow f ds (c+1)
def eqRes (r:Nat→Nat→D):List (List D)→Nat→List Prop
 |[],_=>[]
 |d :: ds,i=>eqRow (r i) d 0++eqRes r ds (i+1)
def retD (fn:Func) (sg:Sig) (r:Nat→Nat→D) (vs:List SV) (σ:St):Prop:=
 match argsD σ false sg.results vs with
 |some ds=>allP (eqRes r ds 0)
 |none=>StuckR fn.name σ
def retRP (E:Env) (fn:Func) (sg:Sig) (r:Nat→Nat→D) (σ:St):Prop:=
 match takeS σ.df σ.objs with
 |some objs=>match resAll E (σ.mem objs σ.next) fn.results.toList with
  |some vs=>retD fn sg r vs (σ.mem (frzL objs vs) σ.next)
  |none=>StuckR fn.name σ
 |none=>StuckR fn.name σ
def retX (E:Env) (fn:Func) (sg:Sig) (r:Nat→Nat→D):Ex→St→Prop
 |.ret,σ=>retRP E fn sg r σ
 |.normal,σ=>retRP E fn sg r σ
 |_,σ=>StuckR fn.name σ
def fnVC (b0 n0:Nat) (E:Env) (inl:Nat→Option Func) (n:Nat) (fn:Func) (sg:Sig) (r:Nat→Nat→D) (ds:List (List D)):Prop:=
 match fn.body with
 |some c=>match argsSV b0 sg.params ds with
  |some vs=>match bleN vs.length fn.ntmps with
   |true=>vc E none 0 (ciN E inl n) c (retX E fn sg r) ⟨fn.ntmps,enterS 0 vs,[],n0,[]⟩
   |false=>False
  |none=>False
 |none=>False
theorem argL_ok {C:Cx ro} {n b:Nat} (hb:b≤n):∀{ks:List Kd} {d:List D},ShL ks d→∀{x:List V},x.length=ks.length→(∀j k,ks[j]?=some k→∃u,x[j]?=some u∧FzC ro C.g (C.bd b) k (d.getD j .nil) u)→RvSL C n (argL b ks d) x
 |[],[],_,x,hx,_=>by
  have:x=[]:=List.length_eq_zero_iff.1 hx
  subst this;trivial
 |k :: ks,d :: ds,hd,x,hx,h=>by
  simp only [ShL] at hd
  cases x with
  |nil=>simp at hx
  |cons v x=>
   simp only [argL,RvSL]
   refine ⟨?_,argL_ok hb hd.2 (by simpa using hx) fun j k' hk=>?_⟩
   ·obtain ⟨u,h1,h2⟩:=h 0 k (by simp)
    simp only [List.getElem?_cons_zero,Option.some.injEq,List.getD_cons_zero] at h1 h2
    subst h1
    have hs:=hd.1
    cases k<;>simp only [ShK] at hs
    ·obtain ⟨n,rfl⟩:=hs;simp only [FzC] at h2;simp only [argC,RvS];exact h2.2
    ·obtain ⟨n,rfl⟩:=hs;simp only [FzC] at h2;simp only [argC,RvS];exact h2.2
    ·obtain ⟨n,rfl⟩:=hs;simp only [FzC] at h2;simp only [argC,RvS];exact h2.2
    ·obtain ⟨rows,rfl,_⟩:=hs;simp only [argC,RvS];exact ⟨hb,h2⟩
    ·subst hs;simp only [FzC] at h2;simp only [argC,RvS];exact ⟨[],[],trivial,trivial,h2.2⟩
    ·simp only [FzC] at h2
     obtain ⟨id,base,t,m,u,rfl,h2,h3,h4,h5,h6⟩:=h2
     simp only [argC,RvS,FelR]
     refine ⟨hb,.inl ⟨id,base,t,m,rfl,h2,h3,h4,?_⟩⟩
     simp only [FzR]
     exact ⟨⟨u,h5,h6⟩,trivial⟩
   ·obtain ⟨u,h1,h2⟩:=h (j+1) k' (by simpa using hk)
    exact ⟨u,by simpa using h1,by simpa using h2⟩
 |[],_ :: _,hd,_,_,_=>by simp [ShL] at hd
 |_ :: _,[],hd,_,_,_=>by simp [ShL] at hd
theorem argsSV_ok {C:Cx ro} {n b:Nat} (hb:b≤n):∀{ps:List (Bool×List Kd)} {ds:List (List D)} {l:List SV},argsSV b ps ds=some l→∀{x:List V},ArgsFz ro C.g (C.bd b) ps ds x→RvSL C n l x
 |[],[],l,h,x,hx=>by
  simp only [argsSV,Option.some.injEq] at h
  subst h
  cases x with
  |nil=>trivial
  |cons _ _=>simp [ArgsFz] at hx
 |(a,ks) :: ps,d :: ds,l,h,x,hx=>by
  simp only [argsSV] at h
  split at h
  ·rename_i s ss hs hss
   simp only [Option.some.injEq] at h
   subst h
   cases x with
   |nil=>simp [ArgsFz] at hx
   |cons v x=>
    simp only [ArgsFz] at hx
    simp only [RvSL]
    refine ⟨?_,argsSV_ok hb hss hx.2.2⟩
    have hsh:=ShL_arg hx.1 hx.2.1
    obtain ⟨y,y1,y2,y3⟩:=hx.2.1
    have hy:=argL_ok hb (C:=C) (n:=n) hsh y1 y2
    obtain ⟨u,u1,u2⟩:=pack_ok hs hy
    cases a with
    |true=>
     simp only at y3
     subst y3
     simp only [pack,Option.some.injEq] at hs
     subst hs
     simp only [RvS]
     exact ⟨y,hy,rfl⟩
    |false=>
     simp only at y3
     obtain ⟨w,rfl,rfl⟩:=y3
     unfold pack at hs
     simp only at hs
     split at hs
     ·rename_i w' hw
      simp only [Option.some.injEq] at hs
      subst hs
      rw [hw] at hy
      simp only [RvSL] at hy
      exact hy.1
     ·cases hs
  ·cases h
 |[],_ :: _,l,h,_,_=>by simp [argsSV] at h
 |_ :: _,[],l,h,_,_=>by simp [argsSV] at h
theorem eqRow_ok {f:Nat→D}:∀(ds:List D) (c:Nat),(∀p∈eqRow f ds c,p)→∀j,j < ds.length→f (c+j)=ds.getD j .nil
 |[],c,_,j,hj=>by simp at hj
 |d :: ds,c,h,j,hj=>by
  simp only [eqRow] at h
  cases j with
  |zero=>simpa using h _ (.head _)
  |succ j=>
   have:=eqRow_ok ds (c+1) (fun p hp=>h p (.tail _ hp)) j (by simpa using hj)
   rw [show c+(j+1)=c+1+j by omega,this];simp
theorem eqRes_ok {g:Nat→Option O} {B:Nat} {r:Nat→Nat→D}:∀{ps:List (Bool×List Kd)} {ds:List (List D)} {i:Nat},(∀p∈eqRes r ds i,p)→∀{x:List V},ArgsFz ro g B ps ds x→ResFz ro g B r ps i x
 |[],[],i,_,x,hx=>by
  cases x with
  |nil=>trivial
  |cons _ _=>simp [ArgsFz] at hx
 |(a,ks) :: ps,d :: ds,i,h,x,hx=>by
  cases x with
  |nil=>simp [ArgsFz] at hx
  |cons v x=>
   simp only [ArgsFz] at hx
   simp only [ResFz]
   simp only [eqRes] at h
   refine ⟨?_,eqRes_ok (fun p hp=>h p (List.mem_append_right _ hp)) hx.2.2⟩
   obtain ⟨y,y1,y2,y3⟩:=hx.2.1
   refine ⟨y,y1,fun j k hk=>?_,y3⟩
   obtain ⟨u,u1,u2⟩:=y2 j k hk
   have hj:j < d.length:=by rw [hx.1];exact (List.getElem?_eq_some_iff.1 hk).1
   have:=eqRow_ok d 0 (fun p hp=>h p (List.mem_append_left _ hp)) j hj
   rw [Nat.zero_add] at this
   exact ⟨u,u1,by rw [this];exact u2⟩
 |[],_ :: _,i,_,x,hx=>by simp [ArgsFz] at hx
 |_ :: _,[],i,_,x,hx=>by simp [ArgsFz] at hx
theorem of_vcG {E:Env} (hE:EnvOk E) {inl:Nat→Option Func} (hinl:∀f fn,inl f=some fn→E.E.fn f=some fn∧E.E.ext f=none) (n:Nat) {f:Nat} {fn:Func} {sg:Sig} {pre:List (List D)→Prop} {res:List (List D)→Nat→Nat→D} (hf:E.E.fn f=some fn∧E.E.ext f=none)
  (b0 n0:Nat) (hb0:b0≤n0) (h:allA sg.params fun ds=>pre ds→fnVC b0 n0 E inl n fn sg (res ds) ds) {ds:List (List D)} (hpre:pre ds) {g:Nat→Option O} {bar nx:Nat} {hp:T O} {args:List V} (C:Cx E.E.ro) (hCg:C.g=g) (hM:MSim C [] n0 bar hp.get nx)
  (hargs:ArgsFz E.E.ro C.g (C.bd b0) sg.params ds args) :
  ∃(vs:List V) (h':T O) (nx':Nat) (g':Nat→Option O),Evt (fun n=>∀k,callF E.E (cx E.E n) bar hp nx f args k=k (CX.one vs) h' nx')∧nx≤nx'∧(∀id,id < nx→h'.get id=hp.get id)∧(∀id o,g id=some o→g' id=some o)∧
   (∀id o,g' id=some o→(id < nx'∧h'.get id=some o)∧(g id=some o∨nx≤id))∧ResFz E.E.ro g' nx' (res ds) sg.results 0 vs:=by
 subst hCg
 have hvc:=allA_ok h hargs hpre
 unfold fnVC at hvc
 split at hvc
 ·rename_i c hc
  split at hvc
  ·rename_i vs hvs
   split at hvc
   ·rename_i hle
    simp only [bleN_iff] at hle
    have hrel:RvSL C n0 vs args:=argsSV_ok hb0 hvs hargs
    obtain ⟨t',t1,t2⟩:=enter_ok (C:=C) (n:=n0) _ _ 0 .e [] hrel (fun t s h=>by simp [look] at h) (fun j s h=>by simp [look] at h)
    obtain ⟨e,S',C',σ',k1,k2,k3,k4⟩:=vc_ok hE (ciN_ok hE hinl n) (rd:=none) (lo:=0) c _ _ hvc C ⟨fn.ntmps,bar,t',hp,nx,[]⟩ ⟨rfl,fun j s hl=>.inr (t2 j s hl),hM,.nil,fun d hd=>by cases hd⟩ (Nat.zero_le _) (fun l hl=>by cases hl)
    have none0:∀id,¬OwnId C [] id:=fun id h=>by obtain ⟨_,_,hl,_⟩:=h;simp [look] at hl
    have fin:retRP E fn sg (res ds) σ'→(e=.normal∨e=.ret)→∃(vs:List V) (h':T O) (nx':Nat) (g':Nat→Option O),Evt (fun n=>∀k,callF E.E (cx E.E n) bar hp nx f args k=k (CX.one vs) h' nx')∧nx≤nx'∧(∀id,id < nx→h'.get id=hp.get id)∧(∀id o,C.g id=some o→g' id=some o)∧
      (∀id o,g' id=some o→(id < nx'∧h'.get id=some o)∧(C.g id=some o∨nx≤id))∧ResFz E.E.ro g' nx' (res ds) sg.results 0 vs:=by
     intro hr he
     unfold retRP at hr
     split at hr
     ·rename_i objs ho
      split at hr
      ·rename_i rs hrs
       unfold retD at hr
       split at hr
       ·rename_i ds' hds
        obtain ⟨h',t1',t2',t3'⟩:=take_ok S'.df σ'.df σ'.objs objs S'.h ho k2.m k2.df k2.dflt
        obtain ⟨x,x1,x2⟩:=resAll_ok (σ:=σ'.mem objs σ'.next) hE t2' k2.regs fn.results.toList hrs
        obtain ⟨C2,m2,e2⟩:=t2'.frzL rs
        have hA:=argsD_ok (σ:=σ'.mem (frzL objs rs) σ'.next) m2 (fun _ _ h=>h) (fun e=>by cases e) hds (RvSL.ag e2.ag (Nat.le_refl _) _ _ x1)
        have hext:MExt C [] 0 hp.get nx C2 (frzL objs rs) σ'.next h'.get S'.nx:=yext (k3.m.took t3' (fun i hi=>(k3.df i hi).resolve_left (by intro h;cases h))) (MExt.refl _ _ _ _ _) ((MExt.refl _ _ _ _ _).less (Nat.zero_le _)) e2
        have hbar':S'.bar=bar:=k3.bar
        refine ⟨x,h',S'.nx,C2.g,k1.mono fun n hn k=>?_,hext.nxle,fun id hid=>hext.keep id hid (none0 id),fun id o hgo=>hext.ag.g id o hgo,fun id o hgo=>⟨m2.fz id o hgo,?_⟩,eqRes_ok (allP_ok _ hr) hA⟩
        ·have hlen:Nat.ble (CX.len args) fn.ntmps=true:=bleT (by rw [len_eq,hrel.length];exact hle)
         have hn':cx E.E n none c ⟨fn.ntmps,bar,t',hp,nx,[]⟩=some (e,S'):=hn
         have hrun:outV (takeDf bar S'.df S'.h fun h=>resultsX E.E S'.regs h fn.results.toList fun l=>retV (CX.one l) h S'.nx) k=k (CX.one x) h' S'.nx:=by
          rw [←hbar',t1',x2];rfl
         simp only [callF,hf.1,hf.2,hc,hlen,t1,hn']
         rcases he with rfl |rfl<;>exact hrun
        ·rcases hext.g id o hgo with h |h |h
         ·exact .inl h
         ·exact absurd h (none0 id)
         ·exact .inr h
       ·exact hr.out.elim
      ·exact hr.out.elim
     ·exact hr.out.elim
    cases e with
    |normal=>exact fin k4 (.inl rfl)
    |ret=>exact fin k4 (.inr rfl)
    |exit i=>exact (StuckR.out k4).elim
   ·exact hvc.elim
  ·exact hvc.elim
 ·exact hvc.elim
theorem PureC.of_vc {E:Env} (hE:EnvOk E) {inl:Nat→Option Func} (hinl:∀f fn,inl f=some fn→E.E.fn f=some fn∧E.E.ext f=none) (n:Nat) {f:Nat} {fn:Func} {sg:Sig} {pre:List (List D)→Prop} {res:List (List D)→Nat→Nat→D} (hf:E.E.fn f=some fn∧E.E.ext f=none)
  (h:allA sg.params fun ds=>pre ds→fnVC 1 1 E inl n fn sg (res ds) ds):PureC E.E f sg pre res:=by
 intro ds hpre g bar nx hp args hg hbar hargs
 refine of_vcG hE hinl n hf 1 1 (Nat.le_refl _) h hpre (bar:=bar) ⟨fun _=>0,fun _=>.nils,g,fun b=>if b=0 then 0 else nx⟩ rfl ?_ hargs
 exact ⟨fun _ _ h=>by simp [look] at h,fun _ _ h=>by simp [look] at h,fun _ _ h=>by simp [look] at h,fun _ _ _ _ h=>by simp [look] at h,hg,fun b _=>by show (if b=0 then 0 else nx)≤nx;split<;>omega,rfl,hbar,rfl⟩
def PureC0 (E:CX.Env) (f:Nat) (sg:Sig) (pre:List (List D)→Prop) (fn:List (List D)→Nat→Nat→D):Prop:=
 ∀ds,pre ds→∀(args:List V),ArgsFz E.ro (fun _=>none) 0 sg.params ds args→
  ∃(vs:List V) (h':T O) (nx':Nat) (g':Nat→Option O),Evt (fun n=>∀k,callF E (cx E n) 0 .e 0 f args k=k (CX.one vs) h' nx')∧ResFz E.ro g' nx' (fn ds) sg.results 0 vs
theorem PureC0.of_vc {E:Env} (hE:EnvOk E) {inl:Nat→Option Func} (hinl:∀f fn,inl f=some fn→E.E.fn f=some fn∧E.E.ext f=none) (n:Nat) {f:Nat} {fn:Func} {sg:Sig} {pre:List (List D)→Prop} {res:List (List D)→Nat→Nat→D} (hf:E.E.fn f=some fn∧E.E.ext f=none)
  (h:allA sg.params fun ds=>pre ds→fnVC 0 0 E inl n fn sg (res ds) ds):PureC0 E.E f sg pre res:=by
 intro ds hpre args hargs
 obtain ⟨vs,h',nx',g',c1,_,_,_,_,c6⟩:=of_vcG hE hinl n hf 0 0 (Nat.le_refl _) h hpre (bar:=0) (hp:=.e) (nx:=0) ⟨fun _=>0,fun _=>.nils,fun _=>none,fun _=>0⟩ rfl
  ⟨fun _ _ h=>by simp [look] at h,fun _ _ h=>by simp [look] at h,fun _ _ h=>by simp [look] at h,fun _ _ _ _ h=>by simp [look] at h,fun _ _ h=>(by cases h),fun _ _=>Nat.le_refl _,rfl,Nat.le_refl _,rfl⟩ hargs
 exact ⟨vs,h',nx',g',c1,c6⟩
end HX

namespace HX
open Go CX
def addN (l:List Nat) (x:Nat):List Nat:=
 match memN x l with
 |true=>l
 |false=>l++[x]
def addAll (l:List Nat):List Nat→List Nat
 |[]=>l
 |x :: r=>addAll (addN l x) r
def asg:Code→List (Nat×Nat)
 |.region _ ops _=>ops.toList.filterMap fun o=>match o.dst with
  |some d=>some (d,o.type)
  |none=>none
 |.seq a b=>asg a++asg b
 |.cond _ a b=>asg a++asg b
 |.block _ a=>asg a
 |.loop a=>asg a
 |.scope a=>asg a
 |.rangeFunc _ ps a b=>(ps.toList.map fun p=>(p,0))++(asg a++asg b)
 |_=>[]
def fstsU (seen:List Nat):List (Nat×Nat)→List (Nat×Nat)
 |[]=>[]
 |(t,y) :: r=>match memN t seen with
  |true=>fstsU seen r
  |false=>(t,y) :: fstsU (t :: seen) r
def memF (t:Nat):List (Nat×Nat)→Bool
 |[]=>false
 |(x,_) :: r=>match beqN t x with
  |true=>true
  |false=>memF t r
def tmplV (E:Env) (σ:St) (b ty:Nat) (s:SV) (d:D) (n:Nat):Option (SV×List (Nat×SO)×Nat):=
 match s with
 |.int k _=>some (.int k d.int,[],n)
 |.bool _=>some (.sym d.boo,[],n)
 |.sym _=>some (.sym d.boo,[],n)
 |.str _=>some (.str d.str,[],n)
 |.slc nm=>match look σ.objs nm with
  |some (.arr _ ks _)=>some (.slc n,[(n,.arr n ks d.rows)],n+1)
  |some (.frz ks _)=>some (.fz b ks d.rows,[],n)
  |_=>none
 |.fz _ ks _=>some (.fz b ks d.rows,[],n)
 |.nils=>match eKs E ty with
  |some (ks,_)=>some (.slc n,[(n,.arr n ks d.rows)],n+1)
  |none=>none
 |_=>none
def tmplL (E:Env) (σ:St) (b:Nat):List Nat→List SV→List D→Nat→Option (List SV×List (Nat×SO)×Nat)
 |_,[],_,n=>some ([],[],n)
 |ty,s :: l,ds,n=>match (match ds with |d :: _=>tmplV E σ b (ty.headD 0) s d n |[]=>none) with
  |some (v,o,n)=>match tmplL E σ b (ty.drop 1) l (ds.drop 1) n with
   |some (vs,os,n)=>some (v :: vs,o++os,n)
   |none=>none
  |none=>match tmplL E σ b (ty.drop 1) l (ds.drop 1) n with
   |some (vs,os,n)=>some (s :: vs,os,n)
   |none=>none
def tmplA (E:Env) (σ:St) (b ty:Nat) (s:SV) (d:D) (n:Nat):Option (SV×List (Nat×SO)×Nat):=
 match s with
 |.agg l=>match tmplL E σ b [] l (d.rows.getD 0 []) n with
  |some (vs,os,n)=>some (.agg vs,os,n)
  |none=>none
 |s=>tmplV E σ b ty s d n
def dataV:SV→Bool
 |.int ..=>true
 |.bool _=>true
 |.sym _=>true
 |.str _=>true
 |.slc _=>true
 |.fz ..=>true
 |.nils=>true
 |.agg _=>true
 |_=>false
def carried (regs:List (Nat×SV)) (drop:List Nat):List (Nat×Nat)→List (Nat×Nat×SV)
 |[]=>[]
 |(t,y) :: r=>match memN t drop with
  |true=>carried regs drop r
  |false=>match look regs t with
   |some v=>match dataV v with
    |true=>(t,y,v) :: carried regs drop r
    |false=>carried regs drop r
   |none=>carried regs drop r
def newRegs (E:Env) (σ:St) (b:Nat):List (Nat×Nat×SV)→List D→Nat→List (Nat×SV)×List (Nat×SO)×Nat×List D
 |[],ds,n=>([],[],n,ds)
 |(t,y,v) :: r,ds,n=>match tmplA E σ b y v (ds.headD .nil) n with
  |some (v',o,n)=>match newRegs E σ b r (ds.drop 1) n with
   |(rs,os,n,ds)=>((t,v') :: rs,o++os,n,ds)
  |none=>newRegs E σ b r (ds.drop 1) n
def keepR (asl:List (Nat×Nat)) (seen:List Nat):List (Nat×SV)→List (Nat×SV)
 |[]=>[]
 |(t,v) :: r=>match memF t asl || memN t seen with
  |true=>keepR asl seen r
  |false=>(t,v) :: keepR asl (t :: seen) r
def newObjs (E:Env) (σ:St) (drop:List Nat) (b:Nat):List (Nat×List Nat)→List D→Nat→List (Nat×SO)×Nat
 |[],_,n=>([],n)
 |(nm,tys) :: r,ds,n=>match look σ.objs nm with
  |some (.cells l)=>match tmplL E σ b tys l ((ds.headD .nil).rows.getD 0 []) n with
   |some (vs,os,n)=>match newObjs E σ drop b r (ds.drop 1) n with
    |(os',n)=>((nm,.cells vs) :: (os++os'),n)
   |none=>newObjs E σ drop b r (ds.drop 1) n
  |some (.arr og ks _)=>match newObjs E σ drop b r (ds.drop 1) n with
   |(os',n)=>((nm,.arr og ks (ds.headD .nil).rows) :: os',n)
  |some (.mp ka va kk vk _)=>match newObjs E σ drop b r (ds.drop 1) n with
   |(os',n)=>((nm,.mp ka va kk vk (ds.headD .nil).rows) :: os',n)
  |some (.loop st j nt regs ps a c d)=>match fstsU [] (asg a++asg c) with
   |asl=>match newRegs E σ b (carried regs drop asl) ds n with
    |(rs,os,n,ds)=>match newObjs E σ drop b r ds n with
     |(os',n)=>((nm,.loop st j nt (rs++keepR asl [] regs) ps a c d) :: (os++os'),n)
  |_=>newObjs E σ drop b r (ds.drop 1) n
mutual
def svNs:SV→List Nat
 |.ptr n _=>[n]
 |.el n _ _ _=>[n]
 |.slc n=>[n]
 |.vw n _ _=>[n]
 |.sc n _ _ _=>[n]
 |.map n=>[n]
 |.yield n=>[n]
 |.fn _ a b=>svNsL a++svNsL b
 |.iface _ v=>svNs v
 |.agg l=>svNsL l
 |.tup l=>svNsL l
 |_=>[]
def svNsL:List SV→List Nat
 |[]=>[]
 |v :: l=>svNs v++svNsL l
end
def regNs:List (Nat×SV)→List Nat
 |[]=>[]
 |(_,v) :: r=>svNs v++regNs r
def objNs:SO→List Nat
 |.cells l=>svNsL l
 |.loop _ _ _ regs _ _ _ d=>d :: regNs regs
 |_=>[]
def reach1 (lo:Nat) (s seen:List Nat):List (Nat×SO)→List Nat
 |[]=>s
 |(i,o) :: r=>match memN i seen with
  |true=>reach1 lo s seen r
  |false=>match bltN i lo || memN i s with
   |true=>reach1 lo (addAll s (objNs o)) (i :: seen) r
   |false=>reach1 lo s (i :: seen) r
def reach (lo:Nat) (objs:List (Nat×SO)):Nat→List Nat→List Nat
 |0,s=>s
 |n+1,s=>reach lo objs n (reach1 lo s [] objs)
def keepO (lo:Nat) (s seen:List Nat):List (Nat×SO)→List (Nat×SO)
 |[]=>[]
 |(i,o) :: r=>match memN i seen with
  |true=>keepO lo s seen r
  |false=>match o with
   |.gone=>keepO lo s (i :: seen) r
   |o=>match bltN i lo || memN i s with
    |true=>(i,o) :: keepO lo s (i :: seen) r
    |false=>keepO lo s (i :: seen) r
def maxN (a b:Nat):Nat:=
 match bltN a b with
 |true=>b
 |false=>a
def slcNs:List SV→List Nat
 |[]=>[]
 |.slc n :: r=>n :: slcNs r
 |_ :: r=>slcNs r
def replC:List (Nat×Nat×SV)→List Nat
 |[]=>[]
 |(_,_,v) :: r=>slcNs (flat v)++replC r
def replO (σ:St):List (Nat×List Nat)→List Nat
 |[]=>[]
 |(nm,_) :: r=>match look σ.objs nm with
  |some (.cells l)=>slcNs l++replO σ r
  |_=>replO σ r
def anyN (l:List Nat):List Nat→Bool
 |[]=>false
 |x :: r=>match memN x l with
  |true=>true
  |false=>anyN l r
def forget (l:List Nat):List (Nat×SV)→List (Nat×SV)
 |[]=>[]
 |(t,v) :: r=>match anyN l (svNs v) with
  |true=>forget l r
  |false=>(t,v) :: forget l r
def goneN:List (Nat×SO)→List Nat
 |[]=>[]
 |(i,.gone) :: r=>i :: goneN r
 |_ :: r=>goneN r
def updT (E:Env) (lo:Nat) (c:Code) (σ:St) (drop:List Nat) (names:List (Nat×List Nat)) (vals:List D):St:=
 match fstsU [] (asg c) with
 |asl=>match newRegs E σ (maxN lo σ.next+1) (carried σ.regs drop asl) vals (maxN lo σ.next+1) with
  |(rs,os,n,ds)=>match newObjs E σ drop (maxN lo σ.next+1) names ds n with
   |(os',n)=>match rs++forget (goneN σ.objs++(replC (carried σ.regs drop asl)++replO σ names)) (keepR asl [] σ.regs),os++(os'++σ.objs) with
    |regs,objs=>⟨σ.nt,regs,keepO lo (reach lo objs 4 (addAll (addAll [] (regNs regs)) σ.df)) (replC (carried σ.regs drop asl)++replO σ names) objs,maxN n (maxN lo σ.next+1),σ.df⟩
theorem le_maxN (a b:Nat):a≤maxN a b∧b≤maxN a b:=by
 unfold maxN
 split
 ·rename_i h;simp only [bltN_iff] at h;omega
 ·rename_i h;simp only [bltN_not] at h;omega
theorem updT_lo {E:Env} {lo:Nat} {c:Code} {σ:St} {drop:List Nat} {names:List (Nat×List Nat)} {vals:List D}:lo≤(updT E lo c σ drop names vals).next:=by
 unfold updT
 simp only
 exact Nat.le_trans (Nat.le_succ_of_le (le_maxN lo σ.next).1) (le_maxN _ _).2
def endQ (K:St→Prop) (Q:Ex→St→Prop):Ex→St→Prop
 |.normal,σ=>K σ
 |e,σ=>Q e σ
theorem Leaf.gen {E:CX.Env} {rd:Option Nat} {lo:Nat} {c:Code} {Q:Ex→St→Prop} {σ:St} (h:∀s,s=σ→Leaf E rd lo c Q s):Leaf E rd lo c Q σ:=h σ rfl
def lookAll (regs:List (Nat×SV)):List Nat→List SV
 |[]=>[]
 |t :: r=>match look regs t with
  |some v=>v :: lookAll regs r
  |none=>lookAll regs r
def frzT (ts:List Nat) (σ:St):St:=⟨σ.nt,σ.regs,frzL σ.objs (lookAll σ.regs ts),σ.next,σ.df⟩
theorem Sub.frz {lo:Nat} {σ T:St} (ts:List Nat) (h:Sub lo (frzT ts σ) T):Sub lo σ T:=by
 intro ro C S hS hlo
 obtain ⟨C1,m1,e1⟩:=hS.m.frzL (lookAll σ.regs ts)
 have hS1:Sim C1 (frzT ts σ) S:=⟨hS.nt,RegsS.ag e1.ag (Nat.le_refl _) hS.regs,m1,by
  exact hS.df.ext e1 hS.dflt,hS.dflt⟩
 have hx:Ext lo C σ S C1 (frzT ts σ) S:=⟨e1.less hlo,rfl,fun _ h=>.inl h⟩
 obtain ⟨C2,s1,s2⟩:=h ro C1 S hS1 hlo
 exact ⟨C2,s1,hx.trans s2⟩
theorem loopB {E:Env} (hE:EnvOk E) {inl:Nat→Option Func} (hinl:∀f fn,inl f=some fn→E.E.fn f=some fn∧E.E.ext f=none) {rd:Option Nat} {lo:Nat} (n:Nat) (fz drop:List Nat) (names:List (Nat×List Nat)) {c:Code} {Q:Ex→St→Prop} {σ:St} {X:Type} (vals:X→List D) (Inv:X→Prop) (μ:X→Nat) (x0:X) (h0:Inv x0)
  (hs:subP lo (frzT fz σ) (updT E lo c (frzT fz σ) drop names (vals x0)))
  (round:∀x,Inv x→∀K:St→Prop,(∀x' σ',Inv x'→μ x' < μ x→subP lo (frzT fz σ') (updT E lo c (frzT fz σ) drop names (vals x'))→K σ')→vc E rd lo (ciN E inl n) c (endQ K Q) (updT E lo c (frzT fz σ) drop names (vals x))) :
  Leaf E.E rd lo (.loop c) Q σ:=by
 refine ⟨loop_ok (fun x=>updT E lo c (frzT fz σ) drop names (vals x)) Inv μ x0 h0 ((subP_ok hs).frz fz) (fun _=>updT_lo) fun x hx=>?_⟩
 have e:loopQ lo (fun x=>updT E lo c (frzT fz σ) drop names (vals x)) Inv μ Q x=endQ (fun σ'=>∃x',Inv x'∧μ x' < μ x∧Sub lo σ' (updT E lo c (frzT fz σ) drop names (vals x'))) Q:=by
  funext e σ'
  cases e<;>rfl
 rw [e]
 exact vc_ok hE (ciN_ok hE hinl n) c _ _ (round x hx _ fun x' σ' h1 h2 h3=>⟨x',h1,h2,(subP_ok h3).frz fz⟩)
end HX

namespace HX
open Go CX
inductive BT (α:Type) where
 |e
 |n (l:BT α) (k:Nat) (v:α) (r:BT α)
def BT.get {α:Type}:BT α→Nat→Option α
 |.e,_=>none
 |.n l k v r,i=>match beqN i k with
  |true=>some v
  |false=>match bltN i k with
   |true=>l.get i
   |false=>r.get i
def BT.All {α:Type} (p:Nat→α→Prop):BT α→Prop
 |.e=>True
 |.n l k v r=>l.All p∧p k v∧r.All p
theorem BT.All.get {α:Type} {p:Nat→α→Prop}:∀{t:BT α},t.All p→∀{i:Nat} {v:α},t.get i=some v→p i v
 |.e,_,i,v,h=>by simp [BT.get] at h
 |.n l k v0 r,ha,i,v,h=>by
  simp only [BT.get] at h
  split at h
  ·rename_i hb
   simp only [beqN_iff] at hb
   simp only [Option.some.injEq] at h
   subst hb h
   exact ha.2.1
  ·split at h
   ·exact BT.All.get ha.1 h
   ·exact BT.All.get ha.2.2 h
end HX
