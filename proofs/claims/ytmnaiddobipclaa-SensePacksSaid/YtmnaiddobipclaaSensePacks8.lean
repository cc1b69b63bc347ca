/-
  Texts of the executors: W5, HxEnv, CxClose, HxBase, HxClose, HxOwn, HxCtr, PkD, PkB, V92, V63, PkL, PkM, V67, V72, V17, V50, V100, V76, V71, V51, V27, V38, PkN, V29, PkR, PkU, PkT.
-/
import Derived.Test.YtmnaiddobipclaaSensePacks7
import Derived.WalkKit
import Derived.ProofKit
import Derived.JoinedCond
import Derived.RowKit3
import Derived.ChangeArms
import Derived.ChangeCalls
import Derived.WideKeyArgs
set_option linter.all false
noncomputable section
namespace HX
open Go Go.Proofs CX
set_option maxHeartbeats 4000000 in
set_option maxRecDepth 100000 in
set_option cbv.maxSteps 3000000 in
theorem walk5 {ro A pre fn} (hE:EnvOk ⟨A,(cxE ro),ksF,sigL [(13,⟨[],[(false,[.bool])],false⟩),(17,⟨[(false,[.sl [.int .i64,.int .i64]]),(false,[.sl [.int .i64,.int .i64]])],[(false,[.bool])],false⟩),(27,⟨[(false,[.sl [.int .i64,.int .i64]])],[(false,[.sl [.int .u8]]),(false,[.int .i64])],false⟩),(28,⟨[(false,[.sl [.int .i64,.int .i64]])],[(false,[.sl [.int .u8]]),(false,[.int .i64])],false⟩),(29,⟨[(false,[.sl [.int .u8]])],[(false,[.sl [.int .i64,.int .i64]]),(false,[.int .i64])],false⟩),(30,⟨[(false,[.sl [.int .u8]])],[(false,[.sl [.int .i64,.int .i64]]),(false,[.int .i64])],false⟩),(31,⟨[(false,[.sl [.int .i64,.int .i64]]),(false,[.sl [.int .i64,.int .i64]])],[(false,[.sl [.int .i64,.int .i64]]),(false,[.int .i64])],false⟩),(32,⟨[(false,[.sl [.int .i64,.int .i64]]),(false,[.sl [.int .i64,.int .i64]])],[(false,[.sl [.int .i64,.int .i64]]),(false,[.int .i64])],false⟩),(33,⟨[(false,[.sl [.int .i64,.int .i64]]),(false,[.int .i64]),(false,[.int .i64])],[(false,[.sl [.int .i64,.int .i64]]),(false,[.int .i64])],false⟩),(34,⟨[(false,[.sl [.int .i64,.int .i64]]),(false,[.int .i64]),(false,[.int .i64])],[(false,[.sl [.int .i64,.int .i64]]),(false,[.int .i64])],false⟩)],pre,fn⟩) {P:List (List D)->Prop} {res:List (List D)->Nat->Nat->D}
  (hv:∀(a0:Rows) (a1:Rows) (a2:Rows) (a3:Int) (a4:Int),ShR [.int .i64,.int .i64] a0->ShR [.int .i64,.int .i64] a1->ShR [.int .u8] a2->P [[.l a0],[.l a1],[.l a2],[.i a3],[.i a4]]->V5 pre fn a0 a1 a2 a3 a4 (res [[.l a0],[.l a1],[.l a2],[.i a3],[.i a4]]) ) :
  PureC0 (cxE ro) 5 ⟨[(false,[.sl [.int .i64,.int .i64]]),(false,[.sl [.int .i64,.int .i64]]),(false,[.sl [.int .u8]]),(false,[.int .i64]),(false,[.int .i64])],[(false,[.bool])],false⟩ P res:=by
 have h:=hE.A
 simp only [] at h
 have hinl:∀f fn,inlL [] f=some fn->(cxE ro).fn f=some fn/\(cxE ro).ext f=none:=Inls.ok (by repeat (first |exact .nil |refine .cons rfl rfl ?_))
 refine PureC0.of_vc hE hinl 6 (f:=5) (fn:=Try.f5) ⟨rfl,rfl⟩ ?_
 intro a0 ha0 a1 ha1 a2 ha2 a3 a4 hP
 obtain ⟨R,hR⟩:∃R,res [[.l a0],[.l a1],[.l a2],[.i a3],[.i a4]]=R:=⟨_,rfl⟩
 rw [hR]
 have hV:=hv a0 a1 a2 a3 a4 ha0 ha1 ha2 hP
 rw [hR] at hV
 clear hR hP hv
 cbv
 repeat' first|(refine Br.mk (fun _=>?_) (fun _=>?_)<;>cbv)|(refine NilB.mk (fun _=>?_) ?_<;>cbv)|refine And.intro ?_ ?_|exact True.intro
 ·next a=>subst h;exact hV.g0 (dt a)
 ·next a=>subst h;exact hV.g1 (dt a)
 ·next a b=>subst h;exact hV.g2 (df a) (dt b)
 ·next a b=>subst h;exact hV.g3 (df a) (dt b)
 ·next a b c=>subst h;exact hV.g4 (df a) (df b) (dt c)
 ·next a b c=>subst h;exact hV.g5 (df a) (df b) (dt c)
 ·next a b c=>subst h;exact hV.g6 (df a) (df b) (df c)
 ·next a b c=>subst h;exact hV.g7 (df a) (df b) (df c)
 ·next a b c=>subst h;exact hV.g8 (df a) (df b) (df c)
 ·next a b c=>subst h;exact hV.g9 (df a) (df b) (df c)
 ·next a b c d=>subst h;exact hV.g10 (df a) (df b) (df c) (df (nt d))
 ·next a b c d e=>subst h;exact hV.g11 (df a) (df b) (df c) (dt (nf d)) (df (nt e))
 ·next a b c d e=>subst h;exact hV.g12 (df a) (df b) (df c) (dt (nf d)) (dt (nf e))
 ·next a b c d e=>subst h;exact hV.g13 (df a) (df b) (df c) (dt (nf d)) (dt (nf e))
 ·next a b c d e=>subst h;exact hV.g14 (df a) (df b) (df c) (dt (nf d)) (dt (nf e))
 ·next a b c d e f=>subst h;exact hV.g15 (df a) (df b) (df c) (dt (nf d)) (dt (nf e)) (nt f)
 ·next a b c d e f g=>subst h;exact hV.g16 (df a) (df b) (df c) (dt (nf d)) (dt (nf e)) (nf f) (df (nt g))
 ·next a b c d e f g=>subst h;exact hV.g17 (df a) (df b) (df c) (dt (nf d)) (dt (nf e)) (nf f) (dt (nf g))
 ·next a b c d e f g=>subst h;exact hV.g18 (df a) (df b) (df c) (dt (nf d)) (dt (nf e)) (nf f) (dt (nf g))
 ·next a b c d e f g=>subst h;exact hV.g19 (df a) (df b) (df c) (dt (nf d)) (dt (nf e)) (nf f) (dt (nf g))
 ·next a b c d e f g i=>subst h;exact hV.g20 (df a) (df b) (df c) (dt (nf d)) (dt (nf e)) (nf f) (dt (nf g)) (nt i)
 ·next a b c d e f g i j=>subst h;exact hV.g21 (df a) (df b) (df c) (dt (nf d)) (dt (nf e)) (nf f) (dt (nf g)) (nf i) (df (nt j))
 ·next a b c d e f g i j=>subst h;exact hV.g22 (df a) (df b) (df c) (dt (nf d)) (dt (nf e)) (nf f) (dt (nf g)) (nf i) (dt (nf j))
 ·next a b c d e f g i j=>subst h;exact hV.g23 (df a) (df b) (df c) (dt (nf d)) (dt (nf e)) (nf f) (dt (nf g)) (nf i) (dt (nf j))
 ·next a b c d e f g i j=>subst h;exact hV.g24 (df a) (df b) (df c) (dt (nf d)) (dt (nf e)) (nf f) (dt (nf g)) (nf i) (dt (nf j))
 ·next a b c d e f g i j k l=>subst h;exact hV.g25 (df a) (df b) (df c) (dt (nf d)) (dt (nf e)) (nf f) (dt (nf g)) (nf i) (dt (nf j)) k (dt l)
 ·next a b c d e f g i j k l=>subst h;exact hV.g26 (df a) (df b) (df c) (dt (nf d)) (dt (nf e)) (nf f) (dt (nf g)) (nf i) (dt (nf j)) k (dt l)
 ·next a b c d e f g i j k l=>subst h;exact hV.g27 (df a) (df b) (df c) (dt (nf d)) (dt (nf e)) (nf f) (dt (nf g)) (nf i) (dt (nf j)) k (df l)
 next a b c d e f g i j k=>subst h;exact hV.g28 (df a) (df b) (df c) (dt (nf d)) (dt (nf e)) (nf f) (dt (nf g)) (nf i) (dt (nf j)) k
end HX

namespace HX
open Go Go.Proofs CX
theorem cxE_ok (ro:Addr->Option V):CX.EnvOk (cxE ro) Try.prog:=cxS_ok (fun f c h=>(srtF_ok f c h).1) ro
theorem cxE_srt {ro:Addr->Option V}:∀f c,(cxE ro).ext f=some (.sort c)->∃fn b,(cxE ro).fn f=some fn/\fn.body=some b/\2<=fn.ntmps:=cxS_srt fun f c h=>(srtF_ok f c h).2
theorem hxT {ro:Addr->Option V}:TOk (cxE ro):=TOk.of (cxE_ok ro)
theorem hxEnv {ro:Addr->Option V} {sig:Nat->Option Sig} {pre:Nat->List (List D)->Prop} {fn:Nat->List (List D)->Nat->Nat->D} (h:∀f sg,sig f=some sg->PureC (cxE ro) f sg (pre f) (fn f)):EnvOk ⟨Ar.std,cxE ro,ksF,sig,pre,fn⟩:=⟨rfl,hxT,h,cxE_srt⟩
theorem works_pure {ro:Addr->Option V}:PureC (cxE ro) 13 ⟨[],[(false,[.bool])],false⟩ (fun _=>True) (fun _ _ _=>.b true):=by
 intro ds _ g bar nx h args hg hbar ha
 cases args with
 |cons _ _=>cases ds<;>simp [ArgsFz] at ha
 |nil=>
  have hfn:∃fn c,(cxE ro).fn 13=some fn/\fn.body=some c:=⟨_,_,rfl,rfl⟩
  obtain ⟨fn,c,h1,h2⟩:=hfn
  refine ⟨[.bool true],h,nx,g,Evt.of fun n k=>?_,zB _,fun _ _=>rfl,fun _ _ h=>h,fun id o hgo=>⟨hg id o hgo,.inl hgo⟩,⟨[.bool true],rfl,fun j k hj=>?_,_,rfl,rfl⟩,trivial⟩
  ·have hx:(cxE ro).ext 13=some (.bool true):=rfl
   simp only [callF,h1,h2,hx]
   rfl
  cases j with
  |zero=>
   simp only [zL,zA] at hj
   subst hj
   exact ⟨_,rfl,by simp only [FzC];exact ⟨⟨_,rfl⟩,rfl⟩⟩
  |succ j=>simp at hj
end HX

namespace CX
open Go Go.ChangeShapes Go.WideShapes
theorem Kept.frozen {w w':World} (h:Kept w w') {a:Addr} (ha:a.block < w.heap.size):w'.frozen? a=w.frozen? a:=by
 simp only [World.frozen?,h.2.2.2.2 a.block ha]
theorem Kept.but {w w':World} (h:Kept w w') (may:MemPlace->Prop):w.keptBut w' may:=by
 refine ⟨h.1,h.2.2.1.1,fun i hi=>?_⟩
 rw [h.2.2.2.2 i hi]
 obtain ⟨o,ho⟩:∃o,w.heap[i]?=some o:=⟨w.heap[i],by simp [hi]⟩
 rw [ho]
 cases o with
 |cells c t fr=>exact ⟨rfl,rfl,rfl,fun _ _=>rfl⟩
 |map es c=>exact .inr ⟨rfl,rfl⟩
 |_=>rfl
section
variable {H:Type} {enc:TypeId×Value->H} {P:Program}
theorem post_kept {f:Func} {s:ChangeSpec} {apart fresh handsOn again:Bool} {W W':World} {args:Array Value} {v:Value} {ds gs:List (DataW H)} {before pa pv:List MemPlace}
  (hW:DataW.Whole enc P f.params.toList s.vars apart W args.toList ds gs before)
  (hres:∀(b:Nat) (sp:Nat->Bool) (hd:Bool),DataW.TrodAll enc P W' b sp hd f.resultTypes.toList (v.resultList f.resultTypes.size) (s.fn H (ds++gs)).results [])
  (hargs:∀sp:Nat->Bool,(∀p∈before,sp p.block=true)->DataW.TrodAll enc P W' 0 sp true f.params.toList args.toList (s.fn H (ds++gs)).args pa)
  (hvars:∀sp:Nat->Bool,(∀p∈before,sp p.block=true)->DataW.TrodVars enc P W' sp s.vars (s.fn H (ds++gs)).vars pv)
  (hps:before=pa++pv) (hk:Kept W W')
  (hok:∀(j:Nat) (t:TypeId) (r:Value),f.resultTypes[j]?=some t->(v.resultList f.resultTypes.size)[j]?=some r->Value.okWide P W' .any 0 t r) :
  s.post enc P f apart fresh handsOn again W args v W':=by
 have hold:∀p∈before,(fun b=>decide (b < W.heap.size)) p.block=true:=fun p hp=>by simpa using hW.lt p hp
 have hlt:=hW.lt
 refine ⟨ds,gs,before,[],pa,pv,hW,hres _ _ _,hargs _ hold,hvars _ hold,World.keptBut_mono (fun p hp=>⟨hp,?_⟩) (hk.but (·∈before)),fun _=>?_⟩
 ·rw [hps,xN] at hp
  exact Or.inr hp
 obtain ⟨_,_,_,_,_,hz,hn⟩:=hW
 refine ⟨hok,_,_,([]++pa)++pv,⟨[]++pa,pv,trodAll_append (hargs _ (fun _ _=>rfl)) (hres _ _ _),hvars _ (fun _ _=>rfl),rfl,?_,?_⟩,?_⟩
 ·intro b off hp
  have hp':MemPlace.cell b off∈before:=by rw [hps];simpa using hp
  rw [hk.frozen (hlt _ hp')]
  exact hz b off hp'
 ·intro ha
  have:=hn ha
  rw [hps] at this
  simpa using this
 intro p hp _
 rw [hps]
 simpa using hp
end
end CX

namespace HB
open Go Go.ChangeShapes Go.WideShapes Go.ChangeAt Go.RowKit
theorem add_block (a:Addr) (n:Nat):(a.add n).block=a.block:=by unfold Addr.add;split<;>rfl
theorem addr_add2 (a:Addr) (i c:Nat):(a.add i).add c=a.add (i+c):=by
 unfold Addr.add
 by_cases hi:i=0
 ·subst hi;simp
 by_cases hc:c=0
 ·subst hc;simp [hi]
 simp [hi,hc,Nat.add_assoc]
theorem mapM_at {α β:Type} {f:α->Option β}:∀{l:List α} {r:List β},l.mapM f=some r->r.length=l.length/\∀(i:Nat) (h:i < l.length),∃y,f l[i]=some y/\r[i]?=some y
 |[],r,h=>by
  simp only [List.mapM_nil,Option.pure_def,Option.some.injEq] at h
  subst h
  exact ⟨rfl,fun i h=>by simp at h⟩
 |x :: xs,r,h=>by
  rw [List.mapM_cons] at h
  cases hx:f x with
  |none=>simp [hx] at h
  |some y=>
   cases hxs:xs.mapM f with
   |none=>simp [hx,hxs] at h
   |some ys=>
    simp only [hx,hxs,Option.bind_eq_bind,Option.bind_some,Option.pure_def,Option.some.injEq] at h
    subst h
    obtain ⟨h1,h2⟩:=mapM_at hxs
    refine ⟨by simp [h1],fun i hi=>?_⟩
    cases i with
    |zero=>exact ⟨y,by simpa using hx,by simp⟩
    |succ i=>
     obtain ⟨z,e1,e2⟩:=h2 i (by simpa using hi)
     exact ⟨z,by simpa using e1,by simpa using e2⟩
theorem cells_get {w:World} {base:Nat} {a:Addr} {n:Nat} {cs:List Value} (h:w.cells? base a n=some cs):cs.length=n/\(0 < n->a.block < w.heap.size)/\∀c,c < n->w.cell? (a.add c)=cs[c]?:=by
 unfold World.cells? at h
 split at h
 ·obtain ⟨h1,h2⟩:=mapM_at h
  rw [List.length_range] at h1
  have key:∀c,c < n->w.cell? (a.add c)=cs[c]?:=fun c hc=>by
   obtain ⟨y,e1,e2⟩:=h2 c (by simpa using hc)
   rw [List.getElem_range] at e1
   rw [e1,e2]
  refine ⟨h1,fun h0=>?_,key⟩
  obtain ⟨y,e1,_⟩:=h2 0 (by simpa using h0)
  rw [List.getElem_range] at e1
  rcases Nat.lt_or_ge a.block w.heap.size with hb |hb
  ·exact hb
  exfalso
  unfold World.cell? at e1
  rw [add_block] at e1
  rw [Array.getElem?_eq_none (by omega)] at e1
  cases e1
 cases h
section
variable {H:Type} {enc:TypeId×Value->H} {P:Program} {w:World} {base:Nat} {spare:Nat->Bool} {held:Bool}
theorem wf_rng {k:IntKind} {n:Int} (h:(Lit.int k n).wf=true):k.min<=n/\n<=k.max:=by
 simpa [Lit.wf] using h
theorem trod_array {t e:TypeId} {n m:Nat} {cs:List Value} {x:DataW H×List MemPlace} (ht:P.underlying t=some (.array n e)) (h:DataW.trod enc P w base spare held (m+1) t cs=some x) :
  cs.length=P.cellsOf t/\∀i,i < n->∃y,DataW.trod enc P w base spare held m e ((cs.drop (i * P.cellsOf e)).take (P.cellsOf e))=some y:=by
 unfold DataW.trod at h
 rw [ht] at h
 split at h<;>simp_all
 obtain ⟨hl,h⟩:=h
 obtain ⟨a,h,_⟩:=h
 obtain ⟨h1,h2⟩:=mapM_at h
 intro i hi
 obtain ⟨y,e1,_⟩:=h2 i (by simpa using hi)
 rw [List.getElem_range] at e1
 exact ⟨y.1,y.2,by simpa using e1⟩
def isAgg (P:Program) (t:TypeId):Bool:=match P.underlying t with
 |some (.struct _)=>true
 |some (.array _ _)=>true
 |_=>false
theorem Kept_same {W W':World} (h:CX.Kept W W') {p:MemPlace} (hp:p.block < W.heap.size):W.sameAt W' p:=by
 cases p with
 |cell b off=>
  simp only [World.sameAt,World.cell?]
  rw [h.2.2.2.2 b hp]
 |map b=>exact h.2.2.2.2 b hp
theorem args_stay (hl:laidOutB P=true) {W W':World} {sp:Nat->Bool}:∀{ts:List TypeId} {vs:List Value} {ds:List (DataW H)} {ps:List MemPlace},(ts.all fun t=>P.readableRec t && decide (t < P.types.size))=true->
  DataW.TrodAll enc P W base (fun _=>true) true ts vs ds ps->(∀p∈ps,W.sameAt W' p)->(∀p∈ps,sp p.block=true)->DataW.TrodAll enc P W' base sp true ts vs ds ps
 |[],vs,ds,ps,_,h,_,_=>by
  obtain ⟨rfl,rfl,rfl⟩:=trodAll_nil h
  exact trodAll_mk0
 |t :: ts,[],ds,ps,_,h,_,_=>by simp [DataW.TrodAll] at h
 |t :: ts,v :: vs,[],ps,_,h,_,_=>by simp [DataW.TrodAll] at h
 |t :: ts,v :: vs,d :: ds,ps,hr,h,h1,h2=>by
  obtain ⟨p,q,ha,hb,rfl⟩:=h
  simp only [List.all_cons,Bool.and_eq_true,decide_eq_true_eq] at hr
  exact ⟨p,q,Go.WideElems.Trod_stays hl hr.1.1 hr.1.2 ha (fun x hx=>h1 x (by simp [hx])) (fun x hx=>h2 x (by simp [hx])),
   args_stay hl (by simpa using hr.2) hb (fun x hx=>h1 x (by simp [hx])) (fun x hx=>h2 x (by simp [hx])),rfl⟩
end
end HB

namespace HX
open Go Go.Proofs Go.ChangeShapes Go.WideShapes Go.ChangeAt Go.RowKit CX
def descF (g:TypeId->Option (List Kd)) (P:Program):List Field->Nat->Option (List Kd)
 |[],_=>some []
 |f :: r,off=>match g f.type with
  |some ks=>match beqN f.offset off && beqN (P.cellsOf f.type) ks.length with
   |true=>match descF g P r (off+ks.length) with
    |some ks'=>some (ks++ks')
    |none=>none
   |false=>none
  |none=>none
def repK (ks:List Kd):Nat->List Kd
 |0=>[]
 |n+1=>ks++repK ks n
def desc (P:Program):Nat->TypeId->Option (List Kd)
 |0,_=>none
 |n+1,t=>match P.underlying t with
  |some .bool=>some [.bool]
  |some (.int k)=>some [.int k]
  |some .string=>some [.str]
  |some (.slice e)=>match desc P n e with
   |some (k :: ks)=>match beqN (P.cellsOf e) (ks.length+1) with
    |true=>some [.sl (k :: ks)]
    |false=>none
   |_=>none
  |some (.struct fs)=>match descF (desc P n) P fs.toList 0 with
   |some ks=>match beqN (P.cellsOf t) ks.length with
    |true=>some ks
    |false=>none
   |none=>none
  |some (.array m e)=>match desc P n e with
   |some ks=>match beqN (P.cellsOf e) ks.length && beqN (P.cellsOf t) (repK ks m).length with
    |true=>some (repK ks m)
    |false=>none
   |none=>none
  |_=>none
mutual
def RngK:Kd->D->Prop
 |.int k,d=>k.min<=d.int/\d.int<=k.max
 |.str,d=>∀b∈d.str,b < 256
 |.sl ks,d=>∀row∈d.rows,RngL ks row
 |_,_=>True
def RngL:List Kd->List D->Prop
 |k :: ks,d :: ds=>RngK k d/\RngL ks ds
 |_,_=>True
end
mutual
def RdK (w:World):Kd->D->Value->Prop
 |.int k,d,u=>(∃n,d=.i n)/\u=.int k d.int
 |.bool,d,u=>(∃b,d=.b b)/\u=.bool d.boo
 |.str,d,u=>(∃s,d=.s s)/\u=.string (bytesOf d.str)
 |.fnc _,_,_=>False
 |.pt _,_,_=>False
 |.sl ks,d,u=>(∃rows,d=.l rows/\LenR ks rows)/\0 < ks.length/\((d.rows=[]/\u=.slice none 0 0)\/∃a cap,u=.slice (some a) d.rows.length cap/\d.rows.length<=cap/\
   ∀i row,d.rows[i]?=some row->∃cs:List Value,(∀c,c < ks.length->w.cell? (a.add (i * ks.length+c))=cs[c]?)/\RdL w ks row cs)
def RdL (w:World):List Kd->List D->List Value->Prop
 |[],[],[]=>True
 |k :: ks,d :: ds,c :: cs=>RdK w k d c/\RdL w ks ds cs
 |_,_,_=>False
end
def Holds (w:World) (ks:List Kd) (cs:List Value):Prop:=∃l,RdL w ks l cs/\RngL ks l
theorem RdL.append {w:World}:∀{ks ks':List Kd} {l l':List D} {cs cs':List Value},RdL w ks l cs->RdL w ks' l' cs'->RdL w (ks++ks') (l++l') (cs++cs')
 |[],_,[],_,[],_,_,h=>h
 |_ :: _,_,_ :: _,_,_ :: _,_,h,h'=>by
  simp only [RdL,List.cons_append] at h ⊢
  exact ⟨h.1,RdL.append h.2 h'⟩
 |[],_,[],_,_ :: _,_,h,_=>by simp [RdL] at h
 |[],_,_ :: _,_,_,_,h,_=>by simp [RdL] at h
 |_ :: _,_,[],_,_,_,h,_=>by simp [RdL] at h
 |_ :: _,_,_ :: _,_,[],_,h,_=>by simp [RdL] at h
theorem RdL.len {w:World}:∀{ks:List Kd} {l:List D} {cs:List Value},RdL w ks l cs->l.length=ks.length/\cs.length=ks.length
 |[],[],[],_=>⟨rfl,rfl⟩
 |_ :: _,_ :: _,_ :: _,h=>by
  simp only [RdL] at h
  have:=RdL.len h.2
  exact ⟨by simp [this.1],by simp [this.2]⟩
 |[],[],_ :: _,h=>by simp [RdL] at h
 |[],_ :: _,_,h=>by simp [RdL] at h
 |_ :: _,[],_,h=>by simp [RdL] at h
 |_ :: _,_ :: _,[],h=>by simp [RdL] at h
theorem RngL.append:∀{ks ks':List Kd} {l l':List D},l.length=ks.length->RngL ks l->RngL ks' l'->RngL (ks++ks') (l++l')
 |[],_,[],_,_,_,h=>h
 |_ :: _,_,_ :: _,_,hl,h,h'=>by
  simp only [RngL,List.cons_append] at h ⊢
  exact ⟨h.1,RngL.append (by simpa using hl) h.2 h'⟩
 |[],_,_ :: _,_,hl,_,_=>by simp at hl
 |_ :: _,_,[],_,hl,_,_=>by simp at hl
theorem Holds.append {w:World} {ks ks':List Kd} {cs cs':List Value} (h:Holds w ks cs) (h':Holds w ks' cs'):Holds w (ks++ks') (cs++cs'):=by
 obtain ⟨l,a,b⟩:=h
 obtain ⟨l',a',b'⟩:=h'
 exact ⟨l++l',a.append a',b.append a.len.1 b'⟩
theorem Holds.nil {w:World}:Holds w [] []:=⟨[],trivial,trivial⟩
section
variable {H:Type} {enc:TypeId×Value->H} {P:Program} {w:World} {base:Nat} {spare:Nat->Bool} {held:Bool}
theorem holds_one {k:Kd} {d:D} {u:Value} (h:RdK w k d u) (hr:RngK k d):Holds w [k] [u]:=⟨[d],⟨h,trivial⟩,⟨hr,trivial⟩⟩
theorem holds_rep {ks:List Kd} {cs:List Value} (m:Nat) (hl:cs.length=(repK ks m).length) (h:∀i,i < m->Holds w ks ((cs.drop (i * ks.length)).take ks.length)):Holds w (repK ks m) cs:=by
 induction m generalizing cs with
 |zero=>
  have:cs=[]:=xA.1 (by simpa [repK] using hl)
  subst this
  exact Holds.nil
 |succ m ih=>
  have e:cs=cs.take ks.length++cs.drop ks.length:=(List.take_append_drop _ _).symm
  rw [e]
  refine Holds.append (by simpa using h 0 (by omega)) (ih ?_ fun i hi=>?_)
  ·simp only [xC,hl,repK,zP]
   omega
  have:=h (i+1) (by omega)
  rwa [List.drop_drop,show ks.length+i * ks.length=(i+1) * ks.length by rw [zV];omega]
theorem holds_fields {g:TypeId->Option (List Kd)} {cs:List Value}:∀(fs:List Field) (off:Nat) (ks:List Kd),descF g P fs off=some ks->cs.length=off+ks.length->
  (∀f∈fs,∀ks',g f.type=some ks'->Holds w ks' ((cs.drop f.offset).take (P.cellsOf f.type)))->Holds w ks (cs.drop off)
 |[],off,ks,h,hl,_=>by
  simp only [descF,zA] at h
  subst h
  have:cs.drop off=[]:=List.drop_eq_nil_of_le (by simp at hl;omega)
  rw [this]
  exact Holds.nil
 |f :: r,off,ks,h,hl,hf=>by
  simp only [descF] at h
  split at h
  rotate_left
  ·cases h
  rename_i ks1 hk
  split at h
  next hb=>
   simp only [zC,beqN_iff] at hb
   split at h
   next ks2 hks2=>
    simp only [zA] at h
    subst h
    have e:cs.drop off=(cs.drop off).take ks1.length++(cs.drop off).drop ks1.length:=(List.take_append_drop _ _).symm
    rw [e]
    refine Holds.append ?_ ?_
    ·have:=hf f (by simp) ks1 hk
     rwa [hb.1,hb.2] at this
    rw [List.drop_drop]
    exact holds_fields r (off+ks1.length) ks2 hks2 (by rw [hl,zP];omega) (fun f' hf'=>hf f' (by simp [hf']))
   cases h
  cases h
theorem bytes_of (z:ByteArray):bytesOf (z.data.toList.map UInt8.toNat)=z:=by
 obtain ⟨d⟩:=z
 simp only [bytesOf,List.map_map]
 congr 1
 have:(UInt8.ofNat∘UInt8.toNat)=id:=by funext x;simp
 rw [this]
 simp
theorem holds_of_trod:∀(n:Nat) (t:TypeId) (ks:List Kd),desc P n t=some ks->∀(m:Nat) (cs:List Value) (x:DataW H×List MemPlace),DataW.trod enc P w base spare held m t cs=some x->Holds w ks cs
 |0,_,_,h,_,_,_,_=>by simp [desc] at h
 |n+1,t,ks,h,m,cs,x,hx=>by
  unfold desc at h
  split at h
  next hu=>
   simp only [zA] at h
   subst h
   obtain ⟨b,rfl,_⟩:=DataW.trod_bool hu hx
   exact holds_one (d:=.b b) ⟨⟨_,rfl⟩,rfl⟩ trivial
  next k hu=>
   simp only [zA] at h
   subst h
   obtain ⟨z,rfl,_,hw⟩:=DataW.trod_int hu hx
   exact holds_one (d:=.i z) ⟨⟨_,rfl⟩,rfl⟩ (HB.wf_rng hw)
  next hu=>
   simp only [zA] at h
   subst h
   obtain ⟨z,rfl,_,_⟩:=DataW.trod_string hu hx
   refine holds_one (d:=.s (z.data.toList.map UInt8.toNat)) ⟨⟨_,rfl⟩,?_⟩ ?_
   ·show Value.string z=.string (bytesOf (z.data.toList.map UInt8.toNat))
    rw [bytes_of]
   intro b hb
   obtain ⟨x,_,rfl⟩:=qQ.1 (show b∈z.data.toList.map UInt8.toNat from hb)
   exact x.toNat_lt
  next e hu=>
   split at h
   rotate_left
   ·cases h
   rename_i k ks' hd
   split at h
   rotate_left
   ·cases h
   rename_i hb
   have hb:P.cellsOf e=ks'.length+1:=by rw [beqN_iff] at hb;exact hb
   simp only [zA] at h
   subst h
   rcases DataW.trod_slice hu hx with ⟨rfl,_⟩ |⟨a,len,cap,elems,rest,m',rfl,rfl,_,_,h2,h3,h4,h5,_,_⟩
   ·exact holds_one (d:=.l []) ⟨⟨_,rfl,fun _ h=>(by cases h),by simp⟩,by simp,.inl ⟨rfl,rfl⟩⟩ (fun _ h=>(by cases h))
   have row:∀i,i < len->∃l cs',(∀c,c < ks'.length+1->w.cell? (a.add (i * (ks'.length+1)+c))=cs'[c]?)/\RdL w (k :: ks') l cs'/\RngL (k :: ks') l:=by
    intro i hi
    have e1:=h5 i hi
    rw [zE (by omega)] at e1
    obtain ⟨cs',c1,c2⟩:=Option.bind_eq_some_iff.1 e1
    obtain ⟨d1,d2,d3⟩:=HB.cells_get c1
    rw [hb] at d1 d2 d3 c1
    obtain ⟨l,g1,g2⟩:=holds_of_trod n e (k :: ks') hd m' cs' _ c2
    refine ⟨l,cs',fun c hc=>?_,g1,g2⟩
    rw [<-d3 c hc,HB.addr_add2]
   let rows:Rows:=(List.range len).map fun i=>if h:i < len then Classical.choose (row i h) else []
   have hlen:rows.length=len:=by simp [rows]
   have hget:∀i r,rows[i]?=some r->∃h:i < len,r=Classical.choose (row i h):=by
    intro i r hr
    have hi:i < len:=by rw [<-hlen];exact (xD.1 hr).1
    refine ⟨hi,?_⟩
    simp only [rows,kM,List.getElem?_range hi,zX,zA] at hr
    rw [<-hr,dif_pos hi]
   refine holds_one (d:=.l rows) ⟨⟨_,rfl,fun r hr=>?_,?_⟩,by simp,.inr ⟨a,cap,?_,?_,fun i r hr=>?_⟩⟩ (fun r hr=>?_)
   ·obtain ⟨i,hi⟩:=List.getElem?_of_mem hr
    obtain ⟨h,rfl⟩:=hget i r hi
    obtain ⟨_,_,h6,_⟩:=Classical.choose_spec (row i h)
    exact h6.len.1
   ·have h3:cap<=9223372036854775807:=h3
    rw [hlen];omega
   ·show Value.slice (some a) len cap=.slice (some a) rows.length cap
    rw [hlen]
   ·show rows.length<=cap
    rw [hlen];exact h2
   ·obtain ⟨h,rfl⟩:=hget i r hr
    obtain ⟨cs',h5',h6,_⟩:=Classical.choose_spec (row i h)
    exact ⟨cs',fun c hc=>h5' c (by simpa using hc),h6⟩
   obtain ⟨i,hi⟩:=List.getElem?_of_mem (show r∈rows from hr)
   obtain ⟨h,rfl⟩:=hget i r hi
   obtain ⟨_,_,_,h7⟩:=Classical.choose_spec (row i h)
   exact h7
  next fs hu=>
   split at h
   rotate_left
   ·cases h
   rename_i ks' hd
   split at h
   next hb=>
    rw [beqN_iff] at hb
    simp only [zA] at h
    subst h
    obtain ⟨xs,m',rfl,_,hl,hxs,hf⟩:=DataW.trod_struct hu hx
    have:=holds_fields (w:=w) (cs:=cs) fs.toList 0 ks' hd (by rw [hl,hb];simp) (fun f hm ks1 hk1=>?_)
    ·simpa using this
    obtain ⟨i,hi,rfl⟩:=List.mem_iff_getElem.1 hm
    have hi':i < fs.size:=by simpa using hi
    have e1:=hf i fs[i] (by simp [hi'])
    rw [zE (by omega)] at e1
    have e2:fs.toList[i]=fs[i]:=by simp
    rw [e2] at hk1 ⊢
    exact holds_of_trod n _ ks1 hk1 m' _ _ e1
   cases h
  next m0 e hu=>
   split at h
   next ks' hd=>
    split at h
    next hb=>
     simp only [zC,beqN_iff] at hb
     simp only [zA] at h
     subst h
     cases m with
     |zero=>simp [DataW.trod] at hx
     |succ m'=>
      obtain ⟨hl,hi⟩:=HB.trod_array hu hx
      refine holds_rep m0 (by rw [hl,hb.2]) fun i h=>?_
      obtain ⟨y,hy⟩:=hi i h
      rw [hb.1] at hy
      exact holds_of_trod n e ks' hd m' _ y hy
    cases h
   cases h
  cases h
def strOf (z:ByteArray):List Nat:=z.data.toList.map UInt8.toNat
def valOf:Value->Option V
 |.int k n=>some (.int k n)
 |.bool b=>some (.bool b)
 |.string z=>some (.str (strOf z))
 |.slice none 0 0=>some .nils
 |.slice (some a) n cap=>if n<=cap then some (.rslc a n cap) else none
 |_=>none
def roOf (w:World) (a:Addr):Option V:=match w.cell? a with
 |some u=>valOf u
 |none=>none
theorem valOf_rv {u:Value} {v:V} (h:valOf u=some v):one1 v=true/\∀ρ n,Rv ρ n v u:=by
 unfold valOf at h
 split at h
 ·cases h;exact ⟨rfl,fun _ _=>by simp only [Rv]⟩
 ·cases h;exact ⟨rfl,fun _ _=>by simp only [Rv]⟩
 ·cases h
  rename_i z
  refine ⟨rfl,fun _ _=>?_⟩
  simp only [Rv]
  refine ⟨fun b hb=>?_,by rw [strOf,bytes_of]⟩
  obtain ⟨x,_,rfl⟩:=qQ.1 (show b∈z.data.toList.map UInt8.toNat from hb)
  exact x.toNat_lt
 ·cases h;exact ⟨rfl,fun _ _=>by simp only [Rv]⟩
 ·split at h
  next hle=>
   cases h
   exact ⟨rfl,fun _ _=>by simp only [Rv];exact ⟨hle,trivial⟩⟩
  cases h
 cases h
theorem roOf_ok (w:World):RoAt (roOf w) w:=by
 intro a v h
 unfold roOf at h
 split at h
 next u hu=>
  obtain ⟨h1,h2⟩:=valOf_rv h
  exact ⟨h1,u,hu,fun ρ n=>h2 ρ n⟩
 cases h
theorem str_bytes {s:List Nat} (h:∀b∈s,b < 256):strOf (bytesOf s)=s:=by
 simp only [strOf,bytesOf,List.map_map]
 induction s with
 |nil=>rfl
 |cons b s ih=>
  have hb:=h b (.head _)
  simp only [kH,Function.comp_apply,UInt8.toNat_ofNat',xM]
  exact ⟨Nat.mod_eq_of_lt hb,ih fun x hx=>h x (.tail _ hx)⟩
mutual
theorem rdK_fz {g:Nat->Option O} {B:Nat}:∀(k:Kd) (d:D) (u:Value),RdK w k d u->RngK k d->∃v,valOf u=some v/\FzC (roOf w) g B k d v
 |.int k,d,u,h,_=>by
  simp only [RdK] at h
  obtain ⟨⟨n,rfl⟩,rfl⟩:=h
  exact ⟨_,rfl,by simp only [FzC];exact ⟨⟨_,rfl⟩,trivial⟩⟩
 |.bool,d,u,h,_=>by
  simp only [RdK] at h
  obtain ⟨⟨n,rfl⟩,rfl⟩:=h
  exact ⟨_,rfl,by simp only [FzC];exact ⟨⟨_,rfl⟩,trivial⟩⟩
 |.str,d,u,h,hr=>by
  simp only [RdK] at h
  obtain ⟨⟨n,rfl⟩,rfl⟩:=h
  simp only [RngK,D.str] at hr
  refine ⟨_,rfl,?_⟩
  simp only [FzC,D.str,str_bytes hr]
  exact ⟨⟨_,rfl⟩,trivial⟩
 |.sl ks,d,u,h,hr=>by
  simp only [RdK] at h
  obtain ⟨⟨rows,rfl,hl⟩,hpos,h⟩:=h
  simp only [RngK,D.rows] at hr h
  rcases h with ⟨rfl,rfl⟩ |⟨a,cap,rfl,hcap,hrow⟩
  ·exact ⟨.nils,rfl,by simp only [FzC];exact ⟨⟨_,rfl,hl⟩,.inl ⟨rfl,trivial⟩⟩⟩
  refine ⟨.rslc a rows.length cap,by simp only [valOf];rw [if_pos hcap],?_⟩
  simp only [FzC,D.rows]
  refine ⟨⟨_,rfl,hl⟩,.inr (.inr ⟨a,cap,rfl,hpos,hcap,fun i hi=>?_⟩)⟩
  obtain ⟨cs,c1,c2⟩:=hrow i rows[i] (zE hi)
  have hg:=hr rows[i] (kD hi)
  refine FzR.of _ _ _ _ fun j k hk=>?_
  have hj:j < ks.length:=(xD.1 hk).1
  obtain ⟨v,e1,e2⟩:=rdL_fz (g:=g) (B:=B) ks rows[i] cs c2 hg j k hk
  refine ⟨v,?_,?_⟩
  ·simp only [roOf,zU,c1 j hj]
   revert e1
   cases cs[j]? with
   |none=>intro e1;cases e1
   |some u=>intro e1;exact e1
  have:gt rows i (0+j)=rows[i].getD j .nil:=by simp [gt,zI,hi]
  rw [this];exact e2
theorem rdL_fz {g:Nat->Option O} {B:Nat}:∀(ks:List Kd) (l:List D) (cs:List Value),RdL w ks l cs->RngL ks l->∀j k,ks[j]?=some k->∃v,(cs[j]?).bind valOf=some v/\FzC (roOf w) g B k (l.getD j .nil) v
 |[],_,_,_,_,j,k,hk=>by simp at hk
 |k0 :: ks,d :: l,c :: cs,h,hr,0,k,hk=>by
  simp only [RdL] at h
  simp only [RngL] at hr
  simp only [zL,zA] at hk
  subst hk
  obtain ⟨v,a,b⟩:=rdK_fz (g:=g) (B:=B) k0 d c h.1 hr.1
  exact ⟨v,by simpa using a,by simpa using b⟩
 |k0 :: ks,d :: l,c :: cs,h,hr,j+1,k,hk=>by
  simp only [RdL] at h
  simp only [RngL] at hr
  obtain ⟨v,a,b⟩:=rdL_fz (g:=g) (B:=B) ks l cs h.2 hr.2 j k (by simpa using hk)
  exact ⟨v,by simpa using a,by simpa using b⟩
 |_ :: _,[],_,h,_,_,_,_=>by simp [RdL] at h
 |_ :: _,_ :: _,[],h,_,_,_,_=>by simp [RdL] at h
end
theorem rdL_vals {g:Nat->Option O} {B:Nat} {ρ:Nm} {n:Nat}:∀(ks:List Kd) (l:List D) (cs:List Value),RdL w ks l cs->RngL ks l->
  ∃x:List V,x.length=ks.length/\(∀j k,ks[j]?=some k->∃u,x[j]?=some u/\FzC (roOf w) g B k (l.getD j .nil) u)/\RvL ρ n x cs
 |[],[],[],_,_=>⟨[],rfl,fun j k h=>by simp at h,by simp [RvL]⟩
 |k :: ks,d :: l,c :: cs,h,hr=>by
  simp only [RdL] at h
  simp only [RngL] at hr
  obtain ⟨v,a,b⟩:=rdK_fz (g:=g) (B:=B) k d c h.1 hr.1
  obtain ⟨x,e1,e2,e3⟩:=rdL_vals (g:=g) (B:=B) (ρ:=ρ) (n:=n) ks l cs h.2 hr.2
  refine ⟨v :: x,by simp [e1],fun j k' hk=>?_,by simp only [RvL];exact ⟨(valOf_rv a).2 ρ n,e3⟩⟩
  cases j with
  |zero=>
   simp only [zL,zA] at hk
   subst hk
   exact ⟨v,rfl,by simpa using b⟩
  |succ j=>simpa using e2 j k' (by simpa using hk)
 |[],[],_ :: _,h,_=>by simp [RdL] at h
 |[],_ :: _,_,h,_=>by simp [RdL] at h
 |_ :: _,[],_,h,_=>by simp [RdL] at h
 |_ :: _,_ :: _,[],h,_=>by simp [RdL] at h
def descAll (P:Program) (n:Nat):List TypeId->Option (List (Bool×List Kd))
 |[]=>some []
 |t :: r=>match desc P n t,descAll P n r with
  |some ks,some l=>some ((HB.isAgg P t,ks) :: l)
  |_,_=>none
def RngAll:List (Bool×List Kd)->List (List D)->Prop
 |(_,ks) :: r,d :: ds=>RngL ks d/\RngAll r ds
 |_,_=>True
def trueRes (_:List (List D)) (_ _:Nat):D:=.b true
def ArgsRd (w:World):List (Bool×List Kd)->List (List D)->List Value->Prop
 |[],[],[]=>True
 |(g,ks) :: r,d :: ds,v :: vs=>(RdL w ks d v.cells.toList/\(g=true->v=.agg (v.cells.toList).toArray)/\(g=false->v.cells.toList=[v]))/\ArgsRd w r ds vs
 |_,_,_=>False
theorem args_fz {g:Nat->Option O} {B:Nat} {ρ:Nm} {n:Nat}:∀(ps:List (Bool×List Kd)) (ds:List (List D)) (vs:List Value),ArgsRd w ps ds vs->RngAll ps ds->∃x:List V,ArgsFz (roOf w) g B ps ds x/\RvL ρ n x vs
 |[],[],[],_,_=>⟨[],trivial,by simp [RvL]⟩
 |(a,ks) :: ps,d :: ds,v :: vs,h,hr=>by
  obtain ⟨⟨h1,h2,h3⟩,h4⟩:=h
  obtain ⟨x,e1,e2,e3⟩:=rdL_vals (g:=g) (B:=B) (ρ:=ρ) (n:=n) ks d _ h1 hr.1
  obtain ⟨xs,f1,f2⟩:=args_fz (g:=g) (B:=B) (ρ:=ρ) (n:=n) ps ds vs h4 hr.2
  cases a with
  |true=>exact ⟨.agg x :: xs,⟨h1.len.1,⟨x,e1,e2,rfl⟩,f1⟩,by simp only [RvL,Rv];exact ⟨⟨_,e3,h2 rfl⟩,f2⟩⟩
  |false=>
   rw [h3 rfl] at e3
   match x,e3 with
   |[y],e3=>
    simp only [RvL,and_true] at e3
    exact ⟨y :: xs,⟨h1.len.1,⟨[y],e1,e2,y,rfl,rfl⟩,f1⟩,by simp only [RvL];exact ⟨e3,f2⟩⟩
   |[],e3=>simp [RvL] at e3
   |_ :: _ :: _,e3=>simp [RvL] at e3
 |[],[],_ :: _,h,_=>h.elim
 |[],_ :: _,_,h,_=>h.elim
 |_ :: _,[],_,h,_=>h.elim
 |_ :: _,_ :: _,[],h,_=>h.elim
theorem shape_of {r:Reach} {n:Nat} {t:TypeId} {ks:List Kd} {v:Value} (hd:desc P n t=some ks) (h:Value.okWide P w r base t v) :
  (HB.isAgg P t=true->v=.agg (v.cells.toList).toArray)/\(HB.isAgg P t=false->v.cells.toList=[v]):=by
 cases n with
 |zero=>simp [desc] at hd
 |succ n=>
  unfold desc at hd
  unfold HB.isAgg
  split at hd
  next hu=>
   obtain ⟨b,rfl⟩:=okWide_bool hu h
   rw [hu]
   exact ⟨fun h=>(by cases h),fun _=>rfl⟩
  next k hu=>
   obtain ⟨z,rfl⟩:=okWide_int hu h
   rw [hu]
   exact ⟨fun h=>(by cases h),fun _=>rfl⟩
  next hu=>
   obtain ⟨z,rfl⟩:=okWide_string hu h
   rw [hu]
   exact ⟨fun h=>(by cases h),fun _=>rfl⟩
  next e hu=>
   obtain ⟨a,l,c,rfl⟩:=okWide_slice hu h
   rw [hu]
   exact ⟨fun h=>(by cases h),fun _=>rfl⟩
  next fs hu=>
   obtain ⟨cs,rfl,_⟩:=okWide_struct hu h
   rw [hu]
   exact ⟨fun _=>by simp [Value.cells],fun h=>by cases h⟩
  next m e hu=>
   have:∃cs,v=.agg cs:=by
    unfold Value.okWide at h
    rw [hu] at h
    obtain ⟨cs,hc,_⟩:=h
    exact ⟨cs,hc⟩
   obtain ⟨cs,rfl⟩:=this
   rw [hu]
   exact ⟨fun _=>by simp [Value.cells],fun h=>by cases h⟩
  cases hd
theorem args_read {r:Reach} {n:Nat}:∀(ts:List TypeId) (params:List (Bool×List Kd)) (vs:List Value) (ds:List (DataW H)) (ps:List MemPlace),descAll P n ts=some params->
  (∀(j:Nat) t v,ts[j]?=some t->vs[j]?=some v->Value.okWide P w r base t v)->DataW.TrodAll enc P w 0 spare held ts vs ds ps->
  ∃dss,ArgsRd w params dss vs/\RngAll params dss
 |[],params,vs,ds,ps,hd,_,h=>by
  simp only [descAll,zA] at hd
  subst hd
  obtain ⟨rfl,_,_⟩:=trodAll_nil h
  exact ⟨[],trivial,trivial⟩
 |t :: ts,params,vs,ds,ps,hd,hok,h=>by
  unfold descAll at hd
  split at hd
  next ks l hks hl=>
   simp only [zA] at hd
   subst hd
   cases vs with
   |nil=>simp [DataW.TrodAll] at h
   |cons v vs=>
    cases ds with
    |nil=>simp [DataW.TrodAll] at h
    |cons d ds=>
     obtain ⟨p,q,⟨m,hm⟩,h2,_⟩:=h
     obtain ⟨f,g1,g2⟩:=holds_of_trod n t ks hks m _ _ hm
     obtain ⟨dss,i1,i2⟩:=args_read ts l vs ds q hl (fun j t' v' ht hv=>hok (j+1) t' v' (by simpa using ht) (by simpa using hv)) h2
     obtain ⟨s1,s2⟩:=shape_of hks (hok 0 t v (by simp) (by simp))
     exact ⟨f :: dss,⟨⟨g1,s1,s2⟩,i1⟩,g2,i2⟩
  cases hd
end
section
variable {H:Type} {enc:TypeId×Value->H} {P:Program}
theorem said {fnum:FuncId} {f:Func} {s:ChangeSpec} {fresh handsOn again:Bool} {n:Nat} {params:List (Bool×List Kd)} {tb:TypeId}
  (hE:∀ro,CX.EnvOk (cxE ro) P) (hpure:∀ro,PureC0 (cxE ro) fnum ⟨params,[(false,[.bool])],false⟩ (RngAll params) trueRes) (hd:descAll P n f.params.toList=some params) (hl:laidOutB P=true)
  (hr:(f.params.toList.all fun t=>P.readableRec t && decide (t < P.types.size))=true) (hres:f.resultTypes=#[tb]) (hb:P.underlying tb=some .bool)
  (hs:∀ds:List (DataW H),ds.length=f.params.toList.length->s.fn H ds=⟨[.lit (.bool true)],ds,[]⟩) (hv:s.vars=[]) {apart:Bool} (W:World) (base:Nat) (args:Array Value) (ds gs:List (DataW H)) (before:List MemPlace)
  (hval:∀(j:Nat) t v,f.params[j]?=some t->args[j]?=some v->Value.okWide P W .any base t v) (hW:DataW.Whole enc P f.params.toList s.vars apart W args.toList ds gs before) :
  Calls P fnum args W fun e W'=>∃v,e=.returned v/\s.post enc P f apart fresh handsOn again W args v W':=by
 have hW':=hW
 obtain ⟨p,q,hA,hV,rfl,_,_⟩:=hW
 rw [hv] at hV
 obtain ⟨rfl,rfl⟩:=trodVars_none hV
 obtain ⟨dss,h1,h2⟩:=args_read (r:=.any) (base:=base) f.params.toList params args.toList ds p hd (fun j t v ht hv=>hval j t v (by simpa using ht) (by simpa using hv)) hA
 have hlen:=(trodAll_length hA).2
 have hfn:s.fn H (ds++[])=⟨[.lit (.bool true)],ds,[]⟩:=by rw [kO];exact hs ds hlen
 obtain ⟨xs,x1,x2⟩:=args_fz (g:=fun _=>none) (B:=0) (ρ:=fun _=>none) (n:=0) params dss args.toList h1 h2
 obtain ⟨vs,h',nx',g',⟨n0,hrun⟩,hresF⟩:=hpure (roOf W) dss h2 xs x1
 have hvs:vs=[.bool true]:=by
  match vs,hresF with
  |[v],hresF=>
   obtain ⟨⟨x,_,e2,u,rfl,rfl⟩,_⟩:=hresF
   obtain ⟨u,e3,e4⟩:=e2 0 .bool rfl
   simp only [zL,zA] at e3
   subst e3
   simp only [FzC] at e4
   rw [e4.2];rfl
  |[],hresF=>simp [ResFz] at hresF
  |_ :: _ :: _,hresF=>simp [ResFz] at hresF
 subst hvs
 have hcall:=call_ro (hE (roOf W)) (w:=W) (roOf_ok W) x2 (hrun n0 (zB _) retV)
 rw [show args.toList.toArray=args by simp] at hcall
 refine hcall.mono fun e W' h=>?_
 obtain ⟨u,ρ,m,rfl,hu,hk⟩:=h
 simp only [CX.one,Rv] at hu
 subst hu
 have hlt:=hW'.lt
 simp only [kO] at hW' hlt
 refine ⟨_,rfl,CX.post_kept (pa:=p) (pv:=[]) hW' (fun b sp hd=>?_) (fun sp hsp=>?_) (fun sp _=>?_) (by simp) hk (ok_one hres rfl (okWide_bool_mk hb _))⟩
 ·rw [hfn,hres]
  exact trodAll_mk1 (shut_bool hb _)
 ·rw [hfn]
  exact HB.args_stay hl hr hA (fun x hx=>HB.Kept_same hk (hlt x hx)) (fun x hx=>hsp x hx)
 rw [hfn,hv]
 rfl
end
end HX

namespace HX
open Go Go.Proofs
theorem own:ownKnob Try.prog.godebug=none:=by kernel_rfl
theorem laid:laidOutB Try.prog=true:=by kernel_rfl
end HX

namespace HX
open Go Go.Proofs CX
theorem envL {ro:Addr->Option V} {l:List Ctr} (h:Ctrs (cxE ro) l):EnvOk ⟨Ar.std,cxE ro,ksF,sigL (sigs l),preOf l,resOf l⟩:=hxEnv fun _ _ hs=>h.find hs
end HX

namespace HX
open Go Go.Proofs CX
theorem wrap64 {n:Int} (h1:-9223372036854775808<=n) (h2:n<=9223372036854775807):IntKind.wrap .i64 n=n:=by
 simp [IntKind.wrap,IntKind.bits,IntKind.signed];omega
theorem shr_eq {v k:Int} (hk:0<=k) (h2:k<=64):Ar.std.shr .i64 v k=v / 2 ^ k.toNat:=by
 show v.fdiv (2 ^ (Nat.min k.toNat 64))=_
 rw [show Nat.min k.toNat 64=k.toNat from qC (by omega),Int.fdiv_eq_ediv_of_nonneg _ (kP (kX (by omega)))]
theorem shr_bd {v k:Int} (hv:0<=v) (hk:0<=k) (h2:k<=64):0<=Ar.std.shr .i64 v k/\Ar.std.shr .i64 v k<=v:=by
 rw [shr_eq hk h2]
 exact ⟨Int.ediv_nonneg hv (kP (kX (by omega))),Int.ediv_le_self _ hv⟩
theorem pow_le (m:Nat) (h:m<=24):(1:Int)<=2 ^ m/\(2:Int) ^ m<=16777216:=by
 have h0:(0:Int) < 2 ^ m:=kX (by omega)
 refine ⟨by omega,?_⟩
 have:(2:Nat) ^ m<=2 ^ 24:=kS (by omega) h
 have:(2:Int) ^ m=((2 ^ m:Nat):Int):=by rw [kY];rfl
 omega
theorem shl_one {k:Int} (h1:0<=k) (h2:k<=24):Ar.std.shl .i64 1 k=2 ^ k.toNat:=by
 show IntKind.wrap .i64 (1 * 2 ^ (Nat.min k.toNat 64))=_
 rw [show Nat.min k.toNat 64=k.toNat from qC (by omega),Int.one_mul]
 have:=pow_le k.toNat (by omega)
 exact wrap64 (by omega) (by omega)
def lowG (a n:Int):Nat->Nat
 |0=>24
 |f+1=>if Ar.std.shl .i64 n ((23 - f:Nat):Int) < a then lowG a n f else 23 - f
def lowK (m:Int×Int):Nat:=lowG m.1 m.2 24
theorem lowG_le (a n:Int):∀f,lowG a n f<=24
 |0=>zB _
 |f+1=>by
  rw [lowG]
  split
  ·exact lowG_le a n f
  omega
theorem lowK_le (m:Int×Int):lowK m<=24:=lowG_le _ _ _
def lrn (m:Int×Int) (v:Int):Int×Int:=if m.2+1=64 then (Int.tdiv (m.1+v) 2,Int.tdiv (m.2+1) 2) else (m.1+v,m.2+1)
structure MOk (m:Int×Int):Prop where
 a0:0<=m.1
 a1:m.1<=8589934592 * m.2
 n0:1<=m.2
 n1:m.2<=63
theorem MOk.lrn {m:Int×Int} (h:MOk m) {v:Int} (h0:0<=v) (h1:v<=8589934592):MOk (lrn m v):=by
 have:=h.a0;have:=h.a1;have:=h.n0;have:=h.n1
 unfold HX.lrn
 split
 ·refine ⟨?_,?_,?_,?_⟩<;>simp only []<;>(try rw [xL (by omega)])<;>(try rw [xL (by omega)])<;>omega
 refine ⟨?_,?_,?_,?_⟩<;>simp only []<;>omega
theorem mok_1:MOk (4,1):=⟨by decide,by decide,by decide,by decide⟩
def bitB (v k:Int):Int:=Ar.std.wrap .u8 (Ar.std.bit .and .i64 (Ar.std.shr .i64 v k) 1)
def orL (o:Rows) (b sh:Int):Rows:=List.set o (Int.toNat ((o.length:Int) - 1)) [D.i (Ar.std.bit .or .u8 (D.int (gt o (Int.toNat ((o.length:Int) - 1)) 0)) (Ar.std.shl .u8 b sh))]
def put1 (s:Rows×Int) (v k:Int):Rows×Int:=if s.2=0 then (orL (s.1++[[D.i 0]]) (bitB v k) (8 - 1),8 - 1) else (orL s.1 (bitB v k) (s.2 - 1),s.2 - 1)
def putN (v:Int):Nat->Rows×Int->Rows×Int
 |0,s=>s
 |n+1,s=>putN v n (put1 s v n)
def wrS (m:Int×Int) (v:Int) (s:Rows×Int):Rows×Int:=
 if Ar.std.shr .i64 v (lowK m:Int) < 24 then putN v (lowK m) (putN (Ar.std.shl .i64 1 (Ar.std.shr .i64 v (lowK m:Int)+1) - 2) (Ar.std.shr .i64 v (lowK m:Int)+1).toNat s)
 else putN v 31 (putN 16777215 24 s)
structure Wf (s:Rows×Int):Prop where
 pos:0 < s.1.length
 r0:0<=s.2
 r7:s.2<=7
def bitsN (s:Rows×Int):Int:=8 * s.1.length - s.2
theorem orL_len (o:Rows) (b sh:Int):(orL o b sh).length=o.length:=by simp [orL]
theorem put1_wf {s:Rows×Int} (h:Wf s) (v k:Int):Wf (put1 s v k)/\bitsN (put1 s v k)=bitsN s+1:=by
 obtain ⟨h1,h2,h3⟩:=h
 unfold put1 bitsN
 split
 ·refine ⟨⟨?_,?_,?_⟩,?_⟩<;>simp only [orL_len,zP,zH,zK]<;>omega
 refine ⟨⟨?_,?_,?_⟩,?_⟩<;>simp only [orL_len]<;>omega
theorem putN_wf (v:Int):∀(n:Nat) {s:Rows×Int},Wf s->Wf (putN v n s)/\bitsN (putN v n s)=bitsN s+n
 |0,s,h=>⟨h,by simp [putN]⟩
 |n+1,s,h=>by
  obtain ⟨a,b⟩:=put1_wf h v n
  obtain ⟨c,d⟩:=putN_wf v n a
  exact ⟨c,by rw [putN,d,b];omega⟩
theorem wrS_wf {m:Int×Int} {v:Int} (hv:0<=v) {s:Rows×Int} (h:Wf s):Wf (wrS m v s)/\bitsN s<=bitsN (wrS m v s)/\bitsN (wrS m v s)<=bitsN s+55:=by
 have hk:=lowK_le m
 have hq:=shr_bd (v:=v) (k:=(lowK m:Int)) hv (by omega) (by omega)
 unfold wrS
 split
 ·obtain ⟨a,b⟩:=putN_wf (Ar.std.shl .i64 1 (Ar.std.shr .i64 v (lowK m:Int)+1) - 2) (Ar.std.shr .i64 v (lowK m:Int)+1).toNat h
  obtain ⟨c,d⟩:=putN_wf v (lowK m) a
  exact ⟨c,by rw [d,b];omega,by rw [d,b];omega⟩
 obtain ⟨a,b⟩:=putN_wf 16777215 24 h
 obtain ⟨c,d⟩:=putN_wf v 31 a
 exact ⟨c,by rw [d,b];omega,by rw [d,b];omega⟩
def eT (l:Rows) (i:Nat):Int:=(gt l i 0).int
def eI (l:Rows) (i:Nat):Int:=(gt l i 1).int
structure PkS where
 o:Rows
 r:Int
 t:Int×Int
 d:Int×Int
 bt:Int
 bi:Int
def gapE (l:Rows) (q:Nat) (bt:Int):Int:=if 0 < q then eT l q - bt else eT l q
def plcE (l:Rows) (q:Nat) (bt bi:Int):Int:=if eT l q=bt then eI l q - (bi+1) else eI l q
def hdrP (l:Rows):Rows:=[[D.i 71],[D.i 83],[D.i (Ar.std.wrap .u8 (Ar.std.shr .i64 (l.length:Int) 16))],[D.i (Ar.std.wrap .u8 (Ar.std.shr .i64 (l.length:Int) 8))],[D.i (Ar.std.wrap .u8 (l.length:Int))]]
def pkS (l:Rows):Nat->PkS
 |0=>⟨hdrP l,0,(4,1),(4,1),-1,0⟩
 |q+1=>
  let s:=pkS l q
  let w:=wrS s.t (gapE l q s.bt) (s.o,s.r)
  let w2:=wrS s.d (plcE l q s.bt s.bi) w
  ⟨w2.1,w2.2,lrn s.t (gapE l q s.bt),lrn s.d (plcE l q s.bt s.bi),eT l q,eI l q⟩
structure EvOk' (l:Rows):Prop where
 rt:∀i,i < l.length->0<=eT l i/\eT l i<=1073741824
 ri:∀i,i < l.length->0<=eI l i/\eI l i<=65535
 up:∀i,i+1 < l.length->eT l i < eT l (i+1)\/(eT l i=eT l (i+1)/\eI l i < eI l (i+1))
theorem pk_before (l:Rows) (q:Nat):(pkS l q).bt=(if q=0 then -1 else eT l (q - 1))/\(pkS l q).bi=(if q=0 then 0 else eI l (q - 1)):=by
 cases q with
 |zero=>exact ⟨rfl,rfl⟩
 |succ q=>exact ⟨rfl,rfl⟩
theorem gap_bd {l:Rows} (h:EvOk' l) {q:Nat} (hq:q < l.length):(0<=gapE l q (pkS l q).bt/\gapE l q (pkS l q).bt<=1073741825)/\0<=plcE l q (pkS l q).bt (pkS l q).bi/\plcE l q (pkS l q).bt (pkS l q).bi<=65535:=by
 obtain ⟨e1,e2⟩:=pk_before l q
 have:=h.rt q hq
 have:=h.ri q hq
 rw [e1,e2]
 unfold gapE plcE
 by_cases e:q=0
 ·subst e
  simp only [if_pos,Nat.lt_irrefl,if_false]
  rw [if_neg (by omega)]
  omega
 obtain ⟨p,rfl⟩:∃p,q=p+1:=⟨q - 1,by omega⟩
 have:=h.rt p (by omega)
 have:=h.ri p (by omega)
 have:=h.up p hq
 simp only [qJ,if_neg (show ¬p+1=0 by omega)]
 rw [if_pos (by omega)]
 split<;>omega
theorem pk_ok {l:Rows} (h:EvOk' l):∀q,q<=l.length->Wf ((pkS l q).o,(pkS l q).r)/\40<=bitsN ((pkS l q).o,(pkS l q).r)/\bitsN ((pkS l q).o,(pkS l q).r)<=40+110 * q/\MOk (pkS l q).t/\MOk (pkS l q).d
 |0,_=>⟨⟨by simp [pkS,hdrP],by simp [pkS],by simp [pkS]⟩,by simp [pkS,hdrP,bitsN],by simp [pkS,hdrP,bitsN],mok_1,mok_1⟩
 |q+1,hq=>by
  obtain ⟨h1,h2,h3,h4,h5⟩:=pk_ok h q (by omega)
  obtain ⟨g1,g2⟩:=gap_bd h (q:=q) (by omega)
  obtain ⟨a1,a2,a3⟩:=wrS_wf (m:=(pkS l q).t) g1.1 h1
  obtain ⟨b1,b2,b3⟩:=wrS_wf (m:=(pkS l q).d) g2.1 a1
  exact ⟨b1,by show _<=bitsN (wrS _ _ _);omega,by show bitsN (wrS _ _ _)<=_;omega,h4.lrn g1.1 (by omega),h5.lrn g2.1 (by omega)⟩
end HX

namespace HX
open Go Go.Proofs CX
theorem wrapU8 {n:Int} (h1:0<=n) (h2:n<=255):IntKind.wrap .u8 n=n:=by
 simp [IntKind.wrap,IntKind.bits,IntKind.signed];omega
theorem wrapU8_rng (n:Int):0<=IntKind.wrap .u8 n/\IntKind.wrap .u8 n<=255:=by
 simp [IntKind.wrap,IntKind.bits,IntKind.signed];omega
theorem toNat_ofInt {n:Nat} {x:Int} (h1:0<=x) (h2:x < 2 ^ n):(BitVec.ofInt n x).toNat=x.toNat:=by
 rw [BitVec.toNat_ofInt,Int.emod_eq_of_lt h1 (by simpa using h2)]
theorem and1_i64 {x:Int} (h1:0<=x) (h2:x<=9223372036854775807):Ar.std.bit .and .i64 x 1=x % 2:=by
 show IntKind.wrap .i64 ((BitVec.ofInt 64 x &&& BitVec.ofInt 64 1).toNat:Int)=_
 have e:(BitVec.ofInt 64 x &&& BitVec.ofInt 64 1).toNat=x.toNat % 2:=by
  rw [BitVec.toNat_and,toNat_ofInt h1 (by omega),toNat_ofInt (by omega) (by decide),show (1:Int).toNat=1 from rfl,Nat.and_one_is_mod]
 rw [e,wrap64 (by omega) (by omega)]
 omega
theorem and1_u8 {x:Int} (h1:0<=x) (h2:x<=255):Ar.std.bit .and .u8 x 1=x % 2:=by
 show IntKind.wrap .u8 ((BitVec.ofInt 8 x &&& BitVec.ofInt 8 1).toNat:Int)=_
 have e:(BitVec.ofInt 8 x &&& BitVec.ofInt 8 1).toNat=x.toNat % 2:=by
  rw [BitVec.toNat_and,toNat_ofInt h1 (by omega),toNat_ofInt (by omega) (by decide),show (1:Int).toNat=1 from rfl,Nat.and_one_is_mod]
 rw [e,wrapU8 (by omega) (by omega)]
 omega
theorem or_add {a b i:Nat} (h:b < 2 ^ i):(a * 2 ^ i) ||| b=a * 2 ^ i+b:=by
 rw [<-Nat.shiftLeft_eq,Nat.shiftLeft_add_eq_or_of_lt h]
theorem or_i64 {v b:Int} (h1:0<=v) (h2:v<=1099511627776) (b0:0<=b) (b1:b<=1):Ar.std.bit .or .i64 (Ar.std.shl .i64 v 1) b=2 * v+b:=by
 have e0:Ar.std.shl .i64 v 1=2 * v:=by
  show IntKind.wrap .i64 (v * 2 ^ (Nat.min (Int.toNat 1) 64))=_
  rw [show (2:Int) ^ (Nat.min (Int.toNat 1) 64)=2 by decide,wrap64 (by omega) (by omega)]
  omega
 rw [e0]
 show IntKind.wrap .i64 ((BitVec.ofInt 64 (2 * v) ||| BitVec.ofInt 64 b).toNat:Int)=_
 have e:(BitVec.ofInt 64 (2 * v) ||| BitVec.ofInt 64 b).toNat=(2 * v+b).toNat:=by
  rw [BitVec.toNat_or,toNat_ofInt (by omega) (by omega),toNat_ofInt b0 (by omega)]
  have:=or_add (a:=v.toNat) (b:=b.toNat) (i:=1) (by omega)
  rw [show (2 * v).toNat=v.toNat * 2 ^ 1 by omega,this]
  omega
 rw [e,wrap64 (by omega) (by omega)]
 omega
theorem or_u8 {a b:Int} {s:Nat} (hs:s<=7) (h1:0<=a) (h2:a<=255) (h3:a % 2 ^ (s+1)=0) (b0:0<=b) (b1:b<=1):Ar.std.bit .or .u8 a (Ar.std.shl .u8 b s)=a+b * 2 ^ s:=by
 have hp:(2:Nat) ^ s<=128:=kS (by omega:0 < 2) hs
 have hpi:(2:Int) ^ s=((2 ^ s:Nat):Int):=by rw [kY];rfl
 have hpi1:(2:Int) ^ (s+1)=((2 ^ (s+1):Nat):Int):=by rw [kY];rfl
 have hbs:0<=b * 2 ^ s/\b * 2 ^ s<=128:=by
  rcases (show b=0\/b=1 by omega) with rfl |rfl<;>rw [hpi]<;>omega
 have e0:Ar.std.shl .u8 b s=b * 2 ^ s:=by
  show IntKind.wrap .u8 (b * 2 ^ (Nat.min (s:Int).toNat 8))=_
  rw [show Nat.min (s:Int).toNat 8=s from qC (by omega),wrapU8 (by omega) (by omega)]
 rw [e0]
 show IntKind.wrap .u8 ((BitVec.ofInt 8 a ||| BitVec.ofInt 8 (b * 2 ^ s)).toNat:Int)=_
 obtain ⟨m,hm⟩:∃m:Nat,a.toNat=m * 2 ^ (s+1):=by
  refine ⟨a.toNat / 2 ^ (s+1),?_⟩
  have:a.toNat % 2 ^ (s+1)=0:=by
   rw [hpi1,show a=((a.toNat:Nat):Int) by omega] at h3
   exact_mod_cast h3
  have:=Nat.div_add_mod a.toNat (2 ^ (s+1))
  rw [Nat.mul_comm];omega
 have hb:(b * 2 ^ s).toNat < 2 ^ (s+1):=by
  rw [Nat.pow_succ]
  rcases (show b=0\/b=1 by omega) with rfl |rfl<;>rw [hpi]<;>omega
 have hsum:a+b * 2 ^ s<=255:=by
  have h8:∃n:Nat,256=n * 2 ^ (s+1):=⟨2 ^ (7 - s),by rw [<-Nat.pow_add,show 7 - s+(s+1)=8 by omega]⟩
  obtain ⟨n,hn⟩:=h8
  have hlt:m < n:=by
   refine Nat.lt_of_mul_lt_mul_right (a:=2 ^ (s+1)) ?_
   omega
  have:(m+1) * 2 ^ (s+1)<=n * 2 ^ (s+1):=zR _ hlt
  rw [zV] at this
  omega
 have e:(BitVec.ofInt 8 a ||| BitVec.ofInt 8 (b * 2 ^ s)).toNat=(a+b * 2 ^ s).toNat:=by
  rw [BitVec.toNat_or,toNat_ofInt h1 (by omega),toNat_ofInt hbs.1 (by omega),hm,or_add hb]
  omega
 rw [e,wrapU8 (by omega) (by omega)]
 omega
theorem shr_u8 {x:Int} {s:Nat} (hs:s<=7):Ar.std.shr .u8 x s=x / 2 ^ s:=by
 show x.fdiv (2 ^ (Nat.min (s:Int).toNat 8))=_
 rw [show Nat.min (s:Int).toNat 8=s from qC (by omega),Int.fdiv_eq_ediv_of_nonneg _ (kP (kX (by omega)))]
theorem bitB_eq {v k:Int} (hv:0<=v) (hv2:v<=9223372036854775807) (hk:0<=k) (h2:k<=64):bitB v k=v / 2 ^ k.toNat % 2:=by
 have:=shr_bd (v:=v) hv hk h2
 rw [bitB,and1_i64 this.1 (by omega),shr_eq hk h2]
 exact wrapU8 (by omega) (by omega)
def bAt (l:Rows) (p:Nat):Int:=(gt l (p / 8) 0).int / 2 ^ (7 - p % 8) % 2
theorem bAt_rng (l:Rows) (p:Nat):0<=bAt l p/\bAt l p<=1:=by unfold bAt;omega
end HX

namespace HX
open Go Go.Proofs CX
structure V92 (a0_0:Int) (a0_1:Int) (R:Nat->Nat->D) (I0:Int->Prop) (m0:Int->Nat):Prop where
 i0:I0 0
 g1:∀x0_0,I0 x0_0->(x0_0 < 24)->0<=x0_0
 g2:∀x0_0,I0 x0_0->(x0_0 < 24)->((Ar.std.shl IntKind.i64 a0_1 x0_0) < a0_0)->-9223372036854775808<=(x0_0+1)/\(x0_0+1)<=9223372036854775807
 n3:∀x0_0,I0 x0_0->(x0_0 < 24)->((Ar.std.shl IntKind.i64 a0_1 x0_0) < a0_0)->I0 (x0_0+1)/\m0 (x0_0+1) < m0 x0_0
 g4:∀x0_0,I0 x0_0->(x0_0 < 24)->(¬(Ar.std.shl IntKind.i64 a0_1 x0_0) < a0_0)->R 0 0=D.i x0_0
 g5:∀x0_0,I0 x0_0->(¬x0_0 < 24)->R 0 0=D.i x0_0
end HX

namespace HX
open Go Go.Proofs CX
abbrev vZ63 (x:Int):=-9223372036854775808<=x/\x<=9223372036854775807
structure V63r1 (a0:Rows) (b0:Int) (b7:Int) (I1:Int->Prop):Prop where
 g7:(0 < b0)->vZ63 (((D.int (gt a0 b0.toNat 0)) - b7))
 n8:(0 < b0)->I1 ((D.int (gt a0 b0.toNat 0)) - b7)
 n9:(¬0 < b0)->I1 (D.int (gt a0 b0.toNat 0))
structure V63r2 (a0:Rows) (b0:Int) (b7:Int) (b8:Int) (I2:Int->Prop):Prop where
 g11:((D.int (gt a0 b0.toNat 0))=b7)->vZ63 ((b8+1))
 g12:((D.int (gt a0 b0.toNat 0))=b7)->vZ63 (((D.int (gt a0 b0.toNat 1)) - (b8+1)))
 n13:((D.int (gt a0 b0.toNat 0))=b7)->I2 ((D.int (gt a0 b0.toNat 1)) - (b8+1))
 n14:(¬(D.int (gt a0 b0.toNat 0))=b7)->I2 (D.int (gt a0 b0.toNat 1))
structure V63c5 (b3:Int) (b4:Int) (d0:Int) (k0:Int) (k1:Rows) (k2:Int) (I3:Rows->Int->Int->Int->Prop) (I5:Int->Rows->Int->Prop) (m5:Int->Rows->Int->Nat):Prop where
 g53:(0<=k0)->(k2=0)->(k1.length+(List.length ([[D.i 0]]:Rows))) * 1<=4294967296/\(k1.length+(List.length ([[D.i 0]]:Rows)))<=4294967296
 g54:(0<=k0)->(k2=0)->vZ63 (((8 - 1):Int))
 g55:(0<=k0)->(k2=0)->vZ63 (((((k1++[[D.i 0]])).length:Int) - 1))
 g56:(0<=k0)->(k2=0)->0<=((((k1++[[D.i 0]])).length:Int) - 1)
 g57:(0<=k0)->(k2=0)->((((k1++[[D.i 0]])).length:Int) - 1) < (((k1++[[D.i 0]])).length:Int)
 g58:(0<=k0)->(k2=0)->(((Int.toNat ((((k1++[[D.i 0]])).length:Int) - 1):Nat):Int)) < (((k1++[[D.i 0]])).length:Int)
 g60:(0<=k0)->(k2=0)->0<=k0
 g61:(0<=k0)->(k2=0)->(0:Int)<=(8 - 1)
 g65:(0<=k0)->(k2=0)->vZ63 ((k0 - 1))
 n66:(0<=k0)->(k2=0)->I5 (k0 - 1) (List.set (k1++[[D.i 0]]) (Int.toNat ((((k1++[[D.i 0]])).length:Int) - 1)) [D.i (Ar.std.bit BinOp.or IntKind.u8 (D.int (gt (k1++[[D.i 0]]) (Int.toNat ((((k1++[[D.i 0]])).length:Int) - 1)) 0)) (Ar.std.shl IntKind.u8 (Ar.std.wrap IntKind.u8 (Ar.std.bit BinOp.and IntKind.i64 (Ar.std.shr IntKind.i64 d0 k0) 1)) (8 - 1)))]) (8 - 1)/\m5 (k0 - 1) (List.set (k1++[[D.i 0]]) (Int.toNat ((((k1++[[D.i 0]])).length:Int) - 1)) [D.i (Ar.std.bit BinOp.or IntKind.u8 (D.int (gt (k1++[[D.i 0]]) (Int.toNat ((((k1++[[D.i 0]])).length:Int) - 1)) 0)) (Ar.std.shl IntKind.u8 (Ar.std.wrap IntKind.u8 (Ar.std.bit BinOp.and IntKind.i64 (Ar.std.shr IntKind.i64 d0 k0) 1)) (8 - 1)))]) (8 - 1) < m5 k0 k1 k2
 g67:(0<=k0)->(¬k2=0)->vZ63 ((k2 - 1))
 g68:(0<=k0)->(¬k2=0)->vZ63 (((k1.length:Int) - 1))
 g69:(0<=k0)->(¬k2=0)->0<=((k1.length:Int) - 1)
 g70:(0<=k0)->(¬k2=0)->((k1.length:Int) - 1) < (k1.length:Int)
 g71:(0<=k0)->(¬k2=0)->(((Int.toNat ((k1.length:Int) - 1):Nat):Int)) < (k1.length:Int)
 g73:(0<=k0)->(¬k2=0)->0<=k0
 g74:(0<=k0)->(¬k2=0)->0<=(k2 - 1)
 g78:(0<=k0)->(¬k2=0)->vZ63 ((k0 - 1))
 n79:(0<=k0)->(¬k2=0)->I5 (k0 - 1) (List.set k1 (Int.toNat ((k1.length:Int) - 1)) [D.i (Ar.std.bit BinOp.or IntKind.u8 (D.int (gt k1 (Int.toNat ((k1.length:Int) - 1)) 0)) (Ar.std.shl IntKind.u8 (Ar.std.wrap IntKind.u8 (Ar.std.bit BinOp.and IntKind.i64 (Ar.std.shr IntKind.i64 d0 k0) 1)) (k2 - 1)))]) (k2 - 1)/\m5 (k0 - 1) (List.set k1 (Int.toNat ((k1.length:Int) - 1)) [D.i (Ar.std.bit BinOp.or IntKind.u8 (D.int (gt k1 (Int.toNat ((k1.length:Int) - 1)) 0)) (Ar.std.shl IntKind.u8 (Ar.std.wrap IntKind.u8 (Ar.std.bit BinOp.and IntKind.i64 (Ar.std.shr IntKind.i64 d0 k0) 1)) (k2 - 1)))]) (k2 - 1) < m5 k0 k1 k2
 g80:(¬0<=k0)->vZ63 ((b3+d0))
 g81:(¬0<=k0)->vZ63 ((b4+1))
 g82:(¬0<=k0)->((b4+1)=64)->(2:Int)≠0
 g83:(¬0<=k0)->((b4+1)=64)->vZ63 ((Int.tdiv (b3+d0) 2))
 g85:(¬0<=k0)->((b4+1)=64)->vZ63 ((Int.tdiv (b4+1) 2))
 n86:(¬0<=k0)->((b4+1)=64)->I3 k1 k2 (Int.tdiv (b3+d0) 2) (Int.tdiv (b4+1) 2)
 n87:(¬0<=k0)->(¬(b4+1)=64)->I3 k1 k2 (b3+d0) (b4+1)
abbrev V63l5 (fn:Nat->List (List D)->Nat->Nat->D) (b3:Int) (b4:Int) (d0:Int) (j1:Rows) (j2:Int) (I3:Rows->Int->Int->Int->Prop):Prop:=∃(I5:Int->Rows->Int->Prop) (m5:Int->Rows->Int->Nat),I5 ((D.int (fn 92 [[D.i b3,D.i b4]] 0 0)) - 1) j1 j2/\∀k0 k1 k2,I5 k0 k1 k2->V63c5 b3 b4 d0 k0 k1 k2 I3 I5 m5
structure V63c4 (fn:Nat->List (List D)->Nat->Nat->D) (b3:Int) (b4:Int) (d0:Int) (j0:Int) (j1:Rows) (j2:Int) (I3:Rows->Int->Int->Int->Prop) (I4:Int->Rows->Int->Prop) (m4:Int->Rows->Int->Nat):Prop where
 g24:(0<=j0)->(j2=0)->(j1.length+(List.length ([[D.i 0]]:Rows))) * 1<=4294967296/\(j1.length+(List.length ([[D.i 0]]:Rows)))<=4294967296
 g25:(0<=j0)->(j2=0)->vZ63 (((8 - 1):Int))
 g26:(0<=j0)->(j2=0)->vZ63 (((((j1++[[D.i 0]])).length:Int) - 1))
 g27:(0<=j0)->(j2=0)->0<=((((j1++[[D.i 0]])).length:Int) - 1)
 g28:(0<=j0)->(j2=0)->((((j1++[[D.i 0]])).length:Int) - 1) < (((j1++[[D.i 0]])).length:Int)
 g29:(0<=j0)->(j2=0)->(((Int.toNat ((((j1++[[D.i 0]])).length:Int) - 1):Nat):Int)) < (((j1++[[D.i 0]])).length:Int)
 g31:(0<=j0)->(j2=0)->0<=j0
 g32:(0<=j0)->(j2=0)->(0:Int)<=(8 - 1)
 g36:(0<=j0)->(j2=0)->vZ63 ((j0 - 1))
 n37:(0<=j0)->(j2=0)->I4 (j0 - 1) (List.set (j1++[[D.i 0]]) (Int.toNat ((((j1++[[D.i 0]])).length:Int) - 1)) [D.i (Ar.std.bit BinOp.or IntKind.u8 (D.int (gt (j1++[[D.i 0]]) (Int.toNat ((((j1++[[D.i 0]])).length:Int) - 1)) 0)) (Ar.std.shl IntKind.u8 (Ar.std.wrap IntKind.u8 (Ar.std.bit BinOp.and IntKind.i64 (Ar.std.shr IntKind.i64 ((Ar.std.shl IntKind.i64 1 ((Ar.std.shr IntKind.i64 d0 (D.int (fn 92 [[D.i b3,D.i b4]] 0 0)))+1)) - 2) j0) 1)) (8 - 1)))]) (8 - 1)/\m4 (j0 - 1) (List.set (j1++[[D.i 0]]) (Int.toNat ((((j1++[[D.i 0]])).length:Int) - 1)) [D.i (Ar.std.bit BinOp.or IntKind.u8 (D.int (gt (j1++[[D.i 0]]) (Int.toNat ((((j1++[[D.i 0]])).length:Int) - 1)) 0)) (Ar.std.shl IntKind.u8 (Ar.std.wrap IntKind.u8 (Ar.std.bit BinOp.and IntKind.i64 (Ar.std.shr IntKind.i64 ((Ar.std.shl IntKind.i64 1 ((Ar.std.shr IntKind.i64 d0 (D.int (fn 92 [[D.i b3,D.i b4]] 0 0)))+1)) - 2) j0) 1)) (8 - 1)))]) (8 - 1) < m4 j0 j1 j2
 g38:(0<=j0)->(¬j2=0)->vZ63 ((j2 - 1))
 g39:(0<=j0)->(¬j2=0)->vZ63 (((j1.length:Int) - 1))
 g40:(0<=j0)->(¬j2=0)->0<=((j1.length:Int) - 1)
 g41:(0<=j0)->(¬j2=0)->((j1.length:Int) - 1) < (j1.length:Int)
 g42:(0<=j0)->(¬j2=0)->(((Int.toNat ((j1.length:Int) - 1):Nat):Int)) < (j1.length:Int)
 g44:(0<=j0)->(¬j2=0)->0<=j0
 g45:(0<=j0)->(¬j2=0)->0<=(j2 - 1)
 g49:(0<=j0)->(¬j2=0)->vZ63 ((j0 - 1))
 n50:(0<=j0)->(¬j2=0)->I4 (j0 - 1) (List.set j1 (Int.toNat ((j1.length:Int) - 1)) [D.i (Ar.std.bit BinOp.or IntKind.u8 (D.int (gt j1 (Int.toNat ((j1.length:Int) - 1)) 0)) (Ar.std.shl IntKind.u8 (Ar.std.wrap IntKind.u8 (Ar.std.bit BinOp.and IntKind.i64 (Ar.std.shr IntKind.i64 ((Ar.std.shl IntKind.i64 1 ((Ar.std.shr IntKind.i64 d0 (D.int (fn 92 [[D.i b3,D.i b4]] 0 0)))+1)) - 2) j0) 1)) (j2 - 1)))]) (j2 - 1)/\m4 (j0 - 1) (List.set j1 (Int.toNat ((j1.length:Int) - 1)) [D.i (Ar.std.bit BinOp.or IntKind.u8 (D.int (gt j1 (Int.toNat ((j1.length:Int) - 1)) 0)) (Ar.std.shl IntKind.u8 (Ar.std.wrap IntKind.u8 (Ar.std.bit BinOp.and IntKind.i64 (Ar.std.shr IntKind.i64 ((Ar.std.shl IntKind.i64 1 ((Ar.std.shr IntKind.i64 d0 (D.int (fn 92 [[D.i b3,D.i b4]] 0 0)))+1)) - 2) j0) 1)) (j2 - 1)))]) (j2 - 1) < m4 j0 j1 j2
 g51:(¬0<=j0)->vZ63 (((D.int (fn 92 [[D.i b3,D.i b4]] 0 0)) - 1))
 l5:(¬0<=j0)->V63l5 fn b3 b4 d0 j1 j2 I3
abbrev V63l4 (fn:Nat->List (List D)->Nat->Nat->D) (b1:Rows) (b2:Int) (b3:Int) (b4:Int) (d0:Int) (I3:Rows->Int->Int->Int->Prop):Prop:=∃(I4:Int->Rows->Int->Prop) (m4:Int->Rows->Int->Nat),I4 (((Ar.std.shr IntKind.i64 d0 (D.int (fn 92 [[D.i b3,D.i b4]] 0 0)))+1) - 1) b1 b2/\∀j0 j1 j2,I4 j0 j1 j2->V63c4 fn b3 b4 d0 j0 j1 j2 I3 I4 m4
abbrev V63l7 (b3:Int) (b4:Int) (d0:Int) (o1:Rows) (o2:Int) (I3:Rows->Int->Int->Int->Prop):Prop:=∃(I7:Int->Rows->Int->Prop) (m7:Int->Rows->Int->Nat),I7 (31 - 1) o1 o2/\∀q0 q1 q2,I7 q0 q1 q2->V63c5 b3 b4 d0 q0 q1 q2 I3 I7 m7
structure V63c6 (b3:Int) (b4:Int) (d0:Int) (o0:Int) (o1:Rows) (o2:Int) (I3:Rows->Int->Int->Int->Prop) (I6:Int->Rows->Int->Prop) (m6:Int->Rows->Int->Nat):Prop where
 g90:(0<=o0)->(o2=0)->(o1.length+(List.length ([[D.i 0]]:Rows))) * 1<=4294967296/\(o1.length+(List.length ([[D.i 0]]:Rows)))<=4294967296
 g91:(0<=o0)->(o2=0)->vZ63 (((8 - 1):Int))
 g92:(0<=o0)->(o2=0)->vZ63 (((((o1++[[D.i 0]])).length:Int) - 1))
 g93:(0<=o0)->(o2=0)->0<=((((o1++[[D.i 0]])).length:Int) - 1)
 g94:(0<=o0)->(o2=0)->((((o1++[[D.i 0]])).length:Int) - 1) < (((o1++[[D.i 0]])).length:Int)
 g95:(0<=o0)->(o2=0)->(((Int.toNat ((((o1++[[D.i 0]])).length:Int) - 1):Nat):Int)) < (((o1++[[D.i 0]])).length:Int)
 g97:(0<=o0)->(o2=0)->0<=o0
 g98:(0<=o0)->(o2=0)->(0:Int)<=(8 - 1)
 g102:(0<=o0)->(o2=0)->vZ63 ((o0 - 1))
 n103:(0<=o0)->(o2=0)->I6 (o0 - 1) (List.set (o1++[[D.i 0]]) (Int.toNat ((((o1++[[D.i 0]])).length:Int) - 1)) [D.i (Ar.std.bit BinOp.or IntKind.u8 (D.int (gt (o1++[[D.i 0]]) (Int.toNat ((((o1++[[D.i 0]])).length:Int) - 1)) 0)) (Ar.std.shl IntKind.u8 (Ar.std.wrap IntKind.u8 (Ar.std.bit BinOp.and IntKind.i64 (Ar.std.shr IntKind.i64 16777215 o0) 1)) (8 - 1)))]) (8 - 1)/\m6 (o0 - 1) (List.set (o1++[[D.i 0]]) (Int.toNat ((((o1++[[D.i 0]])).length:Int) - 1)) [D.i (Ar.std.bit BinOp.or IntKind.u8 (D.int (gt (o1++[[D.i 0]]) (Int.toNat ((((o1++[[D.i 0]])).length:Int) - 1)) 0)) (Ar.std.shl IntKind.u8 (Ar.std.wrap IntKind.u8 (Ar.std.bit BinOp.and IntKind.i64 (Ar.std.shr IntKind.i64 16777215 o0) 1)) (8 - 1)))]) (8 - 1) < m6 o0 o1 o2
 g104:(0<=o0)->(¬o2=0)->vZ63 ((o2 - 1))
 g105:(0<=o0)->(¬o2=0)->vZ63 (((o1.length:Int) - 1))
 g106:(0<=o0)->(¬o2=0)->0<=((o1.length:Int) - 1)
 g107:(0<=o0)->(¬o2=0)->((o1.length:Int) - 1) < (o1.length:Int)
 g108:(0<=o0)->(¬o2=0)->(((Int.toNat ((o1.length:Int) - 1):Nat):Int)) < (o1.length:Int)
 g110:(0<=o0)->(¬o2=0)->0<=o0
 g111:(0<=o0)->(¬o2=0)->0<=(o2 - 1)
 g115:(0<=o0)->(¬o2=0)->vZ63 ((o0 - 1))
 n116:(0<=o0)->(¬o2=0)->I6 (o0 - 1) (List.set o1 (Int.toNat ((o1.length:Int) - 1)) [D.i (Ar.std.bit BinOp.or IntKind.u8 (D.int (gt o1 (Int.toNat ((o1.length:Int) - 1)) 0)) (Ar.std.shl IntKind.u8 (Ar.std.wrap IntKind.u8 (Ar.std.bit BinOp.and IntKind.i64 (Ar.std.shr IntKind.i64 16777215 o0) 1)) (o2 - 1)))]) (o2 - 1)/\m6 (o0 - 1) (List.set o1 (Int.toNat ((o1.length:Int) - 1)) [D.i (Ar.std.bit BinOp.or IntKind.u8 (D.int (gt o1 (Int.toNat ((o1.length:Int) - 1)) 0)) (Ar.std.shl IntKind.u8 (Ar.std.wrap IntKind.u8 (Ar.std.bit BinOp.and IntKind.i64 (Ar.std.shr IntKind.i64 16777215 o0) 1)) (o2 - 1)))]) (o2 - 1) < m6 o0 o1 o2
 g117:(¬0<=o0)->vZ63 (((31 - 1):Int))
 l7:(¬0<=o0)->V63l7 b3 b4 d0 o1 o2 I3
abbrev V63l6 (b1:Rows) (b2:Int) (b3:Int) (b4:Int) (d0:Int) (I3:Rows->Int->Int->Int->Prop):Prop:=∃(I6:Int->Rows->Int->Prop) (m6:Int->Rows->Int->Nat),I6 (24 - 1) b1 b2/\∀o0 o1 o2,I6 o0 o1 o2->V63c6 b3 b4 d0 o0 o1 o2 I3 I6 m6
structure V63r3 (pre:Nat->List (List D)->Prop) (fn:Nat->List (List D)->Nat->Nat->D) (b1:Rows) (b2:Int) (b3:Int) (b4:Int) (d0:Int) (I3:Rows->Int->Int->Int->Prop):Prop where
 g16:pre 92 [[D.i b3,D.i b4]]
 g17:0<=(D.int (fn 92 [[D.i b3,D.i b4]] 0 0))
 g18:((Ar.std.shr IntKind.i64 d0 (D.int (fn 92 [[D.i b3,D.i b4]] 0 0))) < 24)->vZ63 (((Ar.std.shr IntKind.i64 d0 (D.int (fn 92 [[D.i b3,D.i b4]] 0 0)))+1))
 g19:((Ar.std.shr IntKind.i64 d0 (D.int (fn 92 [[D.i b3,D.i b4]] 0 0))) < 24)->0<=((Ar.std.shr IntKind.i64 d0 (D.int (fn 92 [[D.i b3,D.i b4]] 0 0)))+1)
 g20:((Ar.std.shr IntKind.i64 d0 (D.int (fn 92 [[D.i b3,D.i b4]] 0 0))) < 24)->vZ63 (((Ar.std.shl IntKind.i64 1 ((Ar.std.shr IntKind.i64 d0 (D.int (fn 92 [[D.i b3,D.i b4]] 0 0)))+1)) - 2))
 g22:((Ar.std.shr IntKind.i64 d0 (D.int (fn 92 [[D.i b3,D.i b4]] 0 0))) < 24)->vZ63 ((((Ar.std.shr IntKind.i64 d0 (D.int (fn 92 [[D.i b3,D.i b4]] 0 0)))+1) - 1))
 g88:(¬(Ar.std.shr IntKind.i64 d0 (D.int (fn 92 [[D.i b3,D.i b4]] 0 0))) < 24)->vZ63 (((24 - 1):Int))
 l4:((Ar.std.shr IntKind.i64 d0 (D.int (fn 92 [[D.i b3,D.i b4]] 0 0))) < 24)->V63l4 fn b1 b2 b3 b4 d0 I3
 l6:(¬(Ar.std.shr IntKind.i64 d0 (D.int (fn 92 [[D.i b3,D.i b4]] 0 0))) < 24)->V63l6 b1 b2 b3 b4 d0 I3
structure V63c8 (a0:Rows) (b0:Int) (b1:Rows) (b2:Int) (b3:Int) (b4:Int) (b5:Int) (b6:Int) (b7:Int) (b8:Int) (f2:Int) (f3:Int) (r0:Rows) (r1:Int) (r2:Int) (r3:Int) (I0:Int->Rows->Int->Int->Int->Int->Int->Int->Int->Prop) (m0:Int->Rows->Int->Int->Int->Int->Int->Int->Int->Nat):Prop where
 g293:vZ63 ((b0+1))
 n294:I0 (b0+1) r0 r1 f2 f3 r2 r3 (D.int (gt a0 b0.toNat 0)) (D.int (gt a0 b0.toNat 1))/\m0 (b0+1) r0 r1 f2 f3 r2 r3 (D.int (gt a0 b0.toNat 0)) (D.int (gt a0 b0.toNat 1)) < m0 b0 b1 b2 b3 b4 b5 b6 b7 b8
abbrev V63j8 (pre:Nat->List (List D)->Prop) (fn:Nat->List (List D)->Nat->Nat->D) (a0:Rows) (b0:Int) (b1:Rows) (b2:Int) (b3:Int) (b4:Int) (b5:Int) (b6:Int) (b7:Int) (b8:Int) (e0:Int) (f0:Rows) (f1:Int) (f2:Int) (f3:Int) (I0:Int->Rows->Int->Int->Int->Int->Int->Int->Int->Prop) (m0:Int->Rows->Int->Int->Int->Int->Int->Int->Int->Nat):Prop:=∃(I8:Rows->Int->Int->Int->Prop),V63r3 pre fn f0 f1 b5 b6 e0 I8/\∀r0 r1 r2 r3,I8 r0 r1 r2 r3->V63c8 a0 b0 b1 b2 b3 b4 b5 b6 b7 b8 f2 f3 r0 r1 r2 r3 I0 m0
structure V63c3 (pre:Nat->List (List D)->Prop) (fn:Nat->List (List D)->Nat->Nat->D) (a0:Rows) (b0:Int) (b1:Rows) (b2:Int) (b3:Int) (b4:Int) (b5:Int) (b6:Int) (b7:Int) (b8:Int) (e0:Int) (f0:Rows) (f1:Int) (f2:Int) (f3:Int) (I0:Int->Rows->Int->Int->Int->Int->Int->Int->Int->Prop) (m0:Int->Rows->Int->Int->Int->Int->Int->Int->Int->Nat):Prop where
 l8:V63j8 pre fn a0 b0 b1 b2 b3 b4 b5 b6 b7 b8 e0 f0 f1 f2 f3 I0 m0
abbrev V63j3 (pre:Nat->List (List D)->Prop) (fn:Nat->List (List D)->Nat->Nat->D) (a0:Rows) (b0:Int) (b1:Rows) (b2:Int) (b3:Int) (b4:Int) (b5:Int) (b6:Int) (b7:Int) (b8:Int) (d0:Int) (e0:Int) (I0:Int->Rows->Int->Int->Int->Int->Int->Int->Int->Prop) (m0:Int->Rows->Int->Int->Int->Int->Int->Int->Int->Nat):Prop:=∃(I3:Rows->Int->Int->Int->Prop),V63r3 pre fn b1 b2 b3 b4 d0 I3/\∀f0 f1 f2 f3,I3 f0 f1 f2 f3->V63c3 pre fn a0 b0 b1 b2 b3 b4 b5 b6 b7 b8 e0 f0 f1 f2 f3 I0 m0
structure V63c2 (pre:Nat->List (List D)->Prop) (fn:Nat->List (List D)->Nat->Nat->D) (a0:Rows) (b0:Int) (b1:Rows) (b2:Int) (b3:Int) (b4:Int) (b5:Int) (b6:Int) (b7:Int) (b8:Int) (d0:Int) (e0:Int) (I0:Int->Rows->Int->Int->Int->Int->Int->Int->Int->Prop) (m0:Int->Rows->Int->Int->Int->Int->Int->Int->Int->Nat):Prop where
 l3:V63j3 pre fn a0 b0 b1 b2 b3 b4 b5 b6 b7 b8 d0 e0 I0 m0
abbrev V63j2 (pre:Nat->List (List D)->Prop) (fn:Nat->List (List D)->Nat->Nat->D) (a0:Rows) (b0:Int) (b1:Rows) (b2:Int) (b3:Int) (b4:Int) (b5:Int) (b6:Int) (b7:Int) (b8:Int) (d0:Int) (I0:Int->Rows->Int->Int->Int->Int->Int->Int->Int->Prop) (m0:Int->Rows->Int->Int->Int->Int->Int->Int->Int->Nat):Prop:=∃(I2:Int->Prop),V63r2 a0 b0 b7 b8 I2/\∀e0,I2 e0->V63c2 pre fn a0 b0 b1 b2 b3 b4 b5 b6 b7 b8 d0 e0 I0 m0
structure V63c1 (pre:Nat->List (List D)->Prop) (fn:Nat->List (List D)->Nat->Nat->D) (a0:Rows) (b0:Int) (b1:Rows) (b2:Int) (b3:Int) (b4:Int) (b5:Int) (b6:Int) (b7:Int) (b8:Int) (d0:Int) (I0:Int->Rows->Int->Int->Int->Int->Int->Int->Int->Prop) (m0:Int->Rows->Int->Int->Int->Int->Int->Int->Int->Nat):Prop where
 l2:V63j2 pre fn a0 b0 b1 b2 b3 b4 b5 b6 b7 b8 d0 I0 m0
abbrev V63j1 (pre:Nat->List (List D)->Prop) (fn:Nat->List (List D)->Nat->Nat->D) (a0:Rows) (b0:Int) (b1:Rows) (b2:Int) (b3:Int) (b4:Int) (b5:Int) (b6:Int) (b7:Int) (b8:Int) (I0:Int->Rows->Int->Int->Int->Int->Int->Int->Int->Prop) (m0:Int->Rows->Int->Int->Int->Int->Int->Int->Int->Nat):Prop:=∃(I1:Int->Prop),V63r1 a0 b0 b7 I1/\∀d0,I1 d0->V63c1 pre fn a0 b0 b1 b2 b3 b4 b5 b6 b7 b8 d0 I0 m0
structure V63c0 (pre:Nat->List (List D)->Prop) (fn:Nat->List (List D)->Nat->Nat->D) (a0:Rows) (R:Nat->Nat->D) (b0:Int) (b1:Rows) (b2:Int) (b3:Int) (b4:Int) (b5:Int) (b6:Int) (b7:Int) (b8:Int) (I0:Int->Rows->Int->Int->Int->Int->Int->Int->Int->Prop) (m0:Int->Rows->Int->Int->Int->Int->Int->Int->Int->Nat):Prop where
 g3:(b0 < (a0.length:Int))->0<=b0
 g4:(b0 < (a0.length:Int))->b0 < (a0.length:Int)
 g5:(b0 < (a0.length:Int))->(((Int.toNat b0:Nat):Int)) < (a0.length:Int)
 g295:(¬b0 < (a0.length:Int))->pre 67 [[D.l b1]]
 g296:(¬b0 < (a0.length:Int))->(b1.length+(List.length ([[D.i (D.int (fn 67 [[D.l b1]] 0 0))],[D.i (D.int (fn 67 [[D.l b1]] 0 1))]]:Rows))) * 1<=4294967296/\(b1.length+(List.length ([[D.i (D.int (fn 67 [[D.l b1]] 0 0))],[D.i (D.int (fn 67 [[D.l b1]] 0 1))]]:Rows)))<=4294967296
 g297:(¬b0 < (a0.length:Int))->R 0 0=D.l (b1++[[D.i (D.int (fn 67 [[D.l b1]] 0 0))],[D.i (D.int (fn 67 [[D.l b1]] 0 1))]])
 l1:(b0 < (a0.length:Int))->V63j1 pre fn a0 b0 b1 b2 b3 b4 b5 b6 b7 b8 I0 m0
abbrev V63l0 (pre:Nat->List (List D)->Prop) (fn:Nat->List (List D)->Nat->Nat->D) (a0:Rows) (R:Nat->Nat->D):Prop:=∃(I0:Int->Rows->Int->Int->Int->Int->Int->Int->Int->Prop) (m0:Int->Rows->Int->Int->Int->Int->Int->Int->Int->Nat),I0 0 [[D.i 71],[D.i 83],[D.i (Ar.std.wrap IntKind.u8 (Ar.std.shr IntKind.i64 (a0.length:Int) 16))],[D.i (Ar.std.wrap IntKind.u8 (Ar.std.shr IntKind.i64 (a0.length:Int) 8))],[D.i (Ar.std.wrap IntKind.u8 (a0.length:Int))]] 0 4 1 4 1 (-1) 0/\∀b0 b1 b2 b3 b4 b5 b6 b7 b8,I0 b0 b1 b2 b3 b4 b5 b6 b7 b8->V63c0 pre fn a0 R b0 b1 b2 b3 b4 b5 b6 b7 b8 I0 m0
structure V63 (pre:Nat->List (List D)->Prop) (fn:Nat->List (List D)->Nat->Nat->D) (a0:Rows) (R:Nat->Nat->D):Prop where
 g0:(0:Int)<=16
 g1:(0:Int)<=8
 l0:V63l0 pre fn a0 R
end HX

namespace HX
open Go Go.Proofs CX
theorem law92 {a n:Int} {R:Nat->Nat->D} (hR:R 0 0=.i (lowK (a,n))):V92 a n R (fun k=>∃f:Nat,f<=24/\k=(24 - f:Nat)/\lowG a n 24=lowG a n f) (fun k=>(24 - k).toNat):=by
 have hR':R 0 0=.i (lowG a n 24):=hR
 constructor
 case i0=>exact ⟨24,zB _,rfl,rfl⟩
 all_goals (intro k hI;obtain ⟨f,h1,h2,h3⟩:=hI;subst h2)
 case g1 |g2=>intros;omega
 case n3=>
  intro hk hs
  obtain ⟨g,rfl⟩:∃g,f=g+1:=⟨f - 1,by omega⟩
  refine ⟨⟨g,by omega,by omega,?_⟩,by omega⟩
  rw [h3,lowG,if_pos (by rw [show 23 - g=24 - (g+1) by omega];exact hs)]
 case g4=>
  intro hk hs
  obtain ⟨g,rfl⟩:∃g,f=g+1:=⟨f - 1,by omega⟩
  rw [hR',h3,lowG,if_neg (by rw [show 23 - g=24 - (g+1) by omega];exact hs)]
  congr 2
  omega
 case g5=>
  intro hk
  obtain rfl:f=0:=by omega
  rw [hR',h3]
  rfl
structure LI (v:Int) (N:Nat) (s0:Rows×Int) (k:Int) (s:Rows×Int):Prop where
 lo:-1<=k
 hi:k+1<=N
 wf:Wf s
 bits:bitsN s+(k+1)=bitsN s0+N
 to:putN v (k+1).toNat s=putN v N s0
theorem LI.start {v:Int} {N:Nat} {s0:Rows×Int} (h:Wf s0) {k:Int} (e:k+1=N):LI v N s0 k s0:=
 ⟨by omega,by omega,h,by omega,by rw [show (k+1).toNat=N by omega]⟩
theorem LI.step {v:Int} {N:Nat} {s0:Rows×Int} {k:Int} {s:Rows×Int} (h:LI v N s0 k s) (hk:0<=k):LI v N s0 (k - 1) (put1 s v k):=by
 obtain ⟨h1,h2,h3,h4,h5⟩:=h
 obtain ⟨a,b⟩:=put1_wf h3 v k
 refine ⟨by omega,by omega,a,by omega,?_⟩
 rw [<-h5,show (k+1).toNat=(k - 1+1).toNat+1 by omega,putN,show (((k - 1+1).toNat:Nat):Int)=k by omega]
theorem LI.stop {v:Int} {N:Nat} {s0:Rows×Int} {k:Int} {s:Rows×Int} (h:LI v N s0 k s) (hk:¬0<=k):s=putN v N s0:=by
 have:=h.lo
 rw [<-h.to,show (k+1).toNat=0 by omega,putN]
theorem put1_0 {o:Rows} {r v k:Int} (h:r=0):put1 (o,r) v k=(orL (o++[[D.i 0]]) (bitB v k) (8 - 1),8 - 1):=if_pos h
theorem put1_1 {o:Rows} {r v k:Int} (h:¬r=0):put1 (o,r) v k=(orL o (bitB v k) (r - 1),r - 1):=if_neg h
theorem law63r {pre:Nat->List (List D)->Prop} {fn:Nat->List (List D)->Nat->Nat->D} (hp92:∀x,pre 92 x) (hf92:∀a n,fn 92 [[.i a,.i n]] 0 0=.i (lowK (a,n)))
  {o:Rows} {r a n v:Int} (hw:Wf (o,r)) (hb:bitsN (o,r)<=20000000000) (hm:MOk (a,n)) (h0:0<=v) (h1:v<=8589934592) :
  V63r3 pre fn o r a n v (fun o' r' a' n'=>(o',r')=wrS (a,n) v (o,r)/\(a',n')=lrn (a,n) v):=by
 have hi:∀n:Int,(D.i n).int=n:=fun _=>rfl
 have hk:=lowK_le (a,n)
 have hq:=shr_bd (v:=v) (k:=(lowK (a,n):Int)) h0 (by omega) (by omega)
 have a0:=hm.a0;have a1:=hm.a1;have n0:=hm.n0;have n1:=hm.n1
 simp only [] at a0 a1 n0 n1
 obtain ⟨K,hK⟩:∃K,lowK (a,n)=K:=⟨_,rfl⟩
 obtain ⟨q,hqe⟩:∃q,Ar.std.shr .i64 v (K:Int)=q:=⟨_,rfl⟩
 rw [hK] at hk hq
 rw [hqe] at hq
 have lrn_y:n+1=64->(Int.tdiv (a+v) 2,Int.tdiv (n+1) 2)=lrn (a,n) v:=fun h=>(if_pos h).symm
 have lrn_n:¬n+1=64->(a+v,n+1)=lrn (a,n) v:=fun h=>(if_neg h).symm
 have lenB:∀{x:Rows} {y:Int},Wf (x,y)->bitsN (x,y)<=20000000100->0 < x.length/\x.length<=2500000014/\0<=y/\y<=7:=fun {x y} w b=>by
  have:=w.pos;have:=w.r0;have:=w.r7
  simp only [bitsN] at *
  omega
 have shl1:q < 24->Ar.std.shl .i64 1 (q+1)=2 ^ (q+1).toNat/\(1:Int)<=2 ^ (q+1).toNat/\(2:Int) ^ (q+1).toNat<=16777216:=fun h=>⟨shl_one (by omega) (by omega),pow_le _ (by omega)⟩
 have wl:wrS (a,n) v (o,r)=if q < 24 then putN v K (putN (Ar.std.shl .i64 1 (q+1) - 2) (q+1).toNat (o,r)) else putN v 31 (putN 16777215 24 (o,r)):=by rw [<-hqe,<-hK];rfl
 have td:Int.tdiv (a+v) 2=(a+v) / 2:=xL (by omega)
 have td2:Int.tdiv (n+1) 2=(n+1) / 2:=xL (by omega)
 constructor
 all_goals (try simp only [hf92,hi,hK,hqe])
 case g16=>exact hp92 _
 case l4=>
  intro hq24
  rw [if_pos hq24] at wl
  have sh:=shl1 hq24
  obtain ⟨w,hwe⟩:∃w,Ar.std.shl .i64 1 (q+1) - 2=w:=⟨_,rfl⟩
  rw [hwe] at wl
  obtain ⟨w1,w2⟩:=putN_wf w (q+1).toNat hw
  refine ⟨fun k x y=>LI w (q+1).toNat (o,r) k (x,y),fun k _ _=>(k+1).toNat,?_,fun k x y hI=>?_⟩
  ·simp only [hf92,hi,hK,hqe];exact LI.start hw (by omega)
  have lb:=lenB hI.wf (by have:=hI.bits;have:=hI.lo;omega)
  have i1:=hI.lo
  have i2:=hI.hi
  constructor
  all_goals (try simp only [hf92,hi,hK,hqe,hwe,vZ63])
  case n37=>intro h1 h2;have:=hI.step h1;rw [put1_0 h2] at this;exact ⟨this,by omega⟩
  case n50=>intro h1 h2;have:=hI.step h1;rw [put1_1 h2] at this;exact ⟨this,by omega⟩
  case l5=>
   intro hs
   have st:=hI.stop hs
   rw [<-st] at w1 w2 wl
   refine ⟨fun k x' y'=>LI v K (x,y) k (x',y'),fun k _ _=>(k+1).toNat,?_,fun k x' y' hI=>?_⟩
   ·simp only [hf92,hi,hK];exact LI.start w1 (by omega)
   have lb:=lenB hI.wf (by have:=hI.bits;have:=hI.lo;omega)
   have i1:=hI.lo
   have i2:=hI.hi
   constructor
   all_goals (try simp only [vZ63])
   case n66=>intro h1 h2;have:=hI.step h1;rw [put1_0 h2] at this;exact ⟨this,by omega⟩
   case n79=>intro h1 h2;have:=hI.step h1;rw [put1_1 h2] at this;exact ⟨this,by omega⟩
   case n86=>intro h1 h2;exact ⟨by rw [wl];exact hI.stop h1,lrn_y h2⟩
   case n87=>intro h1 h2;exact ⟨by rw [wl];exact hI.stop h1,lrn_n h2⟩
   all_goals (try simp only [zP,zH,zK])
   all_goals (intros;omega)
  all_goals (try simp only [zP,zH,zK])
  all_goals (intros;omega)
 case l6=>
  intro hq24
  rw [if_neg hq24] at wl
  obtain ⟨w1,w2⟩:=putN_wf 16777215 24 hw
  refine ⟨fun k x y=>LI 16777215 24 (o,r) k (x,y),fun k _ _=>(k+1).toNat,LI.start hw (by omega),fun k x y hI=>?_⟩
  have lb:=lenB hI.wf (by have:=hI.bits;have:=hI.lo;omega)
  have i1:=hI.lo
  have i2:=hI.hi
  constructor
  all_goals (try simp only [vZ63])
  case n103 |n116=>
   intro h1 h2;have:=hI.step h1
   first |rw [put1_0 h2] at this |rw [put1_1 h2] at this
   exact ⟨this,by omega⟩
  case l7=>
   intro hs
   have st:=hI.stop hs
   rw [<-st] at w1 w2 wl
   refine ⟨fun k x' y'=>LI v 31 (x,y) k (x',y'),fun k _ _=>(k+1).toNat,LI.start w1 (by omega),fun k x' y' hI=>?_⟩
   have lb:=lenB hI.wf (by have:=hI.bits;have:=hI.lo;omega)
   have i1:=hI.lo
   have i2:=hI.hi
   constructor
   all_goals (try simp only [vZ63])
   case n66 |n79=>
    intro h1 h2;have:=hI.step h1
    first |rw [put1_0 h2] at this |rw [put1_1 h2] at this
    exact ⟨this,by omega⟩
   case n86=>intro h1 h2;exact ⟨by rw [wl];exact hI.stop h1,lrn_y h2⟩
   case n87=>intro h1 h2;exact ⟨by rw [wl];exact hI.stop h1,lrn_n h2⟩
   all_goals (try simp only [zP,zH,zK])
   all_goals (intros;omega)
  all_goals (try simp only [zP,zH,zK])
  all_goals (intros;omega)
 case g20=>intro h;have:=shl1 h;simp only [vZ63];omega
 all_goals (try simp only [vZ63])
 all_goals (intros;omega)
end HX

namespace HX
open Go Go.Proofs CX
def sumS (l:Rows):Nat->Int×Int
 |0=>(0,0)
 |q+1=>(Int.tmod ((sumS l q).1+(gt l q 0).int) 255,Int.tmod ((sumS l q).2+Int.tmod ((sumS l q).1+(gt l q 0).int) 255) 255)
def sum0 (l:Rows):Int:=Ar.std.wrap .u8 (sumS l l.length).1
def sum1 (l:Rows):Int:=Ar.std.wrap .u8 (sumS l l.length).2
def packP (l:Rows):Rows:=(pkS l l.length).o++[[.i (sum0 (pkS l l.length).o)],[.i (sum1 (pkS l l.length).o)]]
theorem law63 {pre:Nat->List (List D)->Prop} {fn:Nat->List (List D)->Nat->Nat->D} (hp92:∀x,pre 92 x) (hf92:∀a n,fn 92 [[.i a,.i n]] 0 0=.i (lowK (a,n)))
  (hp67:∀l:Rows,(∀i,i < l.length->0<=(gt l i 0).int/\(gt l i 0).int<=255)->l.length<=4000000000->pre 67 [[.l l]]) (hf67:∀l,fn 67 [[.l l]] 0 0=.i (sum0 l)/\fn 67 [[.l l]] 0 1=.i (sum1 l))
  {a0:Rows} (hl:a0.length<=65536) (he:EvOk' a0) (hby:∀q,q<=a0.length->∀i,i < (pkS a0 q).o.length->0<=(gt (pkS a0 q).o i 0).int/\(gt (pkS a0 q).o i 0).int<=255) {R:Nat->Nat->D} (hR:R 0 0=.l (packP a0)):V63 pre fn a0 R:=by
 have hi:∀n:Int,(D.i n).int=n:=fun _=>rfl
 refine ⟨by decide,by decide,fun i o r ta tn da dn bt bi=>∃q:Nat,i=q/\q<=a0.length/\(⟨o,r,(ta,tn),(da,dn),bt,bi⟩:PkS)=pkS a0 q,fun i _ _ _ _ _ _ _ _=>(a0.length - i).toNat,⟨0,rfl,by omega,rfl⟩,?_⟩
 intro i o r ta tn da dn bt bi hI
 obtain ⟨q,hq,hql,hs⟩:=hI
 subst hq
 obtain ⟨w,b1,b2,m1,m2⟩:=pk_ok he q hql
 have hb':=hby q hql
 have ho:(pkS a0 q).o=o:=by rw [<-hs]
 have hr:(pkS a0 q).r=r:=by rw [<-hs]
 have ht:(pkS a0 q).t=(ta,tn):=by rw [<-hs]
 have hd:(pkS a0 q).d=(da,dn):=by rw [<-hs]
 have hbt:(pkS a0 q).bt=bt:=by rw [<-hs]
 have hbi:(pkS a0 q).bi=bi:=by rw [<-hs]
 rw [ho] at hb'
 rw [ho,hr] at w b1 b2
 rw [ht] at m1
 rw [hd] at m2
 have lo:o.length<=1000000:=by
  have:=w.r7;have:=w.r0
  simp only [bitsN] at b2 this
  omega
 constructor
 case l1=>
  intro hx
  obtain ⟨g1,g2⟩:=gap_bd he (q:=q) (by omega)
  rw [hbt] at g1
  rw [hbt,hbi] at g2
  have tq:=he.rt q (by omega)
  have iq:=he.ri q (by omega)
  have bb:=pk_before a0 q
  rw [hbt,hbi] at bb
  have bt1:-1<=bt/\bt<=1073741824/\0<=bi/\bi<=65535:=by
   rw [bb.1,bb.2]
   split
   ·omega
   have:=he.rt (q - 1) (by omega);have:=he.ri (q - 1) (by omega);omega
  have e1:(D.int (gt a0 ((q:Int)).toNat 0))=eT a0 q:=by rw [zW];rfl
  have e2:(D.int (gt a0 ((q:Int)).toNat 1))=eI a0 q:=by rw [zW];rfl
  refine ⟨fun d=>d=gapE a0 q bt,?_,fun d hd0=>⟨⟨fun e=>e=plcE a0 q bt bi,?_,fun e he0=>⟨⟨fun o' r' a' n'=>(o',r')=wrS (ta,tn) d (o,r)/\(a',n')=lrn (ta,tn) d,?_,fun o' r' a' n' h3=>⟨⟨fun o2 r2 a2 n2=>(o2,r2)=wrS (da,dn) e (o',r')/\(a2,n2)=lrn (da,dn) e,?_,fun o2 r2 a2 n2 h4=>?_⟩⟩⟩⟩⟩⟩⟩
  ·constructor
   all_goals (try simp only [vZ63,e1])
   ·intros;omega
   ·intro h;rw [gapE,if_pos (by omega)]
   intro h;rw [gapE,if_neg (by omega)]
  ·constructor
   all_goals (try simp only [vZ63,e1,e2])
   ·intros;omega
   ·intros;omega
   ·intro h;rw [plcE,if_pos h]
   intro h;rw [plcE,if_neg h]
  ·subst hd0
   exact law63r hp92 hf92 w (by omega) m1 g1.1 (by omega)
  ·obtain ⟨h31,h32⟩:=h3
   subst hd0 he0
   obtain ⟨w1,w2,w3⟩:=wrS_wf (m:=(ta,tn)) g1.1 w
   rw [<-h31] at w1 w2 w3
   exact law63r hp92 hf92 w1 (by omega) m2 g2.1 (by omega)
  obtain ⟨h31,h32⟩:=h3
  obtain ⟨h41,h42⟩:=h4
  subst hd0 he0
  constructor
  ·simp only [vZ63];omega
  refine ⟨⟨q+1,by omega,by omega,?_⟩,by omega⟩
  rw [e1,e2,pkS]
  simp only [ho,hr,ht,hd,hbt,hbi]
  rw [<-h31,<-h41,<-h32,<-h42]
 all_goals intro hx
 case g295=>exact hp67 _ hb' (by omega)
 case g296=>simp only [zH,zK];omega
 case g297=>
  obtain rfl:q=a0.length:=by omega
  rw [(hf67 o).1,(hf67 o).2,hR,packP,ho]
  rfl
 all_goals omega
end HX

namespace HX
open Go Go.Proofs CX
structure V67 (a0:Rows) (R:Nat->Nat->D) (I0:Int->Int->Int->Prop) (m0:Int->Int->Int->Nat):Prop where
 i0:I0 0 0 0
 g1:∀x0_0 x0_1 x0_2,I0 x0_0 x0_1 x0_2->(x0_2 < (a0.length:Int))->0<=x0_2
 g2:∀x0_0 x0_1 x0_2,I0 x0_0 x0_1 x0_2->(x0_2 < (a0.length:Int))->x0_2 < (a0.length:Int)
 g3:∀x0_0 x0_1 x0_2,I0 x0_0 x0_1 x0_2->(x0_2 < (a0.length:Int))->(((Int.toNat x0_2:Nat):Int)) < (a0.length:Int)
 g4:∀x0_0 x0_1 x0_2,I0 x0_0 x0_1 x0_2->(x0_2 < (a0.length:Int))->-9223372036854775808<=(D.int (gt a0 x0_2.toNat 0))/\(D.int (gt a0 x0_2.toNat 0))<=9223372036854775807
 g5:∀x0_0 x0_1 x0_2,I0 x0_0 x0_1 x0_2->(x0_2 < (a0.length:Int))->-9223372036854775808<=(x0_0+(D.int (gt a0 x0_2.toNat 0)))/\(x0_0+(D.int (gt a0 x0_2.toNat 0)))<=9223372036854775807
 g6:∀x0_0 x0_1 x0_2,I0 x0_0 x0_1 x0_2->(x0_2 < (a0.length:Int))->(255:Int)≠0
 g7:∀x0_0 x0_1 x0_2,I0 x0_0 x0_1 x0_2->(x0_2 < (a0.length:Int))->-9223372036854775808<=(x0_1+(Int.tmod (x0_0+(D.int (gt a0 x0_2.toNat 0))) 255))/\(x0_1+(Int.tmod (x0_0+(D.int (gt a0 x0_2.toNat 0))) 255))<=9223372036854775807
 g9:∀x0_0 x0_1 x0_2,I0 x0_0 x0_1 x0_2->(x0_2 < (a0.length:Int))->-9223372036854775808<=(x0_2+1)/\(x0_2+1)<=9223372036854775807
 n10:∀x0_0 x0_1 x0_2,I0 x0_0 x0_1 x0_2->(x0_2 < (a0.length:Int))->I0 (Int.tmod (x0_0+(D.int (gt a0 x0_2.toNat 0))) 255) (Int.tmod (x0_1+(Int.tmod (x0_0+(D.int (gt a0 x0_2.toNat 0))) 255)) 255) (x0_2+1)/\m0 (Int.tmod (x0_0+(D.int (gt a0 x0_2.toNat 0))) 255) (Int.tmod (x0_1+(Int.tmod (x0_0+(D.int (gt a0 x0_2.toNat 0))) 255)) 255) (x0_2+1) < m0 x0_0 x0_1 x0_2
 g11:∀x0_0 x0_1 x0_2,I0 x0_0 x0_1 x0_2->(¬x0_2 < (a0.length:Int))->R 0 0=D.i (Ar.std.wrap IntKind.u8 x0_0)
 g12:∀x0_0 x0_1 x0_2,I0 x0_0 x0_1 x0_2->(¬x0_2 < (a0.length:Int))->R 0 1=D.i (Ar.std.wrap IntKind.u8 x0_1)
end HX

namespace HX
open Go Go.Proofs CX
structure V72 (a0:Rows) (a1:Rows) (R:Nat->Nat->D) (I0:Bool->Int->Prop) (m0:Bool->Int->Nat):Prop where
 g0:(¬(a0.length:Int)=(a1.length:Int))->R 0 0=D.b false
 i0:((a0.length:Int)=(a1.length:Int))->I0 false 0
 g2:∀x0_0 x0_1,I0 x0_0 x0_1->((a0.length:Int)=(a1.length:Int))->(x0_1 < (a0.length:Int))->0<=x0_1
 g3:∀x0_0 x0_1,I0 x0_0 x0_1->((a0.length:Int)=(a1.length:Int))->(x0_1 < (a0.length:Int))->x0_1 < (a0.length:Int)
 g4:∀x0_0 x0_1,I0 x0_0 x0_1->((a0.length:Int)=(a1.length:Int))->(x0_1 < (a0.length:Int))->(((Int.toNat x0_1:Nat):Int)) < (a0.length:Int)
 g6:∀x0_0 x0_1,I0 x0_0 x0_1->((a0.length:Int)=(a1.length:Int))->(x0_1 < (a0.length:Int))->x0_1 < (a1.length:Int)
 g7:∀x0_0 x0_1,I0 x0_0 x0_1->((a0.length:Int)=(a1.length:Int))->(x0_1 < (a0.length:Int))->(((Int.toNat x0_1:Nat):Int)) < (a1.length:Int)
 g8:∀x0_0 x0_1,I0 x0_0 x0_1->((a0.length:Int)=(a1.length:Int))->(x0_1 < (a0.length:Int))->(¬(D.int (gt a0 x0_1.toNat 0))=(D.int (gt a1 x0_1.toNat 0)))->R 0 0=D.b false
 g9:∀x0_0 x0_1,I0 x0_0 x0_1->((a0.length:Int)=(a1.length:Int))->(x0_1 < (a0.length:Int))->((D.int (gt a0 x0_1.toNat 0))=(D.int (gt a1 x0_1.toNat 0)))->-9223372036854775808<=(x0_1+1)/\(x0_1+1)<=9223372036854775807
 n10:∀x0_0 x0_1,I0 x0_0 x0_1->((a0.length:Int)=(a1.length:Int))->(x0_1 < (a0.length:Int))->((D.int (gt a0 x0_1.toNat 0))=(D.int (gt a1 x0_1.toNat 0)))->I0 x0_0 (x0_1+1)/\m0 x0_0 (x0_1+1) < m0 x0_0 x0_1
 g11:∀x0_0 x0_1,I0 x0_0 x0_1->((a0.length:Int)=(a1.length:Int))->(¬x0_1 < (a0.length:Int))->R 0 0=D.b true
end HX

namespace HX
open Go Go.Proofs CX
structure V17 (a0:Rows) (a1:Rows) (R:Nat->Nat->D) (I0:Bool->Int->Prop) (m0:Bool->Int->Nat):Prop where
 g0:(¬(a0.length:Int)=(a1.length:Int))->R 0 0=D.b false
 i0:((a0.length:Int)=(a1.length:Int))->I0 false 0
 g2:∀x0_0 x0_1,I0 x0_0 x0_1->((a0.length:Int)=(a1.length:Int))->(x0_1 < (a0.length:Int))->0<=x0_1
 g3:∀x0_0 x0_1,I0 x0_0 x0_1->((a0.length:Int)=(a1.length:Int))->(x0_1 < (a0.length:Int))->x0_1 < (a0.length:Int)
 g4:∀x0_0 x0_1,I0 x0_0 x0_1->((a0.length:Int)=(a1.length:Int))->(x0_1 < (a0.length:Int))->(((Int.toNat x0_1:Nat):Int)) < (a0.length:Int)
 g6:∀x0_0 x0_1,I0 x0_0 x0_1->((a0.length:Int)=(a1.length:Int))->(x0_1 < (a0.length:Int))->x0_1 < (a1.length:Int)
 g7:∀x0_0 x0_1,I0 x0_0 x0_1->((a0.length:Int)=(a1.length:Int))->(x0_1 < (a0.length:Int))->(((Int.toNat x0_1:Nat):Int)) < (a1.length:Int)
 g8:∀x0_0 x0_1,I0 x0_0 x0_1->((a0.length:Int)=(a1.length:Int))->(x0_1 < (a0.length:Int))->((¬(D.int (gt a0 x0_1.toNat 0))=(D.int (gt a1 x0_1.toNat 0)))\/(¬(D.int (gt a0 x0_1.toNat 1))=(D.int (gt a1 x0_1.toNat 1))))->R 0 0=D.b false
 g9:∀x0_0 x0_1,I0 x0_0 x0_1->((a0.length:Int)=(a1.length:Int))->(x0_1 < (a0.length:Int))->((D.int (gt a0 x0_1.toNat 0))=(D.int (gt a1 x0_1.toNat 0))/\(D.int (gt a0 x0_1.toNat 1))=(D.int (gt a1 x0_1.toNat 1)))->-9223372036854775808<=(x0_1+1)/\(x0_1+1)<=9223372036854775807
 n10:∀x0_0 x0_1,I0 x0_0 x0_1->((a0.length:Int)=(a1.length:Int))->(x0_1 < (a0.length:Int))->((D.int (gt a0 x0_1.toNat 0))=(D.int (gt a1 x0_1.toNat 0))/\(D.int (gt a0 x0_1.toNat 1))=(D.int (gt a1 x0_1.toNat 1)))->I0 x0_0 (x0_1+1)/\m0 x0_0 (x0_1+1) < m0 x0_0 x0_1
 g11:∀x0_0 x0_1,I0 x0_0 x0_1->((a0.length:Int)=(a1.length:Int))->(¬x0_1 < (a0.length:Int))->R 0 0=D.b true
end HX

namespace HX
open Go Go.Proofs CX
structure V50 (a0:Int) (a1:Int) (a2:Int) (R:Nat->Nat->D)  : Prop where
 g0:(a1<=a0)->R 0 0=D.b (decide (a0<=a2))
 g1:(¬a1<=a0)->R 0 0=D.b false
end HX

namespace HX
open Go Go.Proofs CX
structure V100 (a0:Int) (a1:Int) (R:Nat->Nat->D)  : Prop where
 g0:(¬a0=a0)->(¬a1=a1)->R 0 0=D.i 0
 g1:(¬a0=a0)->(a1=a1)->R 0 0=D.i (-1)
 g2:(a0=a0)->(¬a1=a1)->R 0 0=D.i 1
 g3:(a0=a0)->(a1=a1)->(a0 < a1)->R 0 0=D.i (-1)
 g4:(a0=a0)->(a1=a1)->(¬a0 < a1)->(a1 < a0)->R 0 0=D.i 1
 g5:(a0=a0)->(a1=a1)->(¬a0 < a1)->(¬a1 < a0)->R 0 0=D.i 0
end HX

namespace HX
open Go Go.Proofs CX
structure V76 (pre:Nat->List (List D)->Prop) (fn:Nat->List (List D)->Nat->Nat->D) (a0_0:Int) (a0_1:Int) (a1_0:Int) (a1_1:Int) (R:Nat->Nat->D) (I0:Int->Int->Prop) (m0:Int->Int->Nat):Prop where
 g0:pre 100 [[D.i a0_0],[D.i a1_0]]
 g1:pre 100 [[D.i a0_1],[D.i a1_1]]
 i0:I0 0 0
 g3:∀x0_0 x0_1,I0 x0_0 x0_1->(x0_1 < (([[D.i (D.int (fn 100 [[D.i a0_0],[D.i a1_0]] 0 0))],[D.i (D.int (fn 100 [[D.i a0_1],[D.i a1_1]] 0 0))]]).length:Int))->0<=x0_1
 g4:∀x0_0 x0_1,I0 x0_0 x0_1->(x0_1 < (([[D.i (D.int (fn 100 [[D.i a0_0],[D.i a1_0]] 0 0))],[D.i (D.int (fn 100 [[D.i a0_1],[D.i a1_1]] 0 0))]]).length:Int))->x0_1 < (([[D.i (D.int (fn 100 [[D.i a0_0],[D.i a1_0]] 0 0))],[D.i (D.int (fn 100 [[D.i a0_1],[D.i a1_1]] 0 0))]]).length:Int)
 g5:∀x0_0 x0_1,I0 x0_0 x0_1->(x0_1 < (([[D.i (D.int (fn 100 [[D.i a0_0],[D.i a1_0]] 0 0))],[D.i (D.int (fn 100 [[D.i a0_1],[D.i a1_1]] 0 0))]]).length:Int))->(((Int.toNat x0_1:Nat):Int)) < (([[D.i (D.int (fn 100 [[D.i a0_0],[D.i a1_0]] 0 0))],[D.i (D.int (fn 100 [[D.i a0_1],[D.i a1_1]] 0 0))]]).length:Int)
 g6:∀x0_0 x0_1,I0 x0_0 x0_1->(x0_1 < (([[D.i (D.int (fn 100 [[D.i a0_0],[D.i a1_0]] 0 0))],[D.i (D.int (fn 100 [[D.i a0_1],[D.i a1_1]] 0 0))]]).length:Int))->(¬(D.int (gt [[D.i (D.int (fn 100 [[D.i a0_0],[D.i a1_0]] 0 0))],[D.i (D.int (fn 100 [[D.i a0_1],[D.i a1_1]] 0 0))]] x0_1.toNat 0))=0)->R 0 0=D.i (D.int (gt [[D.i (D.int (fn 100 [[D.i a0_0],[D.i a1_0]] 0 0))],[D.i (D.int (fn 100 [[D.i a0_1],[D.i a1_1]] 0 0))]] x0_1.toNat 0))
 g7:∀x0_0 x0_1,I0 x0_0 x0_1->(x0_1 < (([[D.i (D.int (fn 100 [[D.i a0_0],[D.i a1_0]] 0 0))],[D.i (D.int (fn 100 [[D.i a0_1],[D.i a1_1]] 0 0))]]).length:Int))->((D.int (gt [[D.i (D.int (fn 100 [[D.i a0_0],[D.i a1_0]] 0 0))],[D.i (D.int (fn 100 [[D.i a0_1],[D.i a1_1]] 0 0))]] x0_1.toNat 0))=0)->-9223372036854775808<=(x0_1+1)/\(x0_1+1)<=9223372036854775807
 n8:∀x0_0 x0_1,I0 x0_0 x0_1->(x0_1 < (([[D.i (D.int (fn 100 [[D.i a0_0],[D.i a1_0]] 0 0))],[D.i (D.int (fn 100 [[D.i a0_1],[D.i a1_1]] 0 0))]]).length:Int))->((D.int (gt [[D.i (D.int (fn 100 [[D.i a0_0],[D.i a1_0]] 0 0))],[D.i (D.int (fn 100 [[D.i a0_1],[D.i a1_1]] 0 0))]] x0_1.toNat 0))=0)->I0 x0_0 (x0_1+1)/\m0 x0_0 (x0_1+1) < m0 x0_0 x0_1
 g9:∀x0_0 x0_1,I0 x0_0 x0_1->(¬x0_1 < (([[D.i (D.int (fn 100 [[D.i a0_0],[D.i a1_0]] 0 0))],[D.i (D.int (fn 100 [[D.i a0_1],[D.i a1_1]] 0 0))]]).length:Int))->R 0 0=D.i 0
end HX

namespace HX
open Go Go.Proofs CX
structure V71 (pre:Nat->List (List D)->Prop) (fn:Nat->List (List D)->Nat->Nat->D) (a0:Rows) (a1_0:Int) (a1_1:Int) (R:Nat->Nat->D)  : Prop where
 g0:pre 50 [[D.i a1_0],[D.i 0],[D.i 1073741824]]
 g1:(D.boo (fn 50 [[D.i a1_0],[D.i 0],[D.i 1073741824]] 0 0)=false)->R 0 0=D.i 3
 g2:(D.boo (fn 50 [[D.i a1_0],[D.i 0],[D.i 1073741824]] 0 0)=true)->pre 50 [[D.i a1_1],[D.i 0],[D.i 65535]]
 g3:(D.boo (fn 50 [[D.i a1_0],[D.i 0],[D.i 1073741824]] 0 0)=true)->(D.boo (fn 50 [[D.i a1_1],[D.i 0],[D.i 65535]] 0 0)=false)->R 0 0=D.i 3
 g4:(D.boo (fn 50 [[D.i a1_0],[D.i 0],[D.i 1073741824]] 0 0)=true)->(D.boo (fn 50 [[D.i a1_1],[D.i 0],[D.i 65535]] 0 0)=true)->(0 < (a0.length:Int))->-9223372036854775808<=((a0.length:Int) - 1)/\((a0.length:Int) - 1)<=9223372036854775807
 g5:(D.boo (fn 50 [[D.i a1_0],[D.i 0],[D.i 1073741824]] 0 0)=true)->(D.boo (fn 50 [[D.i a1_1],[D.i 0],[D.i 65535]] 0 0)=true)->(0 < (a0.length:Int))->0<=((a0.length:Int) - 1)
 g6:(D.boo (fn 50 [[D.i a1_0],[D.i 0],[D.i 1073741824]] 0 0)=true)->(D.boo (fn 50 [[D.i a1_1],[D.i 0],[D.i 65535]] 0 0)=true)->(0 < (a0.length:Int))->((a0.length:Int) - 1) < (a0.length:Int)
 g7:(D.boo (fn 50 [[D.i a1_0],[D.i 0],[D.i 1073741824]] 0 0)=true)->(D.boo (fn 50 [[D.i a1_1],[D.i 0],[D.i 65535]] 0 0)=true)->(0 < (a0.length:Int))->(((Int.toNat ((a0.length:Int) - 1):Nat):Int)) < (a0.length:Int)
 g8:(D.boo (fn 50 [[D.i a1_0],[D.i 0],[D.i 1073741824]] 0 0)=true)->(D.boo (fn 50 [[D.i a1_1],[D.i 0],[D.i 65535]] 0 0)=true)->(0 < (a0.length:Int))->pre 76 [[D.i (D.int (gt a0 (Int.toNat ((a0.length:Int) - 1)) 0)),D.i (D.int (gt a0 (Int.toNat ((a0.length:Int) - 1)) 1))],[D.i a1_0,D.i a1_1]]
 g9:(D.boo (fn 50 [[D.i a1_0],[D.i 0],[D.i 1073741824]] 0 0)=true)->(D.boo (fn 50 [[D.i a1_1],[D.i 0],[D.i 65535]] 0 0)=true)->(0 < (a0.length:Int))->(0<=(D.int (fn 76 [[D.i (D.int (gt a0 (Int.toNat ((a0.length:Int) - 1)) 0)),D.i (D.int (gt a0 (Int.toNat ((a0.length:Int) - 1)) 1))],[D.i a1_0,D.i a1_1]] 0 0)))->R 0 0=D.i 2
 g10:(D.boo (fn 50 [[D.i a1_0],[D.i 0],[D.i 1073741824]] 0 0)=true)->(D.boo (fn 50 [[D.i a1_1],[D.i 0],[D.i 65535]] 0 0)=true)->(0 < (a0.length:Int))->(¬0<=(D.int (fn 76 [[D.i (D.int (gt a0 (Int.toNat ((a0.length:Int) - 1)) 0)),D.i (D.int (gt a0 (Int.toNat ((a0.length:Int) - 1)) 1))],[D.i a1_0,D.i a1_1]] 0 0)))->R 0 0=D.i 0
 g11:(D.boo (fn 50 [[D.i a1_0],[D.i 0],[D.i 1073741824]] 0 0)=true)->(D.boo (fn 50 [[D.i a1_1],[D.i 0],[D.i 65535]] 0 0)=true)->(¬0 < (a0.length:Int))->R 0 0=D.i 0
end HX

namespace HX
open Go Go.Proofs CX
structure V51 (pre:Nat->List (List D)->Prop) (fn:Nat->List (List D)->Nat->Nat->D) (a0:Rows) (R:Nat->Nat->D) (I0:Int->Int->Prop) (m0:Int->Int->Nat):Prop where
 g0:(65536 < (a0.length:Int))->R 0 0=D.i 9
 i0:(¬65536 < (a0.length:Int))->I0 0 0
 g2:∀x0_0 x0_1,I0 x0_0 x0_1->(¬65536 < (a0.length:Int))->(x0_1 < (a0.length:Int))->0<=x0_1
 g3:∀x0_0 x0_1,I0 x0_0 x0_1->(¬65536 < (a0.length:Int))->(x0_1 < (a0.length:Int))->x0_1 < (a0.length:Int)
 g4:∀x0_0 x0_1,I0 x0_0 x0_1->(¬65536 < (a0.length:Int))->(x0_1 < (a0.length:Int))->(((Int.toNat x0_1:Nat):Int)) < (a0.length:Int)
 g6:∀x0_0 x0_1,I0 x0_0 x0_1->(¬65536 < (a0.length:Int))->(x0_1 < (a0.length:Int))->x0_1<=(a0.length:Int)
 g7:∀x0_0 x0_1,I0 x0_0 x0_1->(¬65536 < (a0.length:Int))->(x0_1 < (a0.length:Int))->pre 71 [[D.l (List.take x0_1.toNat (List.drop 0 a0))],[D.i (D.int (gt a0 x0_1.toNat 0)),D.i (D.int (gt a0 x0_1.toNat 1))]]
 g8:∀x0_0 x0_1,I0 x0_0 x0_1->(¬65536 < (a0.length:Int))->(x0_1 < (a0.length:Int))->(¬(D.int (fn 71 [[D.l (List.take x0_1.toNat (List.drop 0 a0))],[D.i (D.int (gt a0 x0_1.toNat 0)),D.i (D.int (gt a0 x0_1.toNat 1))]] 0 0))=0)->R 0 0=D.i (D.int (fn 71 [[D.l (List.take x0_1.toNat (List.drop 0 a0))],[D.i (D.int (gt a0 x0_1.toNat 0)),D.i (D.int (gt a0 x0_1.toNat 1))]] 0 0))
 g9:∀x0_0 x0_1,I0 x0_0 x0_1->(¬65536 < (a0.length:Int))->(x0_1 < (a0.length:Int))->((D.int (fn 71 [[D.l (List.take x0_1.toNat (List.drop 0 a0))],[D.i (D.int (gt a0 x0_1.toNat 0)),D.i (D.int (gt a0 x0_1.toNat 1))]] 0 0))=0)->-9223372036854775808<=(x0_1+1)/\(x0_1+1)<=9223372036854775807
 n10:∀x0_0 x0_1,I0 x0_0 x0_1->(¬65536 < (a0.length:Int))->(x0_1 < (a0.length:Int))->((D.int (fn 71 [[D.l (List.take x0_1.toNat (List.drop 0 a0))],[D.i (D.int (gt a0 x0_1.toNat 0)),D.i (D.int (gt a0 x0_1.toNat 1))]] 0 0))=0)->I0 x0_0 (x0_1+1)/\m0 x0_0 (x0_1+1) < m0 x0_0 x0_1
 g11:∀x0_0 x0_1,I0 x0_0 x0_1->(¬65536 < (a0.length:Int))->(¬x0_1 < (a0.length:Int))->R 0 0=D.i 0
end HX

namespace HX
open Go Go.Proofs CX
structure V27 (pre:Nat->List (List D)->Prop) (fn:Nat->List (List D)->Nat->Nat->D) (a0:Rows) (R:Nat->Nat->D)  : Prop where
 g0:pre 51 [[D.l a0]]
 g1:(¬(D.int (fn 51 [[D.l a0]] 0 0))=0)->R 0 0=D.l []
 g2:(¬(D.int (fn 51 [[D.l a0]] 0 0))=0)->R 1 0=D.i (D.int (fn 51 [[D.l a0]] 0 0))
 g3:((D.int (fn 51 [[D.l a0]] 0 0))=0)->pre 63 [[D.l a0]]
 g4:((D.int (fn 51 [[D.l a0]] 0 0))=0)->R 0 0=D.l (D.rows (fn 63 [[D.l a0]] 0 0))
 g5:((D.int (fn 51 [[D.l a0]] 0 0))=0)->R 1 0=D.i 0
end HX

namespace HX
open Go Go.Proofs CX
end HX

namespace HX
open Go Go.Proofs CX
def byL (l:Rows):Prop:=∀i,i < l.length->0<=(gt l i 0).int/\(gt l i 0).int<=255
theorem sumS_bd {l:Rows} (h:byL l):∀q,q<=l.length->(0<=(sumS l q).1/\(sumS l q).1<=254)/\0<=(sumS l q).2/\(sumS l q).2<=254
 |0,_=>by simp [sumS]
 |q+1,hq=>by
  obtain ⟨a,b⟩:=sumS_bd h q (by omega)
  have c:=h q (by omega)
  simp only [sumS]
  rw [xR (a:=(sumS l q).1+(gt l q 0).int) (by omega)]
  rw [xR (a:=(sumS l q).2+_) (by omega)]
  omega
theorem law67 {a0 : Rows} (hb : byL a0) (hl : a0.length <= 4000000000) {R : Nat -> Nat -> D} (h0 : R 0 0 = .i (sum0 a0)) (h1 : R 0 1 = .i (sum1 a0)) :
    V67 a0 R (fun s t i=>∃q:Nat,i=q/\q<=a0.length/\(s,t)=sumS a0 q) (fun _ _ i=>(a0.length - i).toNat):=by
  constructor
  case i0=>exact ⟨0,rfl,by omega,rfl⟩
  all_goals (intro s t i hI; obtain ⟨q, hq, hql, e⟩ := hI; subst hq; have bd := sumS_bd hb q hql; have e1 : (sumS a0 q).1 = s := by rw [<- e]
             have e2:(sumS a0 q).2=t:=by rw [<-e]
             rw [e1,e2] at bd;(try simp only [zW]);intro hx)
  case g11=>rw [h0,sum0,<-e1,show q=a0.length by omega]
  case g12=>rw [h1,sum1,<-e2,show q=a0.length by omega]
  case n10=>exact ⟨⟨q+1,by omega,by omega,by rw [sumS,e1,e2]⟩,by omega⟩
  all_goals (try (have c:=hb q (by omega)))
  case g7=>
    rw [xR (by omega)]
    omega
  all_goals omega
open Classical in
def eqL (a b:Rows):Bool:=decide (a.length=b.length/\∀i,i < a.length->(gt a i 0).int=(gt b i 0).int)
open Classical in
theorem law72 {a0 a1 : Rows} (hl : (a0.length : Int) <= 9223372036854775807) {R : Nat -> Nat -> D} (hR : R 0 0 = .b (eqL a0 a1)) :
    V72 a0 a1 R (fun _ i=>∃q:Nat,i=q/\q<=a0.length/\∀j,j < q->(gt a0 j 0).int=(gt a1 j 0).int) (fun _ i=>(a0.length - i).toNat):=by
  constructor
  case g0=>intro h;rw [hR,eqL,qE fun h2=>h (by rw [h2.1])]
  case i0=>exact fun _=>⟨0,rfl,by omega,fun j h=>by omega⟩
  all_goals (intro u i hI;obtain ⟨q,hq,hql,e⟩:=hI;subst hq;(try simp only [zW]);intro hx hy)
  case g11=>rw [hR,eqL,qI ⟨by omega,fun i h=>e i (by omega)⟩]
  case g8=>intro h;rw [hR,eqL,qE fun h2=>h (h2.2 q (by omega))]
  case n10=>
    intro h
    exact ⟨⟨q + 1, by omega, by omega, fun j hj => by by_cases e2 : j = q; · rw [e2]; exact h
                                                      · exact e j (by omega)⟩,by omega⟩
  all_goals omega
theorem law17 {a0 a1:Rows} (h:a1=a0) (hl:(a0.length:Int)<=9223372036854775807) {R:Nat->Nat->D} (hR:R 0 0=.b true) :
  V17 a0 a1 R (fun _ i=>∃q:Nat,i=q/\q<=a0.length) (fun _ i=>(a0.length - i).toNat):=by
 subst h
 constructor
 case g0=>intro h;exact absurd rfl h
 case i0=>exact fun _=>⟨0,rfl,by omega⟩
 all_goals (intro u i hI;obtain ⟨q,hq,hql⟩:=hI;subst hq;intro hx hy)
 case g11=>exact hR
 case g8=>intro h;exfalso;rcases h with h |h<;>exact h rfl
 case n10=>intro _;exact ⟨⟨q+1,by omega,by omega⟩,by omega⟩
 all_goals omega
def inB (a b c:Int):Bool:=decide (b<=a/\a<=c)
theorem law50 {a b c:Int} {R:Nat->Nat->D} (hR:R 0 0=.b (inB a b c)):V50 a b c R:=by
 constructor
 ·intro h;rw [hR,inB];congr 1;exact qT.2 ⟨fun h=>h.2,fun h2=>⟨h,h2⟩⟩
 intro h;rw [hR,inB,qE fun h2=>h h2.1]
def cmpI (a b:Int):Int:=if a < b then -1 else if b < a then 1 else 0
theorem law100 {a b:Int} {R:Nat->Nat->D} (hR:R 0 0=.i (cmpI a b)):V100 a b R:=by
 constructor
 case g0=>intro h;exact absurd rfl h
 case g1=>intro h;exact absurd rfl h
 case g2=>intro _ h;exact absurd rfl h
 case g3=>intro _ _ h;rw [hR,cmpI,if_pos h]
 case g4=>intro _ _ h h2;rw [hR,cmpI,if_neg h,if_pos h2]
 case g5=>intro _ _ h h2;rw [hR,cmpI,if_neg h,if_neg h2]
def cmpE (t i t2 i2:Int):Int:=if cmpI t t2=0 then cmpI i i2 else cmpI t t2
theorem law76 {pre:Nat->List (List D)->Prop} {fn:Nat->List (List D)->Nat->Nat->D} (hp:∀x,pre 100 x) (hf:∀a b,fn 100 [[.i a],[.i b]] 0 0=.i (cmpI a b)) {t i t2 i2:Int} {R:Nat->Nat->D} (hR:R 0 0=.i (cmpE t i t2 i2)) :
  V76 pre fn t i t2 i2 R (fun _ k=>k=0\/(k=1/\cmpI t t2=0)\/(k=2/\cmpI t t2=0/\cmpI i i2=0)) (fun _ k=>(2 - k).toNat):=by
 have hi:∀n:Int,(D.i n).int=n:=fun _=>rfl
 constructor
 all_goals (try simp only [hf,hi,zH,zK])
 case g0 |g1=>exact hp _
 case i0=>left;trivial
 all_goals (intro u k hI)
 case g6=>
  intro hk h
  rcases hI with rfl |⟨rfl,e⟩ |⟨rfl,e,e2⟩
  ·have h:¬cmpI t t2=0:=h
   rw [hR,cmpE,if_neg h]
   rfl
  ·rw [hR,cmpE,if_pos e]
   rfl
  omega
 case n8=>
  intro hk h
  rcases hI with rfl |⟨rfl,e⟩ |⟨rfl,e,e2⟩
  ·exact ⟨.inr (.inl ⟨rfl,h⟩),by omega⟩
  ·exact ⟨.inr (.inr ⟨rfl,e,h⟩),by omega⟩
  omega
 case g9=>
  intro hk
  rcases hI with rfl |⟨rfl,e⟩ |⟨rfl,e,e2⟩
  ·omega
  ·omega
  rw [hR,cmpE,if_pos e,e2]
 all_goals (intros;omega)
def folE (l:Rows) (t i:Int):Int:=
 if ¬(inB t 0 1073741824=true/\inB i 0 65535=true) then 3 else if 0 < l.length/\0<=cmpE (eT l (l.length - 1)) (eI l (l.length - 1)) t i then 2 else 0
theorem law71 {pre:Nat->List (List D)->Prop} {fn:Nat->List (List D)->Nat->Nat->D} (hp50:∀x,pre 50 x) (hf50:∀a b c,fn 50 [[.i a],[.i b],[.i c]] 0 0=.b (inB a b c))
  (hp76:∀x,pre 76 x) (hf76:∀a b c d,fn 76 [[.i a,.i b],[.i c,.i d]] 0 0=.i (cmpE a b c d)) {l:Rows} (hl:(l.length:Int)<=9223372036854775807) {t i:Int} {R:Nat->Nat->D} (hR:R 0 0=.i (folE l t i)):V71 pre fn l t i R:=by
 have hi:∀n:Int,(D.i n).int=n:=fun _=>rfl
 have hb:∀n:Bool,(D.b n).boo=n:=fun _=>rfl
 constructor
 all_goals (try simp only [hf50,hf76,hi,hb])
 case g0=>exact hp50 _
 case g1=>intro h;rw [hR,folE,if_pos fun h2=>by rw [h] at h2;cases h2.1]
 case g2=>intro _;exact hp50 _
 case g3=>intro _ h;rw [hR,folE,if_pos fun h2=>by rw [h] at h2;cases h2.2]
 all_goals (intro h1 h2 h3)
 case g8=>exact hp76 _
 case g9=>
  intro h4
  rw [show ((l.length:Int) - 1).toNat=l.length - 1 by omega] at h4
  have h4:0<=cmpE (eT l (l.length - 1)) (eI l (l.length - 1)) t i:=h4
  rw [hR,folE,if_neg fun h=>h ⟨h1,h2⟩,if_pos ⟨by omega,h4⟩]
 case g10=>
  intro h4
  rw [show ((l.length:Int) - 1).toNat=l.length - 1 by omega] at h4
  have h4:¬0<=cmpE (eT l (l.length - 1)) (eI l (l.length - 1)) t i:=h4
  rw [hR,folE,if_neg fun h=>h ⟨h1,h2⟩,if_neg fun h=>h4 h.2]
 case g11=>rw [hR,folE,if_neg fun h=>h ⟨h1,h2⟩,if_neg fun h=>h3 (by omega)]
 all_goals omega
def chkG (l:Rows):Nat->Int
 |0=>0
 |f+1=>if folE (l.take (l.length - (f+1))) (eT l (l.length - (f+1))) (eI l (l.length - (f+1)))=0 then chkG l f else folE (l.take (l.length - (f+1))) (eT l (l.length - (f+1))) (eI l (l.length - (f+1)))
def chkE (l:Rows):Int:=if 65536 < l.length then 9 else chkG l l.length
theorem law51 {pre:Nat->List (List D)->Prop} {fn:Nat->List (List D)->Nat->Nat->D} (hp71:∀x,pre 71 x) (hf71:∀l a b,fn 71 [[.l l],[.i a,.i b]] 0 0=.i (folE l a b)) {l:Rows} {R:Nat->Nat->D} (hR:R 0 0=.i (chkE l)) :
  V51 pre fn l R (fun _ i=>∃f:Nat,f<=l.length/\i=(l.length - f:Nat)/\chkG l l.length=chkG l f) (fun _ i=>(l.length - i).toNat):=by
 have hi:∀n:Int,(D.i n).int=n:=fun _=>rfl
 constructor
 all_goals (try simp only [hf71,hi,xU])
 case g0=>intro h;rw [hR,chkE,if_pos (by omega)]
 case i0=>exact fun _=>⟨l.length,zB _,by omega,rfl⟩
 all_goals (intro e i hI;obtain ⟨f,hf,hq,hc⟩:=hI;subst hq;(try simp only [zW]);intro hl hx)
 case g7=>exact hp71 _
 case g11=>
  obtain rfl:f=0:=by omega
  rw [hR,chkE,if_neg (by omega),hc];rfl
 case g8=>
  intro h
  obtain ⟨g,rfl⟩:∃g,f=g+1:=⟨f - 1,by omega⟩
  have h:¬folE (l.take (l.length - (g+1))) (eT l (l.length - (g+1))) (eI l (l.length - (g+1)))=0:=h
  rw [hR,chkE,if_neg (by omega),hc,chkG,if_neg h]
  rfl
 case n10=>
  intro h
  obtain ⟨g,rfl⟩:∃g,f=g+1:=⟨f - 1,by omega⟩
  refine ⟨⟨g,by omega,by omega,?_⟩,by omega⟩
  have h:folE (l.take (l.length - (g+1))) (eT l (l.length - (g+1))) (eI l (l.length - (g+1)))=0:=h
  rw [hc,chkG,if_pos h]
 all_goals omega
def pacL (l:Rows):Rows:=if chkE l=0 then packP l else []
theorem law27 {pre:Nat->List (List D)->Prop} {fn:Nat->List (List D)->Nat->Nat->D} (hp51:∀x,pre 51 x) (hf51:∀l,fn 51 [[.l l]] 0 0=.i (chkE l)) (hp63:∀l,chkE l=0->pre 63 [[.l l]]) (hf63:∀l,fn 63 [[.l l]] 0 0=.l (packP l))
  {l:Rows} {R:Nat->Nat->D} (h0:R 0 0=.l (pacL l)) (h1:R 1 0=.i (chkE l)):V27 pre fn l R:=by
 have hi:∀n:Int,(D.i n).int=n:=fun _=>rfl
 have hrw:∀n:Rows,(D.l n).rows=n:=fun _=>rfl
 constructor
 all_goals (try simp only [hf51,hf63,hi,hrw])
 case g0=>exact hp51 _
 case g1=>intro h;rw [h0,pacL,if_neg h]
 case g2=>intro h;exact h1
 case g3=>exact hp63 l
 case g4=>intro h;rw [h0,pacL,if_pos h]
 case g5=>intro h;rw [h1,h]
end HX

namespace HX
open Go Go.Proofs CX
abbrev vZ29 (x:Int):=-9223372036854775808<=x/\x<=9223372036854775807
abbrev v29a (a0:Rows):=(List.take (a0.length - (Int.toNat ((a0.length:Int) - 2))) (List.drop (Int.toNat ((a0.length:Int) - 2)) a0))
abbrev v29b (a0:Rows):=((((List.take ((Int.toNat ((a0.length:Int) - 2)) - (Int.toNat 5)) (List.drop (Int.toNat 5) a0))).length:Int))
abbrev v29c (a0:Rows):=(List.take (Int.toNat ((a0.length:Int) - 2)) (List.drop 0 a0))
abbrev v29d (a0:Rows):=(Ar.std.bit BinOp.or IntKind.i64 (Ar.std.bit BinOp.or IntKind.i64 (Ar.std.shl IntKind.i64 (D.int (gt a0 (Int.toNat 2) 0)) 16) (Ar.std.shl IntKind.i64 (D.int (gt a0 (Int.toNat 3) 0)) 8)) (D.int (gt a0 (Int.toNat 4) 0)))
abbrev v29e (fn:Nat->List (List D)->Nat->Nat->D) (b3:Int) (b4:Int):=(D.int (fn 92 [[D.i b3,D.i b4]] 0 0))
abbrev v29f (d0:Int) (b0:Rows):=(d0+(D.int (gt b0 (Int.toNat ((b0.length:Int) - 1)) 0)))
abbrev v29g (a0:Rows):=(D.int (gt [[gt (v29a a0) 0 0,gt (v29a a0) 1 0]] 0 0))
abbrev v29h (a0:Rows):=(D.int (gt [[gt (v29a a0) 0 0,gt (v29a a0) 1 0]] 0 1))
abbrev v29i (a0:Rows):=(List.take ((Int.toNat ((a0.length:Int) - 2)) - (Int.toNat 5)) (List.drop (Int.toNat 5) a0))
abbrev v29j (e0:Int) (fn:Nat->List (List D)->Nat->Nat->D) (b3:Int) (b4:Int):=(Ar.std.shl IntKind.i64 e0 (v29e fn b3 b4))
abbrev v29k (b0:Rows):=((D.int (gt b0 (Int.toNat ((b0.length:Int) - 1)) 1))+1)
abbrev v29l (a0:Rows):=(¬((a0.length:Int) - 2) < 5)
abbrev v29m (fn:Nat->List (List D)->Nat->Nat->D) (a0:Rows):=(D.int (fn 67 [[D.l (v29c a0)]] 0 0))
abbrev v29n (fn:Nat->List (List D)->Nat->Nat->D) (a0:Rows):=(D.int (fn 67 [[D.l (v29c a0)]] 0 1))
abbrev v29o (a0:Rows) (j2:Int):=(Ar.std.bit BinOp.and IntKind.u8 (Ar.std.shr IntKind.u8 (D.int (gt (v29i a0) (Int.toNat (Int.tdiv j2 8)) 0)) (7 - (Int.tmod j2 8))) 1)
abbrev v29p (a0:Rows) (k2:Int):=(Ar.std.bit BinOp.and IntKind.u8 (Ar.std.shr IntKind.u8 (D.int (gt (v29i a0) (Int.toNat (Int.tdiv k2 8)) 0)) (7 - (Int.tmod k2 8))) 1)
abbrev v29q (a0:Rows) (f2:Int):=(Ar.std.bit BinOp.and IntKind.u8 (Ar.std.shr IntKind.u8 (D.int (gt (v29i a0) (Int.toNat (Int.tdiv f2 8)) 0)) (7 - (Int.tmod f2 8))) 1)
structure V29c4 (a0:Rows) (b3:Int) (b4:Int) (j0:Int) (j1:Int) (j2:Int) (I1:Int->Bool->Int->Int->Int->Prop) (I4:Int->Int->Int->Prop) (m4:Int->Int->Int->Nat):Prop where
 g65:(j1 < 31)->(0:Int)<=1
 g66:(j1 < 31)->(8:Int)≠0
 g67:(j1 < 31)->vZ29 ((Int.tdiv j2 8))
 g68:(j1 < 31)->0<=(Int.tdiv j2 8)
 g69:(j1 < 31)->(Int.tdiv j2 8) < (v29b a0)
 g70:(j1 < 31)->(((Int.toNat (Int.tdiv j2 8):Nat):Int)) < (v29b a0)
 g72:(j1 < 31)->vZ29 ((7 - (Int.tmod j2 8)))
 g73:(j1 < 31)->0<=(7 - (Int.tmod j2 8))
 g74:(j1 < 31)->vZ29 ((v29o a0 j2))
 g75:(j1 < 31)->vZ29 ((j2+1))
 g76:(j1 < 31)->vZ29 ((j1+1))
 n77:(j1 < 31)->I4 (Ar.std.bit BinOp.or IntKind.i64 (Ar.std.shl IntKind.i64 j0 1) (v29o a0 j2)) (j1+1) (j2+1)/\m4 (Ar.std.bit BinOp.or IntKind.i64 (Ar.std.shl IntKind.i64 j0 1) (v29o a0 j2)) (j1+1) (j2+1) < m4 j0 j1 j2
 g78:(¬j1 < 31)->vZ29 ((0+j0))
 g79:(¬j1 < 31)->vZ29 ((b3+(0+j0)))
 g80:(¬j1 < 31)->vZ29 ((b4+1))
 g81:(¬j1 < 31)->((b4+1)=64)->(2:Int)≠0
 g82:(¬j1 < 31)->((b4+1)=64)->vZ29 ((Int.tdiv (b3+(0+j0)) 2))
 g84:(¬j1 < 31)->((b4+1)=64)->vZ29 ((Int.tdiv (b4+1) 2))
 g85:(¬j1 < 31)->((b4+1)=64)->vZ29 ((0+j0))
 n86:(¬j1 < 31)->((b4+1)=64)->I1 (0+j0) true j2 (Int.tdiv (b3+(0+j0)) 2) (Int.tdiv (b4+1) 2)
 g87:(¬j1 < 31)->(¬(b4+1)=64)->vZ29 ((0+j0))
 n88:(¬j1 < 31)->(¬(b4+1)=64)->I1 (0+j0) true j2 (b3+(0+j0)) (b4+1)
abbrev V29l4 (a0:Rows) (b3:Int) (b4:Int) (f2:Int) (I1:Int->Bool->Int->Int->Int->Prop):Prop:=∃(I4:Int->Int->Int->Prop) (m4:Int->Int->Int->Nat),I4 0 0 f2/\∀j0 j1 j2,I4 j0 j1 j2->V29c4 a0 b3 b4 j0 j1 j2 I1 I4 m4
structure V29c5 (fn:Nat->List (List D)->Nat->Nat->D) (a0:Rows) (b3:Int) (b4:Int) (e0:Int) (k0:Int) (k1:Int) (k2:Int) (I1:Int->Bool->Int->Int->Int->Prop) (I5:Int->Int->Int->Prop) (m5:Int->Int->Int->Nat):Prop where
 g103:(k1 < (v29e fn b3 b4))->(0:Int)<=1
 g104:(k1 < (v29e fn b3 b4))->(8:Int)≠0
 g105:(k1 < (v29e fn b3 b4))->vZ29 ((Int.tdiv k2 8))
 g106:(k1 < (v29e fn b3 b4))->0<=(Int.tdiv k2 8)
 g107:(k1 < (v29e fn b3 b4))->(Int.tdiv k2 8) < (v29b a0)
 g108:(k1 < (v29e fn b3 b4))->(((Int.toNat (Int.tdiv k2 8):Nat):Int)) < (v29b a0)
 g110:(k1 < (v29e fn b3 b4))->vZ29 ((7 - (Int.tmod k2 8)))
 g111:(k1 < (v29e fn b3 b4))->0<=(7 - (Int.tmod k2 8))
 g112:(k1 < (v29e fn b3 b4))->vZ29 ((v29p a0 k2))
 g113:(k1 < (v29e fn b3 b4))->vZ29 ((k2+1))
 g114:(k1 < (v29e fn b3 b4))->vZ29 ((k1+1))
 n115:(k1 < (v29e fn b3 b4))->I5 (Ar.std.bit BinOp.or IntKind.i64 (Ar.std.shl IntKind.i64 k0 1) (v29p a0 k2)) (k1+1) (k2+1)/\m5 (Ar.std.bit BinOp.or IntKind.i64 (Ar.std.shl IntKind.i64 k0 1) (v29p a0 k2)) (k1+1) (k2+1) < m5 k0 k1 k2
 g116:(¬k1 < (v29e fn b3 b4))->vZ29 (((v29j e0 fn b3 b4)+k0))
 g117:(¬k1 < (v29e fn b3 b4))->vZ29 ((b3+((v29j e0 fn b3 b4)+k0)))
 g118:(¬k1 < (v29e fn b3 b4))->vZ29 ((b4+1))
 g119:(¬k1 < (v29e fn b3 b4))->((b4+1)=64)->(2:Int)≠0
 g120:(¬k1 < (v29e fn b3 b4))->((b4+1)=64)->vZ29 ((Int.tdiv (b3+((v29j e0 fn b3 b4)+k0)) 2))
 g122:(¬k1 < (v29e fn b3 b4))->((b4+1)=64)->vZ29 ((Int.tdiv (b4+1) 2))
 g123:(¬k1 < (v29e fn b3 b4))->((b4+1)=64)->vZ29 (((v29j e0 fn b3 b4)+k0))
 n124:(¬k1 < (v29e fn b3 b4))->((b4+1)=64)->I1 ((v29j e0 fn b3 b4)+k0) true k2 (Int.tdiv (b3+((v29j e0 fn b3 b4)+k0)) 2) (Int.tdiv (b4+1) 2)
 g125:(¬k1 < (v29e fn b3 b4))->(¬(b4+1)=64)->vZ29 (((v29j e0 fn b3 b4)+k0))
 n126:(¬k1 < (v29e fn b3 b4))->(¬(b4+1)=64)->I1 ((v29j e0 fn b3 b4)+k0) true k2 (b3+((v29j e0 fn b3 b4)+k0)) (b4+1)
abbrev V29l5 (fn:Nat->List (List D)->Nat->Nat->D) (a0:Rows) (b3:Int) (b4:Int) (e0:Int) (f2:Int) (I1:Int->Bool->Int->Int->Int->Prop):Prop:=∃(I5:Int->Int->Int->Prop) (m5:Int->Int->Int->Nat),I5 0 0 f2/\∀k0 k1 k2,I5 k0 k1 k2->V29c5 fn a0 b3 b4 e0 k0 k1 k2 I1 I5 m5
structure V29c3 (fn:Nat->List (List D)->Nat->Nat->D) (a0:Rows) (b3:Int) (b4:Int) (e0:Int) (e1:Int) (f0:Int) (f1:Int) (f2:Int) (I1:Int->Bool->Int->Int->Int->Prop) (I2:Int->Int->Prop) (m2:Int->Int->Nat) (I3:Int->Int->Int->Prop) (m3:Int->Int->Int->Nat):Prop where
 g37:(f1 < 1)->(0:Int)<=1
 g38:(f1 < 1)->(8:Int)≠0
 g39:(f1 < 1)->vZ29 ((Int.tdiv f2 8))
 g40:(f1 < 1)->0<=(Int.tdiv f2 8)
 g41:(f1 < 1)->(Int.tdiv f2 8) < (v29b a0)
 g42:(f1 < 1)->(((Int.toNat (Int.tdiv f2 8):Nat):Int)) < (v29b a0)
 g44:(f1 < 1)->vZ29 ((7 - (Int.tmod f2 8)))
 g45:(f1 < 1)->0<=(7 - (Int.tmod f2 8))
 g46:(f1 < 1)->vZ29 ((v29q a0 f2))
 g47:(f1 < 1)->vZ29 ((f2+1))
 g48:(f1 < 1)->vZ29 ((f1+1))
 n49:(f1 < 1)->I3 (Ar.std.bit BinOp.or IntKind.i64 (Ar.std.shl IntKind.i64 f0 1) (v29q a0 f2)) (f1+1) (f2+1)/\m3 (Ar.std.bit BinOp.or IntKind.i64 (Ar.std.shl IntKind.i64 f0 1) (v29q a0 f2)) (f1+1) (f2+1) < m3 f0 f1 f2
 g50:(¬f1 < 1)->(f0=0)->0<=(v29e fn b3 b4)
 g51:(¬f1 < 1)->(f0=0)->(e0=24)->vZ29 ((f2+31))
 g52:(¬f1 < 1)->(f0=0)->(e0=24)->vZ29 ((8 * (v29b a0)))
 g53:(¬f1 < 1)->(f0=0)->(e0=24)->((8 * (v29b a0)) < (f2+31))->vZ29 (((0+0):Int))
 g54:(¬f1 < 1)->(f0=0)->(e0=24)->((8 * (v29b a0)) < (f2+31))->vZ29 ((b3+(0+0)))
 g55:(¬f1 < 1)->(f0=0)->(e0=24)->((8 * (v29b a0)) < (f2+31))->vZ29 ((b4+1))
 g56:(¬f1 < 1)->(f0=0)->(e0=24)->((8 * (v29b a0)) < (f2+31))->((b4+1)=64)->(2:Int)≠0
 g57:(¬f1 < 1)->(f0=0)->(e0=24)->((8 * (v29b a0)) < (f2+31))->((b4+1)=64)->vZ29 ((Int.tdiv (b3+(0+0)) 2))
 g59:(¬f1 < 1)->(f0=0)->(e0=24)->((8 * (v29b a0)) < (f2+31))->((b4+1)=64)->vZ29 ((Int.tdiv (b4+1) 2))
 g60:(¬f1 < 1)->(f0=0)->(e0=24)->((8 * (v29b a0)) < (f2+31))->((b4+1)=64)->vZ29 (((0+0):Int))
 n61:(¬f1 < 1)->(f0=0)->(e0=24)->((8 * (v29b a0)) < (f2+31))->((b4+1)=64)->I1 (0+0) false f2 (Int.tdiv (b3+(0+0)) 2) (Int.tdiv (b4+1) 2)
 g62:(¬f1 < 1)->(f0=0)->(e0=24)->((8 * (v29b a0)) < (f2+31))->(¬(b4+1)=64)->vZ29 (((0+0):Int))
 n63:(¬f1 < 1)->(f0=0)->(e0=24)->((8 * (v29b a0)) < (f2+31))->(¬(b4+1)=64)->I1 (0+0) false f2 (b3+(0+0)) (b4+1)
 g89:(¬f1 < 1)->(f0=0)->(¬e0=24)->vZ29 ((f2+(v29e fn b3 b4)))
 g90:(¬f1 < 1)->(f0=0)->(¬e0=24)->vZ29 ((8 * (v29b a0)))
 g91:(¬f1 < 1)->(f0=0)->(¬e0=24)->((8 * (v29b a0)) < (f2+(v29e fn b3 b4)))->vZ29 (((v29j e0 fn b3 b4)+0))
 g92:(¬f1 < 1)->(f0=0)->(¬e0=24)->((8 * (v29b a0)) < (f2+(v29e fn b3 b4)))->vZ29 ((b3+((v29j e0 fn b3 b4)+0)))
 g93:(¬f1 < 1)->(f0=0)->(¬e0=24)->((8 * (v29b a0)) < (f2+(v29e fn b3 b4)))->vZ29 ((b4+1))
 g94:(¬f1 < 1)->(f0=0)->(¬e0=24)->((8 * (v29b a0)) < (f2+(v29e fn b3 b4)))->((b4+1)=64)->(2:Int)≠0
 g95:(¬f1 < 1)->(f0=0)->(¬e0=24)->((8 * (v29b a0)) < (f2+(v29e fn b3 b4)))->((b4+1)=64)->vZ29 ((Int.tdiv (b3+((v29j e0 fn b3 b4)+0)) 2))
 g97:(¬f1 < 1)->(f0=0)->(¬e0=24)->((8 * (v29b a0)) < (f2+(v29e fn b3 b4)))->((b4+1)=64)->vZ29 ((Int.tdiv (b4+1) 2))
 g98:(¬f1 < 1)->(f0=0)->(¬e0=24)->((8 * (v29b a0)) < (f2+(v29e fn b3 b4)))->((b4+1)=64)->vZ29 (((v29j e0 fn b3 b4)+0))
 n99:(¬f1 < 1)->(f0=0)->(¬e0=24)->((8 * (v29b a0)) < (f2+(v29e fn b3 b4)))->((b4+1)=64)->I1 ((v29j e0 fn b3 b4)+0) false f2 (Int.tdiv (b3+((v29j e0 fn b3 b4)+0)) 2) (Int.tdiv (b4+1) 2)
 g100:(¬f1 < 1)->(f0=0)->(¬e0=24)->((8 * (v29b a0)) < (f2+(v29e fn b3 b4)))->(¬(b4+1)=64)->vZ29 (((v29j e0 fn b3 b4)+0))
 n101:(¬f1 < 1)->(f0=0)->(¬e0=24)->((8 * (v29b a0)) < (f2+(v29e fn b3 b4)))->(¬(b4+1)=64)->I1 ((v29j e0 fn b3 b4)+0) false f2 (b3+((v29j e0 fn b3 b4)+0)) (b4+1)
 g127:(¬f1 < 1)->(¬f0=0)->vZ29 ((e0+1))
 n128:(¬f1 < 1)->(¬f0=0)->I2 (e0+1) f2/\m2 (e0+1) f2 < m2 e0 e1
 l4:(¬f1 < 1)->(f0=0)->(e0=24)->(¬(8 * (v29b a0)) < (f2+31))->V29l4 a0 b3 b4 f2 I1
 l5:(¬f1 < 1)->(f0=0)->(¬e0=24)->(¬(8 * (v29b a0)) < (f2+(v29e fn b3 b4)))->V29l5 fn a0 b3 b4 e0 f2 I1
abbrev V29l3 (fn:Nat->List (List D)->Nat->Nat->D) (a0:Rows) (b3:Int) (b4:Int) (e0:Int) (e1:Int) (I1:Int->Bool->Int->Int->Int->Prop) (I2:Int->Int->Prop) (m2:Int->Int->Nat):Prop:=∃(I3:Int->Int->Int->Prop) (m3:Int->Int->Int->Nat),I3 0 0 e1/\∀f0 f1 f2,I3 f0 f1 f2->V29c3 fn a0 b3 b4 e0 e1 f0 f1 f2 I1 I2 m2 I3 m3
structure V29c2 (fn:Nat->List (List D)->Nat->Nat->D) (a0:Rows) (b3:Int) (b4:Int) (e0:Int) (e1:Int) (I1:Int->Bool->Int->Int->Int->Prop) (I2:Int->Int->Prop) (m2:Int->Int->Nat):Prop where
 g33:(e0 < 24)->vZ29 ((e1+1))
 g34:(e0 < 24)->vZ29 ((8 * (v29b a0)))
 n35:(e0 < 24)->((8 * (v29b a0)) < (e1+1))->I1 0 false e1 b3 b4
 g129:(¬e0 < 24)->0<=(v29e fn b3 b4)
 g130:(¬e0 < 24)->(e0=24)->vZ29 ((e1+31))
 g131:(¬e0 < 24)->(e0=24)->vZ29 ((8 * (v29b a0)))
 g132:(¬e0 < 24)->(e0=24)->((8 * (v29b a0)) < (e1+31))->vZ29 (((0+0):Int))
 g133:(¬e0 < 24)->(e0=24)->((8 * (v29b a0)) < (e1+31))->vZ29 ((b3+(0+0)))
 g134:(¬e0 < 24)->(e0=24)->((8 * (v29b a0)) < (e1+31))->vZ29 ((b4+1))
 g135:(¬e0 < 24)->(e0=24)->((8 * (v29b a0)) < (e1+31))->((b4+1)=64)->(2:Int)≠0
 g136:(¬e0 < 24)->(e0=24)->((8 * (v29b a0)) < (e1+31))->((b4+1)=64)->vZ29 ((Int.tdiv (b3+(0+0)) 2))
 g138:(¬e0 < 24)->(e0=24)->((8 * (v29b a0)) < (e1+31))->((b4+1)=64)->vZ29 ((Int.tdiv (b4+1) 2))
 g139:(¬e0 < 24)->(e0=24)->((8 * (v29b a0)) < (e1+31))->((b4+1)=64)->vZ29 (((0+0):Int))
 n140:(¬e0 < 24)->(e0=24)->((8 * (v29b a0)) < (e1+31))->((b4+1)=64)->I1 (0+0) false e1 (Int.tdiv (b3+(0+0)) 2) (Int.tdiv (b4+1) 2)
 g141:(¬e0 < 24)->(e0=24)->((8 * (v29b a0)) < (e1+31))->(¬(b4+1)=64)->vZ29 (((0+0):Int))
 n142:(¬e0 < 24)->(e0=24)->((8 * (v29b a0)) < (e1+31))->(¬(b4+1)=64)->I1 (0+0) false e1 (b3+(0+0)) (b4+1)
 g168:(¬e0 < 24)->(¬e0=24)->vZ29 ((e1+(v29e fn b3 b4)))
 g169:(¬e0 < 24)->(¬e0=24)->vZ29 ((8 * (v29b a0)))
 g170:(¬e0 < 24)->(¬e0=24)->((8 * (v29b a0)) < (e1+(v29e fn b3 b4)))->vZ29 (((v29j e0 fn b3 b4)+0))
 g171:(¬e0 < 24)->(¬e0=24)->((8 * (v29b a0)) < (e1+(v29e fn b3 b4)))->vZ29 ((b3+((v29j e0 fn b3 b4)+0)))
 g172:(¬e0 < 24)->(¬e0=24)->((8 * (v29b a0)) < (e1+(v29e fn b3 b4)))->vZ29 ((b4+1))
 g173:(¬e0 < 24)->(¬e0=24)->((8 * (v29b a0)) < (e1+(v29e fn b3 b4)))->((b4+1)=64)->(2:Int)≠0
 g174:(¬e0 < 24)->(¬e0=24)->((8 * (v29b a0)) < (e1+(v29e fn b3 b4)))->((b4+1)=64)->vZ29 ((Int.tdiv (b3+((v29j e0 fn b3 b4)+0)) 2))
 g176:(¬e0 < 24)->(¬e0=24)->((8 * (v29b a0)) < (e1+(v29e fn b3 b4)))->((b4+1)=64)->vZ29 ((Int.tdiv (b4+1) 2))
 g177:(¬e0 < 24)->(¬e0=24)->((8 * (v29b a0)) < (e1+(v29e fn b3 b4)))->((b4+1)=64)->vZ29 (((v29j e0 fn b3 b4)+0))
 n178:(¬e0 < 24)->(¬e0=24)->((8 * (v29b a0)) < (e1+(v29e fn b3 b4)))->((b4+1)=64)->I1 ((v29j e0 fn b3 b4)+0) false e1 (Int.tdiv (b3+((v29j e0 fn b3 b4)+0)) 2) (Int.tdiv (b4+1) 2)
 g179:(¬e0 < 24)->(¬e0=24)->((8 * (v29b a0)) < (e1+(v29e fn b3 b4)))->(¬(b4+1)=64)->vZ29 (((v29j e0 fn b3 b4)+0))
 n180:(¬e0 < 24)->(¬e0=24)->((8 * (v29b a0)) < (e1+(v29e fn b3 b4)))->(¬(b4+1)=64)->I1 ((v29j e0 fn b3 b4)+0) false e1 (b3+((v29j e0 fn b3 b4)+0)) (b4+1)
 l3:(e0 < 24)->(¬(8 * (v29b a0)) < (e1+1))->V29l3 fn a0 b3 b4 e0 e1 I1 I2 m2
 l6:(¬e0 < 24)->(e0=24)->(¬(8 * (v29b a0)) < (e1+31))->V29l4 a0 b3 b4 e1 I1
 l7:(¬e0 < 24)->(¬e0=24)->(¬(8 * (v29b a0)) < (e1+(v29e fn b3 b4)))->V29l5 fn a0 b3 b4 e0 e1 I1
abbrev V29l2 (fn:Nat->List (List D)->Nat->Nat->D) (a0:Rows) (b2:Int) (b3:Int) (b4:Int) (I1:Int->Bool->Int->Int->Int->Prop):Prop:=∃(I2:Int->Int->Prop) (m2:Int->Int->Nat),I2 0 b2/\∀e0 e1,I2 e0 e1->V29c2 fn a0 b3 b4 e0 e1 I1 I2 m2
structure V29r1 (pre:Nat->List (List D)->Prop) (fn:Nat->List (List D)->Nat->Nat->D) (a0:Rows) (b2:Int) (b3:Int) (b4:Int) (I1:Int->Bool->Int->Int->Int->Prop):Prop where
 g31:pre 92 [[D.i b3,D.i b4]]
 l2:V29l2 fn a0 b2 b3 b4 I1
structure V29c8 (pre:Nat->List (List D)->Prop) (fn:Nat->List (List D)->Nat->Nat->D) (R:Nat->Nat->D) (b0:Rows) (b1:Int) (b2:Int) (b3:Int) (b4:Int) (b5:Int) (b6:Int) (d0:Int) (d1:Bool) (d3:Int) (d4:Int) (r0:Int) (r1:Bool) (r2:Int) (r3:Int) (r4:Int) (I0:Rows->Int->Int->Int->Int->Int->Int->Prop) (m0:Rows->Int->Int->Int->Int->Int->Int->Nat):Prop where
 g382:(0 < (b0.length:Int))->vZ29 (((b0.length:Int) - 1))
 g383:(0 < (b0.length:Int))->0<=((b0.length:Int) - 1)
 g384:(0 < (b0.length:Int))->((b0.length:Int) - 1) < (b0.length:Int)
 g385:(0 < (b0.length:Int))->(((Int.toNat ((b0.length:Int) - 1):Nat):Int)) < (b0.length:Int)
 g387:(0 < (b0.length:Int))->vZ29 ((v29f d0 b0))
 g388:(0 < (b0.length:Int))->(d0=0)->vZ29 (((b0.length:Int) - 1))
 g389:(0 < (b0.length:Int))->(d0=0)->0<=((b0.length:Int) - 1)
 g390:(0 < (b0.length:Int))->(d0=0)->((b0.length:Int) - 1) < (b0.length:Int)
 g391:(0 < (b0.length:Int))->(d0=0)->(((Int.toNat ((b0.length:Int) - 1):Nat):Int)) < (b0.length:Int)
 g393:(0 < (b0.length:Int))->(d0=0)->vZ29 ((v29k b0))
 g394:(0 < (b0.length:Int))->(d0=0)->vZ29 ((r0+(v29k b0)))
 g395:(0 < (b0.length:Int))->(d0=0)->(d1=false)->R 0 0=D.l []
 g396:(0 < (b0.length:Int))->(d0=0)->(d1=false)->R 1 0=D.i 7
 g397:(0 < (b0.length:Int))->(d0=0)->(d1=true)->(r1=false)->R 0 0=D.l []
 g398:(0 < (b0.length:Int))->(d0=0)->(d1=true)->(r1=false)->R 1 0=D.i 7
 g399:(0 < (b0.length:Int))->(d0=0)->(d1=true)->(r1=true)->pre 71 [[D.l b0],[D.i (v29f d0 b0),D.i (r0+(v29k b0))]]
 g400:(0 < (b0.length:Int))->(d0=0)->(d1=true)->(r1=true)->(¬(D.int (fn 71 [[D.l b0],[D.i (v29f d0 b0),D.i (r0+(v29k b0))]] 0 0))=0)->R 0 0=D.l []
 g401:(0 < (b0.length:Int))->(d0=0)->(d1=true)->(r1=true)->(¬(D.int (fn 71 [[D.l b0],[D.i (v29f d0 b0),D.i (r0+(v29k b0))]] 0 0))=0)->R 1 0=D.i 7
 g402:(0 < (b0.length:Int))->(d0=0)->(d1=true)->(r1=true)->((D.int (fn 71 [[D.l b0],[D.i (v29f d0 b0),D.i (r0+(v29k b0))]] 0 0))=0)->(b0.length+(List.length ([[D.i (v29f d0 b0),D.i (r0+(v29k b0))]]:Rows))) * 16<=4294967296/\(b0.length+(List.length ([[D.i (v29f d0 b0),D.i (r0+(v29k b0))]]:Rows)))<=4294967296
 g403:(0 < (b0.length:Int))->(d0=0)->(d1=true)->(r1=true)->((D.int (fn 71 [[D.l b0],[D.i (v29f d0 b0),D.i (r0+(v29k b0))]] 0 0))=0)->vZ29 ((b1+1))
 n404:(0 < (b0.length:Int))->(d0=0)->(d1=true)->(r1=true)->((D.int (fn 71 [[D.l b0],[D.i (v29f d0 b0),D.i (r0+(v29k b0))]] 0 0))=0)->I0 (b0++[[D.i (v29f d0 b0),D.i (r0+(v29k b0))]]) (b1+1) r2 d3 d4 r3 r4/\m0 (b0++[[D.i (v29f d0 b0),D.i (r0+(v29k b0))]]) (b1+1) r2 d3 d4 r3 r4 < m0 b0 b1 b2 b3 b4 b5 b6
 g405:(0 < (b0.length:Int))->(¬d0=0)->(d1=false)->R 0 0=D.l []
 g406:(0 < (b0.length:Int))->(¬d0=0)->(d1=false)->R 1 0=D.i 7
 g407:(0 < (b0.length:Int))->(¬d0=0)->(d1=true)->(r1=false)->R 0 0=D.l []
 g408:(0 < (b0.length:Int))->(¬d0=0)->(d1=true)->(r1=false)->R 1 0=D.i 7
 g409:(0 < (b0.length:Int))->(¬d0=0)->(d1=true)->(r1=true)->pre 71 [[D.l b0],[D.i (v29f d0 b0),D.i r0]]
 g410:(0 < (b0.length:Int))->(¬d0=0)->(d1=true)->(r1=true)->(¬(D.int (fn 71 [[D.l b0],[D.i (v29f d0 b0),D.i r0]] 0 0))=0)->R 0 0=D.l []
 g411:(0 < (b0.length:Int))->(¬d0=0)->(d1=true)->(r1=true)->(¬(D.int (fn 71 [[D.l b0],[D.i (v29f d0 b0),D.i r0]] 0 0))=0)->R 1 0=D.i 7
 g412:(0 < (b0.length:Int))->(¬d0=0)->(d1=true)->(r1=true)->((D.int (fn 71 [[D.l b0],[D.i (v29f d0 b0),D.i r0]] 0 0))=0)->(b0.length+(List.length ([[D.i (v29f d0 b0),D.i r0]]:Rows))) * 16<=4294967296/\(b0.length+(List.length ([[D.i (v29f d0 b0),D.i r0]]:Rows)))<=4294967296
 g413:(0 < (b0.length:Int))->(¬d0=0)->(d1=true)->(r1=true)->((D.int (fn 71 [[D.l b0],[D.i (v29f d0 b0),D.i r0]] 0 0))=0)->vZ29 ((b1+1))
 n414:(0 < (b0.length:Int))->(¬d0=0)->(d1=true)->(r1=true)->((D.int (fn 71 [[D.l b0],[D.i (v29f d0 b0),D.i r0]] 0 0))=0)->I0 (b0++[[D.i (v29f d0 b0),D.i r0]]) (b1+1) r2 d3 d4 r3 r4/\m0 (b0++[[D.i (v29f d0 b0),D.i r0]]) (b1+1) r2 d3 d4 r3 r4 < m0 b0 b1 b2 b3 b4 b5 b6
 g415:(¬0 < (b0.length:Int))->(d1=false)->R 0 0=D.l []
 g416:(¬0 < (b0.length:Int))->(d1=false)->R 1 0=D.i 7
 g417:(¬0 < (b0.length:Int))->(d1=true)->(r1=false)->R 0 0=D.l []
 g418:(¬0 < (b0.length:Int))->(d1=true)->(r1=false)->R 1 0=D.i 7
 g419:(¬0 < (b0.length:Int))->(d1=true)->(r1=true)->pre 71 [[D.l b0],[D.i d0,D.i r0]]
 g420:(¬0 < (b0.length:Int))->(d1=true)->(r1=true)->(¬(D.int (fn 71 [[D.l b0],[D.i d0,D.i r0]] 0 0))=0)->R 0 0=D.l []
 g421:(¬0 < (b0.length:Int))->(d1=true)->(r1=true)->(¬(D.int (fn 71 [[D.l b0],[D.i d0,D.i r0]] 0 0))=0)->R 1 0=D.i 7
 g422:(¬0 < (b0.length:Int))->(d1=true)->(r1=true)->((D.int (fn 71 [[D.l b0],[D.i d0,D.i r0]] 0 0))=0)->(b0.length+(List.length ([[D.i d0,D.i r0]]:Rows))) * 16<=4294967296/\(b0.length+(List.length ([[D.i d0,D.i r0]]:Rows)))<=4294967296
 g423:(¬0 < (b0.length:Int))->(d1=true)->(r1=true)->((D.int (fn 71 [[D.l b0],[D.i d0,D.i r0]] 0 0))=0)->vZ29 ((b1+1))
 n424:(¬0 < (b0.length:Int))->(d1=true)->(r1=true)->((D.int (fn 71 [[D.l b0],[D.i d0,D.i r0]] 0 0))=0)->I0 (b0++[[D.i d0,D.i r0]]) (b1+1) r2 d3 d4 r3 r4/\m0 (b0++[[D.i d0,D.i r0]]) (b1+1) r2 d3 d4 r3 r4 < m0 b0 b1 b2 b3 b4 b5 b6
abbrev V29j8 (pre:Nat->List (List D)->Prop) (fn:Nat->List (List D)->Nat->Nat->D) (a0:Rows) (R:Nat->Nat->D) (b0:Rows) (b1:Int) (b2:Int) (b3:Int) (b4:Int) (b5:Int) (b6:Int) (d0:Int) (d1:Bool) (d2:Int) (d3:Int) (d4:Int) (I0:Rows->Int->Int->Int->Int->Int->Int->Prop) (m0:Rows->Int->Int->Int->Int->Int->Int->Nat):Prop:=∃(I8:Int->Bool->Int->Int->Int->Prop),V29r1 pre fn a0 d2 b5 b6 I8/\∀r0 r1 r2 r3 r4,I8 r0 r1 r2 r3 r4->V29c8 pre fn R b0 b1 b2 b3 b4 b5 b6 d0 d1 d3 d4 r0 r1 r2 r3 r4 I0 m0
structure V29c1 (pre:Nat->List (List D)->Prop) (fn:Nat->List (List D)->Nat->Nat->D) (a0:Rows) (R:Nat->Nat->D) (b0:Rows) (b1:Int) (b2:Int) (b3:Int) (b4:Int) (b5:Int) (b6:Int) (d0:Int) (d1:Bool) (d2:Int) (d3:Int) (d4:Int) (I0:Rows->Int->Int->Int->Int->Int->Int->Prop) (m0:Rows->Int->Int->Int->Int->Int->Int->Nat):Prop where
 l8:V29j8 pre fn a0 R b0 b1 b2 b3 b4 b5 b6 d0 d1 d2 d3 d4 I0 m0
abbrev V29j1 (pre:Nat->List (List D)->Prop) (fn:Nat->List (List D)->Nat->Nat->D) (a0:Rows) (R:Nat->Nat->D) (b0:Rows) (b1:Int) (b2:Int) (b3:Int) (b4:Int) (b5:Int) (b6:Int) (I0:Rows->Int->Int->Int->Int->Int->Int->Prop) (m0:Rows->Int->Int->Int->Int->Int->Int->Nat):Prop:=∃(I1:Int->Bool->Int->Int->Int->Prop),V29r1 pre fn a0 b2 b3 b4 I1/\∀d0 d1 d2 d3 d4,I1 d0 d1 d2 d3 d4->V29c1 pre fn a0 R b0 b1 b2 b3 b4 b5 b6 d0 d1 d2 d3 d4 I0 m0
structure V29c0 (pre:Nat->List (List D)->Prop) (fn:Nat->List (List D)->Nat->Nat->D) (a0:Rows) (R:Nat->Nat->D) (b0:Rows) (b1:Int) (b2:Int) (b3:Int) (b4:Int) (b5:Int) (b6:Int) (I0:Rows->Int->Int->Int->Int->Int->Int->Prop) (m0:Rows->Int->Int->Int->Int->Int->Int->Nat):Prop where
 g425:(¬b1 < (v29d a0))->(65536 < (b0.length:Int))->R 0 0=D.l []
 g426:(¬b1 < (v29d a0))->(65536 < (b0.length:Int))->R 1 0=D.i 7
 g427:(¬b1 < (v29d a0))->(¬65536 < (b0.length:Int))->pre 63 [[D.l b0]]
 g428:(¬b1 < (v29d a0))->(¬65536 < (b0.length:Int))->pre 72 [[D.l (D.rows (fn 63 [[D.l b0]] 0 0))],[D.l a0]]
 g429:(¬b1 < (v29d a0))->(¬65536 < (b0.length:Int))->(D.boo (fn 72 [[D.l (D.rows (fn 63 [[D.l b0]] 0 0))],[D.l a0]] 0 0)=false)->R 0 0=D.l []
 g430:(¬b1 < (v29d a0))->(¬65536 < (b0.length:Int))->(D.boo (fn 72 [[D.l (D.rows (fn 63 [[D.l b0]] 0 0))],[D.l a0]] 0 0)=false)->R 1 0=D.i 7
 g431:(¬b1 < (v29d a0))->(¬65536 < (b0.length:Int))->(D.boo (fn 72 [[D.l (D.rows (fn 63 [[D.l b0]] 0 0))],[D.l a0]] 0 0)=true)->R 0 0=D.l b0
 g432:(¬b1 < (v29d a0))->(¬65536 < (b0.length:Int))->(D.boo (fn 72 [[D.l (D.rows (fn 63 [[D.l b0]] 0 0))],[D.l a0]] 0 0)=true)->R 1 0=D.i 0
 l1:(b1 < (v29d a0))->V29j1 pre fn a0 R b0 b1 b2 b3 b4 b5 b6 I0 m0
abbrev V29l0 (pre:Nat->List (List D)->Prop) (fn:Nat->List (List D)->Nat->Nat->D) (a0:Rows) (R:Nat->Nat->D):Prop:=∃(I0:Rows->Int->Int->Int->Int->Int->Int->Prop) (m0:Rows->Int->Int->Int->Int->Int->Int->Nat),I0 [] 0 0 4 1 4 1/\∀b0 b1 b2 b3 b4 b5 b6,I0 b0 b1 b2 b3 b4 b5 b6->V29c0 pre fn a0 R b0 b1 b2 b3 b4 b5 b6 I0 m0
structure V29 (pre:Nat->List (List D)->Prop) (fn:Nat->List (List D)->Nat->Nat->D) (a0:Rows) (R:Nat->Nat->D):Prop where
 g0:vZ29 (((a0.length:Int) - 2))
 g1:(((a0.length:Int) - 2) < 5)->R 0 0=D.l []
 g2:(((a0.length:Int) - 2) < 5)->R 1 0=D.i 19
 g3:(v29l a0)->0<=((a0.length:Int) - 2)
 g4:(v29l a0)->((a0.length:Int) - 2)<=(a0.length:Int)
 g5:(v29l a0)->(((2:Nat):Int))<=((((v29a a0)).length:Int))
 g6:(v29l a0)->(((0:Nat):Int)) < ((([[gt (v29a a0) 0 0,gt (v29a a0) 1 0]]).length:Int))
 g9:(v29l a0)->pre 67 [[D.l (v29c a0)]]
 g10:(v29l a0)->((¬(v29g a0)=(v29m fn a0))\/(¬(v29h a0)=(v29n fn a0)))->R 0 0=D.l []
 g11:(v29l a0)->((¬(v29g a0)=(v29m fn a0))\/(¬(v29h a0)=(v29n fn a0)))->R 1 0=D.i 18
 g12:(v29l a0)->((v29g a0)=(v29m fn a0)/\(v29h a0)=(v29n fn a0))->(0:Int)<=5
 g13:(v29l a0)->((v29g a0)=(v29m fn a0)/\(v29h a0)=(v29n fn a0))->5<=((a0.length:Int) - 2)
 g14:(v29l a0)->((v29g a0)=(v29m fn a0)/\(v29h a0)=(v29n fn a0))->((a0.length:Int) - 2)<=(a0.length:Int)
 g15:(v29l a0)->((v29g a0)=(v29m fn a0)/\(v29h a0)=(v29n fn a0))->(0:Int)<=2
 g16:(v29l a0)->((v29g a0)=(v29m fn a0)/\(v29h a0)=(v29n fn a0))->2 < (a0.length:Int)
 g17:(v29l a0)->((v29g a0)=(v29m fn a0)/\(v29h a0)=(v29n fn a0))->(((Int.toNat 2:Nat):Int)) < (a0.length:Int)
 g18:(v29l a0)->((v29g a0)=(v29m fn a0)/\(v29h a0)=(v29n fn a0))->vZ29 ((D.int (gt a0 (Int.toNat 2) 0)))
 g19:(v29l a0)->((v29g a0)=(v29m fn a0)/\(v29h a0)=(v29n fn a0))->(0:Int)<=16
 g20:(v29l a0)->((v29g a0)=(v29m fn a0)/\(v29h a0)=(v29n fn a0))->(0:Int)<=3
 g21:(v29l a0)->((v29g a0)=(v29m fn a0)/\(v29h a0)=(v29n fn a0))->3 < (a0.length:Int)
 g22:(v29l a0)->((v29g a0)=(v29m fn a0)/\(v29h a0)=(v29n fn a0))->(((Int.toNat 3:Nat):Int)) < (a0.length:Int)
 g23:(v29l a0)->((v29g a0)=(v29m fn a0)/\(v29h a0)=(v29n fn a0))->vZ29 ((D.int (gt a0 (Int.toNat 3) 0)))
 g24:(v29l a0)->((v29g a0)=(v29m fn a0)/\(v29h a0)=(v29n fn a0))->(0:Int)<=8
 g25:(v29l a0)->((v29g a0)=(v29m fn a0)/\(v29h a0)=(v29n fn a0))->(0:Int)<=4
 g26:(v29l a0)->((v29g a0)=(v29m fn a0)/\(v29h a0)=(v29n fn a0))->4 < (a0.length:Int)
 g27:(v29l a0)->((v29g a0)=(v29m fn a0)/\(v29h a0)=(v29n fn a0))->(((Int.toNat 4:Nat):Int)) < (a0.length:Int)
 g28:(v29l a0)->((v29g a0)=(v29m fn a0)/\(v29h a0)=(v29n fn a0))->vZ29 ((D.int (gt a0 (Int.toNat 4) 0)))
 l0:(v29l a0)->((v29g a0)=(v29m fn a0)/\(v29h a0)=(v29n fn a0))->V29l0 pre fn a0 R
end HX

namespace HX
open Go Go.Proofs CX
def tkN (d:Rows):Nat->Int->Nat->Int
 |0,v,_=>v
 |n+1,v,p=>tkN d n (2 * v+bAt d p) (p+1)
def rdU (d:Rows):Nat->Nat->Option (Nat×Nat)
 |0,p=>some (24,p)
 |f+1,p=>if 8 * d.length < p+1 then none else if bAt d p=0 then some (23 - f,p+1) else rdU d f (p+1)
def rdS (d:Rows) (m:Int×Int) (p:Nat):Option (Int×Nat):=
 match rdU d 24 p with
 |none=>none
 |some (q,p)=>if q=24 then (if 8 * d.length < p+31 then none else some (tkN d 31 0 p,p+31))
  else (if 8 * d.length < p+lowK m then none else some ((q:Int) * 2 ^ lowK m+tkN d (lowK m) 0 p,p+lowK m))
structure TI (d:Rows) (N:Nat) (p:Nat) (v t at_:Int):Prop where
 t0:0<=t
 t1:t<=N
 pl:at_=p+t
 v0:0<=v
 v1:v < 2 ^ t.toNat
 to:tkN d (N - t.toNat) v at_.toNat=tkN d N 0 p
theorem TI.start (d:Rows) (N p:Nat):TI d N p 0 0 p:=⟨by omega,by omega,by omega,by omega,by decide,rfl⟩
theorem TI.step {d:Rows} {N p:Nat} {v t at_:Int} (h:TI d N p v t at_) (ht:t < N):TI d N p (2 * v+bAt d at_.toNat) (t+1) (at_+1):=by
 obtain ⟨h1,h2,h3,h4,h5,h6⟩:=h
 have hb:=bAt_rng d at_.toNat
 refine ⟨by omega,by omega,by omega,by omega,?_,?_⟩
 ·rw [show (t+1).toNat=t.toNat+1 by omega,Int.pow_succ];omega
 rw [<-h6,show N - t.toNat=(N - (t+1).toNat)+1 by omega,tkN,show (at_+1).toNat=at_.toNat+1 by omega]
theorem TI.stop {d:Rows} {N p:Nat} {v t at_:Int} (h:TI d N p v t at_) (ht:¬t < N):v=tkN d N 0 p/\at_=p+N:=by
 obtain ⟨h1,h2,h3,h4,h5,h6⟩:=h
 rw [show N - t.toNat=0 by omega] at h6
 exact ⟨h6,by omega⟩
theorem TI.bd {d:Rows} {N p:Nat} {v t at_:Int} (h:TI d N p v t at_) (hN:N<=31):v<=2147483647:=by
 have h5:=h.v1
 have:(2:Nat) ^ t.toNat<=2 ^ 31:=kS (by omega) (by have:=h.t1;omega)
 have e:(2:Int) ^ t.toNat=((2 ^ t.toNat:Nat):Int):=by rw [kY];rfl
 omega
theorem bit_eq {d:Rows} (hb:byL d) {p:Int} (h0:0<=p) (h1:p < 8 * d.length) :
  (0<=Int.tdiv p 8/\Int.tdiv p 8 < d.length)/\(0<=7 - Int.tmod p 8/\7 - Int.tmod p 8<=7)/\
  Ar.std.bit .and .u8 (Ar.std.shr .u8 (gt d (Int.tdiv p 8).toNat 0).int (7 - Int.tmod p 8)) 1=bAt d p.toNat:=by
 rw [xL h0,xR h0]
 have hx:=hb (p.toNat / 8) (by omega)
 refine ⟨by omega,by omega,?_⟩
 rw [show (p / 8).toNat=p.toNat / 8 by omega]
 show _=(gt d (p.toNat / 8) 0).int / 2 ^ (7 - p.toNat % 8) % 2
 generalize (gt d (p.toNat / 8) 0).int=x at hx
 have e:(7 - p % 8:Int)=((7 - p.toNat % 8:Nat):Int):=by omega
 rw [e,shr_u8 (by omega)]
 have h2:0<=x / 2 ^ (7 - p.toNat % 8)/\x / 2 ^ (7 - p.toNat % 8)<=x:=
  ⟨Int.ediv_nonneg hx.1 (kP (kX (by omega))),Int.ediv_le_self _ hx.1⟩
 rw [and1_u8 h2.1 (by omega)]
structure RJ (d:Rows) (m:Int×Int) (p:Nat) (v:Int) (ok:Bool) (at_ a n:Int):Prop where
 lo:(p:Int)<=at_
 hi:at_<=8 * d.length
 mo:MOk (a,n)
 v0:0<=v
 v1:v<=4294967296
 y:ok=true->rdS d m p=some (v,at_.toNat)/\(a,n)=lrn m v/\(p:Int)+1<=at_
 no:ok=false->rdS d m p=none
theorem law29r {pre:Nat->List (List D)->Prop} {fn:Nat->List (List D)->Nat->Nat->D} (hp92:∀x,pre 92 x) (hf92:∀a n,fn 92 [[.i a,.i n]] 0 0=.i (lowK (a,n)))
  {a0 d:Rows} (hd:v29i a0=d) (hb:byL d) (hl:d.length<=100000000) {p:Nat} (hp:p<=8 * d.length) {a n:Int} (hm:MOk (a,n)) :
  V29r1 pre fn a0 p a n (fun v ok at_ a' n'=>RJ d (a,n) p v ok at_ a' n'):=by
 have hi:∀n:Int,(D.i n).int=n:=fun _=>rfl
 have hk:=lowK_le (a,n)
 obtain ⟨K,hK⟩:∃K,lowK (a,n)=K:=⟨_,rfl⟩
 rw [hK] at hk
 have a0':=hm.a0;have a1:=hm.a1;have n0:=hm.n0;have n1:=hm.n1
 simp only [] at a0' a1 n0 n1
 have hdl:v29b a0=(d.length:Int):=by rw [<-hd]
 have td:∀x:Int,0<=x->Int.tdiv (a+x) 2=(a+x) / 2:=fun x hx=>xL (by omega)
 have td2:Int.tdiv (n+1) 2=(n+1) / 2:=xL (by omega)
 have lrn_y:∀x,n+1=64->(Int.tdiv (a+x) 2,Int.tdiv (n+1) 2)=lrn (a,n) x:=fun x h=>(if_pos h).symm
 have lrn_n:∀x,¬n+1=64->(a+x,n+1)=lrn (a,n) x:=fun x h=>(if_neg h).symm
 have mk:∀x,0<=x->x<=4294967296->MOk (lrn (a,n) x):=fun x h0 h1=>hm.lrn h0 (by omega)
 have hiq:∀q:Nat,q<=23->Ar.std.shl .i64 (q:Int) (K:Int)=(q:Int) * 2 ^ K/\0<=(q:Int) * 2 ^ K/\(q:Int) * 2 ^ K<=385875968:=by
  intro q hq
  have hp:=pow_le K hk
  have h1:0<=(q:Int) * 2 ^ K:=Int.mul_nonneg (by omega) (by omega)
  have h2:(q:Int) * 2 ^ K<=23 * 16777216:=Int.mul_le_mul (by omega) hp.2 (by omega) (by omega)
  refine ⟨?_,h1,by omega⟩
  show IntKind.wrap .i64 ((q:Int) * 2 ^ (Nat.min (K:Int).toNat 64))=_
  rw [show Nat.min (K:Int).toNat 64=K from qC (by omega)]
  exact wrap64 (by omega) (by omega)
 have mkY:∀(x:Int) (P:Nat) (a' n':Int),rdS d (a,n) p=some (x,P)->0<=x->x<=4294967296->p+1<=P->P<=8 * d.length->(a',n')=lrn (a,n) x->RJ d (a,n) p x true P a' n':=
  fun x P a' n' h h0 h1 h2 h3 h4=>⟨by omega,by omega,by rw [h4];exact mk x h0 h1,h0,h1,fun _=>⟨by rw [h,zW],h4,by omega⟩,fun h=>(by cases h)⟩
 have mkN:∀(x:Int) (P:Nat) (a' n':Int),rdS d (a,n) p=none->0<=x->x<=4294967296->p<=P->P<=8 * d.length->(a',n')=lrn (a,n) x->RJ d (a,n) p x false P a' n':=
  fun x P a' n' h h0 h1 h2 h3 h4=>⟨by omega,by omega,by rw [h4];exact mk x h0 h1,h0,h1,fun h=>(by cases h),fun _=>h⟩
 have fin31:∀P:Nat,rdU d 24 p=some (24,P)->p+1<=P->P+31<=8 * d.length->V29l4 a0 a n P (fun v ok at_ a' n'=>RJ d (a,n) p v ok at_ a' n'):=by
  intro P hU hlo hP
  have hS:rdS d (a,n) p=some (tkN d 31 0 P,P+31):=by
   rw [rdS,hU]
   simp only []
   rw [if_pos trivial,if_neg (by omega)]
  refine ⟨fun v t at_=>TI d 31 P v t at_,fun _ t _=>(31 - t).toNat,TI.start d 31 P,fun v t at_ hT=>?_⟩
  have bd:=hT.bd (by omega)
  have t0:=hT.t0;have t1:=hT.t1;have pl:=hT.pl;have v0:=hT.v0
  have be:t < 31->_:=fun h=>bit_eq hb (p:=at_) (by omega) (by omega)
  have bg:=bAt_rng d at_.toNat
  constructor
  all_goals (try simp only [vZ29,v29o,hd,hdl,Int.zero_add])
  case n77=>
   intro ht
   rw [(be ht).2.2,or_i64 v0 (by omega) bg.1 bg.2]
   exact ⟨hT.step ht,by omega⟩
  case g74=>intro ht;rw [(be ht).2.2];omega
  case n86 |n88=>
   intro ht h64
   obtain ⟨e1,e2⟩:=hT.stop ht
   rw [show at_=((P+31:Nat):Int) by omega]
   refine mkY v (P+31) _ _ (by rw [hS,e1]) v0 (by omega) (by omega) (by omega) ?_
   first |exact lrn_y v h64 |exact lrn_n v h64
  all_goals intro ht
  all_goals (try (have b1:=(be ht).1;have b2:=(be ht).2.1))
  all_goals (try (have:=td v v0))
  all_goals (try intro h64)
  all_goals omega
 have finK:∀Q P:Nat,Q<=23->rdU d 24 p=some (Q,P)->p+1<=P->P+K<=8 * d.length->V29l5 fn a0 a n Q P (fun v ok at_ a' n'=>RJ d (a,n) p v ok at_ a' n'):=by
  intro Q P hQ hU hlo hP
  obtain ⟨q1,q2,q3⟩:=hiq Q hQ
  have hS:rdS d (a,n) p=some ((Q:Int) * 2 ^ K+tkN d K 0 P,P+K):=by
   rw [rdS,hU]
   simp only [hK]
   rw [if_neg (by omega),if_neg (by omega)]
  generalize (Q:Int) * 2 ^ K=H at q1 q2 q3 hS
  refine ⟨fun v t at_=>TI d K P v t at_,fun _ t _=>((K:Int) - t).toNat,TI.start d K P,fun v t at_ hT=>?_⟩
  have bd:=hT.bd (by omega)
  have t0:=hT.t0;have t1:=hT.t1;have pl:=hT.pl;have v0:=hT.v0
  have be:t < K->_:=fun h=>bit_eq hb (p:=at_) (by omega) (by omega)
  have bg:=bAt_rng d at_.toNat
  constructor
  all_goals (try simp only [vZ29,v29p,v29e,v29j,hf92,hi,hK,hd,hdl,q1])
  case n115=>
   intro ht
   rw [(be ht).2.2,or_i64 v0 (by omega) bg.1 bg.2]
   exact ⟨hT.step ht,by omega⟩
  case g112=>intro ht;rw [(be ht).2.2];omega
  case n124 |n126=>
   intro ht h64
   obtain ⟨e1,e2⟩:=hT.stop ht
   rw [show at_=((P+K:Nat):Int) by omega]
   refine mkY (H+v) (P+K) _ _ (by rw [hS,e1]) (by omega) (by omega) (by omega) (by omega) ?_
   first |exact lrn_y (H+v) h64 |exact lrn_n (H+v) h64
  all_goals intro ht
  all_goals (try (have b1:=(be ht).1;have b2:=(be ht).2.1))
  all_goals (try (have:=td (H+v) (by omega)))
  all_goals (try intro h64)
  all_goals omega
 have no31:∀P:Nat,rdU d 24 p=some (24,P)->8 * d.length < P+31->rdS d (a,n) p=none:=fun P hU hP=>by
  rw [rdS,hU]
  simp only []
  rw [if_pos trivial,if_pos hP]
 have noK:∀Q P:Nat,Q<=23->rdU d 24 p=some (Q,P)->8 * d.length < P+K->rdS d (a,n) p=none:=fun Q P hQ hU hP=>by
  rw [rdS,hU]
  simp only [hK]
  rw [if_neg (by omega),if_pos hP]
 constructor
 case g31=>exact hp92 _
 case l2=>
  refine ⟨fun q at_=>∃Q P:Nat,q=Q/\at_=P/\Q<=24/\p+Q<=P/\P<=8 * d.length/\rdU d (24 - Q) P=rdU d 24 p,fun q _=>(24 - q).toNat,⟨0,p,rfl,rfl,by omega,by omega,hp,rfl⟩,fun q at_ hI=>?_⟩
  obtain ⟨Q,P,h1,h2,hQ,hlo,hhi,hU⟩:=hI
  subst h1 h2
  have z31:=td 0 (by omega)
  constructor
  all_goals (try simp only [vZ29,v29e,v29j,hf92,hi,hK,hdl,Int.zero_add])
  case n35=>
   intro h1 h2
   have:rdS d (a,n) p=none:=by
    rw [rdS,<-hU,show 24 - Q=(23 - Q)+1 by omega,rdU,if_pos (by omega)]
   exact ⟨by omega,by omega,hm,by omega,by omega,fun h=>(by cases h),fun _=>this⟩
  case l3=>
   intro hq hn
   refine ⟨fun v t at_=>TI d 1 P v t at_,fun _ t _=>(1 - t).toNat,TI.start d 1 P,fun v t at_ hT=>?_⟩
   have bd:=hT.bd (by omega)
   have t0:=hT.t0;have t1:=hT.t1;have pl:=hT.pl;have v0:=hT.v0
   have be:t < 1->_:=fun h=>bit_eq hb (p:=at_) (by omega) (by omega)
   have bg:=bAt_rng d at_.toNat
   have st:¬t < 1->v=bAt d P/\at_=((P+1:Nat):Int):=fun h=>by
    obtain ⟨e1,e2⟩:=hT.stop h
    exact ⟨by rw [e1];simp [tkN],by omega⟩
   have stU:rdU d 24 p=if bAt d P=0 then some (Q,P+1) else rdU d (24 - (Q+1)) (P+1):=by
    rw [<-hU,show 24 - Q=(23 - Q)+1 by omega,rdU,if_neg (by omega),show 23 - (23 - Q)=Q by omega,show 24 - (Q+1)=23 - Q by omega]
   obtain ⟨q1,q2,q3⟩:=hiq Q (by omega)
   constructor
   all_goals (try simp only [vZ29,v29q,v29e,v29j,hf92,hi,hK,hd,hdl,q1])
   case n49=>
    intro ht
    rw [(be ht).2.2,or_i64 v0 (by omega) bg.1 bg.2]
    exact ⟨hT.step ht,by omega⟩
   case g46=>intro ht;rw [(be ht).2.2];omega
   case n128=>
    intro ht h0
    obtain ⟨e1,e2⟩:=st ht
    rw [if_neg (by rw [<-e1];exact h0)] at stU
    exact ⟨⟨Q+1,P+1,by omega,e2,by omega,by omega,by omega,stU.symm⟩,by omega⟩
   case l5=>
    intro ht h0 h24 hn2
    obtain ⟨e1,e2⟩:=st ht
    rw [if_pos (by rw [<-e1];exact h0)] at stU
    rw [e2]
    exact finK Q (P+1) (by omega) stU (by omega) (by omega)
   case n99 |n101=>
    intro ht h0 h24 hn2 h64
    obtain ⟨e1,e2⟩:=st ht
    rw [if_pos (by rw [<-e1];exact h0)] at stU
    rw [e2]
    refine mkN _ (P+1) _ _ (noK Q (P+1) (by omega) stU (by omega)) (by omega) (by omega) (by omega) (by omega) ?_
    first |exact lrn_y _ h64 |exact lrn_n _ h64
   case l4 |n61 |n63=>intro ht h0 h24;exfalso;omega
   all_goals intro ht
   all_goals (try (have b1:=(be ht).1;have b2:=(be ht).2.1))
   all_goals (generalize (Q:Int) * 2 ^ K=H at q1 q2 q3 ⊢)
   all_goals (try (have:=td (H+0) (by omega)))
   all_goals (try (have:=td (0+0) (by omega)))
   all_goals (intros;omega)
  case l6=>
   intro h1 h2 h3
   obtain rfl:Q=24:=by omega
   exact fin31 P (by rw [<-hU];rfl) (by omega) (by omega)
  case n140 |n142=>
   intro h1 h2 h3 h64
   obtain rfl:Q=24:=by omega
   refine mkN _ P _ _ (no31 P (by rw [<-hU];rfl) (by omega)) (by omega) (by omega) (by omega) (by omega) ?_
   first |exact lrn_y _ h64 |exact lrn_n _ h64
  case l7 |n178 |n180=>intro h1 h2;exfalso;omega
  all_goals (intro h1;try (intro h2;first |(exfalso;omega;done) |skip))
  all_goals (intros;omega)
end HX

namespace HX
open Go Go.Proofs CX
theorem folE_0 {l:Rows} {t i:Int} (h:folE l t i=0):(0<=t/\t<=1073741824)/\(0<=i/\i<=65535)/\(0 < l.length->eT l (l.length - 1) < t\/(eT l (l.length - 1)=t/\eI l (l.length - 1) < i)):=by
 unfold folE at h
 split at h
 ·omega
 rename_i h1
 have h1:inB t 0 1073741824=true/\inB i 0 65535=true:=Classical.not_not.1 h1
 have a:=zQ h1.1
 have b:=zQ h1.2
 split at h
 ·omega
 rename_i h2
 refine ⟨a,b,fun hl=>?_⟩
 have h3:¬0<=cmpE (eT l (l.length - 1)) (eI l (l.length - 1)) t i:=fun h=>h2 ⟨hl,h⟩
 simp only [cmpE,cmpI] at h3
 split at h3<;>(split at h3<;>(try split at h3))<;>(try omega)
 all_goals (repeat' (split at h3))<;>omega
theorem folE_of {l:Rows} {t i:Int} (h1:0<=t/\t<=1073741824) (h2:0<=i/\i<=65535) (h3:0 < l.length->eT l (l.length - 1) < t\/(eT l (l.length - 1)=t/\eI l (l.length - 1) < i)):folE l t i=0:=by
 have a:inB t 0 1073741824=true:=qI h1
 have b:inB i 0 65535=true:=qI h2
 rw [folE,if_neg fun h=>h ⟨a,b⟩,if_neg]
 intro ⟨hl,h⟩
 have h3:=h3 hl
 simp only [cmpE,cmpI] at h
 repeat' (split at h)
 all_goals omega
theorem ev_nil:EvOk' []:=⟨fun i h=>by simp at h,fun i h=>by simp at h,fun i h=>by simp at h⟩
theorem gt_eq (l:Rows) (i c:Nat):gt l i c=((l[i]?).getD []).getD c .nil:=by
 show (l.getD i []).getD c .nil=_
 rw [zI (l:=l)]
theorem gtA {l:Rows} {x:List D} {i c:Nat} (h:i < l.length):gt (l++[x]) i c=gt l i c:=by
 rw [gt_eq,gt_eq,xI h]
theorem gtN {l:Rows} {x:List D} {c:Nat}:gt (l++[x]) l.length c=x.getD c .nil:=by
 rw [gt_eq,xK (zB _),qK]
 rfl
theorem gt_take {l:Rows} {n i c:Nat} (h:i < n):gt (l.take n) i c=gt l i c:=by
 rw [gt_eq,gt_eq,xO,if_pos h]
theorem gt_drop (l:Rows) (n i c:Nat):gt (l.drop n) i c=gt l (n+i) c:=by
 rw [gt_eq,gt_eq,xT]
theorem EvOk'.push {l:Rows} (h:EvOk' l) {t i:Int} (e:folE l t i=0):EvOk' (l++[[.i t,.i i]]):=by
 obtain ⟨e1,e2,e3⟩:=folE_0 e
 have oldT:∀j,j < l.length->eT (l++[[D.i t,D.i i]]) j=eT l j:=fun j hj=>by unfold eT;rw [gtA hj]
 have oldI:∀j,j < l.length->eI (l++[[D.i t,D.i i]]) j=eI l j:=fun j hj=>by unfold eI;rw [gtA hj]
 have newT:eT (l++[[D.i t,D.i i]]) l.length=t:=by unfold eT;rw [gtN];rfl
 have newI:eI (l++[[D.i t,D.i i]]) l.length=i:=by unfold eI;rw [gtN];rfl
 have len:(l++[[D.i t,D.i i]]).length=l.length+1:=by simp
 refine ⟨fun j hj=>?_,fun j hj=>?_,fun j hj=>?_⟩<;>rw [len] at hj
 ·by_cases e:j=l.length
  ·rw [e,newT];exact e1
  rw [oldT j (by omega)];exact h.rt j (by omega)
 ·by_cases e:j=l.length
  ·rw [e,newI];exact e2
  rw [oldI j (by omega)];exact h.ri j (by omega)
 by_cases e:j+1=l.length
 ·rw [e,newT,newI,oldT j (by omega),oldI j (by omega),show j=l.length - 1 by omega]
  exact e3 (by omega)
 rw [oldT j (by omega),oldI j (by omega),oldT (j+1) (by omega),oldI (j+1) (by omega)]
 exact h.up j (by omega)
def nxT (out:Rows) (g:Int):Int:=if 0 < out.length then g+eT out (out.length - 1) else g
def nxI (out:Rows) (g v:Int):Int:=if 0 < out.length/\g=0 then v+(eI out (out.length - 1)+1) else v
def unpG (d:Rows):Nat->Rows->Nat->Int×Int->Int×Int->Option Rows
 |0,out,_,_,_=>some out
 |f+1,out,p,mt,md=>
  match rdS d mt p with
  |none=>none
  |some (g,p1)=>
   match rdS d md p1 with
   |none=>none
   |some (v,p2)=>if folE out (nxT out g) (nxI out g v)=0 then unpG d f (out++[[.i (nxT out g),.i (nxI out g v)]]) p2 (lrn mt g) (lrn md v) else none
def dat (a:Rows):Rows:=v29i a
def cntU (a:Rows):Int:=v29d a
def sumOk (a:Rows):Prop:=(gt (v29a a) 0 0).int=sum0 (v29c a)/\(gt (v29a a) 1 0).int=sum1 (v29c a)
open Classical in
def unpR (a:Rows):Int×Rows:=
 if (a.length:Int) - 2 < 5 then (19,[]) else if ¬sumOk a then (18,[]) else
 match unpG (dat a) (cntU a).toNat [] 0 (4,1) (4,1) with
 |none=>(7,[])
 |some out=>if 65536 < out.length then (7,[]) else if eqL (packP out) a=true then (0,out) else (7,[])
theorem law29 {pre:Nat->List (List D)->Prop} {fn:Nat->List (List D)->Nat->Nat->D} (hp92:∀x,pre 92 x) (hf92:∀a n,fn 92 [[.i a,.i n]] 0 0=.i (lowK (a,n)))
  (hp67:∀l:Rows,byL l->l.length<=4000000000->pre 67 [[.l l]]) (hf67:∀l,fn 67 [[.l l]] 0 0=.i (sum0 l)/\fn 67 [[.l l]] 0 1=.i (sum1 l))
  (hp71:∀x,pre 71 x) (hf71:∀l a b,fn 71 [[.l l],[.i a,.i b]] 0 0=.i (folE l a b))
  (hp63:∀l:Rows,l.length<=65536->EvOk' l->pre 63 [[.l l]]) (hf63:∀l,fn 63 [[.l l]] 0 0=.l (packP l))
  (hp72:∀x,pre 72 x) (hf72:∀a b,fn 72 [[.l a],[.l b]] 0 0=.b (eqL a b))
  {a0:Rows} (hb:byL a0) (hl:a0.length<=3000000) {R:Nat->Nat->D} (h0:R 0 0=.l (unpR a0).2) (h1:R 1 0=.i (unpR a0).1):V29 pre fn a0 R:=by
 have hi:∀n:Int,(D.i n).int=n:=fun _=>rfl
 have hbo:∀n:Bool,(D.b n).boo=n:=fun _=>rfl
 have hrw:∀n:Rows,(D.l n).rows=n:=fun _=>rfl
 have u19:(a0.length:Int) - 2 < 5->unpR a0=(19,[]):=fun h=>by rw [unpR,if_pos h]
 have u18:¬(a0.length:Int) - 2 < 5->¬sumOk a0->unpR a0=(18,[]):=fun h h2=>by rw [unpR,if_neg h,if_pos h2]
 have uG:¬(a0.length:Int) - 2 < 5->sumOk a0->unpR a0=(match unpG (dat a0) (cntU a0).toNat [] 0 (4,1) (4,1) with
   |none=>(7,[])
   |some out=>if 65536 < out.length then (7,[]) else if eqL (packP out) a0=true then (0,out) else (7,[])):=fun h h2=>by rw [unpR,if_neg h,if_neg (fun h3=>h3 h2)]
 have lenA:¬(a0.length:Int) - 2 < 5->(v29a a0).length=2:=fun h=>by simp only [v29a,zM,xC];omega
 have byC:byL (v29c a0):=by
  intro i hi
  simp only [v29c,xU,zM] at hi
  rw [show gt (v29c a0) i 0=gt a0 i 0 by rw [v29c,xU];exact gt_take (by omega)]
  exact hb i (by omega)
 have e0:(D.int (gt [[gt (v29a a0) 0 0,gt (v29a a0) 1 0]] 0 0))=(gt (v29a a0) 0 0).int:=rfl
 have e1:(D.int (gt [[gt (v29a a0) 0 0,gt (v29a a0) 1 0]] 0 1))=(gt (v29a a0) 1 0).int:=rfl
 constructor
 case g0=>simp only [vZ29];omega
 case g1=>intro h;rw [h0,u19 h]
 case g2=>intro h;rw [h1,u19 h]
 all_goals (intro hx)
 all_goals (try simp only [v29l] at hx)
 case g9=>exact hp67 _ byC (by simp only [v29c,xU,zM];omega)
 case g10 |g11=>
  intro h
  simp only [v29g,v29h,v29m,v29n,(hf67 _).1,(hf67 _).2,hi,e0,e1] at h
  have:¬sumOk a0:=fun h2=>by
   rcases h with h |h
   ·exact h h2.1
   exact h h2.2
  first |rw [h0,u18 hx this] |rw [h1,u18 hx this]
 case l0=>
  intro hs
  simp only [v29g,v29h,v29m,v29n,(hf67 _).1,(hf67 _).2,hi,e0,e1] at hs
  have uG:=uG hx hs
  obtain ⟨d,hd⟩:∃d,v29i a0=d:=⟨_,rfl⟩
  obtain ⟨cnt,hc⟩:∃c,v29d a0=c:=⟨_,rfl⟩
  rw [show dat a0=d from hd,show cntU a0=cnt from hc] at uG
  obtain ⟨G,hG⟩:∃G,unpG d cnt.toNat [] 0 (4,1) (4,1)=G:=⟨_,rfl⟩
  rw [hG] at uG
  have bad:G=none->R 0 0=.l []/\R 1 0=.i 7:=fun h=>by
   rw [h] at uG
   rw [h0,h1,uG]
   exact ⟨rfl,rfl⟩
  have dl:d.length<=3000000:=by rw [<-hd];simp only [v29i,zM,xC];omega
  have db:byL d:=by
   intro i hi
   rw [<-hd] at hi ⊢
   simp only [v29i,zM,xC] at hi
   have e:gt (v29i a0) i 0=gt a0 (5+i) 0:=by
    rw [v29i,gt_take (by omega),gt_drop]
    rfl
   rw [e]
   exact hb (5+i) (by omega)
  refine ⟨fun out i at_ ta tn da dn=>∃P:Nat,at_=P/\i=out.length/\P<=8 * d.length/\2 * out.length<=P/\MOk (ta,tn)/\MOk (da,dn)/\EvOk' out/\unpG d (cnt - i).toNat out P (ta,tn) (da,dn)=G,fun _ i _ _ _ _ _=>(cnt - i).toNat,
   ⟨0,rfl,rfl,by omega,by simp,mok_1,mok_1,ev_nil,by rw [show (cnt - 0).toNat=cnt.toNat by omega];exact hG⟩,?_⟩
  intro out i at_ ta tn da dn hI
  obtain ⟨P,h2,h3,hP,hPo,mt,md,ev,hU⟩:=hI
  subst h2 h3
  have ol:out.length<=12000000:=by omega
  constructor
  all_goals (try simp only [hc,hf63,hf72,hbo,hrw])
  case l1=>
   intro hlt
   obtain ⟨f,hf⟩:∃f:Nat,(cnt - out.length).toNat=f+1:=⟨(cnt - out.length).toNat - 1,by omega⟩
   rw [hf,unpG] at hU
   refine ⟨_,law29r hp92 hf92 hd db (by omega) hP mt,fun g ok at1 a1 nn1 J=>⟨?_⟩⟩
   have j1:=J.lo;have j2:=J.hi;have j3:=J.v0;have j4:=J.v1
   obtain ⟨P1,hP1⟩:∃P1:Nat,at1=P1:=⟨at1.toNat,by omega⟩
   subst hP1
   refine ⟨_,law29r hp92 hf92 hd db (by omega) (p:=P1) (by omega) md,fun v ok2 at2 a2 nn2 J2=>?_⟩
   have k1:=J2.lo;have k2:=J2.hi;have k3:=J2.v0;have k4:=J2.v1
   obtain ⟨P2,hP2⟩:∃P2:Nat,at2=P2:=⟨at2.toNat,by omega⟩
   subst hP2
   have n1:ok=false->G=none:=fun h=>by rw [<-hU,J.no h]
   have n2:ok=true->ok2=false->G=none:=fun h h2=>by
    rw [<-hU,(J.y h).1]
    simp only [zW]
    rw [J2.no h2]
   have n3:ok=true->ok2=true->¬folE out (nxT out g) (nxI out g v)=0->G=none:=fun h h2 h3=>by
    rw [<-hU,(J.y h).1]
    simp only [zW]
    rw [(J2.y h2).1]
    simp only []
    rw [if_neg h3]
   have go:ok=true->ok2=true->folE out (nxT out g) (nxI out g v)=0->∃P:Nat,((P2:Nat):Int)=P/\((out.length:Int)+1)=((out++[[D.i (nxT out g),D.i (nxI out g v)]]).length:Int)/\P<=8 * d.length/\2 * (out++[[D.i (nxT out g),D.i (nxI out g v)]]).length<=P/\MOk (a1,nn1)/\MOk (a2,nn2)/\EvOk' (out++[[D.i (nxT out g),D.i (nxI out g v)]])/\unpG d (cnt - ((out.length:Int)+1)).toNat (out++[[D.i (nxT out g),D.i (nxI out g v)]]) P (a1,nn1) (a2,nn2)=G:=fun h h2 h3=>by
    have y1:=J.y h
    have y2:=J2.y h2
    have hU:=hU
    rw [y1.1] at hU
    simp only [zW] at hU
    rw [y2.1] at hU
    simp only [zW] at hU
    rw [if_pos h3,<-y1.2.1,<-y2.2.1] at hU
    have y13:=y1.2.2;have y23:=y2.2.2
    refine ⟨P2,rfl,by simp,by omega,?_,J.mo,J2.mo,ev.push h3,?_⟩
    ·simp only [zP,zH,zK];omega
    rw [show (cnt - ((out.length:Int)+1)).toNat=f by omega];exact hU
   have ht:((out.length:Int) - 1).toNat=out.length - 1:=by omega
   have lt_:0 < (out.length:Int)->0<=eT out (out.length - 1)/\eT out (out.length - 1)<=1073741824:=fun h=>ev.rt _ (by omega)
   have li_:0 < (out.length:Int)->0<=eI out (out.length - 1)/\eI out (out.length - 1)<=65535:=fun h=>ev.ri _ (by omega)
   have eTd:(D.int (gt out (out.length - 1) 0))=eT out (out.length - 1):=rfl
   have eId:(D.int (gt out (out.length - 1) 1))=eI out (out.length - 1):=rfl
   have f1:0 < (out.length:Int)->nxT out g=g+eT out (out.length - 1):=fun h=>if_pos (by omega)
   have f2:0 < (out.length:Int)->g=0->nxI out g v=v+(eI out (out.length - 1)+1):=fun h h2=>if_pos ⟨by omega,h2⟩
   have f3:¬g=0->nxI out g v=v:=fun h2=>if_neg fun h=>h2 h.2
   have f4:¬0 < (out.length:Int)->nxT out g=g:=fun h=>if_neg (by omega)
   have f5:¬0 < (out.length:Int)->nxI out g v=v:=fun h=>if_neg fun h2=>h (by omega)
   constructor
   all_goals (try simp only [hf71,hi,vZ29,v29f,v29k,ht,eTd,eId])
   case g395=>intro _ _ h;exact (bad (n1 h)).1
   case g396=>intro _ _ h;exact (bad (n1 h)).2
   case g397=>intro _ _ h h2;exact (bad (n2 h h2)).1
   case g398=>intro _ _ h h2;exact (bad (n2 h h2)).2
   case g399 |g409 |g419=>intros;exact hp71 _
   case g400=>intro p1 p2 h h2 h3;rw [<-f1 p1,<-f2 p1 p2] at h3;exact (bad (n3 h h2 h3)).1
   case g401=>intro p1 p2 h h2 h3;rw [<-f1 p1,<-f2 p1 p2] at h3;exact (bad (n3 h h2 h3)).2
   case n404=>intro p1 p2 h h2 h3;rw [<-f1 p1,<-f2 p1 p2] at h3 ⊢;exact ⟨go h h2 h3,by omega⟩
   case g405=>intro _ _ h;exact (bad (n1 h)).1
   case g406=>intro _ _ h;exact (bad (n1 h)).2
   case g407=>intro _ _ h h2;exact (bad (n2 h h2)).1
   case g408=>intro _ _ h h2;exact (bad (n2 h h2)).2
   case g410=>intro p1 p2 h h2 h3;rw [<-f1 p1] at h3;rw [<-f3 p2] at h3;exact (bad (n3 h h2 (by rw [f3 p2] at h3 ⊢;exact h3))).1
   case g411=>intro p1 p2 h h2 h3;rw [<-f1 p1] at h3;exact (bad (n3 h h2 (by rw [f3 p2];exact h3))).2
   case n414=>intro p1 p2 h h2 h3;rw [<-f1 p1] at h3 ⊢;have:=go h h2 (by rw [f3 p2];exact h3);rw [f3 p2] at this;exact ⟨this,by omega⟩
   case g415=>intro _ h;exact (bad (n1 h)).1
   case g416=>intro _ h;exact (bad (n1 h)).2
   case g417=>intro _ h h2;exact (bad (n2 h h2)).1
   case g418=>intro _ h h2;exact (bad (n2 h h2)).2
   case g420=>intro p1 h h2 h3;exact (bad (n3 h h2 (by rw [f4 p1,f5 p1];exact h3))).1
   case g421=>intro p1 h h2 h3;exact (bad (n3 h h2 (by rw [f4 p1,f5 p1];exact h3))).2
   case n424=>intro p1 h h2 h3;have:=go h h2 (by rw [f4 p1,f5 p1];exact h3);rw [f4 p1,f5 p1] at this;exact ⟨this,by omega⟩
   all_goals (try simp only [zH,zK])
   all_goals intro p1
   all_goals (first |(have q1:=lt_ p1;have q2:=li_ p1;intros;omega) |(intros;omega))
  case g425=>intro hn h;have uG:=uG;rw [<-hU,show (cnt - out.length).toNat=0 by omega] at uG;rw [h0,uG,unpG];simp only [];rw [if_pos (by omega)]
  case g426=>intro hn h;have uG:=uG;rw [<-hU,show (cnt - out.length).toNat=0 by omega] at uG;rw [h1,uG,unpG];simp only [];rw [if_pos (by omega)]
  case g427=>intro _ h;exact hp63 _ (by omega) ev
  case g428=>intros;exact hp72 _
  all_goals intro hn h h2
  all_goals (have uG:=uG;rw [<-hU,show (cnt - out.length).toNat=0 by omega,unpG] at uG;simp only [] at uG;rw [if_neg (by omega)] at uG)
  case g429=>rw [if_neg (by rw [h2];decide)] at uG;rw [h0,uG]
  case g430=>rw [if_neg (by rw [h2];decide)] at uG;rw [h1,uG]
  case g431=>rw [if_pos h2] at uG;rw [h0,uG]
  case g432=>rw [if_pos h2] at uG;rw [h1,uG]
 all_goals (try simp only [vZ29,zH,zK,show Int.toNat 2=2 from rfl,show Int.toNat 3=3 from rfl,show Int.toNat 4=4 from rfl])
 all_goals (try (have:=lenA hx))
 all_goals (have b2:=hb 2 (by omega);have b3:=hb 3 (by omega);have b4:=hb 4 (by omega))
 all_goals (intros;omega)
end HX

namespace HX
open Go Go.Proofs CX
structure Wb (s:Rows×Int):Prop where
 wf:Wf s
 by_:byL s.1
 z:(gt s.1 (s.1.length - 1) 0).int % 2 ^ s.2.toNat=0
theorem gt_set {o:Rows} {i j:Nat} {x:List D} (h:i < o.length):gt (o.set i x) j 0=if j=i then x.getD 0 .nil else gt o j 0:=by
 rw [gt_eq,gt_eq]
 by_cases e:j=i
 ·subst e
  rw [if_pos rfl,List.getElem?_set_self h];rfl
 rw [if_neg e,List.getElem?_set_ne (fun h=>e h.symm)]
theorem orL_eq {o:Rows} (hp:0 < o.length) {b:Int} {s:Nat} (hs:s<=7) (hb:byL o) (h3:(gt o (o.length - 1) 0).int % 2 ^ (s+1)=0) (b0:0<=b) (b1:b<=1) :
  orL o b s=o.set (o.length - 1) [.i ((gt o (o.length - 1) 0).int+b * 2 ^ s)]:=by
 have h:=hb (o.length - 1) (by omega)
 rw [orL,show ((o.length:Int) - 1).toNat=o.length - 1 by omega,or_u8 hs h.1 h.2 h3 b0 b1]
theorem pw:(2:Int) ^ 0=1/\(2:Int) ^ 1=2/\(2:Int) ^ 2=4/\(2:Int) ^ 3=8/\(2:Int) ^ 4=16/\(2:Int) ^ 5=32/\(2:Int) ^ 6=64/\(2:Int) ^ 7=128/\(2:Int) ^ 8=256:=by decide
theorem put1_ok {s:Rows×Int} (h:Wb s) {v k:Int} (hv:0<=v) (hv2:v<=9223372036854775807) (hk:0<=k) (hk2:k<=64) :
  Wb (put1 s v k)/\(∀p:Nat,(p:Int) < bitsN s->bAt (put1 s v k).1 p=bAt s.1 p)/\bAt (put1 s v k).1 (bitsN s).toNat=v / 2 ^ k.toNat % 2/\(∀i,i+1 < s.1.length\/(i < s.1.length/\s.2=0)->gt (put1 s v k).1 i 0=gt s.1 i 0):=by
 obtain ⟨⟨h1,h2,h3⟩,hb,hz⟩:=h
 obtain ⟨w1,w2⟩:=put1_wf ⟨h1,h2,h3⟩ v k
 obtain ⟨o,r⟩:=s
 simp only [] at h1 h2 h3 hb hz
 have eb:=bitB_eq hv hv2 hk hk2
 obtain ⟨b,hbe⟩:∃b,v / 2 ^ k.toNat % 2=b:=⟨_,rfl⟩
 rw [hbe] at eb ⊢
 have b0:0<=b/\b<=1:=by omega
 by_cases hr:r=0
 ·subst hr
  have hbo:byL (o++[[D.i 0]]):=by
   intro i hi
   by_cases e:i < o.length
   ·rw [gtA e];exact hb i e
   rw [show i=o.length by simp at hi;omega,gtN];decide
  have e1:put1 (o,0) v k=((o++[[D.i 0]]).set o.length [D.i (b * 128)],7):=by
   rw [put1_0 rfl,eb]
   have:=orL_eq (o:=o++[[D.i 0]]) (by simp) (b:=b) (s:=7) (by omega) hbo (by simp only [zP,zH,zK,qJ];rw [gtN];decide) b0.1 b0.2
   simp only [zP,zH,zK,qJ,gtN] at this
   rw [show ((8:Int) - 1)=((7:Nat):Int) from rfl,this]
   simp [D.int,pw]
  rw [e1] at w1 w2 ⊢
  have g1:∀j,gt ((o++[[D.i 0]]).set o.length [D.i (b * 128)]) j 0=if j=o.length then .i (b * 128) else gt (o++[[D.i 0]]) j 0:=fun j=>by rw [gt_set (by simp)];rfl
  have len:((o++[[D.i 0]]).set o.length [D.i (b * 128)]).length=o.length+1:=by simp
  refine ⟨⟨w1,fun i hi=>?_,?_⟩,fun p hp=>?_,?_,fun i hi=>?_⟩
  ·simp only [] at hi ⊢
   rw [g1]
   split
   ·show 0<=b * 128/\b * 128<=255;omega
   exact hbo i (by rw [len] at hi;simpa using hi)
  ·simp only [len,qJ]
   rw [g1,if_pos rfl]
   show b * 128 % 2 ^ 7=0
   rw [pw.2.2.2.2.2.2.2.1];omega
  ·simp only [bitsN] at hp
   unfold bAt
   rw [g1,if_neg (by omega),gtA (by omega)]
  ·simp only [bitsN]
   unfold bAt
   rw [show (8 * (o.length:Int) - 0).toNat / 8=o.length by omega,show (8 * (o.length:Int) - 0).toNat % 8=0 by omega,g1,if_pos rfl]
   show b * 128 / 2 ^ 7 % 2=b
   rw [pw.2.2.2.2.2.2.2.1];omega
  simp only [] at hi ⊢
  rw [g1,if_neg (by omega),gtA (by omega)]
 obtain ⟨s,rfl⟩:∃s:Nat,r=((s+1:Nat):Int):=⟨r.toNat - 1,by omega⟩
 have hs:s<=6:=by omega
 rw [zW] at hz
 have hA:=hb (o.length - 1) (by omega)
 obtain ⟨A,hAe⟩:∃A,(gt o (o.length - 1) 0).int=A:=⟨_,rfl⟩
 have e1:put1 (o,((s+1:Nat):Int)) v k=(o.set (o.length - 1) [D.i (A+b * 2 ^ s)],(s:Int)):=by
  rw [put1_1 (by omega),eb,show (((s+1:Nat):Int) - 1)=(s:Int) by omega]
  rw [orL_eq h1 (by omega) hb hz b0.1 b0.2,hAe]
 rw [hAe] at hA hz
 rw [e1] at w1 w2 ⊢
 have g1:∀j,gt (o.set (o.length - 1) [D.i (A+b * 2 ^ s)]) j 0=if j=o.length - 1 then .i (A+b * 2 ^ s) else gt o j 0:=fun j=>by rw [gt_set (by omega)];rfl
 have len:(o.set (o.length - 1) [D.i (A+b * 2 ^ s)]).length=o.length:=by simp
 have cs:s=0\/s=1\/s=2\/s=3\/s=4\/s=5\/s=6:=by omega
 refine ⟨⟨w1,fun i hi=>?_,?_⟩,fun p hp=>?_,?_,fun i hi=>?_⟩
 ·simp only [] at hi ⊢
  rw [g1]
  split
  ·show 0<=A+b * 2 ^ s/\A+b * 2 ^ s<=255
   rcases cs with rfl |rfl |rfl |rfl |rfl |rfl |rfl<;>simp only [pw,Nat.reduceAdd] at hz ⊢<;>omega
  exact hb i (by rw [len] at hi;exact hi)
 ·simp only [len,zW]
  rw [g1,if_pos rfl]
  show (A+b * 2 ^ s) % 2 ^ s=0
  rcases cs with rfl |rfl |rfl |rfl |rfl |rfl |rfl<;>simp only [pw,Nat.reduceAdd] at hz ⊢<;>omega
 ·simp only [bitsN] at hp
  unfold bAt
  rw [g1]
  split
  next e=>
   rw [e,hAe]
   show (A+b * 2 ^ s) / 2 ^ (7 - p % 8) % 2=_
   have hq:p % 8+s+1 < 8:=by omega
   generalize p % 8=q at hq
   have cq:q=0\/q=1\/q=2\/q=3\/q=4\/q=5\/q=6:=by omega
   rcases cs with rfl |rfl |rfl |rfl |rfl |rfl |rfl<;>rcases cq with rfl |rfl |rfl |rfl |rfl |rfl |rfl<;>first |(exfalso;omega;done) |(simp only [pw,Nat.reduceAdd,Nat.reduceSub] at hz ⊢;omega)
  rfl
 ·simp only [bitsN]
  unfold bAt
  rw [show (8 * (o.length:Int) - ((s+1:Nat):Int)).toNat / 8=o.length - 1 by omega,show 7 - (8 * (o.length:Int) - ((s+1:Nat):Int)).toNat % 8=s by omega,g1,if_pos rfl]
  show (A+b * 2 ^ s) / 2 ^ s % 2=b
  rcases cs with rfl |rfl |rfl |rfl |rfl |rfl |rfl<;>simp only [pw,Nat.reduceAdd] at hz ⊢<;>omega
 simp only [] at hi ⊢
 rw [g1,if_neg (by omega)]
end HX
