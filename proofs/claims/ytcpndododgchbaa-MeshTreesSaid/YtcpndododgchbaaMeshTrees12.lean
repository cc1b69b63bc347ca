/-
  MeshTrees: for all meshes, sources and targets by numbers, the function returns true, and its arguments read as they did.
-/
import Derived.Test.YtcpndododgchbaaMeshTrees11
import Derived.Test.YtcpndododgchbaaRows
set_option linter.all false
noncomputable section
namespace HX
open Go CX
theorem splitL_ok:∀{l a:List (Bool×List Kd)} {ks:List Kd} {b:List (Bool×List Kd)},splitL l=some (a,ks,b)->l=a++(false,[.sl ks]) :: b
 |[],_,_,_,h=>by simp [splitL] at h
 |p :: r,a,ks,b,h=>by
  simp only [splitL] at h
  split at h
  next a' ks' b' h'=>
   simp only [zA,zI] at h
   obtain ⟨rfl,rfl,rfl⟩:=h
   rw [splitL_ok h'];rfl
  split at h
  ·simp only [zA,zI] at h
   obtain ⟨rfl,rfl,rfl⟩:=h
   rfl
  cases h
def ShA:List (Bool×List Kd)->List (List D)->Prop
 |[],[]=>True
 |(_,ks) :: ps,d :: ds=>ShL ks d/\ShA ps ds
 |_,_=>False
theorem allA_okS:∀{ps:List (Bool×List Kd)} {K:List (List D)->Prop},allA ps K->∀{ds:List (List D)},ShA ps ds->K ds
 |[],K,h,[],_=>h
 |(a,ks) :: ps,K,h,d :: ds,hd=>by
  simp only [ShA] at hd
  exact allA_okS (K:=fun l=>K (d :: l)) (allL_ok h hd.1) hd.2
 |[],_,_,_ :: _,hd=>by simp [ShA] at hd
 |_ :: _,_,_,[],hd=>by simp [ShA] at hd
theorem ShA.of {ro:Addr->Option V} {g:Nat->Option O} {B:Nat}:∀{ps:List (Bool×List Kd)} {ds:List (List D)} {x:List V},ArgsFz ro g B ps ds x->ShA ps ds
 |[],[],_,_=>trivial
 |(a,ks) :: ps,d :: ds,v :: x,h=>by
  simp only [ArgsFz] at h
  exact ⟨ShL_arg h.1 h.2.1,ShA.of h.2.2⟩
 |[],_ :: _,x,h=>by cases x<;>simp [ArgsFz] at h
 |_ :: _,[],x,h=>by cases x<;>simp [ArgsFz] at h
 |_ :: _,_ :: _,[],h=>by simp [ArgsFz] at h
theorem ShA.app:∀{p q:List (Bool×List Kd)} {c d:List (List D)},ShA p c->ShA q d->ShA (p++q) (c++d)
 |[],_,[],_,_,h=>h
 |_ :: _,_,_ :: _,_,h,k=>by
  simp only [ShA,List.cons_append] at h ⊢
  exact ⟨h.1,ShA.app h.2 k⟩
 |[],_,_ :: _,_,h,_=>by simp [ShA] at h
 |_ :: _,_,[],_,h,_=>by simp [ShA] at h
theorem ShA.len:∀{p:List (Bool×List Kd)} {c:List (List D)},ShA p c->c.length=p.length
 |[],[],_=>rfl
 |_ :: _,_ :: _,h=>by
  simp only [ShA] at h
  simp [ShA.len h.2]
 |[],_ :: _,h=>by simp [ShA] at h
 |_ :: _,[],h=>by simp [ShA] at h
theorem RowG.sh {ro:Addr->Option V} {g h:Nat->Option O} {nx:Nat} {ks:List Kd} {rows:Rows} {v:V} (hr:RowG ro g h nx ks rows v):ShR ks rows:=by
 obtain ⟨⟨_,hl⟩,hr⟩:=hr
 refine ⟨fun row hrow=>?_,hl.2⟩
 obtain ⟨i,hi,rfl⟩:=List.getElem_of_mem hrow
 rcases hr with ⟨h,_⟩ |⟨id,t,m,cap,_,_,_,_,h⟩
 ·subst h;simp at hi
 exact ShL.of ks (gt rows i) _ 0 (h i hi) rows[i] (hl.1 _ hrow) (fun j hj=>by simp [gt,zH,hi])
def cutD:List (Bool×List Kd)->List (List D)->Option (List (List D)×Rows×List (List D))
 |[],d :: l=>match d with
  |[.l rows]=>some ([],rows,l)
  |_=>none
 |_ :: p,d :: l=>match cutD p l with
  |some (a,r,b)=>some (d :: a,r,b)
  |none=>none
 |_,[]=>none
theorem cutD_ok:∀{p:List (Bool×List Kd)} {d1:List (List D)} {rows:Rows} {d2:List (List D)},d1.length=p.length->cutD p (d1++[.l rows] :: d2)=some (d1,rows,d2)
 |[],[],_,_,_=>rfl
 |_ :: p,d :: d1,rows,d2,h=>by
  simp only [List.cons_append,cutD]
  rw [cutD_ok (by simpa using h)]
 |[],_ :: _,_,_,h=>by simp at h
 |_ :: _,[],_,_,h=>by simp at h
def retDM1 (fn:Func) (sg:Sig) (ks:List Kd) (r:Nat->Nat->D) (ds:List (List D)) (Y:St) (o:Option SO):Prop:=
 match o with
 |some (.arr _ ks' rows)=>match kdsEq ks' ks with
  |true=>allP (eqRes r (ds++[[.l rows]]) 0)
  |false=>StuckR fn.name Y
 |_=>StuckR fn.name Y
def retDM (A:Ar) (fn:Func) (sg:Sig) (ks:List Kd) (r:Nat->Nat->D) (vs:List SV) (Y:St):Prop:=
 match argsD A Y false sg.results vs with
 |some ds=>retDM1 fn sg ks r ds Y (look Y.objs 1)
 |none=>StuckR fn.name Y
def retRPM (E:Env) (fn:Func) (sg:Sig) (ks:List Kd) (r:Nat->Nat->D) (Y:St):Prop:=
 match takeS Y.df Y.objs with
 |some objs=>match resAll E (Y.mem objs Y.next) fn.results.toList with
  |some vs=>retDM E.A fn sg ks r vs (Y.mem (frzL objs (vs.map whole)) Y.next)
  |none=>StuckR fn.name Y
 |none=>StuckR fn.name Y
def retXM (E:Env) (fn:Func) (sg:Sig) (ks:List Kd) (r:Nat->Nat->D):Ex->St->Prop
 |.ret,Y=>retRPM E fn sg ks r Y
 |.normal,Y=>retRPM E fn sg ks r Y
 |_,Y=>StuckR fn.name Y
def fnVCM2 (js:List Nat) (E:Env) (inl:Nat->Option Func) (n:Nat) (fn:Func) (sg:Sig) (r:Nat->Nat->D) (c:Code) (ks:List Kd) (rows:Rows) (vs:List SV):Prop:=
 match bleN vs.length fn.ntmps with
 |true=>vcJ E none 2 (ciN E inl n) js c (retXM E fn sg ks r) ⟨fn.ntmps,enterS 0 vs,[(1,.arr 1 ks rows)],2,[]⟩
 |false=>False
def fnVCM1 (js:List Nat) (E:Env) (inl:Nat->Option Func) (n:Nat) (fn:Func) (sg:Sig) (r:Nat->Nat->D) (c:Code) (p1:List (Bool×List Kd)) (ks:List Kd) (p2:List (Bool×List Kd)) (d1:List (List D)) (rows:Rows) (d2:List (List D)):Prop:=
 match argsSV 1 p1 d1 with
 |some v1=>match argsSV 1 p2 d2 with
  |some v2=>fnVCM2 js E inl n fn sg r c ks rows (v1++.slc 1 :: v2)
  |none=>False
 |none=>False
def fnVCM (js:List Nat) (E:Env) (inl:Nat->Option Func) (n:Nat) (fn:Func) (sg:Sig) (r:Nat->Nat->D) (ds:List (List D)):Prop:=
 match fn.body with
 |some c=>match splitL sg.params with
  |some (p1,ks,p2)=>match cutD p1 ds with
   |some (d1,rows,d2)=>fnVCM1 js E inl n fn sg r c p1 ks p2 d1 rows d2
   |none=>False
  |none=>False
 |none=>False
theorem eqRes_app {r:Nat->Nat->D}:∀{ds es:List (List D)} {i:Nat},(∀p∈eqRes r (ds++es) i,p)->(∀p∈eqRes r ds i,p)/\∀p∈eqRes r es (i+ds.length),p
 |[],es,i,h=>⟨fun p hp=>(by cases hp),by simpa using h⟩
 |d :: ds,es,i,h=>by
  simp only [List.cons_append,eqRes] at h
  have h2:=eqRes_app (i:=i+1) fun p hp=>h p (xF _ hp)
  refine ⟨fun p hp=>?_,fun p hp=>h2.2 p (by rw [show i+1+ds.length=i+(d :: ds).length by simp;omega];exact hp)⟩
  simp only [eqRes] at hp
  rcases xU.1 hp with hp |hp
  ·exact h p (xO _ hp)
  exact h2.1 p hp
def slcI:V->Nat
 |.slc id _ _ _ _=>id
 |_=>0
theorem MutC.of_vcJ {E:Env} (hE:EnvOk E) (js:List Nat) {inl:Nat->Option Func} (hinl:∀f fn,inl f=some fn->E.E.fn f=some fn/\E.E.ext f=none) (n:Nat) {f:Nat} {fn:Func} {sg:Sig} {pre:List (List D)->Prop} {res:List (List D)->Nat->Nat->D} (hf:E.E.fn f=some fn/\E.E.ext f=none)
  (h:allA sg.params fun ds=>pre ds->fnVCM js E inl n fn sg (res ds) ds):MutC E.E f sg pre res:=by
 intro p1 ks p2 hsp d1 rows d2 hpre g bar nx hp x1 x2 v hg hbar ha1 ha2 hrow hsl
 have hs1:=ShA.of ha1
 have hvc:=allA_okS h (ds:=d1++[.l rows] :: d2) (by
  rw [splitL_ok hsp]
  refine hs1.app ⟨?_,ShA.of ha2⟩
  simp only [ShL,ShK,and_true]
  exact ⟨rows,rfl,hrow.sh⟩) hpre
 unfold fnVCM at hvc
 split at hvc
 rotate_left
 ·exact hvc.elim
 rename_i c hc
 rw [hsp] at hvc
 simp only at hvc
 rw [cutD_ok hs1.len] at hvc
 simp only at hvc
 unfold fnVCM1 at hvc
 split at hvc
 rotate_left
 ·exact hvc.elim
 rename_i v1 hv1
 split at hvc
 rotate_left
 ·exact hvc.elim
 rename_i v2 hv2
 unfold fnVCM2 at hvc
 split at hvc
 rotate_left
 ·exact hvc.elim
 rename_i hle
 simp only [bleN_iff] at hle
 let C:Cx E.E.ro:=⟨fun _=>slcI v,fun _=>v,g,fun b=>if b=0 then 0 else nx⟩
 have lk:∀{nm so},look [(1,SO.arr 1 ks rows)] nm=some so->nm=1/\so=.arr 1 ks rows:=fun {nm so} hl=>by
  rw [look_cons] at hl
  split at hl
  next e=>cases hl;exact ⟨e.symm,rfl⟩
  simp [look] at hl
 have hdr:v=.nils\/∃es len cap,v=.slc (slcI v) es 0 len cap:=by
  rcases hrow.2 with ⟨_,h⟩ |⟨id,t,m,cap,h,_⟩
  ·exact .inl h
  refine .inr ⟨ks.length,rows.length,cap,?_⟩
  rw [h];rfl
 have hsl1:v≠.nils->SlcId v (slcI v):=fun hn=>by
  rcases hdr with h |⟨es,len,cap,h⟩
  ·exact absurd h hn
  exact ⟨_,_,_,_,h⟩
 have hM:MSim C [(1,SO.arr 1 ks rows)] 2 bar hp.get nx:=by
  refine ⟨fun nm so hl=>by have:=(lk hl).1;omega,fun nm so hl=>?_,fun nm so hl id ho=>?_,fun a b so so' hla hlb _ _ _=>by rw [(lk hla).1,(lk hlb).1],hg,fun b _=>?_,rfl,hbar,rfl⟩
  ·obtain ⟨rfl,rfl⟩:=lk hl
   simp only [ObS]
   refine ⟨hrow.1,?_⟩
   rcases hrow.2 with h |⟨id,t,m,cap,h1,h2,h3,h4,h5⟩
   ·exact .inl h
   have e:slcI v=id:=by rw [h1];rfl
   refine .inr ⟨t,m,cap,?_,?_,h3,h4,h5⟩
   ·show v=.slc (slcI v) _ _ _ _
    rw [e];exact h1
   show hp.get (slcI v)=_
   rw [e];exact h2
  ·obtain ⟨rfl,rfl⟩:=lk hl
   rcases ho with ⟨h1,h2⟩ |h
   ·have h1:v≠.nils:=h1
    have h2:slcI v=id:=h2
    rw [<-h2];exact hsl _ (hsl1 h1)
   exact absurd h (by simp [subS])
  show (if b=0 then 0 else nx)<=nx
  split<;>omega
 have hrel:RvSL C 2 (v1++.slc 1 :: v2) (x1++v :: x2):=by
  refine RvSL.append (argsSV_ok (b:=1) (by omega) hv1 ha1) ⟨?_,argsSV_ok (b:=1) (by omega) hv2 ha2⟩
  simp only [RvS]
  refine ⟨by omega,rfl,?_⟩
  rcases hdr with h |⟨es,len,cap,h⟩
  ·exact .inl h
  exact .inr ⟨_,_,_,_,_,h⟩
 obtain ⟨t',t1,t2⟩:=enter_ok (C:=C) (n:=2) _ _ 0 .e [] hrel (fun t s h=>by simp [look] at h) (fun j s h=>by simp [look] at h)
 obtain ⟨e,S',C',Y',k1,k2,k3,k4⟩:=vcJ_ok hE (ciN_ok hE hinl n) js (rd:=none) (lo:=2) c _ _ hvc C ⟨fn.ntmps,bar,t',hp,nx,[]⟩ ⟨rfl,fun j s hl=>.inr (t2 j s hl),hM,.nil,fun d hd=>by cases hd⟩ (zB _) (fun l hl=>by cases hl)
 have own0:∀id,OwnId C [(1,SO.arr 1 ks rows)] id->v≠.nils/\slcI v=id:=fun id ⟨nm,so,hl,ho⟩=>by
  obtain ⟨rfl,rfl⟩:=lk hl
  rcases ho with ⟨h1,h2⟩ |h
  ·exact ⟨h1,h2⟩
  exact absurd h (by simp [subS])
 have fin:retRPM E fn sg ks (res (d1++[.l rows] :: d2)) Y'->(e=.normal\/e=.ret)->∃(vs:List V) (h':T O) (nx':Nat) (g':Nat->Option O),Evt (fun n=>∀k,callF E.E (cx E.E n) bar hp nx f (x1++v :: x2) k=k (CX.one vs) h' nx')/\nx<=nx'/\(∀id,id < nx->¬SlcId v id->h'.get id=hp.get id)/\(∀id o,g id=some o->g' id=some o)/\
   (∀id o,g' id=some o->(id < nx'/\h'.get id=some o)/\(g id=some o\/nx<=id))/\ResFz E.E.ro g' nx' (res (d1++[.l rows] :: d2)) sg.results 0 vs/\RowG E.E.ro g' h'.get nx' ks (res (d1++[.l rows] :: d2) sg.results.length 0).rows v:=by
  intro hr he
  unfold retRPM at hr
  split at hr
  rotate_left
  ·exact hr.out.elim
  rename_i objs ho
  split at hr
  rotate_left
  ·exact hr.out.elim
  rename_i rs hrs
  unfold retDM at hr
  split at hr
  rotate_left
  ·exact hr.out.elim
  rename_i ds' hds
  unfold retDM1 at hr
  split at hr
  rotate_left
  ·exact hr.out.elim
  rename_i og ks' rows' hl
  split at hr
  rotate_left
  ·exact hr.out.elim
  rename_i hk
  have hk:=(kds_eq hk).symm
  subst hk
  obtain ⟨h',t1',t2',t3'⟩:=take_ok S'.df Y'.df Y'.objs objs S'.h ho k2.m k2.df k2.dflt
  obtain ⟨x,y1,y2⟩:=resAll_ok (Y:=Y'.mem objs Y'.next) hE t2' k2.regs fn.results.toList hrs
  obtain ⟨C2,m2,e2⟩:=t2'.frzL (rs.map whole)
  have hA:=argsD_ok hE.A (Y:=Y'.mem (frzL objs (rs.map whole)) Y'.next) m2 (fun _ _ h=>h) (fun e=>by cases e) hds (RvSL.ag e2.ag (zB _) _ _ y1)
  have hext:MExt C [(1,SO.arr 1 ks rows)] 2 hp.get nx C2 (frzL objs (rs.map whole)) Y'.next h'.get S'.nx:=yext (k3.m.took t3' (fun i hi=>(k3.df i hi).resolve_left (by intro h;cases h))) (MExt.refl _ _ _ _ _) ((MExt.refl _ _ _ _ _).less k3.m.le) e2
  have hbar':S'.bar=bar:=k3.bar
  have hh:C2.hdr 1=v:=hext.ag.hdr 1 (by omega)
  have hi:C2.ids 1=slcI v:=hext.ag.ids 1 (by omega)
  have hob:=m2.ob 1 _ hl
  simp only [ObS] at hob
  rw [hh,hi] at hob
  obtain ⟨r1,r2⟩:=eqRes_app (allP_ok _ hr)
  have hlen':ds'.length=sg.results.length:=(ShA.of hA).len
  have hrw:(res (d1++[.l rows] :: d2) sg.results.length 0).rows=rows':=by
   have:=r2 (res (d1++[.l rows] :: d2) (0+ds'.length) 0=.l rows') (by simp [eqRes,eqRow])
   rw [zO,hlen'] at this
   rw [this];rfl
  refine ⟨x,h',S'.nx,C2.g,k1.mono fun n hn k=>?_,hext.nxle,fun id hid hn=>hext.keep id hid fun ho=>hn ?_,fun id o hgo=>hext.ag.g id o hgo,fun id o hgo=>⟨m2.fz id o hgo,?_⟩,eqRes_ok r1 hA,?_⟩
  ·have hlen:Nat.ble (CX.len (x1++v :: x2)) fn.ntmps=true:=bleT (by rw [len_eq,hrel.length];exact hle)
   have hn':cx E.E n none c ⟨fn.ntmps,bar,t',hp,nx,[]⟩=some (e,S'):=hn
   have hrun:outV (takeDf bar S'.df S'.h fun h=>resultsX E.E S'.regs h fn.results.toList fun l=>retV (CX.one l) h S'.nx) k=k (CX.one x) h' S'.nx:=by
    rw [<-hbar',t1',y2];rfl
   simp only [callF,hf.1,hf.2,hc,hlen,t1,hn']
   rcases he with rfl |rfl<;>exact hrun
  ·obtain ⟨a,b⟩:=own0 id ho
   rw [<-b];exact hsl1 a
  ·rcases hext.g id o hgo with h |h |h
   ·exact .inl h
   ·exfalso
    obtain ⟨a,b⟩:=own0 id h
    have:=(m2.own 1 _ hl (by simp only [ownS];rw [hh];exact a)).2.2
    rw [hi,b,hgo] at this;cases this
   exact .inr h
  rw [hrw]
  refine ⟨hob.1,?_⟩
  rcases hob.2 with h |⟨t,m,cap,h1,h2,h3,h4,h5⟩
  ·exact .inl h
  exact .inr ⟨slcI v,t,m,cap,h1,h2,h3,h4,h5⟩
 cases e with
 |normal=>exact fin k4 (.inl rfl)
 |ret=>exact fin k4 (.inr rfl)
 |exit i=>exact (StuckR.out k4).elim
end HX

namespace HX
open Go Go.Proofs CX
set_option maxHeartbeats 4000000 in
set_option maxRecDepth 100000 in
theorem walk43 {ro A pre fn} (hE:EnvOk ⟨A,(cxE ro),ksF,sigL [(43,⟨[(true,[.int .i64,.int .i64,.int .i64]),(false,[.sl [.int .i64]]),(false,[.int .i64]),(false,[.sl [.int .i64]]),(false,[.int .i64])],[(false,[.int .i64]),(false,[.bool])],true⟩),(84,⟨[(true,[.int .i64,.int .i64,.int .i64]),(false,[.int .i64]),(false,[.int .i64])],[(false,[.int .i64]),(false,[.bool])],false⟩)],pre,fn⟩) {P:List (List D)->Prop} {res:List (List D)->Nat->Nat->D}
  (hv:∀(a0_0:Int) (a0_1:Int) (a0_2:Int) (a1:Rows) (a2:Int) (a3:Rows) (a4:Int),ShR [.int .i64] a1->ShR [.int .i64] a3->P [[.i a0_0,.i a0_1,.i a0_2],[.l a1],[.i a2],[.l a3],[.i a4]]->V43 pre fn a0_0 a0_1 a0_2 a1 a2 a3 a4 (res [[.i a0_0,.i a0_1,.i a0_2],[.l a1],[.i a2],[.l a3],[.i a4]])) :
  MutC (cxE ro) 43 ⟨[(true,[.int .i64,.int .i64,.int .i64]),(false,[.sl [.int .i64]]),(false,[.int .i64]),(false,[.sl [.int .i64]]),(false,[.int .i64])],[(false,[.int .i64]),(false,[.bool])],true⟩ P res:=by
 have hA:=hE.A
 simp only [] at hA
 have hinl:∀f fn,inlL [] f=some fn->(cxE ro).fn f=some fn/\(cxE ro).ext f=none:=Inls.ok (by repeat (first |exact .nil |refine .cons rfl rfl ?_))
 refine MutC.of_vcJ hE [] hinl 6 (f:=43) (fn:=Try.f43) ⟨rfl,rfl⟩ ?_
 intro a0_0 a0_1 a0_2 a1 ha1 a2 a3 ha3 a4 hP
 obtain ⟨R,hR⟩:∃R,res [[.i a0_0,.i a0_1,.i a0_2],[.l a1],[.i a2],[.l a3],[.i a4]]=R:=⟨_,rfl⟩
 rw [hR]
 have hV:=hv a0_0 a0_1 a0_2 a1 a2 a3 a4 ha1 ha3 hP
 rw [hR] at hV
 clear hR hP hv
 cbv
 repeat' (first |(refine Br.mk (fun _=>?_) (fun _=>?_)<;>cbv) |(refine NilB.mk (fun _=>?_) ?_<;>cbv) |refine And.intro ?_ ?_ |exact True.intro)
 next p0a=>
  subst hA;exact hV.g0 (dt p0a)
 next p1a=>
  subst hA;exact hV.g1 (dt p1a)
 next p2a=>
  subst hA;exact hV.g2 (dt p2a)
 next p3a p3b=>
  subst hA;exact hV.g3 (df p3a) (dt p3b)
 next p4a p4b=>
  subst hA;exact hV.g4 (df p4a) (dt p4b)
 next p5a p5b=>
  subst hA;exact hV.g5 (df p5a) (dt p5b)
 rename_i p6a p6b
 refine Leaf.gen fun Yz hσz=>?_
 obtain ⟨I0,m0,i0,c0⟩:V43l0 pre fn a0_0 a0_1 a0_2 a1 a2 a3 a4 R:=by subst hA;exact hV.l0 (df p6a) (df p6b)
 refine loopB hE hinl 6 [] [] [(1,[])] (fun x:Int×Int×Bool×Int×Rows=>[.i x.1,.i x.2.1,.b x.2.2.1,.i x.2.2.2.1,.l x.2.2.2.2]) (fun x=>I0 x.1 x.2.1 x.2.2.1 x.2.2.2.1 x.2.2.2.2) (fun x=>m0 x.1 x.2.1 x.2.2.1 x.2.2.2.1 x.2.2.2.2) (a4,0,false,1,a3) (by subst hA;exact i0) ?_ ?_<;>subst hσz
 ·clear hE hinl hV;cbv;(try (repeat' (first |exact True.intro |rfl |assumption |apply And.intro)))
 intro ⟨b0,b1,b2,b3,b4⟩ hI0 K0 hK0
 have h0:=c0 _ _ _ _ _ hI0
 cbv
 repeat' (first |(refine Br.mk (fun _=>?_) (fun _=>?_)<;>cbv) |(refine NilB.mk (fun _=>?_) ?_<;>cbv) |refine And.intro ?_ ?_ |exact True.intro)
 next p7a=>
  subst hA;exact h0.g7 (dt p7a)
 next p8a=>
  subst hA;exact h0.g8 (dt p8a)
 next p9a=>
  subst hA;exact h0.g9 (dt p9a)
 next p10a p10b=>
  subst hA;exact h0.g10 (dt p10a) (dt p10b)
 next p11a p11b=>
  refine hK0 (b0,b1,b2,A.mul b3 2,b4) _ ?_ ?_ ?_
  ·subst hA;exact (h0.n11 (dt p11a) (dt p11b)).1
  ·subst hA;exact (h0.n11 (dt p11a) (dt p11b)).2
  clear hE hinl hV hK0;cbv;(try (repeat' (first |exact True.intro |rfl |assumption |apply And.intro)))
 next p12a p12b=>
  subst hA;exact h0.g12 (dt p12a) (df p12b)
 next p13a p13b p13c=>
  subst hA;exact h0.g13 (dt p13a) (df p13b) (dt p13c)
 next p14a p14b p14c=>
  subst hA;exact h0.g14 (dt p14a) (df p14b) (dt p14c)
 next p15a p15b p15c=>
  subst hA;exact h0.g15 (dt p15a) (df p15b) (dt p15c)
 next p16a p16b p16c=>
  subst hA;exact h0.g16 (dt p16a) (df p16b) (dt p16c)
 next p17a p17b p17c=>
  subst hA;exact h0.g13 (dt p17a) (df p17b) (dt p17c)
 next p18a p18b p18c=>
  subst hA;exact h0.g14 (dt p18a) (df p18b) (dt p18c)
 next p19a p19b p19c=>
  subst hA;exact h0.g15 (dt p19a) (df p19b) (dt p19c)
 next p20a p20b p20c=>
  subst hA;exact h0.g20 (dt p20a) (df p20b) (dt p20c)
 next p21a p21b p21c=>
  refine hK0 (A.add b0 1,b1,b2,A.mul b3 2,A.set b4 (A.toNat a2) [D.i (A.add (A.di (A.get b4 (A.toNat a2) 0)) 1)]) _ ?_ ?_ ?_
  ·subst hA;exact (h0.n21 (dt p21a) (df p21b) (dt p21c)).1
  ·subst hA;exact (h0.n21 (dt p21a) (df p21b) (dt p21c)).2
  clear hE hinl hV hK0;cbv;(try (repeat' (first |exact True.intro |rfl |assumption |apply And.intro)))
 next p22a p22b p22c=>
  subst hA;exact h0.g22 (dt p22a) (df p22b) (df p22c)
 next p23a p23b p23c p23d=>
  subst hA;exact h0.g23 (dt p23a) (df p23b) (df p23c) (nt p23d)
 next p24a p24b p24c p24d=>
  subst hA;exact h0.g24 (dt p24a) (df p24b) (df p24c) (nt p24d)
 next p25a p25b p25c p25d=>
  subst hA;exact h0.g25 (dt p25a) (df p25b) (df p25c) (nt p25d)
 next p26a p26b p26c p26d=>
  subst hA;exact h0.g26 (dt p26a) (df p26b) (df p26c) (nf p26d)
 next p27a p27b p27c p27d p27e=>
  subst hA;exact h0.g27 (dt p27a) (df p27b) (df p27c) (nf p27d) (nt p27e)
 next p28a p28b p28c p28d p28e=>
  subst hA;exact h0.g28 (dt p28a) (df p28b) (df p28c) (nf p28d) (nt p28e)
 next p29a p29b p29c p29d p29e=>
  subst hA;exact h0.g29 (dt p29a) (df p29b) (df p29c) (nf p29d) (nt p29e)
 next p30a p30b p30c p30d p30e=>
  subst hA;exact h0.g30 (dt p30a) (df p30b) (df p30c) (nf p30d) (nf p30e)
 next p31a p31b p31c p31d p31e=>
  refine hK0 (A.di (fn 43 [[D.i a0_0,D.i a0_1,D.i a0_2],[D.l a1],[D.i (A.di (fn 84 [[D.i a0_0,D.i a0_1,D.i a0_2],[D.i a2],[D.i b3]] 0 0))],[D.l b4],[D.i (A.add b0 1)]] 0 0),b1,b2,A.mul b3 2,A.dl (fn 43 [[D.i a0_0,D.i a0_1,D.i a0_2],[D.l a1],[D.i (A.di (fn 84 [[D.i a0_0,D.i a0_1,D.i a0_2],[D.i a2],[D.i b3]] 0 0))],[D.l b4],[D.i (A.add b0 1)]] 2 0)) _ ?_ ?_ ?_
  ·subst hA;exact (h0.n31 (dt p31a) (df p31b) (df p31c) (nf p31d) (nf p31e)).1
  ·subst hA;exact (h0.n31 (dt p31a) (df p31b) (df p31c) (nf p31d) (nf p31e)).2
  clear hE hinl hV hK0;cbv;(try (repeat' (first |exact True.intro |rfl |assumption |apply And.intro)))
 next p32a=>
  subst hA;exact h0.g32 (df p32a)
 next p33a=>
  subst hA;exact h0.g33 (df p33a)
 rename_i p34a
 subst hA;exact h0.g34 (df p34a)
end HX

namespace HX
open Go Go.Proofs CX
def sg43:Sig:=⟨[(true,[.int .i64,.int .i64,.int .i64]),(false,[.sl [.int .i64]]),(false,[.int .i64]),(false,[.sl [.int .i64]]),(false,[.int .i64])],[(false,[.int .i64]),(false,[.bool])],true⟩
def c84r:Ctr:=⟨84,⟨[(true,[.int .i64,.int .i64,.int .i64]),(false,[.int .i64]),(false,[.int .i64])],[(false,[.int .i64]),(false,[.bool])],false⟩,p84,r84⟩
def c43r (m:Nat):Ctr:=⟨43,sg43,p43 m,r43 m⟩
def c43f:Ctr:=⟨43,sg43,fun _=>False,r43 0⟩
theorem k84r (ro:Addr->Option V):PureC (cxE ro) c84r.f c84r.sg c84r.pre c84r.res:=walk84 (envL (l:=[]) .nil) fun _ _ _ _ _ h=>law84 _ _ _ _ _ h
theorem k43f (ro:Addr->Option V):MutC (cxE ro) c43f.f c43f.sg c43f.pre c43f.res:=fun _ _ _ _ _ _ _ h=>h.elim
theorem rec43 (ro:Addr->Option V):∀m:Nat,m<=402->MutC (cxE ro) (c43r m).f (c43r m).sg (c43r m).pre (c43r m).res
 |0,_=>walk43 (envL (l:=[c43f,c84r]) (.cons (k43f ro) (.cons (k84r ro) .nil))) fun _ _ _ _ _ _ _ _ _ h=>law43_0 _ _ _ _ _ _ _ h
 |m+1,hm=>walk43 (envL (l:=[c43r m,c84r]) (.cons (rec43 ro m (by omega)) (.cons (k84r ro) .nil))) fun _ _ _ _ _ _ _ _ _ h=>law43 (m:=m) (by omega) rfl rfl rfl rfl _ _ _ _ _ _ _ h
end HX

namespace HX
open Go Go.Proofs CX
structure V42 (a0:Int) (R:Nat->Nat->D)  : Prop where
 g0:-9223372036854775808<=(0 - a0)/\(0 - a0)<=9223372036854775807
 g1:R 0 0=D.i (mxI a0 (0 - a0))
end HX

namespace HX
open Go Go.Proofs CX
structure V17 (a0_0:Int) (a0_1:Int) (a0_2:Int) (R:Nat->Nat->D)  : Prop where
 g0:((mnI (mnI a0_0 a0_1) a0_2) < 1)->R 0 0=D.i 3
 g1:(¬(mnI (mnI a0_0 a0_1) a0_2) < 1)->(8 < (mxI a0_0 a0_1))->R 0 0=D.i 3
 g2:(¬(mnI (mnI a0_0 a0_1) a0_2) < 1)->(¬8 < (mxI a0_0 a0_1))->(64 < a0_2)->R 0 0=D.i 3
 g3:(¬(mnI (mnI a0_0 a0_1) a0_2) < 1)->(¬8 < (mxI a0_0 a0_1))->(¬64 < a0_2)->R 0 0=D.i 0
end HX

namespace HX
open Go Go.Proofs CX
end HX

namespace HX
open Go Go.Proofs CX
structure V21 (a0:Rows) (a1:Rows) (R:Nat->Nat->D) (I0:Bool->Int->Prop) (m0:Bool->Int->Nat):Prop where
 g0:(¬(a0.length:Int)=(a1.length:Int))->R 0 0=D.b false
 i0:((a0.length:Int)=(a1.length:Int))->I0 false 0
 g2:∀x0_0 x0_1,I0 x0_0 x0_1->((a0.length:Int)=(a1.length:Int))->(x0_1 < (a0.length:Int))->0<=x0_1
 g3:∀x0_0 x0_1,I0 x0_0 x0_1->((a0.length:Int)=(a1.length:Int))->(x0_1 < (a0.length:Int))->x0_1 < (a0.length:Int)
 g4:∀x0_0 x0_1,I0 x0_0 x0_1->((a0.length:Int)=(a1.length:Int))->(x0_1 < (a0.length:Int))->(((Int.toNat x0_1:Nat):Int)) < (a0.length:Int)
 g6:∀x0_0 x0_1,I0 x0_0 x0_1->((a0.length:Int)=(a1.length:Int))->(x0_1 < (a0.length:Int))->x0_1 < (a1.length:Int)
 g7:∀x0_0 x0_1,I0 x0_0 x0_1->((a0.length:Int)=(a1.length:Int))->(x0_1 < (a0.length:Int))->(((Int.toNat x0_1:Nat):Int)) < (a1.length:Int)
 g8:∀x0_0 x0_1,I0 x0_0 x0_1->((a0.length:Int)=(a1.length:Int))->(x0_1 < (a0.length:Int))->(¬(D.int (gt a0 x0_1.toNat 0))=(D.int (gt a1 x0_1.toNat 0)))->R 0 0=D.b false
 g9:∀x0_0 x0_1,I0 x0_0 x0_1->((a0.length:Int)=(a1.length:Int))->(x0_1 < (a0.length:Int))->((D.int (gt a0 x0_1.toNat 0))=(D.int (gt a1 x0_1.toNat 0)))->-9223372036854775808<=(x0_1+1)/\(x0_1+1)<=9223372036854775807
 n10:∀x0_0 x0_1,I0 x0_0 x0_1->((a0.length:Int)=(a1.length:Int))->(x0_1 < (a0.length:Int))->((D.int (gt a0 x0_1.toNat 0))=(D.int (gt a1 x0_1.toNat 0)))->I0 x0_0 (x0_1+1)/\m0 x0_0 (x0_1+1) < m0 x0_0 x0_1
 g11:∀x0_0 x0_1,I0 x0_0 x0_1->((a0.length:Int)=(a1.length:Int))->(¬x0_1 < (a0.length:Int))->R 0 0=D.b true
end HX

namespace HX
open Go Go.Proofs CX
theorem law17 {a0_0 a0_1 a0_2:Int} {R:Nat->Nat->D} (hR:R 0 0=.i (chkS a0_0 a0_1 a0_2)):V17 a0_0 a0_1 a0_2 R:=by
 constructor
 all_goals (intros;rw [hR,chkS];simp only [mxI_eq,mnI_eq] at *)
 all_goals (first |rw [if_neg (by omega)] |rw [if_pos (by omega)])
theorem law21 {a0 a1:Rows} (hl:a0.length<=9223372036854775807) (h:a0=a1) {R:Nat->Nat->D} (hR:R 0 0=.b true) :
  V21 a0 a1 R (fun _ x=>∃r:Nat,x=r/\r<=a0.length) (fun _ x=>(a0.length - x).toNat):=by
 subst h
 constructor
 all_goals (try (intro s x ⟨r,hx,hr⟩;subst hx))
 all_goals (intros;(try simp only [kY] at *))
 all_goals (try omega)
 case i0=>exact ⟨0,rfl,by omega⟩
 case n10=>exact ⟨⟨r+1,by omega,by omega⟩,by omega⟩
 all_goals first
  |exact hR
  |(exfalso;rename_i h;exact h trivial)
  |(exfalso;rename_i h;exact h rfl)
end HX

namespace HX
open Go Go.Proofs CX
set_option maxHeartbeats 4000000 in
set_option maxRecDepth 100000 in
theorem walk17 {ro A pre fn} (hE:EnvOk ⟨A,(cxE ro),ksF,sigL [],pre,fn⟩) {P:List (List D)->Prop} {res:List (List D)->Nat->Nat->D}
  (hv:∀(a0_0:Int) (a0_1:Int) (a0_2:Int),P [[.i a0_0,.i a0_1,.i a0_2]]->V17 a0_0 a0_1 a0_2 (res [[.i a0_0,.i a0_1,.i a0_2]]) ) :
  PureC (cxE ro) 17 ⟨[(true,[.int .i64,.int .i64,.int .i64])],[(false,[.int .i64])],false⟩ P res:=by
 have hA:=hE.A
 simp only [] at hA
 have hinl:∀f fn,inlL [] f=some fn->(cxE ro).fn f=some fn/\(cxE ro).ext f=none:=Inls.ok (by repeat (first |exact .nil |refine .cons rfl rfl ?_))
 refine PureC.of_vc hE hinl 6 (f:=17) (fn:=Try.f17) ⟨rfl,rfl⟩ ?_
 intro a0_0 a0_1 a0_2 hP
 obtain ⟨R,hR⟩:∃R,res [[.i a0_0,.i a0_1,.i a0_2]]=R:=⟨_,rfl⟩
 rw [hR]
 have hV:=hv a0_0 a0_1 a0_2  hP
 rw [hR] at hV
 clear hR hP hv
 cbv
 repeat' (first |(refine Br.mk (fun _=>?_) (fun _=>?_)<;>cbv) |(refine NilB.mk (fun _=>?_) ?_<;>cbv) |refine And.intro ?_ ?_ |exact True.intro)
 next hp0_0=>
  subst hA;exact hV.g0 (dt hp0_0)
 next hp1_0 hp1_1=>
  subst hA;exact hV.g1 (df hp1_0) (dt hp1_1)
 next hp2_0 hp2_1 hp2_2=>
  subst hA;exact hV.g2 (df hp2_0) (df hp2_1) (dt hp2_2)
 rename_i hp3_0 hp3_1 hp3_2
 subst hA;exact hV.g3 (df hp3_0) (df hp3_1) (df hp3_2)
end HX

namespace HX
open Go Go.Proofs CX
set_option maxHeartbeats 4000000 in
set_option maxRecDepth 100000 in
theorem walk49 {ro A pre fn} (hE:EnvOk ⟨A,(cxE ro),ksF,sigL [(17,⟨[(true,[.int .i64,.int .i64,.int .i64])],[(false,[.int .i64])],false⟩)],pre,fn⟩) {P:List (List D)->Prop} {res:List (List D)->Nat->Nat->D}
  (hv:∀(a0_0:Int) (a0_1:Int) (a0_2:Int) (a1:Rows),ShR [.int .i64] a1->P [[.i a0_0,.i a0_1,.i a0_2],[.l a1]]->∃(I0:Int->Int->Prop) (m0:Int->Int->Nat),V49 pre fn a0_0 a0_1 a0_2 a1 (res [[.i a0_0,.i a0_1,.i a0_2],[.l a1]]) I0 m0) :
  PureC (cxE ro) 49 ⟨[(true,[.int .i64,.int .i64,.int .i64]),(false,[.sl [.int .i64]])],[(false,[.int .i64])],false⟩ P res:=by
 have hA:=hE.A
 simp only [] at hA
 have hinl:∀f fn,inlL [] f=some fn->(cxE ro).fn f=some fn/\(cxE ro).ext f=none:=Inls.ok (by repeat (first |exact .nil |refine .cons rfl rfl ?_))
 refine PureC.of_vc hE hinl 6 (f:=49) (fn:=Try.f49) ⟨rfl,rfl⟩ ?_
 intro a0_0 a0_1 a0_2 a1 ha1 hP
 obtain ⟨R,hR⟩:∃R,res [[.i a0_0,.i a0_1,.i a0_2],[.l a1]]=R:=⟨_,rfl⟩
 rw [hR]
 obtain ⟨I0,m0,hV⟩:=hv a0_0 a0_1 a0_2 a1 ha1 hP
 rw [hR] at hV
 clear hR hP hv
 cbv
 repeat' (first |(refine Br.mk (fun _=>?_) (fun _=>?_)<;>cbv) |(refine NilB.mk (fun _=>?_) ?_<;>cbv) |refine And.intro ?_ ?_ |exact True.intro)
 ·subst hA;exact hV.g0
 next hp1_0=>
  subst hA;exact hV.g1 (df (nt hp1_0))
 rename_i hp2_0
 refine Leaf.gen fun Yz hσz=>?_
 refine loopB hE hinl 6 [] [] [] (fun x:Int×Int=>[.i x.1,.i x.2]) (fun x=>I0 x.1 x.2) (fun x=>m0 x.1 x.2) (0,0) (by subst hA;exact hV.i0 (dt (nf hp2_0))) ?_ ?_<;>subst hσz
 ·clear hE hinl hV;cbv;(try (repeat' (first |exact True.intro |rfl |assumption |apply And.intro)))
 intro ⟨x0_0,x0_1⟩ hI0 K0 hK0
 cbv
 repeat' (first |(refine Br.mk (fun _=>?_) (fun _=>?_)<;>cbv) |(refine NilB.mk (fun _=>?_) ?_<;>cbv) |refine And.intro ?_ ?_ |exact True.intro)
 next hp3_0=>
  subst hA;exact hV.g3 _ _ hI0 (dt (nf hp2_0)) (dt hp3_0)
 next hp4_0=>
  subst hA;exact hV.g4 _ _ hI0 (dt (nf hp2_0)) (dt hp4_0)
 next hp5_0=>
  subst hA;exact hV.g5 _ _ hI0 (dt (nf hp2_0)) (dt hp5_0)
 next hp6_0 hp6_1=>
  subst hA;exact hV.g6 _ _ hI0 (dt (nf hp2_0)) (dt hp6_0) (dt hp6_1)
 next hp7_0 hp7_1=>
  subst hA;exact hV.g7 _ _ hI0 (dt (nf hp2_0)) (dt hp7_0) (df hp7_1)
 next hp8_0 hp8_1 hp8_2=>
  subst hA;exact hV.g8 _ _ hI0 (dt (nf hp2_0)) (dt hp8_0) (df hp8_1) (dt hp8_2)
 next hp9_0 hp9_1 hp9_2=>
  subst hA;exact hV.g9 _ _ hI0 (dt (nf hp2_0)) (dt hp9_0) (df hp9_1) (df hp9_2)
 next hp10_0 hp10_1 hp10_2=>
  refine hK0 (x0_0,A.add x0_1 1) _ ?_ ?_ ?_
  ·subst hA;exact (hV.n10 _ _ hI0 (dt (nf hp2_0)) (dt hp10_0) (df hp10_1) (df hp10_2)).1
  ·subst hA;exact (hV.n10 _ _ hI0 (dt (nf hp2_0)) (dt hp10_0) (df hp10_1) (df hp10_2)).2
  clear hE hinl hV hK0;cbv;(try (repeat' (first |exact True.intro |rfl |assumption |apply And.intro)))
 rename_i hp11_0
 subst hA;exact hV.g11 _ _ hI0 (dt (nf hp2_0)) (df hp11_0)
end HX

namespace HX
open Go Go.Proofs CX
set_option maxHeartbeats 4000000 in
set_option maxRecDepth 100000 in
theorem walk50 {ro A pre fn} (hE:EnvOk ⟨A,(cxE ro),ksF,sigL [],pre,fn⟩) {P:List (List D)->Prop} {res:List (List D)->Nat->Nat->D}
  (hv:∀(a0_0:Int) (a0_1:Int) (a0_2:Int) (a1:Int),P [[.i a0_0,.i a0_1,.i a0_2],[.i a1]]->V50 a0_0 a0_1 a0_2 a1 (res [[.i a0_0,.i a0_1,.i a0_2],[.i a1]]) ) :
  PureC (cxE ro) 50 ⟨[(true,[.int .i64,.int .i64,.int .i64]),(false,[.int .i64])],[(true,[.int .i64,.int .i64])],false⟩ P res:=by
 have hA:=hE.A
 simp only [] at hA
 have hinl:∀f fn,inlL [] f=some fn->(cxE ro).fn f=some fn/\(cxE ro).ext f=none:=Inls.ok (by repeat (first |exact .nil |refine .cons rfl rfl ?_))
 refine PureC.of_vc hE hinl 6 (f:=50) (fn:=Try.f50) ⟨rfl,rfl⟩ ?_
 intro a0_0 a0_1 a0_2 a1 hP
 obtain ⟨R,hR⟩:∃R,res [[.i a0_0,.i a0_1,.i a0_2],[.i a1]]=R:=⟨_,rfl⟩
 rw [hR]
 have hV:=hv a0_0 a0_1 a0_2 a1  hP
 rw [hR] at hV
 clear hR hP hv
 cbv
 repeat' (first |(refine Br.mk (fun _=>?_) (fun _=>?_)<;>cbv) |(refine NilB.mk (fun _=>?_) ?_<;>cbv) |refine And.intro ?_ ?_ |exact True.intro)
 ·subst hA;exact hV.g0
 ·subst hA;exact hV.g0
 ·subst hA;exact hV.g2
 ·subst hA;exact hV.g3
 subst hA;exact hV.g4
end HX

namespace HX
open Go Go.Proofs CX
set_option maxHeartbeats 4000000 in
set_option maxRecDepth 100000 in
theorem walk88 {ro A pre fn} (hE:EnvOk ⟨A,(cxE ro),ksF,sigL [],pre,fn⟩) {P:List (List D)->Prop} {res:List (List D)->Nat->Nat->D}
  (hv:∀(a0_0:Int) (a0_1:Int) (a0_2:Int) (a1:Int) (a2:Int),P [[.i a0_0,.i a0_1,.i a0_2],[.i a1],[.i a2]]->V88 a0_0 a0_1 a0_2 a1 a2 (res [[.i a0_0,.i a0_1,.i a0_2],[.i a1],[.i a2]]) ) :
  PureC (cxE ro) 88 ⟨[(true,[.int .i64,.int .i64,.int .i64]),(false,[.int .i64]),(false,[.int .i64])],[(false,[.int .i64]),(false,[.bool])],false⟩ P res:=by
 have hA:=hE.A
 simp only [] at hA
 have hinl:∀f fn,inlL [(50,Try.f50)] f=some fn->(cxE ro).fn f=some fn/\(cxE ro).ext f=none:=Inls.ok (by repeat (first |exact .nil |refine .cons rfl rfl ?_))
 refine PureC.of_vc hE hinl 6 (f:=88) (fn:=Try.f88) ⟨rfl,rfl⟩ ?_
 intro a0_0 a0_1 a0_2 a1 a2 hP
 obtain ⟨R,hR⟩:∃R,res [[.i a0_0,.i a0_1,.i a0_2],[.i a1],[.i a2]]=R:=⟨_,rfl⟩
 rw [hR]
 have hV:=hv a0_0 a0_1 a0_2 a1 a2  hP
 rw [hR] at hV
 clear hR hP hv
 cbv
 repeat' (first |(refine Br.mk (fun _=>?_) (fun _=>?_)<;>cbv) |(refine NilB.mk (fun _=>?_) ?_<;>cbv) |refine And.intro ?_ ?_ |exact True.intro)
 ·subst hA;exact hV.g0
 ·subst hA;exact hV.g0
 ·subst hA;exact hV.g2
 next hp3_0=>
  subst hA;exact hV.g3 (dt hp3_0)
 next hp4_0=>
  subst hA;exact hV.g4 (dt hp4_0)
 next hp5_0=>
  subst hA;exact hV.g5 (dt hp5_0)
 next hp6_0 hp6_1 hp6_2 hp6_3=>
  subst hA;exact hV.g6 (dt hp6_0) (dt hp6_1) (dt hp6_2) (dt hp6_3)
 next hp7_0 hp7_1 hp7_2 hp7_3=>
  subst hA;exact hV.g7 (dt hp7_0) (dt hp7_1) (dt hp7_2) (dt hp7_3)
 next hp8_0 hp8_1 hp8_2 hp8_3=>
  subst hA;exact hV.g8 (dt hp8_0) (dt hp8_1) (dt hp8_2) (df hp8_3)
 next hp9_0 hp9_1 hp9_2 hp9_3=>
  subst hA;exact hV.g9 (dt hp9_0) (dt hp9_1) (dt hp9_2) (df hp9_3)
 next hp10_0 hp10_1 hp10_2=>
  subst hA;exact hV.g10 (dt hp10_0) (dt hp10_1) (df hp10_2)
 next hp11_0 hp11_1 hp11_2=>
  subst hA;exact hV.g11 (dt hp11_0) (dt hp11_1) (df hp11_2)
 next hp12_0 hp12_1=>
  subst hA;exact hV.g12 (dt hp12_0) (df hp12_1)
 next hp13_0 hp13_1=>
  subst hA;exact hV.g13 (dt hp13_0) (df hp13_1)
 next hp14_0 hp14_1=>
  subst hA;exact hV.g14 (df hp14_0) (dt hp14_1)
 next hp15_0 hp15_1=>
  subst hA;exact hV.g15 (df hp15_0) (dt hp15_1)
 next hp16_0 hp16_1=>
  subst hA;exact hV.g16 (df hp16_0) (dt hp16_1)
 next hp17_0 hp17_1 hp17_2 hp17_3 hp17_4=>
  subst hA;exact hV.g17 (df hp17_0) (dt hp17_1) (dt hp17_2) (dt hp17_3) (dt hp17_4)
 next hp18_0 hp18_1 hp18_2 hp18_3 hp18_4=>
  subst hA;exact hV.g18 (df hp18_0) (dt hp18_1) (dt hp18_2) (dt hp18_3) (dt hp18_4)
 next hp19_0 hp19_1 hp19_2 hp19_3 hp19_4=>
  subst hA;exact hV.g19 (df hp19_0) (dt hp19_1) (dt hp19_2) (dt hp19_3) (df hp19_4)
 next hp20_0 hp20_1 hp20_2 hp20_3 hp20_4=>
  subst hA;exact hV.g20 (df hp20_0) (dt hp20_1) (dt hp20_2) (dt hp20_3) (df hp20_4)
 next hp21_0 hp21_1 hp21_2 hp21_3=>
  subst hA;exact hV.g21 (df hp21_0) (dt hp21_1) (dt hp21_2) (df hp21_3)
 next hp22_0 hp22_1 hp22_2 hp22_3=>
  subst hA;exact hV.g22 (df hp22_0) (dt hp22_1) (dt hp22_2) (df hp22_3)
 next hp23_0 hp23_1 hp23_2=>
  subst hA;exact hV.g23 (df hp23_0) (dt hp23_1) (df hp23_2)
 next hp24_0 hp24_1 hp24_2=>
  subst hA;exact hV.g24 (df hp24_0) (dt hp24_1) (df hp24_2)
 next hp25_0 hp25_1 hp25_2=>
  subst hA;exact hV.g25 (df hp25_0) (df hp25_1) (dt hp25_2)
 next hp26_0 hp26_1 hp26_2=>
  subst hA;exact hV.g26 (df hp26_0) (df hp26_1) (dt hp26_2)
 next hp27_0 hp27_1 hp27_2=>
  subst hA;exact hV.g27 (df hp27_0) (df hp27_1) (dt hp27_2)
 next hp28_0 hp28_1 hp28_2 hp28_3 hp28_4 hp28_5=>
  subst hA;exact hV.g28 (df hp28_0) (df hp28_1) (dt hp28_2) (dt hp28_3) (dt hp28_4) (dt hp28_5)
 next hp29_0 hp29_1 hp29_2 hp29_3 hp29_4 hp29_5=>
  subst hA;exact hV.g29 (df hp29_0) (df hp29_1) (dt hp29_2) (dt hp29_3) (dt hp29_4) (dt hp29_5)
 next hp30_0 hp30_1 hp30_2 hp30_3 hp30_4 hp30_5=>
  subst hA;exact hV.g30 (df hp30_0) (df hp30_1) (dt hp30_2) (dt hp30_3) (dt hp30_4) (df hp30_5)
 next hp31_0 hp31_1 hp31_2 hp31_3 hp31_4 hp31_5=>
  subst hA;exact hV.g31 (df hp31_0) (df hp31_1) (dt hp31_2) (dt hp31_3) (dt hp31_4) (df hp31_5)
 next hp32_0 hp32_1 hp32_2 hp32_3 hp32_4=>
  subst hA;exact hV.g32 (df hp32_0) (df hp32_1) (dt hp32_2) (dt hp32_3) (df hp32_4)
 next hp33_0 hp33_1 hp33_2 hp33_3 hp33_4=>
  subst hA;exact hV.g33 (df hp33_0) (df hp33_1) (dt hp33_2) (dt hp33_3) (df hp33_4)
 next hp34_0 hp34_1 hp34_2 hp34_3=>
  subst hA;exact hV.g34 (df hp34_0) (df hp34_1) (dt hp34_2) (df hp34_3)
 next hp35_0 hp35_1 hp35_2 hp35_3=>
  subst hA;exact hV.g35 (df hp35_0) (df hp35_1) (dt hp35_2) (df hp35_3)
 next hp36_0 hp36_1 hp36_2 hp36_3=>
  subst hA;exact hV.g36 (df hp36_0) (df hp36_1) (df hp36_2) (dt hp36_3)
 next hp37_0 hp37_1 hp37_2 hp37_3=>
  subst hA;exact hV.g37 (df hp37_0) (df hp37_1) (df hp37_2) (dt hp37_3)
 next hp38_0 hp38_1 hp38_2 hp38_3=>
  subst hA;exact hV.g38 (df hp38_0) (df hp38_1) (df hp38_2) (dt hp38_3)
 next hp39_0 hp39_1 hp39_2 hp39_3 hp39_4 hp39_5 hp39_6=>
  subst hA;exact hV.g39 (df hp39_0) (df hp39_1) (df hp39_2) (dt hp39_3) (dt hp39_4) (dt hp39_5) (dt hp39_6)
 next hp40_0 hp40_1 hp40_2 hp40_3 hp40_4 hp40_5 hp40_6=>
  subst hA;exact hV.g40 (df hp40_0) (df hp40_1) (df hp40_2) (dt hp40_3) (dt hp40_4) (dt hp40_5) (dt hp40_6)
 next hp41_0 hp41_1 hp41_2 hp41_3 hp41_4 hp41_5 hp41_6=>
  subst hA;exact hV.g41 (df hp41_0) (df hp41_1) (df hp41_2) (dt hp41_3) (dt hp41_4) (dt hp41_5) (df hp41_6)
 next hp42_0 hp42_1 hp42_2 hp42_3 hp42_4 hp42_5 hp42_6=>
  subst hA;exact hV.g42 (df hp42_0) (df hp42_1) (df hp42_2) (dt hp42_3) (dt hp42_4) (dt hp42_5) (df hp42_6)
 next hp43_0 hp43_1 hp43_2 hp43_3 hp43_4 hp43_5=>
  subst hA;exact hV.g43 (df hp43_0) (df hp43_1) (df hp43_2) (dt hp43_3) (dt hp43_4) (df hp43_5)
 next hp44_0 hp44_1 hp44_2 hp44_3 hp44_4 hp44_5=>
  subst hA;exact hV.g44 (df hp44_0) (df hp44_1) (df hp44_2) (dt hp44_3) (dt hp44_4) (df hp44_5)
 next hp45_0 hp45_1 hp45_2 hp45_3 hp45_4=>
  subst hA;exact hV.g45 (df hp45_0) (df hp45_1) (df hp45_2) (dt hp45_3) (df hp45_4)
 next hp46_0 hp46_1 hp46_2 hp46_3 hp46_4=>
  subst hA;exact hV.g46 (df hp46_0) (df hp46_1) (df hp46_2) (dt hp46_3) (df hp46_4)
 next hp47_0 hp47_1 hp47_2 hp47_3=>
  subst hA;exact hV.g47 (df hp47_0) (df hp47_1) (df hp47_2) (df hp47_3)
 next hp48_0 hp48_1 hp48_2 hp48_3=>
  subst hA;exact hV.g48 (df hp48_0) (df hp48_1) (df hp48_2) (df hp48_3)
 next hp49_0 hp49_1 hp49_2 hp49_3 hp49_4 hp49_5 hp49_6=>
  subst hA;exact hV.g49 (df hp49_0) (df hp49_1) (df hp49_2) (df hp49_3) (dt hp49_4) (dt hp49_5) (dt hp49_6)
 next hp50_0 hp50_1 hp50_2 hp50_3 hp50_4 hp50_5 hp50_6=>
  subst hA;exact hV.g50 (df hp50_0) (df hp50_1) (df hp50_2) (df hp50_3) (dt hp50_4) (dt hp50_5) (dt hp50_6)
 next hp51_0 hp51_1 hp51_2 hp51_3 hp51_4 hp51_5 hp51_6=>
  subst hA;exact hV.g51 (df hp51_0) (df hp51_1) (df hp51_2) (df hp51_3) (dt hp51_4) (dt hp51_5) (df hp51_6)
 next hp52_0 hp52_1 hp52_2 hp52_3 hp52_4 hp52_5 hp52_6=>
  subst hA;exact hV.g52 (df hp52_0) (df hp52_1) (df hp52_2) (df hp52_3) (dt hp52_4) (dt hp52_5) (df hp52_6)
 next hp53_0 hp53_1 hp53_2 hp53_3 hp53_4 hp53_5=>
  subst hA;exact hV.g53 (df hp53_0) (df hp53_1) (df hp53_2) (df hp53_3) (dt hp53_4) (df hp53_5)
 next hp54_0 hp54_1 hp54_2 hp54_3 hp54_4 hp54_5=>
  subst hA;exact hV.g54 (df hp54_0) (df hp54_1) (df hp54_2) (df hp54_3) (dt hp54_4) (df hp54_5)
 next hp55_0 hp55_1 hp55_2 hp55_3 hp55_4=>
  subst hA;exact hV.g55 (df hp55_0) (df hp55_1) (df hp55_2) (df hp55_3) (df hp55_4)
 rename_i hp56_0 hp56_1 hp56_2 hp56_3 hp56_4
 subst hA;exact hV.g56 (df hp56_0) (df hp56_1) (df hp56_2) (df hp56_3) (df hp56_4)
end HX

namespace HX
open Go Go.Proofs CX
set_option maxHeartbeats 4000000 in
set_option maxRecDepth 100000 in
theorem walk56 {ro A pre fn} (hE:EnvOk ⟨A,(cxE ro),ksF,sigL [(50,⟨[(true,[.int .i64,.int .i64,.int .i64]),(false,[.int .i64])],[(true,[.int .i64,.int .i64])],false⟩)],pre,fn⟩) {P:List (List D)->Prop} {res:List (List D)->Nat->Nat->D}
  (hv:∀(a0_0:Int) (a0_1:Int) (a0_2:Int) (a1:Int) (a2:Int),P [[.i a0_0,.i a0_1,.i a0_2],[.i a1],[.i a2]]->V56 pre fn a0_0 a0_1 a0_2 a1 a2 (res [[.i a0_0,.i a0_1,.i a0_2],[.i a1],[.i a2]]) ) :
  PureC (cxE ro) 56 ⟨[(true,[.int .i64,.int .i64,.int .i64]),(false,[.int .i64]),(false,[.int .i64])],[(false,[.int .i64])],false⟩ P res:=by
 have hA:=hE.A
 simp only [] at hA
 have hinl:∀f fn,inlL [] f=some fn->(cxE ro).fn f=some fn/\(cxE ro).ext f=none:=Inls.ok (by repeat (first |exact .nil |refine .cons rfl rfl ?_))
 refine PureC.of_vc hE hinl 6 (f:=56) (fn:=Try.f56) ⟨rfl,rfl⟩ ?_
 intro a0_0 a0_1 a0_2 a1 a2 hP
 obtain ⟨R,hR⟩:∃R,res [[.i a0_0,.i a0_1,.i a0_2],[.i a1],[.i a2]]=R:=⟨_,rfl⟩
 rw [hR]
 have hV:=hv a0_0 a0_1 a0_2 a1 a2  hP
 rw [hR] at hV
 clear hR hP hv
 cbv
 repeat' (first |(refine Br.mk (fun _=>?_) (fun _=>?_)<;>cbv) |(refine NilB.mk (fun _=>?_) ?_<;>cbv) |refine And.intro ?_ ?_ |exact True.intro)
 ·subst hA;exact hV.g0
 ·subst hA;exact hV.g1
 next hp2_0=>
  subst hA;exact hV.g2 (dt hp2_0)
 next hp3_0 hp3_1=>
  subst hA;exact hV.g3 (df hp3_0) (dt hp3_1)
 next hp4_0 hp4_1 hp4_2=>
  subst hA;exact hV.g4 (df hp4_0) (df hp4_1) (dt hp4_2)
 next hp5_0 hp5_1 hp5_2 hp5_3=>
  subst hA;exact hV.g5 (df hp5_0) (df hp5_1) (df hp5_2) (dt hp5_3)
 rename_i hp6_0 hp6_1 hp6_2 hp6_3
 subst hA;exact hV.g6 (df hp6_0) (df hp6_1) (df hp6_2) (df hp6_3)
end HX

namespace HX
open Go Go.Proofs CX
set_option maxHeartbeats 4000000 in
set_option maxRecDepth 100000 in
theorem walk15 {ro A pre fn} (hE:EnvOk ⟨A,(cxE ro),ksF,sigL [(49,⟨[(true,[.int .i64,.int .i64,.int .i64]),(false,[.sl [.int .i64]])],[(false,[.int .i64])],false⟩),(50,⟨[(true,[.int .i64,.int .i64,.int .i64]),(false,[.int .i64])],[(true,[.int .i64,.int .i64])],false⟩)],pre,fn⟩) {P:List (List D)->Prop} {res:List (List D)->Nat->Nat->D}
  (hv:∀(a0_0:Int) (a0_1:Int) (a0_2:Int) (a1:Int) (a2:Int),P [[.i a0_0,.i a0_1,.i a0_2],[.i a1],[.i a2]]->V15 pre fn a0_0 a0_1 a0_2 a1 a2 (res [[.i a0_0,.i a0_1,.i a0_2],[.i a1],[.i a2]]) ) :
  PureC (cxE ro) 15 ⟨[(true,[.int .i64,.int .i64,.int .i64]),(false,[.int .i64]),(false,[.int .i64])],[(false,[.int .i64]),(false,[.int .i64])],false⟩ P res:=by
 have hA:=hE.A
 simp only [] at hA
 have hinl:∀f fn,inlL [] f=some fn->(cxE ro).fn f=some fn/\(cxE ro).ext f=none:=Inls.ok (by repeat (first |exact .nil |refine .cons rfl rfl ?_))
 refine PureC.of_vc hE hinl 6 (f:=15) (fn:=Try.f15) ⟨rfl,rfl⟩ ?_
 intro a0_0 a0_1 a0_2 a1 a2 hP
 obtain ⟨R,hR⟩:∃R,res [[.i a0_0,.i a0_1,.i a0_2],[.i a1],[.i a2]]=R:=⟨_,rfl⟩
 rw [hR]
 have hV:=hv a0_0 a0_1 a0_2 a1 a2  hP
 rw [hR] at hV
 clear hR hP hv
 cbv
 repeat' (first |(refine Br.mk (fun _=>?_) (fun _=>?_)<;>cbv) |(refine NilB.mk (fun _=>?_) ?_<;>cbv) |refine And.intro ?_ ?_ |exact True.intro)
 ·subst hA;exact hV.g0
 next hp1_0=>
  subst hA;exact hV.g1 (df (nt hp1_0))
 next hp2_0=>
  subst hA;exact hV.g2 (df (nt hp2_0))
 next hp3_0=>
  subst hA;exact hV.g3 (dt (nf hp3_0))
 next hp4_0=>
  subst hA;exact hV.g4 (dt (nf hp4_0))
 next hp5_0=>
  subst hA;exact hV.g5 (dt (nf hp5_0))
 next hp6_0=>
  subst hA;exact hV.g6 (dt (nf hp6_0))
 next hp7_0=>
  subst hA;exact hV.g7 (dt (nf hp7_0))
 next hp8_0=>
  subst hA;exact hV.g8 (dt (nf hp8_0))
 next hp9_0=>
  subst hA;exact hV.g9 (dt (nf hp9_0))
 next hp10_0=>
  subst hA;exact hV.g10 (dt (nf hp10_0))
 rename_i hp11_0
 subst hA;exact hV.g11 (dt (nf hp11_0))
end HX

namespace HX
open Go Go.Proofs CX
set_option maxHeartbeats 4000000 in
set_option maxRecDepth 100000 in
theorem walk19 {ro A pre fn} (hE:EnvOk ⟨A,(cxE ro),ksF,sigL [(49,⟨[(true,[.int .i64,.int .i64,.int .i64]),(false,[.sl [.int .i64]])],[(false,[.int .i64])],false⟩),(56,⟨[(true,[.int .i64,.int .i64,.int .i64]),(false,[.int .i64]),(false,[.int .i64])],[(false,[.int .i64])],false⟩),(88,⟨[(true,[.int .i64,.int .i64,.int .i64]),(false,[.int .i64]),(false,[.int .i64])],[(false,[.int .i64]),(false,[.bool])],false⟩)],pre,fn⟩) {P:List (List D)->Prop} {res:List (List D)->Nat->Nat->D}
  (hv:∀(a0_0:Int) (a0_1:Int) (a0_2:Int) (a1:Int) (a2:Int),P [[.i a0_0,.i a0_1,.i a0_2],[.i a1],[.i a2]]->∃(I0:Rows->Int->Prop) (m0:Rows->Int->Nat),V19 pre fn a0_0 a0_1 a0_2 a1 a2 (res [[.i a0_0,.i a0_1,.i a0_2],[.i a1],[.i a2]]) I0 m0) :
  PureC (cxE ro) 19 ⟨[(true,[.int .i64,.int .i64,.int .i64]),(false,[.int .i64]),(false,[.int .i64])],[(false,[.sl [.int .i64]]),(false,[.int .i64])],false⟩ P res:=by
 have hA:=hE.A
 simp only [] at hA
 have hinl:∀f fn,inlL [(51,Try.f51),(52,Try.f52),(86,Try.f86),(87,Try.f87)] f=some fn->(cxE ro).fn f=some fn/\(cxE ro).ext f=none:=Inls.ok (by repeat (first |exact .nil |refine .cons rfl rfl ?_))
 refine PureC.of_vc hE hinl 6 (f:=19) (fn:=Try.f19) ⟨rfl,rfl⟩ ?_
 intro a0_0 a0_1 a0_2 a1 a2 hP
 obtain ⟨R,hR⟩:∃R,res [[.i a0_0,.i a0_1,.i a0_2],[.i a1],[.i a2]]=R:=⟨_,rfl⟩
 rw [hR]
 obtain ⟨I0,m0,hV⟩:=hv a0_0 a0_1 a0_2 a1 a2  hP
 rw [hR] at hV
 clear hR hP hv
 cbv
 repeat' (first |(refine Br.mk (fun _=>?_) (fun _=>?_)<;>cbv) |(refine NilB.mk (fun _=>?_) ?_<;>cbv) |refine And.intro ?_ ?_ |exact True.intro)
 ·subst hA;exact hV.g0
 next hp1_0=>
  subst hA;exact hV.g1 (df (nt hp1_0))
 next hp2_0=>
  subst hA;exact hV.g2 (df (nt hp2_0))
 rename_i hp3_0
 refine Leaf.gen fun Yz hσz=>?_
 refine loopB hE hinl 6 [] [] [(7,[24]),(5,[0])] (fun x:Rows×Int=>[D.l [[.l x.1]],D.l [[.i x.2]]]) (fun x=>I0 x.1 x.2) (fun x=>m0 x.1 x.2) ([],a1) (by subst hA;exact hV.i0 (dt (nf hp3_0))) ?_ ?_<;>subst hσz
 ·clear hE hinl hV;cbv;(try (repeat' (first |exact True.intro |rfl |assumption |apply And.intro)))
 intro ⟨x0_0,x0_1⟩ hI0 K0 hK0
 cbv
 repeat' (first |(refine Br.mk (fun _=>?_) (fun _=>?_)<;>cbv) |(refine NilB.mk (fun _=>?_) ?_<;>cbv) |refine And.intro ?_ ?_ |exact True.intro)
 ·subst hA;exact hV.g4 _ _ hI0 (dt (nf hp3_0))
 next hp5_0=>
  subst hA;exact hV.g5 _ _ hI0 (dt (nf hp3_0)) (df (nt hp5_0))
 next hp6_0=>
  subst hA;exact hV.g6 _ _ hI0 (dt (nf hp3_0)) (df (nt hp6_0))
 next hp7_0=>
  refine hK0 (A.app x0_0 [[D.i x0_1]],A.di (fn 88 [[D.i a0_0,D.i a0_1,D.i a0_2],[D.i x0_1],[D.i (A.di (fn 56 [[D.i a0_0,D.i a0_1,D.i a0_2],[D.i x0_1],[D.i a2]] 0 0))]] 0 0)) _ ?_ ?_ ?_
  ·subst hA;exact (hV.n7 _ _ hI0 (dt (nf hp3_0)) (df (nt hp7_0))).1
  ·subst hA;exact (hV.n7 _ _ hI0 (dt (nf hp3_0)) (df (nt hp7_0))).2
  clear hE hinl hV hK0;cbv;(try (repeat' (first |exact True.intro |rfl |assumption |apply And.intro)))
 next hp8_0=>
  subst hA;exact hV.g8 _ _ hI0 (dt (nf hp3_0)) (dt (nf hp8_0))
 rename_i hp9_0
 subst hA;exact hV.g9 _ _ hI0 (dt (nf hp3_0)) (dt (nf hp9_0))
end HX

namespace HX
open Go Go.Proofs CX
set_option maxHeartbeats 4000000 in
set_option maxRecDepth 100000 in
theorem walk22 {ro A pre fn} (hE:EnvOk ⟨A,(cxE ro),ksF,sigL [(49,⟨[(true,[.int .i64,.int .i64,.int .i64]),(false,[.sl [.int .i64]])],[(false,[.int .i64])],false⟩),(56,⟨[(true,[.int .i64,.int .i64,.int .i64]),(false,[.int .i64]),(false,[.int .i64])],[(false,[.int .i64])],false⟩),(88,⟨[(true,[.int .i64,.int .i64,.int .i64]),(false,[.int .i64]),(false,[.int .i64])],[(false,[.int .i64]),(false,[.bool])],false⟩)],pre,fn⟩) {P:List (List D)->Prop} {res:List (List D)->Nat->Nat->D}
  (hv:∀(a0_0:Int) (a0_1:Int) (a0_2:Int) (a1:Int) (a2:Rows),ShR [.int .i64] a2->P [[.i a0_0,.i a0_1,.i a0_2],[.i a1],[.l a2]]->∃(I0:Int->Rows->Prop) (m0:Int->Rows->Nat) (I1:Int->Rows->Rows->Int->Prop) (m1:Int->Rows->Rows->Int->Nat),V22 pre fn a0_0 a0_1 a0_2 a1 a2 (res [[.i a0_0,.i a0_1,.i a0_2],[.i a1],[.l a2]]) I0 m0 I1 m1) :
  PureC (cxE ro) 22 ⟨[(true,[.int .i64,.int .i64,.int .i64]),(false,[.int .i64]),(false,[.sl [.int .i64]])],[(false,[.sl [.int .i64]]),(false,[.int .i64])],false⟩ P res:=by
 have hA:=hE.A
 simp only [] at hA
 have hinl:∀f fn,inlL [(52,Try.f52),(87,Try.f87)] f=some fn->(cxE ro).fn f=some fn/\(cxE ro).ext f=none:=Inls.ok (by repeat (first |exact .nil |refine .cons rfl rfl ?_))
 refine PureC.of_vc hE hinl 6 (f:=22) (fn:=Try.f22) ⟨rfl,rfl⟩ ?_
 intro a0_0 a0_1 a0_2 a1 a2 ha2 hP
 obtain ⟨R,hR⟩:∃R,res [[.i a0_0,.i a0_1,.i a0_2],[.i a1],[.l a2]]=R:=⟨_,rfl⟩
 rw [hR]
 obtain ⟨I0,m0,I1,m1,hV⟩:=hv a0_0 a0_1 a0_2 a1 a2 ha2 hP
 rw [hR] at hV
 clear hR hP hv
 cbv
 repeat' (first |(refine Br.mk (fun _=>?_) (fun _=>?_)<;>cbv) |(refine NilB.mk (fun _=>?_) ?_<;>cbv) |refine And.intro ?_ ?_ |exact True.intro)
 ·subst hA;exact hV.g0
 ·subst hA;exact hV.g1
 next hp2_0=>
  subst hA;exact hV.g2 (df (nt hp2_0))
 next hp3_0=>
  subst hA;exact hV.g3 (df (nt hp3_0))
 next hp4_0 hp4_1=>
  subst hA;exact hV.g4 (dt (nf hp4_0)) (dt hp4_1)
 next hp5_0 hp5_1=>
  subst hA;exact hV.g5 (dt (nf hp5_0)) (dt hp5_1)
 next hp6_0 hp6_1=>
  subst hA;exact hV.g6 (dt (nf hp6_0)) (df hp6_1)
 next hp7_0 hp7_1=>
  subst hA;exact hV.g7 (dt (nf hp7_0)) (df hp7_1)
 next hp8_0 hp8_1=>
  subst hA;exact hV.g8 (dt (nf hp8_0)) (df hp8_1)
 next hp9_0 hp9_1=>
  subst hA;exact hV.g9 (dt (nf hp9_0)) (df hp9_1)
 next hp10_0 hp10_1=>
  subst hA;exact hV.g10 (dt (nf hp10_0)) (df hp10_1)
 rename_i hp11_0 hp11_1
 refine Leaf.gen fun Yz hσz=>?_
 refine loopB hE hinl 6 [] [] [(5,[])] (fun x:Int×Rows=>[.i x.1,.l x.2]) (fun x=>I0 x.1 x.2) (fun x=>m0 x.1 x.2) (0,A.rep (A.toNat (A.mul a0_0 a0_1)) [D.i 0]) (by subst hA;exact hV.i0 (dt (nf hp11_0)) (df hp11_1)) ?_ ?_<;>subst hσz
 ·clear hE hinl hV;cbv;(try (repeat' (first |exact True.intro |rfl |assumption |apply And.intro)))
 intro ⟨x0_0,x0_1⟩ hI0 K0 hK0
 cbv
 repeat' (first |(refine Br.mk (fun _=>?_) (fun _=>?_)<;>cbv) |(refine NilB.mk (fun _=>?_) ?_<;>cbv) |refine And.intro ?_ ?_ |exact True.intro)
 next hp12_0=>
  subst hA;exact hV.g12 _ _ hI0 (dt (nf hp11_0)) (df hp11_1) (dt hp12_0)
 next hp13_0=>
  subst hA;exact hV.g13 _ _ hI0 (dt (nf hp11_0)) (df hp11_1) (dt hp13_0)
 next hp14_0=>
  subst hA;exact hV.g14 _ _ hI0 (dt (nf hp11_0)) (df hp11_1) (dt hp14_0)
 next hp15_0=>
  refine Leaf.gen fun Yz hσz=>?_
  refine loopB hE hinl 6 [] [] [(5,[]),(10,[0])] (fun x:Rows×Int=>[.l x.1,D.l [[.i x.2]]]) (fun x=>I1 x0_0 x0_1 x.1 x.2) (fun x=>m1 x0_0 x0_1 x.1 x.2) (x0_1,a1) (by subst hA;exact hV.i1 _ _ hI0 (dt (nf hp11_0)) (df hp11_1) (dt hp15_0)) ?_ ?_<;>subst hσz
  ·clear hE hinl hV;cbv;(try (repeat' (first |exact True.intro |rfl |assumption |apply And.intro)))
  intro ⟨x1_0,x1_1⟩ hI1 K1 hK1
  cbv
  repeat' (first |(refine Br.mk (fun _=>?_) (fun _=>?_)<;>cbv) |(refine NilB.mk (fun _=>?_) ?_<;>cbv) |refine And.intro ?_ ?_ |exact True.intro)
  ·subst hA;exact hV.g16 _ _ hI0 _ _ hI1 (dt (nf hp11_0)) (df hp11_1) (dt hp15_0)
  ·subst hA;exact hV.g17 _ _ hI0 _ _ hI1 (dt (nf hp11_0)) (df hp11_1) (dt hp15_0)
  ·subst hA;exact hV.g18 _ _ hI0 _ _ hI1 (dt (nf hp11_0)) (df hp11_1) (dt hp15_0)
  ·subst hA;exact hV.g18 _ _ hI0 _ _ hI1 (dt (nf hp11_0)) (df hp11_1) (dt hp15_0)
  ·subst hA;exact hV.g20 _ _ hI0 _ _ hI1 (dt (nf hp11_0)) (df hp11_1) (dt hp15_0)
  ·subst hA;exact hV.g16 _ _ hI0 _ _ hI1 (dt (nf hp11_0)) (df hp11_1) (dt hp15_0)
  ·subst hA;exact hV.g17 _ _ hI0 _ _ hI1 (dt (nf hp11_0)) (df hp11_1) (dt hp15_0)
  ·subst hA;exact hV.g18 _ _ hI0 _ _ hI1 (dt (nf hp11_0)) (df hp11_1) (dt hp15_0)
  next hp24_0=>
   subst hA;exact hV.g24 _ _ hI0 _ _ hI1 (dt (nf hp11_0)) (df hp11_1) (dt hp15_0) (df (nt hp24_0))
  next hp25_0=>
   subst hA;exact hV.g25 _ _ hI0 _ _ hI1 (dt (nf hp11_0)) (df hp11_1) (dt hp15_0) (df (nt hp25_0))
  next hp26_0=>
   refine hK1 (A.set x1_0 (A.toNat x1_1) [D.i (A.bit BinOp.or IntKind.i64 (A.di (A.get x1_0 (A.toNat x1_1) 0)) (A.di (fn 56 [[D.i a0_0,D.i a0_1,D.i a0_2],[D.i x1_1],[D.i (A.di (A.get a2 (A.toNat x0_0) 0))]] 0 0)))],A.di (fn 88 [[D.i a0_0,D.i a0_1,D.i a0_2],[D.i x1_1],[D.i (A.di (fn 56 [[D.i a0_0,D.i a0_1,D.i a0_2],[D.i x1_1],[D.i (A.di (A.get a2 (A.toNat x0_0) 0))]] 0 0))]] 0 0)) _ ?_ ?_ ?_
   ·subst hA;exact (hV.n26 _ _ hI0 _ _ hI1 (dt (nf hp11_0)) (df hp11_1) (dt hp15_0) (df (nt hp26_0))).1
   ·subst hA;exact (hV.n26 _ _ hI0 _ _ hI1 (dt (nf hp11_0)) (df hp11_1) (dt hp15_0) (df (nt hp26_0))).2
   clear hE hinl hV hK1;cbv;(try (repeat' (first |exact True.intro |rfl |assumption |apply And.intro)))
  next hp27_0=>
   subst hA;exact hV.g27 _ _ hI0 _ _ hI1 (dt (nf hp11_0)) (df hp11_1) (dt hp15_0) (dt (nf hp27_0))
  rename_i hp28_0
  refine hK0 (A.add x0_0 1,A.set x1_0 (A.toNat x1_1) [D.i (A.bit BinOp.or IntKind.i64 (A.di (A.get x1_0 (A.toNat x1_1) 0)) (A.di (fn 56 [[D.i a0_0,D.i a0_1,D.i a0_2],[D.i x1_1],[D.i (A.di (A.get a2 (A.toNat x0_0) 0))]] 0 0)))]) _ ?_ ?_ ?_
  ·subst hA;exact (hV.n28 _ _ hI0 _ _ hI1 (dt (nf hp11_0)) (df hp11_1) (dt hp15_0) (dt (nf hp28_0))).1
  ·subst hA;exact (hV.n28 _ _ hI0 _ _ hI1 (dt (nf hp11_0)) (df hp11_1) (dt hp15_0) (dt (nf hp28_0))).2
  clear hE hinl hV hK0;cbv;(try (repeat' (first |exact True.intro |rfl |assumption |apply And.intro)))
 next hp29_0=>
  subst hA;exact hV.g29 _ _ hI0 (dt (nf hp11_0)) (df hp11_1) (df hp29_0)
 rename_i hp30_0
 subst hA;exact hV.g30 _ _ hI0 (dt (nf hp11_0)) (df hp11_1) (df hp30_0)
end HX

namespace HX
open Go Go.Proofs CX
set_option maxHeartbeats 4000000 in
set_option maxRecDepth 100000 in
theorem walk21 {ro A pre fn} (hE:EnvOk ⟨A,(cxE ro),ksF,sigL [],pre,fn⟩) {P:List (List D)->Prop} {res:List (List D)->Nat->Nat->D}
  (hv:∀(a0:Rows) (a1:Rows),ShR [.int .i64] a0->ShR [.int .i64] a1->P [[.l a0],[.l a1]]->∃(I0:Bool->Int->Prop) (m0:Bool->Int->Nat),V21 a0 a1 (res [[.l a0],[.l a1]]) I0 m0) :
  PureC (cxE ro) 21 ⟨[(false,[.sl [.int .i64]]),(false,[.sl [.int .i64]])],[(false,[.bool])],false⟩ P res:=by
 have hA:=hE.A
 simp only [] at hA
 have hinl:∀f fn,inlL [] f=some fn->(cxE ro).fn f=some fn/\(cxE ro).ext f=none:=Inls.ok (by repeat (first |exact .nil |refine .cons rfl rfl ?_))
 refine PureC.of_vc hE hinl 6 (f:=21) (fn:=Try.f21) ⟨rfl,rfl⟩ ?_
 intro a0 ha0 a1 ha1 hP
 obtain ⟨R,hR⟩:∃R,res [[.l a0],[.l a1]]=R:=⟨_,rfl⟩
 rw [hR]
 obtain ⟨I0,m0,hV⟩:=hv a0 a1 ha0 ha1 hP
 rw [hR] at hV
 clear hR hP hv
 cbv
 repeat' (first |(refine Br.mk (fun _=>?_) (fun _=>?_)<;>cbv) |(refine NilB.mk (fun _=>?_) ?_<;>cbv) |refine And.intro ?_ ?_ |exact True.intro)
 next hp0_0=>
  subst hA;exact hV.g0 (df (nt hp0_0))
 rename_i hp1_0
 refine Leaf.gen fun Yz hσz=>?_
 refine loopB hE hinl 6 [] [] [] (fun x:Bool×Int=>[.b x.1,.i x.2]) (fun x=>I0 x.1 x.2) (fun x=>m0 x.1 x.2) (false,0) (by subst hA;exact hV.i0 (dt (nf hp1_0))) ?_ ?_<;>subst hσz
 ·clear hE hinl hV;cbv;(try (repeat' (first |exact True.intro |rfl |assumption |apply And.intro)))
 intro ⟨x0_0,x0_1⟩ hI0 K0 hK0
 cbv
 repeat' (first |(refine Br.mk (fun _=>?_) (fun _=>?_)<;>cbv) |(refine NilB.mk (fun _=>?_) ?_<;>cbv) |refine And.intro ?_ ?_ |exact True.intro)
 next hp2_0=>
  subst hA;exact hV.g2 _ _ hI0 (dt (nf hp1_0)) (dt hp2_0)
 next hp3_0=>
  subst hA;exact hV.g3 _ _ hI0 (dt (nf hp1_0)) (dt hp3_0)
 next hp4_0=>
  subst hA;exact hV.g4 _ _ hI0 (dt (nf hp1_0)) (dt hp4_0)
 next hp5_0=>
  subst hA;exact hV.g2 _ _ hI0 (dt (nf hp1_0)) (dt hp5_0)
 next hp6_0=>
  subst hA;exact hV.g6 _ _ hI0 (dt (nf hp1_0)) (dt hp6_0)
 next hp7_0=>
  subst hA;exact hV.g7 _ _ hI0 (dt (nf hp1_0)) (dt hp7_0)
 next hp8_0 hp8_1=>
  subst hA;exact hV.g8 _ _ hI0 (dt (nf hp1_0)) (dt hp8_0) (df (nt hp8_1))
 next hp9_0 hp9_1=>
  subst hA;exact hV.g9 _ _ hI0 (dt (nf hp1_0)) (dt hp9_0) (dt (nf hp9_1))
 next hp10_0 hp10_1=>
  refine hK0 (x0_0,A.add x0_1 1) _ ?_ ?_ ?_
  ·subst hA;exact (hV.n10 _ _ hI0 (dt (nf hp1_0)) (dt hp10_0) (dt (nf hp10_1))).1
  ·subst hA;exact (hV.n10 _ _ hI0 (dt (nf hp1_0)) (dt hp10_0) (dt (nf hp10_1))).2
  clear hE hinl hV hK0;cbv;(try (repeat' (first |exact True.intro |rfl |assumption |apply And.intro)))
 rename_i hp11_0
 subst hA;exact hV.g11 _ _ hI0 (dt (nf hp1_0)) (df hp11_0)
end HX

namespace HX
open Go Go.Proofs CX
set_option maxHeartbeats 4000000 in
set_option maxRecDepth 100000 in
theorem walk42 {ro A pre fn} (hE:EnvOk ⟨A,(cxE ro),ksF,sigL [],pre,fn⟩) {P:List (List D)->Prop} {res:List (List D)->Nat->Nat->D}
  (hv:∀(a0:Int),P [[.i a0]]->V42 a0 (res [[.i a0]]) ) :
  PureC (cxE ro) 42 ⟨[(false,[.int .i64])],[(false,[.int .i64])],false⟩ P res:=by
 have hA:=hE.A
 simp only [] at hA
 have hinl:∀f fn,inlL [] f=some fn->(cxE ro).fn f=some fn/\(cxE ro).ext f=none:=Inls.ok (by repeat (first |exact .nil |refine .cons rfl rfl ?_))
 refine PureC.of_vc hE hinl 6 (f:=42) (fn:=Try.f42) ⟨rfl,rfl⟩ ?_
 intro a0 hP
 obtain ⟨R,hR⟩:∃R,res [[.i a0]]=R:=⟨_,rfl⟩
 rw [hR]
 have hV:=hv a0  hP
 rw [hR] at hV
 clear hR hP hv
 cbv
 repeat' (first |(refine Br.mk (fun _=>?_) (fun _=>?_)<;>cbv) |(refine NilB.mk (fun _=>?_) ?_<;>cbv) |refine And.intro ?_ ?_ |exact True.intro)
 ·subst hA;exact hV.g0
 subst hA;exact hV.g1
end HX

namespace HX
open Go Go.Proofs CX
def q17:List (List D)->Nat->Nat->D
 |[[.i a,.i b,.i c]],_,_=>.i (chkS a b c)
 |_,_,_=>.nil
def q49:List (List D)->Nat->Nat->D
 |[[.i a,.i b,.i c],[.l l]],_,_=>.i (knE a b c l)
 |_,_,_=>.nil
def q50:List (List D)->Nat->Nat->D
 |[[.i a,.i _,.i _],[.i k]],_,0=>.i (Int.tmod k a)
 |[[.i a,.i _,.i _],[.i k]],_,_=>.i (Int.tdiv k a)
 |_,_,_=>.nil
def e50:List (List D)->Prop
 |[[.i a,.i _,.i _],[.i k]]=>(1<=a/\a<=8)/\0<=k/\k<=64
 |_=>False
def q55:List (List D)->Nat->Nat->D
 |[[.i a,.i _,.i _],[.i r],[.i t]],_,_=>.i (turnI a r t)
 |_,_,_=>.nil
def e55:List (List D)->Prop
 |[[.i a,.i b,.i _],[.i r],[.i t]]=>okM a b r/\okM a b t
 |_=>False
def q54:List (List D)->Nat->Nat->D
 |[[.i a,.i _,.i _],[.i r],[.i o]],0,_=>.i (ovI a r o)
 |[[.i _,.i _,.i _],[.i _],[.i _]],_,_=>.b true
 |_,_,_=>.nil
def e54:List (List D)->Prop
 |[[.i a,.i b,.i _],[.i r],[.i o]]=>okM a b r/\legO a b r o
 |_=>False
def q15:List (List D)->Nat->Nat->D
 |[[.i a,.i b,.i c],[.i r],[.i t]],0,_=>.i (dsV a b c r t)
 |[[.i a,.i b,.i c],[.i r],[.i t]],_,_=>.i (knE a b c [[.i r],[.i t]])
 |_,_,_=>.nil
def q20:List (List D)->Nat->Nat->D
 |[[.i a,.i b,.i c],[.i r],[.i t]],0,_=>.l (rtV a b c r t)
 |[[.i a,.i b,.i c],[.i r],[.i t]],_,_=>.i (knE a b c [[.i r],[.i t]])
 |_,_,_=>.nil
def q22:List (List D)->Nat->Nat->D
 |[[.i a,.i b,.i c],[.i r],[.l l]],0,_=>.l (treV a b c r l)
 |[[.i a,.i b,.i c],[.i r],[.l l]],_,_=>.i (treE a b c r l)
 |_,_,_=>.nil
def e22:List (List D)->Prop
 |[[.i _,.i _,.i _],[.i _],[.l l]]=>l.length<=100
 |_=>False
def e21:List (List D)->Prop
 |[[.l a],[.l b]]=>a=b
 |_=>False
def e42:List (List D)->Prop
 |[[.i a]]=>-1000000<=a/\a<=1000000
 |_=>False
def q42:List (List D)->Nat->Nat->D
 |[[.i a]],_,_=>.i (mxI a (0 - a))
 |_,_,_=>.nil
theorem law42 (a:Int) (h:e42 [[.i a]]):V42 a (q42 [[.i a]]):=by
 obtain ⟨h1,h2⟩:=h
 constructor
 ·omega
 rfl
abbrev tru8:List (List D)->Prop:=fun _=>True
def c17:Ctr:=⟨17,⟨[(true,[.int .i64,.int .i64,.int .i64])],[(false,[.int .i64])],false⟩,tru8,q17⟩
def c49:Ctr:=⟨49,⟨[(true,[.int .i64,.int .i64,.int .i64]),(false,[.sl [.int .i64]])],[(false,[.int .i64])],false⟩,tru8,q49⟩
def c50:Ctr:=⟨50,⟨[(true,[.int .i64,.int .i64,.int .i64]),(false,[.int .i64])],[(true,[.int .i64,.int .i64])],false⟩,e50,q50⟩
def c88:Ctr:=⟨88,⟨[(true,[.int .i64,.int .i64,.int .i64]),(false,[.int .i64]),(false,[.int .i64])],[(false,[.int .i64]),(false,[.bool])],false⟩,e54,q54⟩
def c56:Ctr:=⟨56,⟨[(true,[.int .i64,.int .i64,.int .i64]),(false,[.int .i64]),(false,[.int .i64])],[(false,[.int .i64])],false⟩,e55,q55⟩
def c15:Ctr:=⟨15,⟨[(true,[.int .i64,.int .i64,.int .i64]),(false,[.int .i64]),(false,[.int .i64])],[(false,[.int .i64]),(false,[.int .i64])],false⟩,tru8,q15⟩
def c19:Ctr:=⟨19,⟨[(true,[.int .i64,.int .i64,.int .i64]),(false,[.int .i64]),(false,[.int .i64])],[(false,[.sl [.int .i64]]),(false,[.int .i64])],false⟩,tru8,q20⟩
def c22:Ctr:=⟨22,⟨[(true,[.int .i64,.int .i64,.int .i64]),(false,[.int .i64]),(false,[.sl [.int .i64]])],[(false,[.sl [.int .i64]]),(false,[.int .i64])],false⟩,e22,q22⟩
def c21:Ctr:=⟨21,⟨[(false,[.sl [.int .i64]]),(false,[.sl [.int .i64]])],[(false,[.bool])],false⟩,e21,(fun _ _ _=>.b true)⟩
def c42:Ctr:=⟨42,⟨[(false,[.int .i64])],[(false,[.int .i64])],false⟩,e42,q42⟩
def c43:Ctr:=⟨43,sg43,p43 402,r43 402⟩
def c13:Ctr:=⟨13,⟨[],[(false,[.bool])],false⟩,tru8,(fun _ _ _=>.b true)⟩
section
variable (ro:Addr->Option V)
theorem k17:PureC (cxE ro) c17.f c17.sg c17.pre c17.res:=walk17 (envL (l:=[]) .nil) fun _ _ _ _=>law17 rfl
theorem k49:PureC (cxE ro) c49.f c49.sg c49.pre c49.res:=walk49 (envL (l:=[c17]) (.cons (k17 ro) .nil)) fun _ _ _ _ ha _=>⟨_,_,law49 (fun _=>trivial) (fun _ _ _=>rfl) ha.2 rfl⟩
theorem k50:PureC (cxE ro) c50.f c50.sg c50.pre c50.res:=walk50 (envL (l:=[]) .nil) fun _ _ _ _ h=>law50 h rfl rfl
theorem k88:PureC (cxE ro) c88.f c88.sg c88.pre c88.res:=walk88 (envL (l:=[]) .nil) fun _ _ _ _ _ h=>law88 h.1 h.2 rfl rfl
theorem k56:PureC (cxE ro) c56.f c56.sg c56.pre c56.res:=walk56 (envL (l:=[c50]) (.cons (k50 ro) .nil)) fun _ _ _ _ _ h=>law56 (fun _ _ _ _ h1 h2 h3=>⟨h1,h2,h3⟩) (fun _ _ _ _=>rfl) (fun _ _ _ _=>rfl) h.1 h.2 rfl
theorem k15:PureC (cxE ro) c15.f c15.sg c15.pre c15.res:=walk15 (envL (l:=[c49,c50]) (.cons (k49 ro) (.cons (k50 ro) .nil))) fun _ _ _ _ _ _=>law15 (fun _=>trivial) (fun _ _ _ _=>rfl) (fun _ _ _ _ h1 h2 h3=>⟨h1,h2,h3⟩) (fun _ _ _ _=>rfl) (fun _ _ _ _=>rfl) rfl rfl
theorem k19:PureC (cxE ro) c19.f c19.sg c19.pre c19.res:=walk19 (envL (l:=[c49,c56,c88]) (.cons (k49 ro) (.cons (k56 ro) (.cons (k88 ro) .nil)))) fun _ _ _ _ _ _=>⟨_,_,law19 (fun _=>trivial) (fun _ _ _ _=>rfl) (fun _ _ _ _ _ h1 h2=>⟨h1,h2⟩) (fun _ _ _ _ _=>rfl) (fun _ _ _ _ _ h1 h2=>⟨h1,h2⟩) (fun _ _ _ _ _=>rfl) rfl rfl⟩
theorem k22:PureC (cxE ro) c22.f c22.sg c22.pre c22.res:=walk22 (envL (l:=[c49,c56,c88]) (.cons (k49 ro) (.cons (k56 ro) (.cons (k88 ro) .nil)))) fun _ _ _ _ _ _ h=>⟨_,_,_,_,law22 (fun _=>trivial) (fun _ _ _ _=>rfl) (fun _ _ _ _ _ h1 h2=>⟨h1,h2⟩) (fun _ _ _ _ _=>rfl) (fun _ _ _ _ _ h1 h2=>⟨h1,h2⟩) (fun _ _ _ _ _=>rfl) h rfl rfl⟩
theorem k21:PureC (cxE ro) c21.f c21.sg c21.pre c21.res:=walk21 (envL (l:=[]) .nil) fun _ _ ha _ h=>⟨_,_,law21 ha.2 h rfl⟩
theorem k42:PureC (cxE ro) c42.f c42.sg c42.pre c42.res:=walk42 (envL (l:=[]) .nil) fun _ h=>law42 _ h
theorem k43:MutC (cxE ro) c43.f c43.sg c43.pre c43.res:=rec43 ro 402 (zB _)
theorem k13:PureC (cxE ro) c13.f c13.sg c13.pre c13.res:=works_pure
end
def l8:List Ctr:=[c13,c15,c19,c21,c22,c42,c43]
theorem k_l8 (ro:Addr->Option V):Ctrs (cxE ro) l8:=(.cons (k13 ro) (.cons (k15 ro) (.cons (k19 ro) (.cons (k21 ro) (.cons (k22 ro) (.cons (k42 ro) (.cons (k43 ro) .nil)))))))
end HX

namespace HX
open Go Go.Proofs CX
structure K8 (pre:Nat->List (List D)->Prop) (fn:Nat->List (List D)->Nat->Nat->D):Prop where
 p13:pre 13 []
 f13:fn 13 [] 0 0=.b true
 p15:∀x,pre 15 x
 f15:fn 15=q15
 p19:∀x,pre 19 x
 f19:fn 19=q20
 p21:pre 21=e21
 f21:∀x,fn 21 x 0 0=.b true
 p22:pre 22=e22
 f22:fn 22=q22
 p42:pre 42=e42
 f42:fn 42=q42
 p43:pre 43=p43 402
 f43:fn 43=r43 402
theorem chk1s {W H r:Int} (h:okM W H r):chkS W H 1=0:=by
 unfold chkS
 exact if_pos ⟨h.1,h.2.1,by decide,by decide⟩
theorem kn0 {W H s t:Int} (hs:okM W H s) (ht:okM W H t):knE W H 1 [[.i s],[.i t]]=0:=
 knE_good (l:=[[.i t]]) (chk1s hs) hs (q:=1) (fun j hj=>by
  have:j=0:=by omega
  subst this;exact ht.2.2) rfl
theorem tre0 {W H s:Int} {l:Rows} (hs:okM W H s) (hl:∀x∈l,okM W H (wI x)) (h1:l.length≠0):treE W H 1 s l=0:=by
 have h:=knE_good (chk1s hs) hs (q:=l.length) (fun j hj=>(hl _ (row_mem hj)).2.2) rfl
 rw [treE,if_pos h,if_neg (by omega)]
section
variable {pre:Nat->List (List D)->Prop} {fn:Nat->List (List D)->Nat->Nat->D} (K:K8 pre fn)
include K
theorem F19a {W H s t:Int} (hs:okM W H s) (ht:okM W H t):(fn 19 [[D.i W,D.i H,D.i 1],[D.i s],[D.i t]] 0 0).rows=rtL W s t:=by
 rw [K.f19];show rtV W H 1 s t=_;exact rtV_ok (chk1s hs) hs ht
theorem F19b {W H s t:Int} (hs:okM W H s) (ht:okM W H t):(fn 19 [[D.i W,D.i H,D.i 1],[D.i s],[D.i t]] 1 0).int=0:=by
 rw [K.f19];exact kn0 hs ht
theorem F15a {W H s t:Int} (hs:okM W H s) (ht:okM W H t):(fn 15 [[D.i W,D.i H,D.i 1],[D.i s],[D.i t]] 0 0).int=dstI W s t:=by
 rw [K.f15];show dsV W H 1 s t=_;rw [dsV,if_pos (kn0 hs ht)]
theorem F15b {W H s t:Int} (hs:okM W H s) (ht:okM W H t):(fn 15 [[D.i W,D.i H,D.i 1],[D.i s],[D.i t]] 1 0).int=0:=by
 rw [K.f15];exact kn0 hs ht
theorem F42 (x:Int):(fn 42 [[D.i x]] 0 0).int=mxI x (0 - x):=by rw [K.f42];rfl
theorem F22a {W H s:Int} {l:Rows} (hs:okM W H s) (hl:∀x∈l,okM W H (wI x)) (h1:l.length≠0):(fn 22 [[D.i W,D.i H,D.i 1],[D.i s],[D.l l]] 0 0).rows=treL W (W * H) s l:=by
 rw [K.f22];show treV W H 1 s l=_;rw [treV,if_pos (tre0 hs hl h1)]
theorem F22b {W H s:Int} {l:Rows} (hs:okM W H s) (hl:∀x∈l,okM W H (wI x)) (h1:l.length≠0):(fn 22 [[D.i W,D.i H,D.i 1],[D.i s],[D.l l]] 1 0).int=0:=by
 rw [K.f22];exact tre0 hs hl h1
end
def inv5 (W H s t:Int) (e4:Rows) (n:Nat) (_ k1:Bool) (k2:Int) (k3:Rows):Prop:=
 0<=k2/\k2<=((rtL W s t).length:Int)/\k3.length=n/\(k1=true->1<=k2/\Int.tmod (wI ((rtL W s t).getD (k2 - 1).toNat [])) W=Int.tmod t W)/\
 ∀i,okM W H i->((gt k3 i.toNat 0).boo=true↔(gt e4 i.toNat 0).boo=true\/∃j:Nat,(j:Int) < k2/\wI ((rtL W s t).getD j [])=i)
theorem next5 {W H s t:Int} {e4:Rows} {n:Nat} {k0 k1 k1':Bool} {k2:Int} {k3:Rows} (hn:(n:Int)=W * H) (h:inv5 W H s t e4 n k0 k1 k2 k3) (lt:k2 < ((rtL W s t).length:Int)) (hp:okM W H (wI ((rtL W s t).getD k2.toNat [])))
  (hk:k1'=true->Int.tmod (wI ((rtL W s t).getD k2.toNat [])) W=Int.tmod t W) :
  inv5 W H s t e4 n k0 k1' (k2+1) (List.set k3 (wI ((rtL W s t).getD k2.toNat [])).toNat [D.b true])/\(((rtL W s t).length:Int) - (k2+1)).toNat < (((rtL W s t).length:Int) - k2).toNat:=by
 obtain ⟨h1,h2,h3,h4,h5⟩:=h
 refine ⟨⟨by omega,by omega,by rw [xN];exact h3,fun c=>⟨by omega,?_⟩,fun i hi=>?_⟩,by omega⟩
 ·rw [show (k2+1 - 1).toNat=k2.toNat by omega];exact hk c
 have e1:gt (List.set k3 (wI ((rtL W s t).getD k2.toNat [])).toNat [D.b true]) i.toNat 0=if i.toNat=(wI ((rtL W s t).getD k2.toNat [])).toNat then D.b true else gt k3 i.toNat 0:=by
  unfold gt
  rw [getD_set (by have:=hp.2.2;omega)]
  split<;>rfl
 rw [e1]
 have hi2:=hi.2.2
 have hp2:=hp.2.2
 split
 next e=>
  refine ⟨fun _=>.inr ⟨k2.toNat,by omega,by omega⟩,fun _=>rfl⟩
 rename_i e
 rw [h5 i hi]
 constructor
 ·rintro (c |⟨j,j1,j2⟩)
  ·exact .inl c
  exact .inr ⟨j,by omega,j2⟩
 rintro (c |⟨j,j1,j2⟩)
 ·exact .inl c
 refine .inr ⟨j,?_,j2⟩
 by_cases ej:(j:Int)=k2
 ·exfalso
  apply e
  rw [show k2.toNat=j by omega,j2]
 omega
theorem abs1 (x:Int):(x=1\/x=-1)->mxI x (0 - x)=1:=by rintro (rfl |rfl)<;>rfl
theorem absW {x W:Int} (hW:1<=W):(x=W\/x=-W)->mxI x (0 - x)=W:=by
 rintro (rfl |rfl)<;>unfold mxI<;>split<;>omega
theorem law8c6 {pre:Nat->List (List D)->Prop} {fn:Nat->List (List D)->Nat->Nat->D} (K:K8 pre fn) {W H s t:Int} (hs:okM W H s) (ht:okM W H t) {n:Nat} (hn:(n:Int)=W * H) {R:Nat->Nat->D} {e4:Rows} {k0 k1:Bool} {k2:Int} {k3:Rows} {o0:Bool}
  (h:inv5 W H s t e4 n k0 k1 k2 k3) (lt:k2 < ((rtL W s t).length:Int)) (h0:¬k2=0) (ho:o0=true↔Int.tmod (wI ((rtL W s t).getD (k2 - 1).toNat [])) W≠Int.tmod t W) :
  V8c6 pre fn R W H 1 s t k0 k1 k2 k3 o0 (inv5 W H s t e4 n) (fun _ _ k2 _=>(((rtL W s t).length:Int) - k2).toNat):=by
 have hr:=rtL_at hs ht
 obtain ⟨g1,g2,g3⟩:=hr.2.2.2 (k2 - 1).toNat (by have:=h.1;omega)
 rw [show (k2 - 1).toNat+1=k2.toNat by have:=h.1;omega] at g3
 obtain ⟨gq,gs⟩:=step_one g1 ht g2
 rw [<-g3] at gq gs
 have nx:=fun k1'=>next5 (k1':=k1') hn h lt gq
 have h4:=h.2.2.2.1
 have b1:=gq.2.2
 have b2:=g1.2.2
 have wh:=wh_bd hs.1.1 hs.1.2 hs.2.1.1 hs.2.1.2
 have bd:-1000000<=wI ((rtL W s t).getD k2.toNat []) - wI ((rtL W s t).getD (k2 - 1).toNat [])/\wI ((rtL W s t).getD k2.toNat []) - wI ((rtL W s t).getD (k2 - 1).toNat [])<=1000000:=by omega
 have kb:-1<=k2/\k2<=100:=by
  have:=rtL_15 hs ht
  have:=h.1
  omega
 cases o0 with
 |true=>
  have hx:=ho.1 rfl
  rcases gs with gs |gs
  rotate_left
  ·exact absurd gs.1 hx
  cases k1 with
  |true=>exact absurd (h4 rfl).2 hx
  |false=>
   constructor
   all_goals try simp only [v8a,v8b,v8d,v8g,vZ8,F19a K hs ht,F42 K,gt_wI,Bool.not_true]
   all_goals intros
   all_goals first
    |contradiction
    |omega
    |exact nx false (fun c=>by cases c)
 |false=>
  have hx:Int.tmod (wI ((rtL W s t).getD (k2 - 1).toNat [])) W=Int.tmod t W:=by
   by_cases c:Int.tmod (wI ((rtL W s t).getD (k2 - 1).toNat [])) W=Int.tmod t W
   ·exact c
   exact absurd (ho.2 c) Bool.false_ne_true
  rcases gs with gs |gs
  ·exact absurd hx gs.1
  have ha:mxI (wI ((rtL W s t).getD k2.toNat []) - wI ((rtL W s t).getD (k2 - 1).toNat [])) (0 - (wI ((rtL W s t).getD k2.toNat []) - wI ((rtL W s t).getD (k2 - 1).toNat [])))=W:=absW hs.1.1 (by omega)
  constructor
  all_goals try simp only [v8a,v8b,v8d,v8g,vZ8,F19a K hs ht,F42 K,gt_wI,Bool.not_false,ha,K.p42]
  case g90=>intro _;exact bd
  all_goals intros
  all_goals first
   |contradiction
   |omega
   |exact nx true (fun _=>gs.2.2.2)
theorem law8c5 {pre:Nat->List (List D)->Prop} {fn:Nat->List (List D)->Nat->Nat->D} (K:K8 pre fn) {W H s t:Int} (hs:okM W H s) (ht:okM W H t) {n:Nat} (hn:(n:Int)=W * H) {R:Nat->Nat->D} {e0:Rows} {e1:Bool} {e2:Int} {e3 e4:Rows} {k0 k1:Bool} {k2:Int} {k3:Rows}
  (h:inv5 W H s t e4 n k0 k1 k2 k3) (he:-1<=e2/\e2<=100) {I2:Rows->Bool->Int->Rows->Rows->Prop} {m2:Rows->Bool->Int->Rows->Rows->Nat}
  (hI:¬k2 < ((rtL W s t).length:Int)->I2 (e0++[[D.i t]]) k0 (e2+1) (List.set e3 t.toNat [D.i 1]) k3/\m2 (e0++[[D.i t]]) k0 (e2+1) (List.set e3 t.toNat [D.i 1]) k3 < m2 e0 e1 e2 e3 e4) :
  V8c5 pre fn R (W * H) W H 1 s e0 e1 e2 e3 e4 t k0 k1 k2 k3 I2 m2 (inv5 W H s t e4 n) (fun _ _ k2 _=>(((rtL W s t).length:Int) - k2).toNat):=by
 have hr:=rtL_at hs ht
 have h15:=rtL_15 hs ht
 have wh:=wh_bd hs.1.1 hs.1.2 hs.2.1.1 hs.2.1.2
 have hk:=h.2.2.1
 have h0:=h.1
 have hp:k2 < ((rtL W s t).length:Int)->okM W H (wI ((rtL W s t).getD k2.toNat [])):=fun lt=>hr.2.2.1 k2.toNat (by omega)
 constructor
 all_goals try simp only [v8a,v8b,v8d,v8f,v8g,vZ8,F19a K hs ht,F42 K,gt_wI]
 case n111=>exact hI
 case g110=>intro _;omega
 all_goals intro lt
 all_goals have hp:=hp lt
 all_goals have hp2:=hp.2.2
 case n75=>intro _ _ e;subst e;exact next5 hn h lt hp (fun c=>by have:=(h.2.2.2.1 c).1;omega)
 case l6=>
  intro _ _ hne
  obtain ⟨g1,g2,g3⟩:=hr.2.2.2 (k2 - 1).toNat (by omega)
  rw [show (k2 - 1).toNat+1=k2.toNat by omega] at g3
  obtain ⟨gq,gs⟩:=step_one g1 ht g2
  rw [<-g3] at gq gs
  have b2:=g1.2.2
  have ca:=co gq
  have cb:=co g1
  refine ⟨fun o0=>(o0=true↔Int.tmod (wI ((rtL W s t).getD (k2 - 1).toNat [])) W≠Int.tmod t W),?_,fun o0 ho=>law8c6 K hs ht hn h lt hne ho⟩
  constructor
  all_goals try simp only [v8a,v8b,v8d,v8f,v8g,vZ8,F19a K hs ht,F42 K,gt_wI,K.p42]
  case n87=>
   intro e
   rcases gs with gs |gs
   ·rw [abs1 _ (by omega)]
    exact ⟨fun _=>gs.1,fun _=>rfl⟩
   exact absurd e gs.2.2.1
  case n88=>
   intro e
   rcases gs with gs |gs
   ·exact absurd gs.2.2 e
   exact ⟨fun c=>(by cases c),fun c=>absurd gs.1 c⟩
  case g86=>intro _;show -1000000<=_/\_<=1000000;omega
  all_goals first
   |omega
   |(intros;omega)
   |(have:=hs.2.1;omega)
 all_goals first
  |omega
  |(intros;omega)
  |(intros;exfalso;omega)
def inv2 (W H s:Int) (n k:Nat) (e0:Rows) (_:Bool) (e2:Int) (e3 e4:Rows):Prop:=
 (0<=e2/\e2<=k)/\((e0.length:Nat):Int)=e2/\(∀x∈e0,okM W H (wI x))/\(e3.length=n/\cellI e3)/\e4.length=n/\(∀i,okM W H i->wI (e3.getD i.toNat [])=on1 (tgt e0 i))/\
 ∀i,okM W H i->((gt e4 i.toNat 0).boo=true↔∃x∈e0,onP W s (wI x) i)
theorem next2 {W H s t:Int} {n k:Nat} {e0:Rows} {e1 k0:Bool} {e2:Int} {e3 e4 k3:Rows} (hn:(n:Int)=W * H) (hs:okM W H s) (ht:okM W H t) (h:inv2 W H s n k e0 e1 e2 e3 e4) (lt:e2 < k) {k1:Bool} {k2:Int} (h5:inv5 W H s t e4 n k0 k1 k2 k3) (he:¬k2 < ((rtL W s t).length:Int)) :
  inv2 W H s n k (e0++[[D.i t]]) k0 (e2+1) (List.set e3 t.toNat [D.i 1]) k3:=by
 obtain ⟨h1,h2,h3,h4,h5',h6,h7⟩:=h
 obtain ⟨i1,i2,i3,_,i5⟩:=h5
 have hw:∀x:Int,wI [D.i x]=x:=fun _=>rfl
 refine ⟨⟨by omega,by omega⟩,by simp only [xK,zY,xI];omega,fun x hx=>?_,⟨by rw [xN];exact h4.1,cellI_set h4.2 _ _⟩,i3,fun i hi=>?_,fun i hi=>?_⟩
 ·rcases xU.1 hx with hx |hx
  ·exact h3 x hx
  simp only [xS] at hx;subst hx;exact ht
 ·rw [getD_set (by have:=ht.2.2;omega)]
  have a:=hi.2.2
  have b:=ht.2.2
  split
  next e=>
   rw [hw,on1_t ⟨[D.i t],by simp,by rw [hw];omega⟩]
  rename_i e
  rw [h6 i hi]
  refine on1_c ⟨fun ⟨x,hx,c⟩=>⟨x,by simp [hx],c⟩,fun ⟨x,hx,c⟩=>?_⟩
  rcases xU.1 hx with hx |hx
  ·exact ⟨x,hx,c⟩
  simp only [xS] at hx
  subst hx
  rw [hw] at c
  exact absurd (by rw [c]) e
 rw [i5 i hi,h7 i hi]
 have on:=on_all hs ht hi
 constructor
 ·rintro (⟨x,hx,c⟩ |⟨j,j1,j2⟩)
  ·exact ⟨x,by simp [hx],c⟩
  exact ⟨[D.i t],by simp,on.1 ⟨j,by omega,j2⟩⟩
 rintro ⟨x,hx,c⟩
 rcases xU.1 hx with hx |hx
 ·exact .inl ⟨x,hx,c⟩
 simp only [xS] at hx
 subst hx
 obtain ⟨j,j1,j2⟩:=on.2 c
 exact .inr ⟨j,by omega,j2⟩
theorem dst_abs {W H s t:Int} (hs:okM W H s) (ht:okM W H t):dstI W s t=mxI (Int.tmod s W - Int.tmod t W) (0 - (Int.tmod s W - Int.tmod t W))+mxI (Int.tdiv s W - Int.tdiv t W) (0 - (Int.tdiv s W - Int.tdiv t W)):=by
 unfold dstI absI mxI
 (repeat' split)<;>omega
theorem law8c4 {pre:Nat->List (List D)->Prop} {fn:Nat->List (List D)->Nat->Nat->D} (K:K8 pre fn) {W H s t:Int} (hs:okM W H s) (ht:okM W H t) {n k:Nat} (hk:k<=30) (hn:(n:Int)=W * H) {R:Nat->Nat->D} {e0:Rows} {e1:Bool} {e2:Int} {e3 e4:Rows} (h:inv2 W H s n k e0 e1 e2 e3 e4) (lt:e2 < k) :
  V8c4 pre fn R (W * H) W H 1 s e0 e1 e2 e3 e4 t (dstI W s t) 0 (inv2 W H s n k) (fun _ _ e2 _ _=>((k:Int) - e2).toNat):=by
 have hr:=rtL_at hs ht
 have hlen:=rtL_len W s t
 have hd:=dst_nonneg W s t
 have hb:=dst_bd (H:=H) hs.1 hs.2.1 hs.2.2.1 hs.2.2.2 ht.2.2.1 ht.2.2.2
 have ca:=co hs
 have cb:=co ht
 have hda:=dst_abs hs ht
 have i:=h.1
 constructor
 all_goals try simp only [v8a,v8b,v8c,v8f,v8h,vZ8,F19a K hs ht,F19b K hs ht,F42 K,gt_wI,K.p42,Int.toNat_zero,hr.1,hr.2.1]
 case l5=>
  intro _ _ _ _ _ _
  refine ⟨inv5 W H s t e4 n,fun _ _ k2 _=>(((rtL W s t).length:Int) - k2).toNat,?_,fun k0 k1 k2 k3 h5=>law8c5 K hs ht hn h5 (by omega) fun he=>⟨next2 hn hs ht h lt h5 he,by omega⟩⟩
  refine ⟨Int.le_refl _,by omega,h.2.2.2.2.1,fun c=>(by cases c),fun i _=>⟨fun c=>.inl c,fun c=>?_⟩⟩
  rcases c with c |⟨j,j1,_⟩
  ·exact c
  omega
 case g56=>intros;show -1000000<=_/\_<=1000000;have:=hs.1;omega
 case g62=>intros;show -1000000<=_/\_<=1000000;have:=hs.2.1;omega
 case g64=>intro _ _ _ _ _ c;exact absurd hda c
 all_goals first
  |omega
  |(intros;omega)
  |(intros;contradiction)
  |(intros;have:=hs.1;have:=hs.2.1;omega)
  |(intros;rw [<-hda];omega)
theorem law8c7 {pre:Nat->List (List D)->Prop} {fn:Nat->List (List D)->Nat->Nat->D} (K:K8 pre fn) {W H s:Int} (hs:okM W H s) {n k:Nat} (hn:(n:Int)=W * H) {R:Nat->Nat->D} (hR:R 0 0=.b true) {e0:Rows} {e1:Bool} {e2:Int} {e3 e4:Rows} (h:inv2 W H s n k e0 e1 e2 e3 e4) (h1:e0.length≠0) {q0:Bool} {q1:Int} (hq:0<=q1/\q1<=W * H) :
  V8c7 pre fn R (W * H) W H 1 s e0 e4 q0 q1 (fun _ q=>0<=q/\q<=W * H) (fun _ q=>(W * H - q).toNat):=by
 obtain ⟨_,_,h3,_,h5,_,h7⟩:=h
 have ht:=treL_ok hs h3
 have hN:(W * H).toNat=n:=by omega
 have hl:=ht.1.1
 have wh:=wh_bd hs.1.1 hs.1.2 hs.2.1.1 hs.2.1.2
 have key:q1 < W * H->((!(decide (wI ((treL W (W * H) s e0).getD q1.toNat [])=0))) == (gt e4 q1.toNat 0).boo)=true:=fun lt=>by
  have hq1:okM W H q1:=⟨hs.1,hs.2.1,hq.1,lt⟩
  have a:=h7 q1 hq1
  have b:=nz_bits (ht.1.2 q1.toNat (by omega))
  have c:wI ((treL W (W * H) s e0).getD q1.toNat [])≠0↔(gt e4 q1.toNat 0).boo=true:=by
   rw [a,b]
   constructor
   ·rintro ⟨o,ho,hb⟩
    obtain ⟨x,hx,h1,_⟩:=(ht.2 q1 o hq1 ho).1 hb
    exact ⟨x,hx,h1⟩
   rintro ⟨x,hx,h1⟩
   exact ⟨turnI W q1 (wI x),tnO _ _ _,(ht.2 q1 _ hq1 (tnO _ _ _)).2 ⟨x,hx,h1,rfl⟩⟩
  by_cases z:wI ((treL W (W * H) s e0).getD q1.toNat [])=0
  ·have:(gt e4 q1.toNat 0).boo=false:=by
    cases e:(gt e4 q1.toNat 0).boo with
    |false=>rfl
    |true=>exact absurd z (c.2 e)
   rw [kZ z,this];rfl
  rw [qN z,c.1 z];rfl
 constructor
 all_goals try simp only [v8e,vZ8,F22a K hs h3 h1,gt_wI]
 case g131=>intro lt c;rw [key lt] at c;cases c
 case g135=>intro _;rw [K.f13];exact hR
 case g134=>intro _;exact K.p13
 all_goals first |omega |(intros;omega)
theorem law8c2 {pre:Nat->List (List D)->Prop} {fn:Nat->List (List D)->Nat->Nat->D} (K:K8 pre fn) {W H s:Int} (hs:okM W H s) {n:Nat} (hn:(n:Int)=W * H) {R:Nat->Nat->D} (hR:R 0 0=.b true) {a3:Rows} (ha:∀i:Nat,i < a3.length->0<=(gt a3 i 0).int/\(gt a3 i 0).int<=255) (hk1:1<=a3.length) (hk:a3.length<=30)
  {e0:Rows} {e1:Bool} {e2:Int} {e3 e4:Rows} (h:inv2 W H s n a3.length e0 e1 e2 e3 e4) :
  V8c2 pre fn a3 R (W * H) W H 1 s e0 e1 e2 e3 e4 (inv2 W H s n a3.length) (fun _ _ e2 _ _=>((a3.length:Int) - e2).toNat):=by
 have h':=h
 obtain ⟨h1,h2,h3,h4,h5,h6,h7⟩:=h
 have wh:=wh_bd hs.1.1 hs.1.2 hs.2.1.1 hs.2.1.2
 have hN:(W * H).toNat=n:=by omega
 have F43a:∀q c t,(fn 43 [[D.i W,D.i H,D.i 1],[D.l (treL W (W * H) s e0)],[D.i q],[D.l c],[D.i t]] 1 0).boo=(rch W H (treL W (W * H) s e0) 402 q t c).2.1:=fun q c t=>by rw [K.f43];rfl
 have F43b:∀q c t,(fn 43 [[D.i W,D.i H,D.i 1],[D.l (treL W (W * H) s e0)],[D.i q],[D.l c],[D.i t]] 2 0).rows=(rch W H (treL W (W * H) s e0) 402 q t c).2.2:=fun q c t=>by rw [K.f43];rfl
 have fin:¬e2 < (a3.length:Int)->e0.length≠0/\∃tk',rch W H (treL W (W * H) s e0) 402 s 0 (List.replicate n [.i 0])=(tk',true,e3):=fun lt=>by
  obtain ⟨tk',c',d1,d2,d3⟩:=dfs_s hn hs h3 (by omega)
  refine ⟨by omega,tk',?_⟩
  rw [d1]
  have:c'=e3:=by
   refine cellI_eq ?_ h4.2 (by rw [d2,h4.1]) fun i hi=>?_
   ·have:=rch_cell W H (treL W (W * H) s e0) 402 s 0 (List.replicate n [.i 0]) (fun x hx=>⟨0,(List.mem_replicate.1 hx).2⟩)
    rw [d1] at this
    exact this
   have hi':okM W H (i:Int):=⟨hs.1,hs.2.1,by omega,by omega⟩
   have a:=d3 i hi'
   have b:=h6 i hi'
   rw [kY] at a b
   rw [a,b]
  rw [this]
 constructor
 case l3=>
  intro lt
  have hc:=ha e2.toNat (by omega)
  refine ⟨fun t=>okM W H t,⟨?_,by omega,⟨hs.1,hs.2.1,Int.tmod_nonneg _ hc.1,Int.tmod_lt_of_pos _ (by omega)⟩⟩,fun t ht=>?_⟩
  ·show -9223372036854775808<=_/\_<=9223372036854775807;omega
  have:=ht.2.2
  constructor
  case l4=>
   refine ⟨fun j0 j1=>j0=dstI W s t/\j1=0,⟨K.p15 _,F15a K hs ht,F15b K hs ht⟩,?_⟩
   rintro j0 j1 ⟨rfl,rfl⟩
   exact law8c4 K hs ht hk hn h' lt
  case g37=>exact K.p19 _
  case g33=>simp only [zY,xI];omega
  all_goals omega
 case g26=>intro _;omega
 case g27=>intro lt;exact lt
 case g28=>intro lt;omega
 all_goals intro lt
 case g112=>rw [K.p22];show e0.length<=100;omega
 case g113=>omega
 case g114=>omega
 case g115=>show W * H * 1<=4096;omega
 case g116=>show W * H * 8<=140737488355328;omega
 all_goals obtain ⟨hne,tk',d1⟩:=fin lt
 all_goals have hTl:=(treL_ok hs h3).1.1
 all_goals try simp only [v8e,v8i,F22a K hs h3 hne,F22b K hs h3 hne,F43a,F43b,hN,d1,K.f21,K.p21,K.p43]
 case g117=>intro c;exact absurd trivial c
 case g118=>intro _ c;omega
 case g119=>
  intro _ _
  refine ⟨hs.1,⟨hs.2.2.1,by have:=hs.2.2;omega⟩,by omega,by omega,⟨by rw [xC];omega,by omega,by omega⟩,fun i hi=>?_⟩
  rw [xC] at hi
  rw [getD_rep hi]
  exact ⟨Int.le_refl 0,Int.le_refl 0⟩
 case g120=>intro _ _ c;cases c
 case g121=>intro _ _ _;rfl
 case g122=>intro _ _ _ c;cases c
 case l7=>
  intro _ _ _ _
  exact ⟨_,_,⟨Int.le_refl _,by omega⟩,fun q0 q1 hq=>law8c7 K hs hn hR h' hne hq⟩
theorem law8 {pre:Nat->List (List D)->Prop} {fn:Nat->List (List D)->Nat->Nat->D} (K:K8 pre fn) {a0 a1 a2:Int} {a3:Rows} (h0:0<=a0/\a0<=255) (h1:0<=a1/\a1<=255) (h2:0<=a2/\a2<=255) (ha:∀i:Nat,i < a3.length->0<=(gt a3 i 0).int/\(gt a3 i 0).int<=255) {R:Nat->Nat->D} (hR:R 0 0=.b true):V8 pre fn a0 a1 a2 a3 R:=by
 have m0:=Int.tmod_nonneg 8 h0.1
 have m1:=Int.tmod_nonneg 8 h1.1
 have l0:=Int.tmod_lt_of_pos a0 (show (0:Int) < 8 by decide)
 have l1:=Int.tmod_lt_of_pos a1 (show (0:Int) < 8 by decide)
 have wh:=wh_bd (W:=1+Int.tmod a0 8) (H:=1+Int.tmod a1 8) (by omega) (by omega) (by omega) (by omega)
 constructor
 case l0=>
  refine ⟨fun n W H r=>n=W * H/\(1<=W/\W<=8)/\(1<=H/\H<=8)/\r=1,⟨?_,rfl,by omega,by omega,rfl⟩,?_⟩
  ·show -9223372036854775808<=_/\_<=9223372036854775807;omega
  rintro n W H r ⟨rfl,hW,hH,rfl⟩
  have wh:=wh_bd hW.1 hW.2 hH.1 hH.2
  constructor
  case l1=>
   intro c1 c2
   refine ⟨fun s=>okM W H s,⟨?_,by omega,⟨hW,hH,Int.tmod_nonneg _ h2.1,Int.tmod_lt_of_pos _ (by omega)⟩⟩,fun s hs=>⟨?_⟩⟩
   ·show -9223372036854775808<=_/\_<=9223372036854775807;omega
   have hn:(((W * H).toNat:Nat):Int)=W * H:=by omega
   refine ⟨_,_,?_,fun e0 e1 e2 e3 e4 h=>law8c2 K hs hn hR ha (by omega) (by omega) h⟩
   refine ⟨⟨Int.le_refl _,by omega⟩,rfl,fun _ h=>(by cases h),⟨by simp [v8i],fun x hx=>⟨0,(List.mem_replicate.1 hx).2⟩⟩,by simp,fun i hi=>?_,fun i hi=>?_⟩
   ·have:=hi.2.2
    rw [getD_rep (by omega),on1_f (fun ⟨x,hx,_⟩=>by cases hx)];rfl
   have:=hi.2.2
   unfold gt
   rw [getD_rep (by omega)]
   exact ⟨fun c=>(by cases c),fun ⟨x,hx,_⟩=>(by cases hx)⟩
  case g9=>intro _;exact K.p13
  case g10=>intro _;rw [K.f13];exact hR
  case g11=>intro _ _;exact K.p13
  case g12=>intro _ _;rw [K.f13];exact hR
  case g15=>intro _ _;show W * H * 1<=4096;omega
  case g16=>intro _ _;show W * H * 8<=140737488355328;omega
  case g20=>intro _ _;show W * H * 1<=140737488355328;omega
  all_goals (intros;omega)
 all_goals first
  |decide
  |(show -9223372036854775808<=_/\_<=9223372036854775807;omega)
theorem law8' {a0 a1 a2:Int} {a3:Rows} (h:RngAll [(false,[.int .u8]),(false,[.int .u8]),(false,[.int .u8]),(false,[.sl [.int .u8]])] [[.i a0],[.i a1],[.i a2],[.l a3]]) (hs:ShR [.int .u8] a3):V8 (preOf l8) (resOf l8) a0 a1 a2 a3 (fun _ _=>.b true):=by
 simp only [RngAll,RngL,RngK,and_true] at h
 refine law8 ⟨trivial,rfl,fun _=>trivial,rfl,fun _=>trivial,rfl,rfl,fun _=>rfl,rfl,rfl,rfl,rfl,rfl,rfl⟩ h.1 h.2.1 h.2.2.1 (fun i hi=>?_) rfl
 have h1:=h.2.2.2 (a3.getD i []) (row_mem hi)
 have h2:=hs.1 (a3.getD i []) (row_mem hi)
 simp only [gt]
 revert h1 h2
 generalize a3.getD i []=r
 intro h1 h2
 match r,h1,h2 with
 |[d],h1,h2=>
  simp only [RngL,RngK] at h1
  exact h1.1
end HX

namespace Go.Proofs.Ytcpndododgchbaa.meshTrees
open Go.ChangeShapes Go.WideShapes Go.ChangeAt Go.RowKit HX
def ps:List (Bool×List Kd):=[(false,[.int .u8]),(false,[.int .u8]),(false,[.int .u8]),(false,[.sl [.int .u8]])]
theorem law (ro:Addr->Option CX.V):PureC0 (cxE ro) 8 ⟨ps,[(false,[.bool])],false⟩ (RngAll ps) trueRes:=walk8 (envL (l:=l8) (k_l8 ro)) fun _ _ _ _ h hP=>law8' hP h
theorem lenN {α β:Type} {F:List α->β} {G:List α->β} (h:∀a b c d,F [a,b,c,d]=G [a,b,c,d]):∀ds:List α,ds.length=4->F ds=G ds
 |[a,b,c,d],_=>h a b c d
set_option maxRecDepth 100000 in
set_option maxHeartbeats 400000 in
theorem lifted (os:Os) (started:os.Started) (H:Type) (enc:TypeId×Value->H) :
  ReturnsInHanded {} Try.checked os 8 .any (Rows.meshTreesSpec.pre6 enc Try.prog Try.f8 Rows.meshTreesRow.domain false) (Rows.meshTreesSpec.post enc Try.prog Try.f8 false true false false):=by
 refine returnsInHanded_of_change (C:=Try.checked) own started (by kernel_rfl) Try.func8
  (ChangeSpec.witness6 (enc:=enc) (C:=Try.checked) false ⟨#[],#[.int .u8 0,.int .u8 0,.int .u8 0,.slice none 0 0],[]⟩ 8 (by kernel_rfl) (by kernel_rfl) (by kernel_rfl) (by kernel_rfl)) ?_
 intro W base args ds gs before hval hW _ _
 exact said (f:=Try.f8) (s:=Rows.meshTreesSpec) (n:=8) (tb:=4) cxE_ok law (by kernel_rfl) laid (by kernel_rfl) rfl Try.underlying4
  (lenN (F:=Rows.meshTreesSpec.fn H) (G:=fun ds=>⟨[.lit (.bool true)],ds,[]⟩) fun _ _ _ _=>rfl) rfl W base args ds gs before hval hW
theorem holds:Rows.MeshTreesSaid:=
 OpenClaim.holds_of_wide 8 Try.f8 rfl rfl rfl rfl rfl rfl rfl ⟨rfl,rfl,rfl,rfl,rfl⟩ rfl rfl rfl rfl rfl (by kernel_rfl) Try.func8 (by kernel_rfl)
  (of_decide_eq_true (by kernel_rfl)) (by unfold Func.isWrapper;first |(rw [if_pos (by decide +kernel)];kernel_rfl) |(rw [if_neg (by decide +kernel)];exact ⟨rfl,rfl⟩))
  (fun os started H enc _=>lifted os started H enc)
end Go.Proofs.Ytcpndododgchbaa.meshTrees
