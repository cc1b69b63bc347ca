/-
  Texts of the executors: HxJoin.
-/
import Derived.Test.YtcpndododgchbaaMeshTrees8
set_option linter.all false
noncomputable section
namespace HX
open Go CX
def headId:Code->Nat
 |.region id _ _=>id
 |.seq a _=>headId a
 |.block _ b=>headId b
 |_=>0
def memB:List Nat->Nat->Bool
 |[],_=>false
 |a :: r,x=>match beqN a x with
  |true=>true
  |false=>memB r x
def vcJ (E:Env) (rd:Option Nat) (lo:Nat) (ci:CI) (js:List Nat):Code->(Ex->St->Prop)->St->Prop
 |.seq a b,Q,Y=>vcJ E rd lo ci js a (thenQ (fun Y'=>vcJ E rd lo ci js b Q Y') Q) Y
 |.block id b,Q,Y=>vcJ E rd lo ci js b (inBlockQ id Q) Y
 |.cond c a b,Q,Y=>match memB js (headId a) with
  |true=>Leaf E.E rd lo (.cond c a b) Q Y
  |false=>match evR Y.regs c with
   |.bool true=>vcJ E rd lo ci js a Q Y
   |.bool false=>vcJ E rd lo ci js b Q Y
   |.sym p=>Br p (fun _=>vcJ E rd lo ci js a Q (knowO Y c true)) (fun _=>vcJ E rd lo ci js b Q (knowO Y c false))
   |_=>StuckC (.cond c .skip .skip) Y
 |.region id ops draw,Q,Y=>match memB js id with
  |true=>Leaf E.E rd lo (.region id ops draw) Q Y
  |false=>vc E rd lo ci (.region id ops draw) Q Y
 |c,Q,Y=>vc E rd lo ci c Q Y
section
variable {E:Env} (hE:EnvOk E)
include hE
theorem vcJ_ok {ci:CI} (hci:CIOk E.E ci) (js:List Nat) {rd:Option Nat} {lo:Nat}:∀(c:Code) (Q:Ex->St->Prop) (Y:St),vcJ E rd lo ci js c Q Y->SWP E.E rd lo c Q Y
 |.seq a b,Q,Y,h=>fun C S hS hlo hrd=>by
  obtain ⟨e,S1,C1,Y1,k1,k2,k3,k4⟩:=vcJ_ok hci js a _ Y h C S hS hlo hrd
  cases e with
  |normal=>
   obtain ⟨e,S2,C2,Y2,l1,l2,l3,l4⟩:=vcJ_ok hci js b Q Y1 k4 C1 S1 k2 k3.m.le hrd
   refine ⟨e,S2,C2,Y2,(k1.and l1).succ fun n hn=>?_,l2,k3.trans l3,l4⟩
   show cxBody E.E (cx E.E n) (rd.map C.ids) (.seq a b) S=_
   have hn2:=hn.2
   rw [rd_ag hE hrd k3.m.ag] at hn2
   simp only [cxBody,hn.1,hn2]
  |ret=>
   refine ⟨.ret,S1,C1,Y1,k1.succ fun n hn=>?_,k2,k3,k4⟩
   show cxBody E.E (cx E.E n) (rd.map C.ids) (.seq a b) S=_
   simp only [cxBody,hn]
  |exit i=>
   refine ⟨.exit i,S1,C1,Y1,k1.succ fun n hn=>?_,k2,k3,k4⟩
   show cxBody E.E (cx E.E n) (rd.map C.ids) (.seq a b) S=_
   simp only [cxBody,hn]
 |.block id b,Q,Y,h=>fun C S hS hlo hrd=>by
  obtain ⟨e,S1,C1,Y1,k1,k2,k3,k4⟩:=vcJ_ok hci js b _ Y h C S hS hlo hrd
  cases e with
  |normal=>
   refine ⟨.normal,S1,C1,Y1,k1.succ fun n hn=>?_,k2,k3,k4⟩
   show cxBody E.E (cx E.E n) (rd.map C.ids) (.block id b) S=_
   simp only [cxBody,hn]
  |ret=>
   refine ⟨.ret,S1,C1,Y1,k1.succ fun n hn=>?_,k2,k3,k4⟩
   show cxBody E.E (cx E.E n) (rd.map C.ids) (.block id b) S=_
   simp only [cxBody,hn]
  |exit i=>
   simp only [inBlockQ] at k4
   split at k4
   next hb=>
    simp only [beqN_iff] at hb
    refine ⟨.normal,S1,C1,Y1,k1.succ fun n hn=>?_,k2,k3,k4⟩
    show cxBody E.E (cx E.E n) (rd.map C.ids) (.block id b) S=_
    simp only [cxBody,hn,hb,xA]
   rename_i hb
   simp only [beqN_not] at hb
   refine ⟨.exit i,S1,C1,Y1,k1.succ fun n hn=>?_,k2,k3,k4⟩
   show cxBody E.E (cx E.E n) (rd.map C.ids) (.block id b) S=_
   have hne:Nat.beq i id=false:=by
    cases he:Nat.beq i id with
    |true=>exact absurd (zF he) hb
    |false=>rfl
   simp only [cxBody,hn,hne]
 |.cond c a b,Q,Y,h=>fun C S hS hlo hrd=>by
  simp only [vcJ] at h
  split at h
  ·exact h.out C S hS hlo hrd
  have hx:=evR_ok hS.regs
  have go:∀(bb:Bool) (Y:St),Sim C Y S->lo<=Y.next->CX.evR S.regs c=some (.bool bb)->(match bb with |true=>vcJ E rd lo ci js a Q Y |false=>vcJ E rd lo ci js b Q Y)->∃e S' C' Y',Evt (fun n=>cx E.E n (rd.map C.ids) (.cond c a b) S=some (e,S'))/\Sim C' Y' S'/\Ext lo C Y S C' Y' S'/\Q e Y':=by
   intro bb Y hS hlo hb h
   cases bb with
   |true=>
    obtain ⟨e,S1,C1,Y1,k1,k2,k3,k4⟩:=vcJ_ok hci js a Q Y h C S hS hlo hrd
    refine ⟨e,S1,C1,Y1,k1.succ fun n hn=>?_,k2,k3,k4⟩
    show cxBody E.E (cx E.E n) (rd.map C.ids) (.cond c a b) S=_
    simp only [cxBody,hb,hn]
   |false=>
    obtain ⟨e,S1,C1,Y1,k1,k2,k3,k4⟩:=vcJ_ok hci js b Q Y h C S hS hlo hrd
    refine ⟨e,S1,C1,Y1,k1.succ fun n hn=>?_,k2,k3,k4⟩
    show cxBody E.E (cx E.E n) (rd.map C.ids) (.cond c a b) S=_
    simp only [cxBody,hb,hn]
  have kn:∀bb,CX.evR S.regs c=some (.bool bb)->Sim C (knowO Y c bb) S/\lo<=(knowO Y c bb).next/\Ext lo C Y S C (knowO Y c bb) S:=by
   intro bb hb
   unfold knowO
   split
   ·exact ⟨⟨hS.nt,know_ok hS.regs hb,hS.m,hS.df,hS.dflt⟩,hlo,(MExt.refl _ _ _ _ _).less hlo,rfl,fun _ h=>.inl h⟩
   exact ⟨hS,hlo,Ext.refl _ _ _ hlo⟩
  split at h
  next he=>
   obtain ⟨v,v1,v2⟩:=hx.get he (by intro e;cases e)
   simp only [RvS] at v2
   subst v2
   exact go true Y hS hlo v1 h
  next he=>
   obtain ⟨v,v1,v2⟩:=hx.get he (by intro e;cases e)
   simp only [RvS] at v2
   subst v2
   exact go false Y hS hlo v1 h
  next p he=>
   obtain ⟨v,v1,v2⟩:=hx.get he (by intro e;cases e)
   simp only [RvS] at v2
   subst v2
   cases hp:p with
   |true=>rw [hp] at v1;exact let ⟨e,S',C',Y',k1,k2,k3,k4⟩:=go true (knowO Y c true) (kn true v1).1 (kn true v1).2.1 v1 (h.t hp);⟨e,S',C',Y',k1,k2,(kn true v1).2.2.trans k3,k4⟩
   |false=>rw [hp] at v1;exact let ⟨e,S',C',Y',k1,k2,k3,k4⟩:=go false (knowO Y c false) (kn false v1).1 (kn false v1).2.1 v1 (h.e hp);⟨e,S',C',Y',k1,k2,(kn false v1).2.2.trans k3,k4⟩
  exact h.out.elim
 |.region id ops draw,Q,Y,h=>by
  simp only [vcJ] at h
  split at h
  ·exact h.out
  exact vc_ok hE hci _ Q Y h
 |.skip,Q,Y,h=>vc_ok hE hci _ Q Y h
 |.label _,Q,Y,h=>vc_ok hE hci _ Q Y h
 |.ret,Q,Y,h=>vc_ok hE hci _ Q Y h
 |.exit _,Q,Y,h=>vc_ok hE hci _ Q Y h
 |.loop _,Q,Y,h=>vc_ok hE hci _ Q Y h
 |.rangeFunc ..,Q,Y,h=>vc_ok hE hci _ Q Y h
 |.scope ..,Q,Y,h=>vc_ok hE hci _ Q Y h
 |.goto ..,Q,Y,h=>vc_ok hE hci _ Q Y h
 |.refuse ..,Q,Y,h=>vc_ok hE hci _ Q Y h
end
def killL (kl:List Nat):List (Nat×SV)->List (Nat×SV)
 |[]=>[]
 |(t,v) :: r=>match memB kl t with
  |true=>killL kl r
  |false=>(t,v) :: killL kl r
def killR (kl:List Nat) (Y:St):St:=⟨Y.nt,killL kl Y.regs,Y.objs,Y.next,Y.df⟩
def addR (nr:List (Nat×SV)) (Y:St):St:=⟨Y.nt,nr++Y.regs,Y.objs,Y.next,Y.df⟩
theorem joinR {E:Env} (hE:EnvOk E) {inl:Nat->Option Func} (hinl:∀f fn,inl f=some fn->E.E.fn f=some fn/\E.E.ext f=none) {rd:Option Nat} {lo:Nat} (n:Nat) (kl fz drop:List Nat) (nr:List (Nat×SV)) (names:List (Nat×List Nat)) {c:Code} {Q:Ex->St->Prop} {Y:St} {X:Type} (vals:X->List D) (J:X->Prop)
  (run:∀K:St->Prop,(∀x Y',J x->subP lo (frzT fz Y') (updT E lo c (addR nr (killR kl (frzT fz Y))) drop names (vals x))->K Y')->vc E rd lo (ciN E inl n) c (thenQ K Q) Y)
  (cont:∀x,J x->Q .normal (updT E lo c (addR nr (killR kl (frzT fz Y))) drop names (vals x))):Leaf E.E rd lo c Q Y:=by
 refine ⟨fun C S hS hlo hrd=>?_⟩
 obtain ⟨e,S1,C1,Y1,k1,k2,k3,k4⟩:=vc_ok hE (ciN_ok hE hinl n) c _ Y (run (fun Y'=>∃x,J x/\Sub lo Y' (updT E lo c (addR nr (killR kl (frzT fz Y))) drop names (vals x))) fun x Y' h1 h2=>⟨x,h1,(subP_ok h2).frz fz⟩) C S hS hlo hrd
 cases e with
 |normal=>
  obtain ⟨x,hx,hs⟩:=k4
  obtain ⟨C2,s1,s2⟩:=hs _ C1 S1 k2 k3.m.le
  exact ⟨.normal,S1,C2,_,k1,s1,k3.trans s2,cont x hx⟩
 |ret=>exact ⟨_,S1,C1,Y1,k1,k2,k3,k4⟩
 |exit i=>exact ⟨_,S1,C1,Y1,k1,k2,k3,k4⟩
theorem loopBJ {E:Env} (hE:EnvOk E) (js:List Nat) {inl:Nat->Option Func} (hinl:∀f fn,inl f=some fn->E.E.fn f=some fn/\E.E.ext f=none) {rd:Option Nat} {lo:Nat} (n:Nat) (fz drop:List Nat) (names:List (Nat×List Nat)) {c:Code} {Q:Ex->St->Prop} {Y:St} {X:Type} (vals:X->List D) (Inv:X->Prop) (μ:X->Nat) (x0:X) (h0:Inv x0)
  (hs:subP lo (frzT fz Y) (updT E lo c (frzT fz Y) drop names (vals x0)))
  (round:∀x,Inv x->∀K:St->Prop,(∀x' Y',Inv x'->μ x' < μ x->subP lo (frzT fz Y') (updT E lo c (frzT fz Y) drop names (vals x'))->K Y')->vcJ E rd lo (ciN E inl n) js c (endQ K Q) (updT E lo c (frzT fz Y) drop names (vals x))) :
  Leaf E.E rd lo (.loop c) Q Y:=by
 refine ⟨loop_ok (fun x=>updT E lo c (frzT fz Y) drop names (vals x)) Inv μ x0 h0 ((subP_ok hs).frz fz) (fun _=>updT_lo) fun x hx=>?_⟩
 have e:loopQ lo (fun x=>updT E lo c (frzT fz Y) drop names (vals x)) Inv μ Q x=endQ (fun Y'=>∃x',Inv x'/\μ x' < μ x/\Sub lo Y' (updT E lo c (frzT fz Y) drop names (vals x'))) Q:=by
  funext e Y'
  cases e<;>rfl
 rw [e]
 exact vcJ_ok hE (ciN_ok hE hinl n) js c _ _ (round x hx _ fun x' Y' h1 h2 h3=>⟨x',h1,h2,(subP_ok h3).frz fz⟩)
def fnVCJ (js:List Nat) (b0 n0:Nat) (E:Env) (inl:Nat->Option Func) (n:Nat) (fn:Func) (sg:Sig) (r:Nat->Nat->D) (ds:List (List D)):Prop:=
 match fn.body with
 |some c=>match argsSV b0 sg.params ds with
  |some vs=>match bleN vs.length fn.ntmps with
   |true=>vcJ E none 0 (ciN E inl n) js c (retX E fn sg r) ⟨fn.ntmps,enterS 0 vs,[],n0,[]⟩
   |false=>False
  |none=>False
 |none=>False
theorem of_vcGJ {E:Env} (hE:EnvOk E) (js:List Nat) {inl:Nat->Option Func} (hinl:∀f fn,inl f=some fn->E.E.fn f=some fn/\E.E.ext f=none) (n:Nat) {f:Nat} {fn:Func} {sg:Sig} {pre:List (List D)->Prop} {res:List (List D)->Nat->Nat->D} (hf:E.E.fn f=some fn/\E.E.ext f=none)
  (b0 n0:Nat) (hb0:b0<=n0) (h:allA sg.params fun ds=>pre ds->fnVCJ js b0 n0 E inl n fn sg (res ds) ds) {ds:List (List D)} (hpre:pre ds) {g:Nat->Option O} {bar nx:Nat} {hp:T O} {args:List V} (C:Cx E.E.ro) (hCg:C.g=g) (hM:MSim C [] n0 bar hp.get nx)
  (hargs:ArgsFz E.E.ro C.g (C.bd b0) sg.params ds args) :
  ∃(vs:List V) (h':T O) (nx':Nat) (g':Nat->Option O),Evt (fun n=>∀k,callF E.E (cx E.E n) bar hp nx f args k=k (CX.one vs) h' nx')/\nx<=nx'/\(∀id,id < nx->h'.get id=hp.get id)/\(∀id o,g id=some o->g' id=some o)/\
   (∀id o,g' id=some o->(id < nx'/\h'.get id=some o)/\(g id=some o\/nx<=id))/\ResFz E.E.ro g' nx' (res ds) sg.results 0 vs:=by
 subst hCg
 have hvc:=allA_ok h hargs hpre
 unfold fnVCJ at hvc
 split at hvc
 rotate_left
 ·exact hvc.elim
 rename_i c hc
 split at hvc
 rotate_left
 ·exact hvc.elim
 rename_i vs hvs
 split at hvc
 rotate_left
 ·exact hvc.elim
 rename_i hle
 simp only [bleN_iff] at hle
 have hrel:RvSL C n0 vs args:=argsSV_ok hb0 hvs hargs
 obtain ⟨t',t1,t2⟩:=enter_ok (C:=C) (n:=n0) _ _ 0 .e [] hrel (fun t s h=>by simp [look] at h) (fun j s h=>by simp [look] at h)
 obtain ⟨e,S',C',Y',k1,k2,k3,k4⟩:=vcJ_ok hE (ciN_ok hE hinl n) js (rd:=none) (lo:=0) c _ _ hvc C ⟨fn.ntmps,bar,t',hp,nx,[]⟩ ⟨rfl,fun j s hl=>.inr (t2 j s hl),hM,.nil,fun d hd=>by cases hd⟩ (xZ _) (fun l hl=>by cases hl)
 have none0:∀id,¬OwnId C [] id:=fun id h=>by obtain ⟨_,_,hl,_⟩:=h;simp [look] at hl
 have fin:retRP E fn sg (res ds) Y'->(e=.normal\/e=.ret)->∃(vs:List V) (h':T O) (nx':Nat) (g':Nat->Option O),Evt (fun n=>∀k,callF E.E (cx E.E n) bar hp nx f args k=k (CX.one vs) h' nx')/\nx<=nx'/\(∀id,id < nx->h'.get id=hp.get id)/\(∀id o,C.g id=some o->g' id=some o)/\
   (∀id o,g' id=some o->(id < nx'/\h'.get id=some o)/\(C.g id=some o\/nx<=id))/\ResFz E.E.ro g' nx' (res ds) sg.results 0 vs:=by
  intro hr he
  unfold retRP at hr
  split at hr
  rotate_left
  ·exact hr.out.elim
  rename_i objs ho
  split at hr
  rotate_left
  ·exact hr.out.elim
  rename_i rs hrs
  unfold retD at hr
  split at hr
  rotate_left
  ·exact hr.out.elim
  rename_i ds' hds
  obtain ⟨h',t1',t2',t3'⟩:=take_ok S'.df Y'.df Y'.objs objs S'.h ho k2.m k2.df k2.dflt
  obtain ⟨x,x1,x2⟩:=resAll_ok (Y:=Y'.mem objs Y'.next) hE t2' k2.regs fn.results.toList hrs
  obtain ⟨C2,m2,e2⟩:=t2'.frzL (rs.map whole)
  have hA:=argsD_ok hE.A (Y:=Y'.mem (frzL objs (rs.map whole)) Y'.next) m2 (fun _ _ h=>h) (fun e=>by cases e) hds (RvSL.ag e2.ag (zB _) _ _ x1)
  have hext:MExt C [] 0 hp.get nx C2 (frzL objs (rs.map whole)) Y'.next h'.get S'.nx:=yext (k3.m.took t3' (fun i hi=>(k3.df i hi).resolve_left (by intro h;cases h))) (MExt.refl _ _ _ _ _) ((MExt.refl _ _ _ _ _).less (xZ _)) e2
  have hbar':S'.bar=bar:=k3.bar
  refine ⟨x,h',S'.nx,C2.g,k1.mono fun n hn k=>?_,hext.nxle,fun id hid=>hext.keep id hid (none0 id),fun id o hgo=>hext.ag.g id o hgo,fun id o hgo=>⟨m2.fz id o hgo,?_⟩,eqRes_ok (allP_ok _ hr) hA⟩
  ·have hlen:Nat.ble (CX.len args) fn.ntmps=true:=bleT (by rw [len_eq,hrel.length];exact hle)
   have hn':cx E.E n none c ⟨fn.ntmps,bar,t',hp,nx,[]⟩=some (e,S'):=hn
   have hrun:outV (takeDf bar S'.df S'.h fun h=>resultsX E.E S'.regs h fn.results.toList fun l=>retV (CX.one l) h S'.nx) k=k (CX.one x) h' S'.nx:=by
    rw [<-hbar',t1',x2];rfl
   simp only [callF,hf.1,hf.2,hc,hlen,t1,hn']
   rcases he with rfl |rfl<;>exact hrun
  rcases hext.g id o hgo with h |h |h
  ·exact .inl h
  ·exact absurd h (none0 id)
  exact .inr h
 cases e with
 |normal=>exact fin k4 (.inl rfl)
 |ret=>exact fin k4 (.inr rfl)
 |exit i=>exact (StuckR.out k4).elim
theorem PureC.of_vcJ {E:Env} (hE:EnvOk E) (js:List Nat) {inl:Nat->Option Func} (hinl:∀f fn,inl f=some fn->E.E.fn f=some fn/\E.E.ext f=none) (n:Nat) {f:Nat} {fn:Func} {sg:Sig} {pre:List (List D)->Prop} {res:List (List D)->Nat->Nat->D} (hf:E.E.fn f=some fn/\E.E.ext f=none)
  (h:allA sg.params fun ds=>pre ds->fnVCJ js 1 1 E inl n fn sg (res ds) ds):PureC E.E f sg pre res:=by
 intro ds hpre g bar nx hp args hg hbar hargs
 refine of_vcGJ hE js hinl n hf 1 1 (zB _) h hpre (bar:=bar) ⟨fun _=>0,fun _=>.nils,g,fun b=>if b=0 then 0 else nx⟩ rfl ?_ hargs
 exact ⟨fun _ _ h=>by simp [look] at h,fun _ _ h=>by simp [look] at h,fun _ _ h=>by simp [look] at h,fun _ _ _ _ h=>by simp [look] at h,hg,fun b _=>by show (if b=0 then 0 else nx)<=nx;split<;>omega,rfl,hbar,rfl⟩
theorem PureC0.of_vcJ {E:Env} (hE:EnvOk E) (js:List Nat) {inl:Nat->Option Func} (hinl:∀f fn,inl f=some fn->E.E.fn f=some fn/\E.E.ext f=none) (n:Nat) {f:Nat} {fn:Func} {sg:Sig} {pre:List (List D)->Prop} {res:List (List D)->Nat->Nat->D} (hf:E.E.fn f=some fn/\E.E.ext f=none)
  (h:allA sg.params fun ds=>pre ds->fnVCJ js 0 0 E inl n fn sg (res ds) ds):PureC0 E.E f sg pre res:=by
 intro ds hpre args hargs
 obtain ⟨vs,h',nx',g',c1,_,_,_,_,c6⟩:=of_vcGJ hE js hinl n hf 0 0 (zB _) h hpre (bar:=0) (hp:=.e) (nx:=0) ⟨fun _=>0,fun _=>.nils,fun _=>none,fun _=>0⟩ rfl
  ⟨fun _ _ h=>by simp [look] at h,fun _ _ h=>by simp [look] at h,fun _ _ h=>by simp [look] at h,fun _ _ _ _ h=>by simp [look] at h,fun _ _ h=>(by cases h),fun _ _=>zB _,rfl,zB _,rfl⟩ hargs
 exact ⟨vs,h',nx',g',c1,c6⟩
end HX
