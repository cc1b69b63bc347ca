/-
  Texts of the executors: HxDrawOk2, HxVcOk, HxLoop, HxSub, HxFn, HxU, HxBt.
-/
import Derived.Test.YtcpndododgchbaaMeshTrees6
set_option linter.all false
noncomputable section
namespace HX
open Go CX
variable {ro:Addr->Option V}
theorem MSim.cong {C:Cx ro} {objs:List (Nat×SO)} {n bar:Nat} {h h2:Nat->Option O} {nx:Nat} (hM:MSim C objs n bar h nx) (hh:∀id,id < nx->h2 id=h id):MSim C objs n bar h2 nx:=
 ⟨hM.lt,fun nm so hl=>ObS.mono (Ag.refl _ _) (zB _) (zB _) (hM.lt _ _ hl) (fun id hw=>hh _ (hM.own' _ _ hl _ hw).2.1) (hM.ob _ _ hl),hM.own',hM.inj',
  fun id o hg=>⟨(hM.fz _ _ hg).1,by rw [hh _ (hM.fz _ _ hg).1];exact (hM.fz _ _ hg).2⟩,hM.bd,hM.top,hM.barle,hM.z⟩
theorem memD_of {E:CX.Env} {ih:IH} {ms dm:T Nat} {i cl:Nat} {recs:List Rc} {o:Oper} {S:CX.St} {fp:Fp} {hv:T O} {barv:Nat} {v:V} {h' h2:T O} {nx':Nat}
  (h1:belowF S.nx fp=true) (hfits:fits cl fp recs=true) (h3:S.bar<=S.nx) (hview:∀k:T O->Nat->Option (CX.St×List Rc),viewX cl recs fp S.h S.bar S.nx k=k hv barv)
  (hop:opA E ih barv (evD S.regs ms dm i cl) hv S.nx o.op retV=retV v h' nx') (hle:S.nx<=nx') (hmerge:∀k:T O->Option (CX.St×List Rc),mergeX fp S.h h' S.bar S.nx nx' k=k h2) :
  memD E ih ms dm i cl recs o S fp=putO ⟨S.nt,S.bar,S.regs,h2,nx',S.df⟩ o.dst v fun S'=>some (S',⟨i,fp,S.nx,nx'⟩ :: recs):=by
 obtain ⟨nt,bar,regs,h,nx,df⟩:=S
 have e:(belowF nx fp && fits cl fp recs && Nat.ble bar nx)=true:=by
  rw [show belowF nx fp=true from h1,hfits,bleT h3];rfl
 simp only [memD,e]
 rw [hview]
 simp only at hop
 rw [hop]
 simp only [retV,outV,bleT hle]
 rw [hmerge]
theorem fitsAll_eq {C:Cx ro} {n nx0 cl:Nat}:∀{rs:List RcS} {xs:List Rc},RcsR C n nx0 rs xs->fits cl .all xs=fitsL (fun _=>false) cl rs
 |[],[],_=>rfl
 |r :: rs,x :: xs,h=>by
  simp only [fits,fitsL,h.1.i,pairOk,fitsAll_eq h.2]
  cases CX.bit cl r.i<;>rfl
 |[],_ :: _,h=>h.elim
 |_ :: _,[],h=>h.elim
def stepT (E:CX.Env) (ih:IH) (ms dm:T Nat) (r:List Oper) (o:Oper) (i cl:Nat) (recs:List Rc) (S:CX.St):Option (CX.St×List Rc):=
 match clsOf E o.op with
 |0=>outV (opP E (evD S.regs ms dm i cl) o.op (fun v=>retV v .e 0)) fun v _ _=>putO S o.dst v fun S=>some (S,recs)
 |c=>match pickD E ms dm cl r i recs o S c with
  |some fp=>memD E ih ms dm i cl recs o S fp
  |none=>none
structure StepR (E:CX.Env) (ms dm:T Nat) (r:List Oper) (o:Oper) (i cl:Nat) (xs:List Rc) (S:CX.St) (nx0:Nat) (C:Cx E.ro) (Y:St) (K:SV->List RcS->St->Prop) (v:V) (C':Cx E.ro) (h':T O) (nx':Nat) (s:SV) (Y':St) (rs':List RcS) (xs':List Rc):Prop where
 run:Evt fun n=>stepT E (cx E n) ms dm r o i cl xs S=putO ⟨S.nt,S.bar,S.regs,h',nx',S.df⟩ o.dst v fun S'=>some (S',xs')
 m:MSim C' Y'.objs Y'.next S.bar h'.get nx'
 e:MExt C Y.objs Y.next S.h.get S.nx C' Y'.objs Y'.next h'.get nx'
 v:RvS C' Y'.next s v
 nt:Y'.nt=Y.nt
 regs:Y'.regs=Y.regs
 df:Y'.df=Y.df
 recs:RcsR C' Y'.next nx0 rs' xs'
 k:K s rs' Y'
section
variable {E:Env} (hE:EnvOk E)
include hE
theorem putO_ok {Y Y':St} {dst:Option Nat} {s:SV} (h:putS Y dst s=some Y') {C:Cx E.E.ro} {S:CX.St} (hnt:S.nt=Y.nt) (hR:RegsS C Y.next Y.regs S.regs) {v:V} (hv:RvS C Y.next s v) {β:Type} :
  ∃regs,(∀k:CX.St->Option β,putO S dst v k=k ⟨S.nt,S.bar,regs,S.h,S.nx,S.df⟩)/\RegsS C Y.next Y'.regs regs/\Y'.nt=Y.nt/\Y'.objs=Y.objs/\Y'.next=Y.next/\Y'.df=Y.df:=by
 obtain ⟨regs,p1,p2⟩:=putS_ok hE h hnt hR hv S.h S.nx
 refine ⟨regs,fun k=>?_,p2⟩
 obtain ⟨nt,bar,rg,hp,nx,df⟩:=S
 unfold putD at p1
 unfold putO
 cases dst with
 |none=>
  have:=p1 fun S=>some (.normal,S)
  simp at this
  simp only
  rw [this]
 |some d=>
  simp only at p1 ⊢
  cases hb:Nat.blt d nt with
  |false=>
   have:=p1 fun S=>some (.normal,S)
   rw [hb] at this
   cases this
  |true=>
   have:=p1 fun S=>some (.normal,S)
   rw [hb] at this
   simp [T.set_eq] at this
   simp only [T.set_eq]
   rw [this]
theorem callS_q {ci:CI} {f:SV} {args:List SV} {Y:St} {K:SV->St->Prop} (h:callS E ci f args Y K) (hc:isCtr E f=true) {C:Cx E.E.ro} {bar:Nat} {hp:T O} {nx:Nat} (hM:MSim C Y.objs Y.next bar hp.get nx) {vf:V} {va:List V} (hf:RvS C Y.next f vf) (ha:RvSL C Y.next args va) :
  CallQ E.E (fun n k=>callV E.E (cx E.E n) nx hp nx vf va k) C Y bar hp.get nx K:=by
 unfold isCtr at hc
 rw [callS_eq] at h
 split at h
 next g a b=>
  split at h
  next sg hs=>
   simp only [RvS] at hf
   obtain ⟨x,y,f1,f2,rfl⟩:=hf
   have hargs:RvSL C Y.next (a++args++b) (x++va++y):=RvSL.append (RvSL.append f1 ha) f2
   have hfr:sg.fresh=false:=by
    simp only [hs] at hc
    cases e:sg.fresh with
    |false=>rfl
    |true=>rw [e] at hc;cases hc
   rw [hfr] at h
   simp only at h
   split at h
   ·exact callC_ok hE hs hfr h hM (zB _) hargs
   obtain ⟨C1,h1,e1⟩:=hM.frzL (a++args++b)
   obtain ⟨v,C',h',nx',s,Y',k1,k2,k3,k4,k5,k6,k7,k8,k9⟩:=callC_ok hE hs hfr h h1 (zB nx) (RvSL.ag e1.ag (zB _) _ _ hargs)
   exact ⟨v,C',h',nx',s,Y',k1,k2,e1.trans k3,k4,k5,k6,k7,k8,k9⟩
  rename_i hs
  simp only [hs] at hc;cases hc
 rename_i hno
 exfalso
 cases f<;>first |exact hno _ _ _ rfl |simp at hc
set_option maxHeartbeats 1000000 in
theorem stepS_ok {ci:CI} (hci:CIOk E.E ci) {C0:Cx E.E.ro} {Y0:List (Nat×SO)} {n0 bar0:Nat} {h0:Nat->Option O} {nx0:Nat} (hM0:MSim C0 Y0 n0 bar0 h0 nx0) {ml:List (Nat×Nat)} {ms dm:T Nat} (hm:∀j,ms.get j=look ml j) {r:List Oper} {i cl:Nat} {rs:List RcS} {o:Oper} {Y:St} {ev:Operand->SV} {K:SV->List RcS->St->Prop}
  (h:stepS E ci Y0 n0 ml r i cl rs ev o.op Y K) {C:Cx E.E.ro} {S:CX.St} (hM:MSim C Y.objs Y.next S.bar S.h.get S.nx) (ha:Ag n0 C0 C) (hn0:n0<=Y.next) (hnx0:nx0<=S.nx) {xs:List Rc} (hR:RcsR C Y.next nx0 rs xs) (hev:EvOk C Y.next ev (evD S.regs ms dm i cl)) :
  ∃v C' h' nx' s Y' rs' xs',StepR E.E ms dm r o i cl xs S nx0 C Y K v C' h' nx' s Y' rs' xs':=by
 have h:=stepS_imp _ _ _ _ _ _ _ _ _ _ _ _ _ h
 split at h
 next hc=>
  obtain ⟨sv,v,v1,v2,h2⟩:=exec0_ok hE h hM hev
  refine ⟨v,C,S.h,S.nx,sv,Y,rs,xs,⟨Evt.of fun n=>?_,hM,MExt.refl _ _ _ _ _,v1,rfl,rfl,rfl,hR,h2⟩⟩
  unfold stepT
  split
  ·rw [v2];rfl
  rename_i hn;exact absurd hc hn
 rename_i hc0
 have hst:∀(n:Nat) (fp:Fp),pickD E.E ms dm cl r i xs o S (clsOf E.E o.op)=some fp->stepT E.E (cx E.E n) ms dm r o i cl xs S=memD E.E (cx E.E n) ms dm i cl xs o S fp:=by
  intro n fp hp
  unfold stepT
  split
  next hc=>exact absurd hc hc0
  simp only [hp]
 have hall:(fits cl .all xs && laterOk E.E ms i r (Nat.succ i))=(fitsL (fun _=>false) cl rs && laterOkS E.E ml i r (i+1)):=by
  rw [fitsAll_eq hR,laterOk_ok hm]
 split at h
 ·-- all memory
  rename_i hfa
  rw [hfa] at hall
  have hpick:pickD E.E ms dm cl r i xs o S (clsOf E.E o.op)=some .all:=by
   simp only [pickD,hall]
  rw [zC] at hall
  obtain ⟨v,C',h',nx',s,Y',k1,k2,k3,k4,k5,k6,k7,k8⟩:=exec1_ok hE hci h hM hev
  refine ⟨v,C',h',nx',s,Y',⟨i,.all,true⟩ :: rs,⟨i,.all,S.nx,nx'⟩ :: xs,⟨k1.mono fun n hn=>?_,k2,k3,k4,k5,k6,k7,⟨⟨rfl,trivial,hnx0,fun e=>by cases e⟩,hR.ag k3.ag k3.le⟩,k8⟩⟩
  rw [hst n _ hpick]
  exact memD_of (hv:=S.h) (barv:=S.bar) rfl hall.1 hM.barle (fun _=>rfl) (hn retV) k3.nxle (fun _=>rfl)
 rename_i hfa
 rw [hfa] at hall
 split at h
 ·-- a load
  rename_i hc
  split at h
  rotate_left
  ·exact h.out.elim
  rename_i q hq
  split at h
  rotate_left
  ·exact h.out.elim
  rename_i p A hfo
  split at h
  rotate_left
  ·exact h.out.elim
  rename_i hfit
  obtain ⟨hp,h⟩:=preK_ok h
  obtain ⟨h1,h2⟩:=preK_ok h
  unfold xq1 at hq
  split at hq
  rotate_left
  ·cases hq
  rename_i t x hop
  have hx:ev x≠.unk:=fun e=>by rw [e] at hq;unfold xload at hq;split at hq<;>simp at hq
  obtain ⟨vx,e1,e2⟩:=hev.get rfl hx
  have hF:foot (evD S.regs ms dm i cl) o.op=some (footV vx):=by rw [hop];simp only [foot];exact foot1_eq e1
  have hFt:=footS_ok hE.A hM hev hfo hp hF
  have hpick:pickD E.E ms dm cl r i xs o S (clsOf E.E o.op)=some (.ls (footV vx) false):=by
   simp only [pickD,hall,hc,hF]
  obtain ⟨v,v1,v2⟩:=load_ok hE.A hE.T hM e2 hq h1 e1
  have hFt':FtR C Y.next A (footV vx):=fun id hid=>(hFt id hid).2
  refine ⟨v,C,S.h,S.nx,q.sv,Y,⟨i,.ls A false,false⟩ :: rs,⟨i,.ls (footV vx) false,S.nx,S.nx⟩ :: xs,⟨Evt.of fun n=>?_,hM,MExt.refl _ _ _ _ _,v1,rfl,rfl,rfl,⟨⟨rfl,⟨rfl,hFt'⟩,hnx0,fun _=>zB _⟩,hR⟩,h2⟩⟩
  rw [hst n _ hpick]
  refine memD_of (hv:=partS S.h (footV vx) .e) (barv:=S.nx) (below_of _ fun id hid=>(hFt id hid).1) (fitsA_ok hR hfit fun r x hx hp=>pairS_ok hM0 ha hM hFt' hx hp) hM.barle (fun k=>?_) (h':=partS S.h (footV vx) .e) ?_ (zB _) (fun k=>?_)
  ·simp only [viewX];rw [part_eq]
  ·have v3:∀k,opL E.E (partS S.h (footV vx) .e) (evD S.regs ms dm i cl) (.load t x) k=k v:=by
    rcases v2 with ⟨id,off,e,v2⟩ |⟨a,e,v2⟩
    ·refine v2 _ ?_
     rw [partS_get,if_pos (by rw [e];simp [footV])]
    exact v2 _
   have hcl:clsOf E.E (.load t x)=1:=rfl
   rw [hop]
   simp only [opA,hcl]
   exact v3 _
  simp only [mergeX,show Nat.sub S.nx S.nx=0 from kX _,copyN]
 ·-- a write
  rename_i hc
  obtain ⟨C1,m1,e1⟩:=hM.frzL (wants ev o.op)
  unfold memW at h
  split at h
  rotate_left
  ·exact h.out.elim
  rename_i w hw
  split at h
  rotate_left
  ·exact h.out.elim
  rename_i p A hfo
  split at h
  rotate_left
  ·exact h.out.elim
  rename_i hfit
  obtain ⟨hp,h⟩:=preK_ok h
  obtain ⟨h1,h2⟩:=preK_ok h
  have hev1:=hev.ag hE e1.ag (zB _)
  obtain ⟨F,hF,v,C',hw',nx',w1,w2,w3,w4,w5⟩:=xw_ok (Y:=Y.mem (frzL Y.objs (wants ev o.op)) Y.next) hE.A m1 hE.T hev1 hw h1
  have hFt:=footS_ok (Y:=Y.mem (frzL Y.objs (wants ev o.op)) Y.next) hE.A m1 hev1 hfo hp hF
  have hFt':FtR C1 Y.next A F:=fun id hid=>(hFt id hid).2
  have hR1:RcsR C1 Y.next nx0 rs xs:=hR.ag e1.ag (zB _)
  have hpick:pickD E.E ms dm cl r i xs o S (clsOf E.E o.op)=some (.ls F true):=by
   simp only [pickD,hall,hc,hF]
  obtain ⟨hv',r1,r2⟩:=w5 (partS S.h F .e) S.bar (fun id hid=>by rw [partS_get,if_pos hid]) (fun _ _ h=>h)
  have hget:(copyS hv' S.nx (Nat.sub nx' S.nx) (partS hv' (geL S.bar F) S.h)).get=hw':=by
   funext id
   have hle:=w2.nxle
   rw [copyS_get,partS_get]
   by_cases hnew:S.nx<=id/\id < nx'
   ·rw [if_pos ⟨hnew.1,by show id < S.nx+(nx' - S.nx);omega⟩,r2,if_pos (.inr hnew)]
   rw [if_neg (by show ¬(S.nx<=id/\id < S.nx+(nx' - S.nx));omega)]
   by_cases hid:id∈geL S.bar F
   ·rw [if_pos hid,r2,if_pos (.inl ((geL_mem F).1 hid).1)]
   rw [if_neg hid]
   by_cases hF':id∈F
   ·have hlt:=(hFt id hF').1
    refine (w2.keep id hlt fun hown=>hid ((geL_mem F).2 ⟨hF',?_⟩)).symm
    obtain ⟨nm,so,a,b⟩:=hown
    exact (m1.own' _ _ a _ b).1
   exact (w4 id hF' hnew).symm
  rw [<-hget] at w1 w2
  refine ⟨v,C',_,nx',w.sv,(Y.mem (frzL Y.objs (wants ev o.op)) Y.next).mem w.objs w.next,⟨i,.ls A true,!(beqN w.next Y.next)⟩ :: rs,⟨i,.ls F true,S.nx,nx'⟩ :: xs,⟨Evt.of fun n=>?_,w1,e1.trans w2,w3,rfl,rfl,rfl,⟨⟨rfl,⟨rfl,fun id hid=>let ⟨a,b,c⟩:=hFt' id hid;⟨a,b,c.ag w2.ag w2.le⟩⟩,hnx0,fun hal=>?_⟩,hR1.ag w2.ag w2.le⟩,h2⟩⟩
  ·rw [hst n _ hpick]
   refine memD_of (hv:=partS S.h F .e) (barv:=S.bar) (below_of _ fun id hid=>(hFt id hid).1) (fitsA_ok hR1 hfit fun r x hx hp=>pairS_ok hM0 (ha.trans hn0 e1.ag) m1 hFt' hx hp) hM.barle (fun k=>?_) (h':=hv') ?_ w2.nxle (fun k=>?_)
   ·simp only [viewX];rw [part_eq]
   ·simp only [opA,hc];exact r1 _
   simp only [mergeX];rw [part_eq,copyN_eq]
  simp only [Bool.not_eq_false',beqN_iff] at hal
  have t1:=w1.top
  have t2:=m1.top
  have hal:w.next=Y.next:=hal
  rw [hal] at t1
  have:=w2.ag.bd Y.next (zB _)
  show nx'<=S.nx
  have t2:C1.bd Y.next=S.nx:=t2
  omega
 rotate_left
 ·exact h.out.elim
 -- a call
 rename_i hc
 unfold memC at h
 split at h
 rotate_left
 ·exact h.out.elim
 rename_i c hop
 split at h
 rotate_left
 ·exact h.out.elim
 rename_i f hcf
 split at h
 rotate_left
 ·exact h.out.elim
 rename_i hfq
 rw [zC] at hfq
 split at h
 rotate_left
 ·exact h.out.elim
 rename_i hk
 rw [zC] at hk
 obtain ⟨va,a1,a2⟩:=evL_list hev c.args.toList hk.2
 obtain ⟨vf,f1,f2⟩:=hev.get (x:=f) rfl (fun e=>by rw [e] at hk;simp [knownC] at hk)
 obtain ⟨v,C',h',nx',s,Y',k1,k2,k3,k4,k5,k6,k7,k8,k9⟩:=callS_q hE h hfq.2 hM f2 a1
 have hpick:pickD E.E ms dm cl r i xs o S (clsOf E.E o.op)=some .q:=by
  simp only [pickD,hall,hc]
 have hle:=k3.nxle
 have hcong:∀id,id < nx'->(copyS h' S.nx (Nat.sub nx' S.nx) S.h).get id=h'.get id:=by
  intro id hid
  rw [copyS_get]
  split
  ·rfl
  rename_i hn
  have hlt:id < S.nx:=by
   have hn:¬(S.nx<=id/\id < S.nx+(nx' - S.nx)):=hn
   omega
  exact (k9 id hlt).symm
 refine ⟨v,C',copyS h' S.nx (Nat.sub nx' S.nx) S.h,nx',s,Y',⟨i,.q,true⟩ :: rs,⟨i,.q,S.nx,nx'⟩ :: xs,⟨k1.mono fun n hn=>?_,k2.cong hcong,?_,k4,k5,k6,k7,⟨⟨rfl,trivial,hnx0,fun e=>by cases e⟩,hR.ag k3.ag k3.le⟩,k8⟩⟩
 ·rw [hst n _ hpick]
  refine memD_of (hv:=S.h) (barv:=S.nx) rfl (fitsA_ok hR hfq.1 fun r x hx hp=>?_) hM.barle (fun k=>?_) (h':=h') ?_ hle (fun k=>?_)
  ·unfold pairQ at hp
   rw [zC] at hp
   have hfp:=hx.fp
   cases hrf:r.fp with
   |all=>rw [hrf] at hp;cases hp.2
   |q=>
    rw [hrf] at hfp
    cases hxf:x.fp<;>rw [hxf] at hfp<;>simp only [FpR] at hfp
    simp only [pairOk,hxf]
   |ls B wr=>
    rw [hrf] at hfp hp
    cases hxf:x.fp<;>rw [hxf] at hfp<;>simp only [FpR] at hfp
    rename_i F' wr2
    obtain ⟨rfl,hB⟩:=hfp
    simp only [pairOk,hxf]
    cases wr with
    |false=>rfl
    |true=>
     have hp2:=hp.2
     simp only [noA] at hp2
     cases F' with
     |nil=>rfl
     |cons id F=>
      obtain ⟨a,b1,_⟩:=hB id (.head _)
      split at hp2
      ·cases b1
      cases hp2
  ·simp only [viewX]
   rw [without_eq,without_same]
   intro x hx
   obtain ⟨r',h1',h2'⟩:=hR.mem x hx
   rcases fitsL_ok _ hfq.1 r' h1' with hb |hb
   ·exact .inl (by rw [h2'.i];exact hb)
   unfold pairQ at hb
   rw [zC,kR] at hb
   exact .inr (h2'.al hb.1)
  ·have hcl:clsOf E.E (.call c)=3:=by rw [<-hop];exact hc
   rw [hop]
   simp only [opA,hcl,hcf,f1,a2]
   exact hn retV
  simp only [mergeX];rw [copyN_eq]
 exact ⟨k3.ag,k3.le,k3.nxle,fun id hid ho=>by
  rw [hcong id (by omega)];exact k3.keep id hid ho,k3.own,k3.g⟩
theorem drawS_ok {ci:CI} (hci:CIOk E.E ci) {C0:Cx E.E.ro} {Y0:List (Nat×SO)} {n0 bar0:Nat} {h0:Nat->Option O} {nx0:Nat} (hM0:MSim C0 Y0 n0 bar0 h0 nx0) {all:List Oper} {ml dl:List (Nat×Nat)} {ms dm:T Nat} (hm:∀j,ms.get j=look ml j) (hd:∀t,dm.get t=look dl t) {lo:Nat} :
  ∀(r:List Oper) (i:Nat) (rs:List RcS) (Y:St) (K:St->Prop),drawS E ci Y0 n0 all ml dl r i rs Y K->∀(C:Cx E.E.ro) S xs,Sim C Y S->Ag n0 C0 C->n0<=Y.next->lo<=Y.next->nx0<=S.nx->RcsR C Y.next nx0 rs xs->
   ∃S' C' Y',Evt (fun n=>drawGo E.E (cx E.E n) all ms dm r i xs S=some S')/\Sim C' Y' S'/\Ext lo C Y S C' Y' S'/\K Y'
 |[],i,rs,Y,K,h,C,S,xs,hS,ha,hn0,hlo,hnx0,hR=>⟨S,C,Y,Evt.of fun _=>rfl,hS,Ext.refl _ _ _ hlo,h⟩
 |o :: r,i,rs,Y,K,h,C,S,xs,hS,ha,hn0,hlo,hnx0,hR=>by
  rw [drawS_cons] at h
  split at h
  ·exact h.out.elim
  rename_i cl hcl
  have hcl':ms.get i=some cl:=by rw [hm];exact hcl
  split at h
  ·exact h.out.elim
  rename_i hgv
  obtain ⟨b,σa,hb,hRa,⟨q1,q2,q3,q4⟩,hw⟩:=wantS_ok hE h hS.regs
  have hwB:=wantB_of hm hd hw hgv
  have hSa:Sim C σa S:=⟨by rw [q1];exact hS.nt,by rw [q3];exact hRa,by rw [q2,q3];exact hS.m,by rw [q2,q4];exact hS.df,by rw [q4,q3];exact hS.dflt⟩
  have eq0:Ext lo C Y S C σa S:=⟨by rw [q2,q3];exact (MExt.refl _ _ _ _ _).less hlo,rfl,fun _ h=>.inl h⟩
  have hlo:lo<=σa.next:=by rw [q3];exact hlo
  have hn0:n0<=σa.next:=by rw [q3];exact hn0
  have hR:RcsR C σa.next nx0 rs xs:=by rw [q3];exact hR
  have hS:=hSa
  cases b with
  |false=>
   simp only at hb
   split at hb
   next Y2 hput=>
    obtain ⟨regs,p1,p2,p3,p4,p5,p6⟩:=putO_ok hE hput (S:=S) hS.nt hS.regs (v:=.tup []) (by simp only [RvS];exact ⟨[],trivial,rfl⟩) (β:=CX.St×List Rc)
    have hS2:Sim C Y2 ⟨S.nt,S.bar,regs,S.h,S.nx,S.df⟩:=by
     refine ⟨by rw [p3];exact hS.nt,by rw [p5];exact p2,by rw [p4,p5];exact hS.m,by rw [p4,p6];exact hS.df,by rw [p6,p5];exact hS.dflt⟩
    have hE2:Ext lo C σa S C Y2 ⟨S.nt,S.bar,regs,S.h,S.nx,S.df⟩:=⟨by rw [p4,p5];exact (MExt.refl _ _ _ _ _).less hlo,rfl,fun _ h=>.inl h⟩
    obtain ⟨S',C',Y',e1,e2,e3,e4⟩:=drawS_ok hci hM0 hm hd r (i+1) rs Y2 K hb C _ xs hS2 ha (by rw [p5];exact hn0) hE2.m.le hnx0 (by rw [p5];exact hR)
    refine ⟨S',C',Y',e1.mono fun n hn=>?_,e2,eq0.trans (hE2.trans e3),e4⟩
    simp only [drawGo,stepD,hcl',hwB,p1]
    exact hn
   exact hb.out.elim
  |true=>
   simp only at hb
   obtain ⟨v,C1,h1,nx1,s,Y1,rs1,xs1,k⟩:=stepS_ok hE hci hM0 hm hb hS.m ha hn0 hnx0 hR (evDS_ok hm hd hS.regs)
   have kk:=k.k
   split at kk
   rotate_left
   ·exact kk.out.elim
   rename_i Y2 hput
   have hR1:RegsS C1 Y1.next Y1.regs S.regs:=by rw [k.regs];exact RegsS.ag k.e.ag k.e.le hS.regs
   obtain ⟨regs,p1,p2,p3,p4,p5,p6⟩:=putO_ok hE hput (S:=⟨S.nt,S.bar,S.regs,h1,nx1,S.df⟩) (by rw [k.nt];exact hS.nt) hR1 k.v (β:=CX.St×List Rc)
   have hS2:Sim C1 Y2 ⟨S.nt,S.bar,regs,h1,nx1,S.df⟩:=by
    refine ⟨by rw [p3,k.nt];exact hS.nt,by rw [p5];exact p2,by rw [p4,p5];exact k.m,?_,?_⟩
    ·rw [p4,p6,k.df]
     exact hS.df.ext k.e hS.dflt
    rw [p6,k.df,p5];exact fun d hd=>xH (hS.dflt d hd) k.e.le
   have hE2:Ext lo C σa S C1 Y2 ⟨S.nt,S.bar,regs,h1,nx1,S.df⟩:=⟨by rw [p4,p5];exact k.e.less hlo,rfl,fun _ h=>.inl h⟩
   obtain ⟨S',C',Y',e1,e2,e3,e4⟩:=drawS_ok hci hM0 hm hd r (i+1) rs1 Y2 K kk C1 _ xs1 hS2 (ha.trans hn0 k.e.ag) (by rw [p5];exact zT hn0 k.e.le) hE2.m.le (zT hnx0 k.e.nxle) (by rw [p5];exact k.recs)
   refine ⟨S',C',Y',(k.run.and e1).mono fun n hn=>?_,e2,eq0.trans (hE2.trans e3),e4⟩
   have hrun:stepT E.E (cx E.E n) ms dm r o i cl xs S=some (⟨S.nt,S.bar,regs,h1,nx1,S.df⟩,xs1):=by rw [hn.1,p1]
   have hst:stepD E.E (cx E.E n) all ms dm r o i xs S=stepT E.E (cx E.E n) ms dm r o i cl xs S:=by
    simp only [stepD,hcl',hwB]
    unfold stepT
    rfl
   simp only [drawGo,hst,hrun]
   exact hn.2
theorem regionS_ok {ci:CI} (hci:CIOk E.E ci) {lo:Nat} {ops:List Oper} {Y:St} {K:St->Prop} (h:regionS E ci ops Y K) (C:Cx E.E.ro) (S:CX.St) (hS:Sim C Y S) (hlo:lo<=Y.next) :
  ∃S' C' Y',Evt (fun n=>(match prep ops 0 .e .e (fun ms dm=>some (ms,dm)) with
   |some (ms,dm)=>match drawGo E.E (cx E.E n) ops ms dm ops 0 [] S with
    |some S=>some (Ex.normal,S)
    |none=>none
   |none=>none)=some (.normal,S'))/\Sim C' Y' S'/\Ext lo C Y S C' Y' S'/\K Y':=by
 unfold regionS at h
 split at h
 next ml dl hprep=>
  obtain ⟨ms,dm,hm,hd,hk⟩:=prepS_ok (β:=T Nat×T Nat) ops 0 [] [] ml dl hprep .e .e (fun j=>rfl) (fun t=>rfl)
  obtain ⟨S',C',Y',e1,e2,e3,e4⟩:=drawS_ok hE hci hS.m hm hd ops 0 [] Y K h C S [] hS (Ag.refl _ _) (zB _) hlo (zB _) trivial
  refine ⟨S',C',Y',e1.mono fun n hn=>?_,e2,e3,e4⟩
  rw [hk]
  show (match drawGo E.E (cx E.E n) ops ms dm ops 0 [] S with
   |some S=>some (Ex.normal,S)
   |none=>none)=some (Ex.normal,S')
  rw [hn]
 exact h.out.elim
end
end HX

namespace HX
open Go CX
variable {ro:Addr->Option V}
theorem MSim.new {C:Cx ro} {objs:List (Nat×SO)} {n bar:Nat} {h:Nat->Option O} {nx:Nat} (hM:MSim C objs n bar h nx) {so:SO} {o:O} (hob:ObS (C.put n nx .nilp (nx+1)) (n+1) (fun id=>if id=nx then some o else h id) (nx+1) n so) (hns:∀id,¬subS (C.put n nx .nilp (nx+1)) so id:=by exact fun _ h=>h) :
  MSim (C.put n nx .nilp (nx+1)) ((n,so) :: objs) (n+1) bar (fun id=>if id=nx then some o else h id) (nx+1)/\MExt C objs n h nx (C.put n nx .nilp (nx+1)) ((n,so) :: objs) (n+1) (fun id=>if id=nx then some o else h id) (nx+1):=by
 refine hM.put (dead:=none) (fun _ e=>by cases e) hM.barle (zM _) (zQ _) ?_ (fun nm s hl id ho e=>?_) (fun id hid _=>if_neg hid) (.inr (zB _)) hob hns
 ·cases hg:C.g nx with
  |none=>rfl
  |some o=>have:=(hM.fz _ _ hg).1;omega
 have:=(hM.own' _ _ hl _ ho).2.1;omega
theorem up_get (h:T O) (i:Nat) (o:O):(h.up i (some o)).get=fun id=>if id=i then some o else h.get id:=by
 funext id
 exact T.get_up _ _ _ _
theorem enter_ok {C:Cx ro} {n:Nat}:∀(args:List SV) (va:List V) (i:Nat) (t:T V) (l:List (Nat×SV)),RvSL C n args va->RegsS C n l t->(∀j s,look l j=some s->j < i)->
  ∃t',(∀k:T V->R,enterRegs va i t k=k t')/\∀j s,look (enterS i args) j=some s->∃v,t'.get j=some v/\RvS C n s v
 |[],[],i,t,l,_,hl,_=>⟨t,fun _=>rfl,fun j s h=>by simp [enterS,look] at h⟩
 |s :: args,v :: va,i,t,l,ha,hl,hlt=>by
  simp only [RvSL] at ha
  have key:∀(args:List SV) (va:List V) (i:Nat) (t:T V),RvSL C n args va->∃t',(∀k:T V->R,enterRegs va i t k=k t')/\(∀j,j < i->t'.get j=t.get j)/\∀j s,look (enterS i args) j=some s->∃v,t'.get j=some v/\RvS C n s v:=by
   intro args
   induction args with
   |nil=>
    intro va i t ha
    cases va with
    |nil=>exact ⟨t,fun _=>rfl,fun _ _=>rfl,fun j s h=>by simp [enterS,look] at h⟩
    |cons _ _=>simp [RvSL] at ha
   |cons s args ih=>
    intro va i t ha
    cases va with
    |nil=>simp [RvSL] at ha
    |cons v va=>
     simp only [RvSL] at ha
     obtain ⟨t',h1,h2,h3⟩:=ih va (i+1) (t.up i (some v)) ha.2
     refine ⟨t',fun k=>by simp only [enterRegs,T.set_eq];exact h1 k,fun j hj=>?_,fun j s' hl=>?_⟩
     ·rw [h2 j (by omega),T.get_up,if_neg (by omega)]
     simp only [enterS,look_cons] at hl
     split at hl
     next e=>
      simp only [zA] at hl
      subst e hl
      exact ⟨v,by rw [h2 _ (zM _),T.get_up,if_pos rfl],ha.1⟩
     exact h3 j s' hl
  obtain ⟨t',h1,_,h3⟩:=key (s :: args) (v :: va) i t (by simp only [RvSL];exact ha)
  exact ⟨t',h1,h3⟩
 |[],_ :: _,_,_,_,h,_,_=>by simp [RvSL] at h
 |_ :: _,[],_,_,_,h,_,_=>by simp [RvSL] at h
theorem bind_ok {C:Cx ro} {n nt:Nat}:∀(ps:List Nat) (args:List SV) (va:List V) (l l':List (Nat×SV)) (t:T V),bindS nt ps args l=some l'->RvSL C n args va->RegsS C n l t->
  ∃t',(∀k:T V->R,paramsX nt ps va t k=k t')/\RegsS C n l' t'
 |[],[],va,l,l',t,h,ha,hR=>by
  simp only [bindS,zA] at h
  subst h
  cases va with
  |nil=>exact ⟨t,fun _=>rfl,hR⟩
  |cons _ _=>simp [RvSL] at ha
 |p :: ps,s :: args,va,l,l',t,h,ha,hR=>by
  simp only [bindS] at h
  split at h
  rotate_left
  ·cases h
  rename_i hp
  simp only [bltN_iff] at hp
  cases va with
  |nil=>simp [RvSL] at ha
  |cons v va=>
   simp only [RvSL] at ha
   obtain ⟨t',h1,h2⟩:=bind_ok ps args va _ l' (t.up p (some v)) h ha.2 (fun j s' hl=>by
    rw [look_cons] at hl
    split at hl
    next e=>
     simp only [zA] at hl
     subst e hl
     exact .inr ⟨v,by rw [T.get_up,if_pos rfl],ha.1⟩
    rename_i e
    rcases hR j s' hl with h |⟨u,a,b⟩
    ·exact .inl h
    exact .inr ⟨u,by rw [T.get_up,if_neg (Ne.symm e)];exact a,b⟩)
   exact ⟨t',fun k=>by simp only [paramsX,bltT hp,T.set_eq];exact h1 k,h2⟩
 |[],_ :: _,_,_,_,_,h,_,_=>by simp [bindS] at h
 |_ :: _,[],_,_,_,_,h,_,_=>by simp [bindS] at h
theorem MSim.drop {C:Cx ro} {objs:List (Nat×SO)} {n bar:Nat} {h:Nat->Option O} {nx:Nat} (hM:MSim C objs n bar h nx) {nm:Nat} (hnm:nm < n) :
  MSim C ((nm,.gone) :: objs) n bar h nx/\MExt C objs n h nx C ((nm,.gone) :: objs) n h nx:=by
 have key:∀{nm' s},look ((nm,SO.gone) :: objs) nm'=some s->(s=.gone/\nm'=nm)\/(nm≠nm'/\look objs nm'=some s):=fun {nm' s} hl=>by
  rw [look_cons] at hl
  split at hl
  next e=>simp only [zA] at hl;exact .inl ⟨hl.symm,e.symm⟩
  rename_i e;exact .inr ⟨e,hl⟩
 refine ⟨⟨fun nm' s hl=>?_,fun nm' s hl=>?_,fun nm' s hl id ho=>?_,fun a b s s' hla hlb id hoa hob=>?_,hM.fz,hM.bd,hM.top,hM.barle,hM.z⟩,Ag.refl _ _,zB _,zB _,fun _ _ _=>rfl,fun id ho=>?_,fun id o hg=>.inl hg⟩
 ·rcases key hl with ⟨_,rfl⟩ |⟨_,h⟩
  ·exact hnm
  exact hM.lt _ _ h
 ·rcases key hl with ⟨rfl,rfl⟩ |⟨_,h⟩
  ·trivial
  exact hM.ob _ _ h
 ·rcases key hl with ⟨rfl,rfl⟩ |⟨_,h⟩
  ·exact absurd ho owns_gone
  exact hM.own' _ _ h _ ho
 ·rcases key hla with ⟨rfl,rfl⟩ |⟨_,h⟩
  ·exact absurd hoa owns_gone
  rcases key hlb with ⟨rfl,rfl⟩ |⟨_,k⟩
  ·exact absurd hob owns_gone
  exact hM.inj' _ _ _ _ h k _ hoa hob
 obtain ⟨nm',s,hl,ho⟩:=ho
 rcases key hl with ⟨rfl,rfl⟩ |⟨_,h⟩
 ·exact absurd ho owns_gone
 exact .inl ⟨nm',s,h,ho⟩
structure Took (C:Cx ro) (objs:List (Nat×SO)) (h:Nat->Option O) (ids:List Nat) (nx:Nat) (objs':List (Nat×SO)) (h':Nat->Option O):Prop where
 keep:∀id,id < nx->¬OwnId C objs id->id∉ids->h' id=h id
 own:∀id,OwnId C objs' id->OwnId C objs id
theorem MExt.took {C0 C:Cx ro} {objs0 objs objs':List (Nat×SO)} {n0 n nx0 nx:Nat} {h0 h h':Nat->Option O} {ids:List Nat} (a:MExt C0 objs0 n0 h0 nx0 C objs n h nx) (k:Took C objs h ids nx objs' h') (hi:∀i∈ids,nx0<=i):MExt C0 objs0 n0 h0 nx0 C objs' n h' nx:=by
 refine ⟨a.ag,a.le,a.nxle,fun id hid ho=>?_,fun id ho=>a.own id (k.own id ho),a.g⟩
 rw [k.keep id (xH hid a.nxle) (fun hh=>?_) (fun hm=>by have:=hi id hm;omega),a.keep id hid ho]
 rcases a.own id hh with h |h
 ·exact ho h
 omega
theorem take_ok {C:Cx ro} {n bar nx:Nat}:∀(ids df:List Nat) (objs objs':List (Nat×SO)) (h:T O),takeS df objs=some objs'->MSim C objs n bar h.get nx->DfR C objs bar h.get nx df ids->(∀d∈df,d < n)->∃h':T O,(∀k:T O->R,takeDf bar ids h k=k h')/\MSim C objs' n bar h'.get nx/\Took C objs h.get ids nx objs' h'.get
 |[],df,objs,objs',h,hd,hM,hdf,hlt=>by
  cases hdf
  simp only [takeS,zA] at hd
  subst hd
  exact ⟨h,fun _=>rfl,hM,fun _ _ _ _=>rfl,fun _ h=>h⟩
 |i :: ids,df,objs,objs',h,hd,hM,hdf,hlt=>by
  cases hdf with
  |nm he hi hk=>
   rename_i d df
   subst he
   simp only [takeS] at hd
   split at hd
   rotate_left
   ·cases hd
   rename_i hl
   have ho:h.get (C.ids d)=some (.dfr true):=hM.ob _ _ hl
   obtain ⟨a,b⟩:=hM.upd (so:=.dfr false) hl trivial trivial (o:=.dfr false) (by simp only [ObS,if_true])
   rw [<-up_get] at a b
   obtain ⟨h',k1,k2,k3⟩:=take_ok ids df _ objs' _ hd a (hk.ext b fun d hd=>hlt d (.tail _ hd)) (fun d hd=>hlt d (.tail _ hd))
   refine ⟨h',fun k=>?_,k2,fun id h1 h2 h3=>?_,fun id ho=>?_⟩
   ·have e:geB bar (C.ids d)=true:=bleT (hM.own _ _ hl trivial).1
    simp only [takeDf,ho,e,T.set_eq]
    exact k1 k
   ·rw [k3.keep id h1 (fun hh=>?_) (fun hm=>h3 (.tail _ hm)),b.keep id h1 h2]
    rcases b.own id hh with h |h
    ·exact h2 h
    omega
   rcases b.own id (k3.own id ho) with h |h
   ·exact h
   obtain ⟨nm,so,hl',ho'⟩:=k3.own id ho
   have:=(a.own' _ _ hl' _ ho').2.1
   omega
  |mk hx hn hk=>
   obtain ⟨x1,x2,x3,x4,x5⟩:=hx
   have e1:∀id,id≠i->(h.up i (some (.dfr false))).get id=h.get id:=fun id hne=>by rw [T.get_up,if_neg hne]
   have ne:∀{nm so id},look objs nm=some so->owns C nm so id->id≠i:=fun {nm so id} hl ho e=>x4 ⟨nm,so,hl,by rw [<-e];exact ho⟩
   have a:MSim C objs n bar (h.up i (some (.dfr false))).get nx:=⟨hM.lt,fun nm so hl=>ObS.mono (Ag.refl _ _) (zB _) (zB _) (hM.lt _ _ hl) (fun id ho=>e1 _ (ne hl ho)) (hM.ob _ _ hl),hM.own',hM.inj',
    fun id o hg=>⟨(hM.fz _ _ hg).1,by rw [e1 id (fun e=>by rw [e,x5] at hg;cases hg)];exact (hM.fz _ _ hg).2⟩,hM.bd,hM.top,hM.barle,hM.z⟩
   have dk:∀{l s},DfR C objs bar h.get nx l s->i∉s->DfR C objs bar (h.up i (some (.dfr false))).get nx l s:=by
    intro l s k
    induction k with
    |nil=>exact fun _=>.nil
    |nm he hi _ ih=>exact fun hn=>.nm he hi (ih fun hm=>hn (.tail _ hm))
    |mk hx hm _ ih=>exact fun hn=>.mk ⟨by rw [e1 _ (fun e=>hn (e ▸ .head _))];exact hx.1,hx.2⟩ hm (ih fun hm=>hn (.tail _ hm))
   obtain ⟨h',k1,k2,k3⟩:=take_ok ids df objs objs' _ hd a (dk hk hn) hlt
   refine ⟨h',fun k=>?_,k2,fun id h1 h2 h3=>?_,k3.own⟩
   ·have e:geB bar i=true:=bleT x2
    simp only [takeDf,x1,e,T.set_eq]
    exact k1 k
   rw [k3.keep id h1 h2 (fun hm=>h3 (.tail _ hm)),e1 id (fun e=>h3 (e ▸ .head _))]
section
variable {E:Env} (hE:EnvOk E)
include hE
theorem resAll_ok {C:Cx E.E.ro} {Y:St} {bar:Nat} {h:T O} {nx:Nat} (hM:MSim C Y.objs Y.next bar h.get nx) {regs:T V} (hR:RegsS C Y.next Y.regs regs):∀(l:List ResultVar) {vs:List SV},resAll E Y l=some vs->∃x,RvSL C Y.next vs x/\∀k:List V->R,resultsX E.E regs h l k=k x
 |[],vs,hv=>by
  simp only [resAll,zA] at hv
  subst hv
  exact ⟨[],trivial,fun _=>rfl⟩
 |r :: l,vs,hv=>by
  simp only [resAll] at hv
  split at hv
  rotate_left
  ·cases hv
  rename_i s hs
  split at hv
  rotate_left
  ·cases hv
  rename_i ss hss
  simp only [zA] at hv
  subst hv
  obtain ⟨x,x1,x2⟩:=resAll_ok hM hR l hss
  cases r with
  |tmp t=>
   simp only [resOne] at hs
   split at hs
   ·cases hs
   rename_i hno
   rcases hR t s hs with h0 |⟨v,v1,v2⟩
   ·subst h0;exact absurd hs hno
   refine ⟨v :: x,by simp only [RvSL];exact ⟨v2,x1⟩,fun k=>?_⟩
   simp only [resultsX,v1,x2]
  |cell a t=>
   simp only [resOne] at hs
   split at hs
   rotate_left
   ·cases hs
   rename_i ty nm off hty ha
   rcases hR a _ ha with h0 |⟨v,v1,v2⟩
   ·cases h0
   split at hs
   rotate_left
   ·cases hs
   rename_i cl hl
   split at hs
   next hle=>
    have hq:xload E Y t (.ptr nm off)=some ⟨[],s⟩:=by
     simp only [xload,hty,hl,hle,hs,q0]
    let evc:Operand->Option V:=fun _=>some v
    obtain ⟨w,w1,w2⟩:=load_ok hE.A hE.T hM v2 hq (fun _ h=>by cases h) (evc:=evc) (o:=.global 0) rfl
    simp only [RvS] at v2
    obtain ⟨_,rfl⟩:=v2
    have w3:∀k,opL E.E h evc (.load t (.global 0)) k=k w:=by
     rcases w2 with ⟨id,off,e,w2⟩ |⟨a,e,w2⟩
     ·cases e;exact w2 h rfl
     cases e
    refine ⟨w :: x,by simp only [RvSL];exact ⟨w1,x1⟩,fun k=>?_⟩
    simp only [opL,hty,evc] at w3
    simp only [resultsX,hty,v1]
    have:=w3 (fun v=>resultsX E.E regs h l fun l=>k (v :: l))
    exact this.trans (x2 _)
   cases hs
theorem exitS_ok {j:Option Code} {Q:Ex->St->Prop} {Y:St} (h:exitS j Q Y) {S:CX.St}:∃e,exitOf j S=some (e,S)/\Q e Y:=by
 unfold exitS at h
 split at h
 ·exact ⟨.normal,rfl,h⟩
 ·exact ⟨.ret,rfl,h⟩
 ·exact ⟨.exit _,rfl,h⟩
 exact h.out.elim
def mkDf (C:Cx ro):Option Nat->List Nat->List Nat
 |none,l=>l
 |some d,l=>C.ids d :: l
theorem rangeK_ok {lo nm : Nat} {mk : Option Nat} {Q : Ex -> St -> Prop} {Y Y2 : St} {v : SV} (hk : rangeK nm mk Q Y v Y2) {C C2 : Cx E.E.ro} {S : CX.St} (hS : Sim C Y S) (hlo : lo <= Y.next) {h2 : T O} {nx2 : Nat} (hM : MSim C2 Y2.objs Y2.next S.bar h2.get nx2) (hext : MExt C Y.objs Y.next S.h.get S.nx C2 Y2.objs Y2.next h2.get nx2)
    {dfc:List Nat} (hdf:dfc=mkDf C2 mk S.df) (hmk:∀d,mk=some d->S.nx<=C2.ids d) {id:Nat} (hid:C2.ids nm=id) :
    ∃ e S' C' Y', (match h2.get id with
          |some (.loop .busy ..)=>none
          |some (.loop _ j ..)=>setLoop S.bar h2 id .exhausted j fun h=>exitOf j ⟨S.nt,S.bar,S.regs,h,nx2,dfc⟩
          |_=>none)=some (e,S')/\Sim C' Y' S'/\Ext lo C Y S C' Y' S'/\Q e Y':=by
  subst hid hdf
  unfold rangeK at hk
  split at hk
  · rename_i st j nt regs ps a b d hl
    have hob:=hM.ob _ _ hl
    simp only [ObS] at hob
    obtain ⟨hd,rg,o1,o2⟩:=hob
    have hbar:geB S.bar (C2.ids nm)=true:=bleT (hM.own _ _ hl trivial).1
    obtain ⟨m1,m2⟩:=hM.upd (so:=.loop .exhausted j nt regs ps a b d) hl trivial trivial (o:=.loop .exhausted j nt rg ps a b (C2.ids d)) (by simp only [ObS,if_true];exact ⟨hd,rg,rfl,o2⟩)
    rw [<-up_get] at m1 m2
    have e12:=hext.trans m2
    have hdl:∀d∈Y.df,d < Y2.next:=fun d hd=>xH (hS.dflt d hd) hext.le
    have hrun : ∀ {e : Ex} {dfc : List Nat}, exitOf j ⟨S.nt, S.bar, S.regs, h2.up (C2.ids nm) (some (.loop .exhausted j nt rg ps a b (C2.ids d))), nx2, dfc⟩ = some (e, ⟨S.nt, S.bar, S.regs, h2.up (C2.ids nm) (some (.loop .exhausted j nt rg ps a b (C2.ids d))), nx2, dfc⟩) ->
        (setLoop S.bar h2 (C2.ids nm) .exhausted j fun h=>exitOf j ⟨S.nt,S.bar,S.regs,h,nx2,dfc⟩)=some (e,⟨S.nt,S.bar,S.regs,h2.up (C2.ids nm) (some (.loop .exhausted j nt rg ps a b (C2.ids d))),nx2,dfc⟩):=fun e1=>by
      simp only [setLoop,o1,hbar,T.set_eq]
      exact e1
    have fin:rangeK1 Q Y j Y2.next (shutM mk ((nm,.loop .exhausted j nt regs ps a b d) :: Y2.objs))->∃e S' C' Y',(setLoop S.bar h2 (C2.ids nm) .exhausted j fun h=>exitOf j ⟨S.nt,S.bar,S.regs,h,nx2,mkDf C2 mk S.df⟩)=some (e,S')/\Sim C' Y' S'/\Ext lo C Y S C' Y' S'/\Q e Y':=by
      intro hx
      cases mk with
      |none=>
        obtain ⟨e,e1,e2⟩:=exitS_ok hE hx (S:=⟨S.nt,S.bar,S.regs,h2.up (C2.ids nm) (some (.loop .exhausted j nt rg ps a b (C2.ids d))),nx2,S.df⟩)
        exact ⟨e,_,C2,⟨Y.nt,Y.regs,(nm,.loop .exhausted j nt regs ps a b d) :: Y2.objs,Y2.next,Y.df⟩,hrun e1,⟨hS.nt,RegsS.ag hext.ag hext.le hS.regs,m1,hS.df.ext e12 hS.dflt,hdl⟩,⟨e12.less hlo,rfl,fun _ h=>.inl h⟩,e2⟩
      |some dm=>
        cases hsh:shutM (some dm) ((nm,.loop .exhausted j nt regs ps a b d) :: Y2.objs) with
        |none=>rw [hsh] at hx;exact hx.out.elim
        |some objs=>
          rw [hsh] at hx
          simp only [shutM] at hsh
          split at hsh
          · rename_i hlm
            simp only [zA] at hsh
            subst hsh
            obtain ⟨m3,e3⟩:=m1.drop (m1.lt _ _ hlm)
            have hob:=m1.ob _ _ hlm
            simp only [ObS] at hob
            obtain ⟨w1,w2,w3⟩:=m1.own _ _ hlm trivial
            have hin:Inert C2 ((dm,.gone) :: (nm,.loop .exhausted j nt regs ps a b d) :: Y2.objs) S.bar (h2.up (C2.ids nm) (some (.loop .exhausted j nt rg ps a b (C2.ids d)))).get nx2 (C2.ids dm):=by
              refine ⟨hob,w1,w2,fun ho=>?_,w3⟩
              obtain ⟨nm',so,hl',ho'⟩:=ho
              rw [look_cons] at hl'
              split at hl'
              · simp only [zA] at hl'
                subst hl'
                exact owns_gone ho'
              · rename_i hne
                exact hne (m1.inj' _ _ _ _ hlm hl' _ (.inl ⟨trivial,rfl⟩) ho')
            obtain ⟨e,e1,e2⟩:=exitS_ok hE hx (S:=⟨S.nt,S.bar,S.regs,h2.up (C2.ids nm) (some (.loop .exhausted j nt rg ps a b (C2.ids d))),nx2,C2.ids dm :: S.df⟩)
            refine ⟨e,_,C2,⟨Y.nt,Y.regs,(dm,.gone) :: (nm,.loop .exhausted j nt regs ps a b d) :: Y2.objs,Y2.next,Y.df⟩,hrun e1,⟨hS.nt,RegsS.ag hext.ag hext.le hS.regs,m3,.mk hin (fun hm=>?_) (hS.df.ext (e12.trans e3) hS.dflt),hdl⟩,⟨(e12.trans e3).less hlo,rfl,fun i hi=>?_⟩,e2⟩
            · have:=hS.df.lt _ hm
              have:=hmk dm rfl
              omega
            · rcases zL.1 hi with rfl |hi
              · exact .inr (hmk dm rfl)
              · exact .inl hi
          · cases hsh
    rw [o1]
    cases st with
    |busy=>exact hk.out.elim
    |ready=>exact fin hk
    |done=>exact fin hk
    |exhausted=>exact fin hk
  · exact hk.out.elim
theorem range_ok {ci:CI} (hci:CIOk E.E ci) {rd:Option Nat} {lo:Nat} {g:Operand} {ps:Array Nat} {asg body:Code} {Q:Ex->St->Prop} {Y:St} (h:rangeS rd ci (evR Y.regs g) ps.toList asg body Q Y):SWP E.E rd lo (.rangeFunc g ps asg body) Q Y:=by
 intro C S hS hlo hrd
 unfold rangeS at h
 split at h
 rotate_left
 ·exact h.out.elim
 rename_i f ga gb hg
 obtain ⟨vg,g1,g2⟩:=(evR_ok hS.regs).get hg (by intro e;cases e)
 split at h
 ·-- a new loop
  obtain ⟨a1,a2⟩:=hS.m.new (so:=.dfr true) (o:=.dfr true) (by simp only [ObS,Cx.put,if_true])
  rw [<-up_get] at a1 a2
  obtain ⟨b1,b2⟩:=a1.new (so:=.loop .ready none Y.nt Y.regs ps.toList asg body Y.next) (o:=.loop .ready none S.nt S.regs ps.toList asg body S.nx) (by
   simp only [ObS]
   refine ⟨by omega,S.regs,?_,?_⟩
   ·rw [hS.nt];simp [Cx.put]
   exact RegsS.ag ((a2.trans (MExt.refl _ _ _ _ _)).ag.trans (zQ _) (Ag.put _ _ _ _ _)) (by omega) hS.regs)
  rw [<-up_get] at b1 b2
  have e12:=a2.trans b2
  obtain ⟨v,C',h',nx',s,Y',k1,k2,k3,k4,k5,k6,k7,k8⟩:=hci _ _ _ _ h _ S.bar _ _ b1 vg [.fn (.yield (S.nx+1)) [] []] (RvS.ag e12.ag e12.le _ _ g2) (by simp [RvSL,RvS,Cx.put,St.mem])
  have hids:C'.ids (Y.next+1)=S.nx+1:=by rw [k3.ag.ids _ (by simp [St.mem])];simp [Cx.put]
  have hid0:C'.ids Y.next=S.nx:=by rw [k3.ag.ids _ (by simp [St.mem])];simp [Cx.put]
  have hext:=e12.trans k3
  obtain ⟨e,S',C2,Y2,r1,r2,r3,r4⟩:=rangeK_ok hE k8 hS hlo k2 hext (dfc:=S.nx :: S.df) (by simp only [mkDf,hid0]) (fun d hd=>by
   simp only [zA] at hd
   subst hd
   omega) hids
  refine ⟨e,S',C2,Y2,k1.succ fun n hn=>?_,r2,r3,r4⟩
  show cxBody E.E (cx E.E n) none (.rangeFunc g ps asg body) S=_
  simp only [RvS] at g2
  obtain ⟨x,y,f1,f2,rfl⟩:=g2
  simp only [cxBody,rangeX,g1,CX.new,T.set_eq]
  have:=hn fun _ h nx=>match h.get (S.nx+1) with
    |some (.loop .busy ..)=>none
    |some (.loop _ j ..)=>setLoop S.bar h (S.nx+1) .exhausted j fun h=>exitOf j ⟨S.nt,S.bar,S.regs,h,nx,S.nx :: S.df⟩
    |_=>none
  exact this.trans r1
 rename_i l
 split at h
 rotate_left
 ·exact h.out.elim
 rename_i st0 j0 nt0 regs0 ps0 as0 b0 d hl
 have hob:=hS.m.ob _ _ hl
 simp only [ObS] at hob
 obtain ⟨hd,rg,o1,o2⟩:=hob
 obtain ⟨b1,b2⟩:=hS.m.new (so:=.loop .ready none Y.nt Y.regs ps.toList asg body d) (o:=.loop .ready none S.nt S.regs ps.toList asg body (C.ids d)) (by
  simp only [ObS]
  refine ⟨by omega,S.regs,?_,RegsS.ag (Ag.put _ _ _ _ _) (zQ _) hS.regs⟩
  rw [hS.nt]
  simp only [Cx.put,if_true]
  rw [if_neg (by omega)])
 rw [<-up_get] at b1 b2
 obtain ⟨v,C',h',nx',s,Y',k1,k2,k3,k4,k5,k6,k7,k8⟩:=hci _ _ _ _ h _ S.bar _ _ b1 vg [.fn (.yield S.nx) [] []] (RvS.ag b2.ag b2.le _ _ g2) (by simp [RvSL,RvS,Cx.put,St.mem])
 have hids:C'.ids Y.next=S.nx:=by rw [k3.ag.ids _ (by simp [St.mem])];simp [Cx.put]
 have hext:=b2.trans k3
 obtain ⟨e,S',C2,Y2,r1,r2,r3,r4⟩:=rangeK_ok hE k8 hS hlo k2 hext (dfc:=S.df) rfl (fun d hd=>by cases hd) hids
 refine ⟨e,S',C2,Y2,k1.succ fun n hn=>?_,r2,r3,r4⟩
 show cxBody E.E (cx E.E n) (some (C.ids l)) (.rangeFunc g ps asg body) S=_
 simp only [RvS] at g2
 obtain ⟨x,y,f1,f2,rfl⟩:=g2
 simp only [cxBody,rangeX,g1,o1,CX.new,T.set_eq]
 have:=hn fun _ h nx=>match h.get S.nx with
  |some (.loop .busy ..)=>none
  |some (.loop _ j ..)=>setLoop S.bar h S.nx .exhausted j fun h=>exitOf j ⟨S.nt,S.bar,S.regs,h,nx,S.df⟩
  |_=>none
 exact this.trans r1
theorem rd_ag {rd:Option Nat} {n:Nat} (h:∀l,rd=some l->l < n) {C C':Cx E.E.ro} (ha:Ag n C C'):rd.map C'.ids=rd.map C.ids:=by
 cases rd with
 |none=>rfl
 |some l=>simp only [zX];rw [ha.ids l (h l rfl)]
theorem vc_ok {ci:CI} (hci:CIOk E.E ci) {rd:Option Nat} {lo:Nat}:∀(c:Code) (Q:Ex->St->Prop) (Y:St),vc E rd lo ci c Q Y->SWP E.E rd lo c Q Y
 |.skip,Q,Y,h=>fun C S hS hlo _=>⟨.normal,S,C,Y,(Evt.of fun _=>trivial).succ fun n _=>rfl,hS,Ext.refl _ _ _ hlo,h⟩
 |.label _,Q,Y,h=>fun C S hS hlo _=>⟨.normal,S,C,Y,(Evt.of fun _=>trivial).succ fun n _=>rfl,hS,Ext.refl _ _ _ hlo,h⟩
 |.ret,Q,Y,h=>fun C S hS hlo _=>⟨.ret,S,C,Y,(Evt.of fun _=>trivial).succ fun n _=>rfl,hS,Ext.refl _ _ _ hlo,h⟩
 |.exit id,Q,Y,h=>fun C S hS hlo _=>⟨.exit id,S,C,Y,(Evt.of fun _=>trivial).succ fun n _=>rfl,hS,Ext.refl _ _ _ hlo,h⟩
 |.seq a b,Q,Y,h=>fun C S hS hlo hrd=>by
  obtain ⟨e,S1,C1,Y1,k1,k2,k3,k4⟩:=vc_ok hci a _ Y h C S hS hlo hrd
  cases e with
  |normal=>
   obtain ⟨e,S2,C2,Y2,l1,l2,l3,l4⟩:=vc_ok hci b Q Y1 k4 C1 S1 k2 k3.m.le hrd
   refine ⟨e,S2,C2,Y2,(k1.and l1).succ fun n hn=>?_,l2,k3.trans l3,l4⟩
   show cxBody E.E (cx E.E n) (rd.map C.ids) (.seq a b) S=_
   have hn2:=hn.2
   rw [rd_ag hE hrd k3.m.ag] at hn2
   simp only [cxBody,hn.1,hn2]
  |ret=>
   refine ⟨.ret,S1,C1,Y1,k1.succ fun n hn=>?_,k2,k3,k4⟩
   show cxBody E.E (cx E.E n) (rd.map C.ids) (.seq a b) S=_
   simp only [cxBody,hn]
  |exit i=>
   refine ⟨.exit i,S1,C1,Y1,k1.succ fun n hn=>?_,k2,k3,k4⟩
   show cxBody E.E (cx E.E n) (rd.map C.ids) (.seq a b) S=_
   simp only [cxBody,hn]
 |.block id b,Q,Y,h=>fun C S hS hlo hrd=>by
  obtain ⟨e,S1,C1,Y1,k1,k2,k3,k4⟩:=vc_ok hci b _ Y h C S hS hlo hrd
  cases e with
  |normal=>
   refine ⟨.normal,S1,C1,Y1,k1.succ fun n hn=>?_,k2,k3,k4⟩
   show cxBody E.E (cx E.E n) (rd.map C.ids) (.block id b) S=_
   simp only [cxBody,hn]
  |ret=>
   refine ⟨.ret,S1,C1,Y1,k1.succ fun n hn=>?_,k2,k3,k4⟩
   show cxBody E.E (cx E.E n) (rd.map C.ids) (.block id b) S=_
   simp only [cxBody,hn]
  |exit i=>
   simp only [inBlockQ] at k4
   split at k4
   next hb=>
    simp only [beqN_iff] at hb
    refine ⟨.normal,S1,C1,Y1,k1.succ fun n hn=>?_,k2,k3,k4⟩
    show cxBody E.E (cx E.E n) (rd.map C.ids) (.block id b) S=_
    simp only [cxBody,hn,hb,xA]
   rename_i hb
   simp only [beqN_not] at hb
   refine ⟨.exit i,S1,C1,Y1,k1.succ fun n hn=>?_,k2,k3,k4⟩
   show cxBody E.E (cx E.E n) (rd.map C.ids) (.block id b) S=_
   have hne:Nat.beq i id=false:=by
    cases he:Nat.beq i id with
    |true=>exact absurd (zF he) hb
    |false=>rfl
   simp only [cxBody,hn,hne]
 |.cond c a b,Q,Y,h=>fun C S hS hlo hrd=>by
  simp only [vc] at h
  have hx:=evR_ok hS.regs
  have go:∀(bb:Bool) (Y:St),Sim C Y S->lo<=Y.next->CX.evR S.regs c=some (.bool bb)->(match bb with |true=>vc E rd lo ci a Q Y |false=>vc E rd lo ci b Q Y)->∃e S' C' Y',Evt (fun n=>cx E.E n (rd.map C.ids) (.cond c a b) S=some (e,S'))/\Sim C' Y' S'/\Ext lo C Y S C' Y' S'/\Q e Y':=by
   intro bb Y hS hlo hb h
   cases bb with
   |true=>
    obtain ⟨e,S1,C1,Y1,k1,k2,k3,k4⟩:=vc_ok hci a Q Y h C S hS hlo hrd
    refine ⟨e,S1,C1,Y1,k1.succ fun n hn=>?_,k2,k3,k4⟩
    show cxBody E.E (cx E.E n) (rd.map C.ids) (.cond c a b) S=_
    simp only [cxBody,hb,hn]
   |false=>
    obtain ⟨e,S1,C1,Y1,k1,k2,k3,k4⟩:=vc_ok hci b Q Y h C S hS hlo hrd
    refine ⟨e,S1,C1,Y1,k1.succ fun n hn=>?_,k2,k3,k4⟩
    show cxBody E.E (cx E.E n) (rd.map C.ids) (.cond c a b) S=_
    simp only [cxBody,hb,hn]
  have kn:∀bb,CX.evR S.regs c=some (.bool bb)->Sim C (knowO Y c bb) S/\lo<=(knowO Y c bb).next/\Ext lo C Y S C (knowO Y c bb) S:=by
   intro bb hb
   unfold knowO
   split
   ·exact ⟨⟨hS.nt,know_ok hS.regs hb,hS.m,hS.df,hS.dflt⟩,hlo,(MExt.refl _ _ _ _ _).less hlo,rfl,fun _ h=>.inl h⟩
   exact ⟨hS,hlo,Ext.refl _ _ _ hlo⟩
  split at h
  next he=>
   obtain ⟨v,v1,v2⟩:=hx.get he (by intro e;cases e)
   simp only [RvS] at v2
   subst v2
   exact go true Y hS hlo v1 h
  next he=>
   obtain ⟨v,v1,v2⟩:=hx.get he (by intro e;cases e)
   simp only [RvS] at v2
   subst v2
   exact go false Y hS hlo v1 h
  next p he=>
   obtain ⟨v,v1,v2⟩:=hx.get he (by intro e;cases e)
   simp only [RvS] at v2
   subst v2
   cases hp:p with
   |true=>rw [hp] at v1;exact let ⟨e,S',C',Y',k1,k2,k3,k4⟩:=go true (knowO Y c true) (kn true v1).1 (kn true v1).2.1 v1 (h.t hp);⟨e,S',C',Y',k1,k2,(kn true v1).2.2.trans k3,k4⟩
   |false=>rw [hp] at v1;exact let ⟨e,S',C',Y',k1,k2,k3,k4⟩:=go false (knowO Y c false) (kn false v1).1 (kn false v1).2.1 v1 (h.e hp);⟨e,S',C',Y',k1,k2,(kn false v1).2.2.trans k3,k4⟩
  exact h.out.elim
 |.region id ops draw,Q,Y,h=>fun C S hS hlo hrd=>by
  simp only [vc] at h
  cases draw with
  |true=>
   obtain ⟨S1,C1,Y1,k1,k2,k3,k4⟩:=regionS_ok hE hci h C S hS hlo
   refine ⟨.normal,S1,C1,Y1,k1.succ fun n hn=>?_,k2,k3,k4⟩
   show cxBody E.E (cx E.E n) (rd.map C.ids) (.region id ops true) S=_
   simp only [cxBody]
   exact hn
  |false=>
   obtain ⟨S1,C1,Y1,k1,k2,k3,k4⟩:=seqS_ok hE hci ops.toList Y _ h C S hS hlo
   refine ⟨.normal,S1,C1,Y1,k1.succ fun n hn=>?_,k2,k3,k4⟩
   show cxBody E.E (cx E.E n) (rd.map C.ids) (.region id ops false) S=_
   simp only [cxBody]
   exact hn _
 |.rangeFunc g ps asg body,Q,Y,h=>range_ok hE hci h
 |.loop c,Q,Y,h=>Leaf.out h
 |.scope ..,Q,Y,h=>Leaf.out h
 |.goto ..,Q,Y,h=>Leaf.out h
 |.refuse ..,Q,Y,h=>Leaf.out h
theorem outV_ret (v:V) (h:T O) (nx:Nat) (k:V->T O->Nat->R):outV (retV v h nx) k=k v h nx:=rfl
theorem retP_ok {fn:Func} {Y0 Y:St} {K:SV->St->Prop} (h:retP E fn Y0 K Y) {C:Cx E.E.ro} {S:CX.St} (hS:Sim C Y S) :
  ∃(v:V) (h':T O) (s:SV) (objs:List (Nat×SO)),(∀k:V->T O->Nat->R,outV (takeDf S.bar S.df S.h fun h=>resultsX E.E S.regs h fn.results.toList fun l=>retV (CX.one l) h S.nx) k=k v h' S.nx)/\MSim C objs Y.next S.bar h'.get S.nx/\Took C Y.objs S.h.get S.df S.nx objs h'.get/\RvS C Y.next s v/\K s (Y0.mem objs Y.next):=by
 unfold retP at h
 split at h
 next objs ho=>
  split at h
  next vs hv=>
   obtain ⟨h',t1,t2,t3⟩:=take_ok S.df Y.df Y.objs objs S.h ho hS.m hS.df hS.dflt
   obtain ⟨x,x1,x2⟩:=resAll_ok (Y:=Y.mem objs Y.next) hE t2 hS.regs fn.results.toList hv
   refine ⟨CX.one x,h',one vs,objs,fun k=>?_,t2,t3,RvSL_one x1,h⟩
   rw [t1,x2]
   exact outV_ret hE _ _ _ _
  exact h.out.elim
 exact h.out.elim
omit hE in
theorem yext {C C1 C2 C3 C4:Cx E.E.ro} {o o1 o2 o3 o4:List (Nat×SO)} {lo n1 n2 n3 n4:Nat} {h h1 h2 h3 h4:Nat->Option O} {x x1 x2 x3 x4:Nat} (a:MExt C o lo h x C1 o1 n1 h1 x1) (b:MExt C1 o1 n1 h1 x1 C2 o2 n2 h2 x2) (c:MExt C2 o2 lo h2 x2 C3 o3 n3 h3 x3) (d:MExt C3 o3 n3 h3 x3 C4 o4 n4 h4 x4) :
  MExt C o lo h x C4 o4 n4 h4 x4:=by
 have ab:=a.trans b
 have cd:=c.trans d
 exact ⟨ab.ag.trans (zB _) cd.ag,cd.le,zT ab.nxle cd.nxle,fun id hid ho=>by
  rw [cd.keep id (xH hid ab.nxle) fun hh=>?_,ab.keep id hid ho]
  rcases ab.own id hh with h' |h'
  ·exact ho h'
  ·omega,fun id ho=>by
  rcases cd.own id ho with h' |h'
  ·exact ab.own id h'
  ·exact .inr (zT ab.nxle h'),fun id o hg=>by
  rcases cd.g id o hg with h' |h' |h'
  ·exact ab.g id o h'
  ·exact .inr (ab.own id h')
  exact .inr (.inr (zT ab.nxle h'))⟩
theorem ciN_ok {inl:Nat->Option Func} (hinl:∀f fn,inl f=some fn->E.E.fn f=some fn/\E.E.ext f=none):∀n,CIOk E.E (ciN E inl n)
 |0=>fun _ _ _ _ h=>h.elim
 |n+1=>by
  intro f args Y K h C bar hp nx hM vf va hf ha
  simp only [ciN] at h
  split at h
  next g a b=>
   simp only [RvS] at hf
   obtain ⟨x,y,f1,f2,rfl⟩:=hf
   have hargs:RvSL C Y.next (a++args++b) (x++va++y):=RvSL.append (RvSL.append f1 ha) f2
   split at h
   rotate_left
   ·exact h.out.elim
   rename_i fn hfn
   split at h
   rotate_left
   ·exact h.out.elim
   rename_i c hb
   split at h
   rotate_left
   ·exact h.out.elim
   rename_i hle
   simp only [bleN_iff] at hle
   obtain ⟨t',t1,t2⟩:=enter_ok (C:=C) (n:=Y.next) _ _ 0 .e [] hargs (fun t s h=>by simp [look] at h) (fun j s h=>by simp [look] at h)
   obtain ⟨e,S',C',Y',k1,k2,k3,k4⟩:=vc_ok hE (ciN_ok hinl n) (rd:=none) c _ _ h C ⟨fn.ntmps,bar,t',hp,nx,[]⟩ ⟨rfl,fun j s hl=>.inr (t2 j s hl),hM,.nil,fun d hd=>by cases hd⟩ (zB _) (fun l hl=>by cases hl)
   have hrun:∀n,cx E.E n none c ⟨fn.ntmps,bar,t',hp,nx,[]⟩=some (e,S')->(e=.normal\/e=.ret)->∀k,callV E.E (cx E.E n) bar hp nx (.fn (.func g) x y) va k=outV (takeDf bar S'.df S'.h fun h=>resultsX E.E S'.regs h fn.results.toList fun l=>retV (CX.one l) h S'.nx) k:=by
    intro n hn he k
    have hlen:Nat.ble (CX.len (x++va++y)) fn.ntmps=true:=bleT (by rw [len_eq,hargs.length];exact hle)
    simp only [callV,callF,(hinl _ _ hfn).1,(hinl _ _ hfn).2,hb,hlen,t1,hn]
    rcases he with rfl |rfl<;>rfl
   have fin:retP E fn Y K Y'->(e=.normal\/e=.ret)->CallOk E.E (fun n k=>callV E.E (cx E.E n) bar hp nx (.fn (.func g) x y) va k) C Y bar hp.get nx K:=by
    intro hr he
    obtain ⟨v,h',s,objs,r1,r2,r3,r4,r5⟩:=retP_ok hE hr k2
    rw [k3.bar] at r1 r2
    exact ⟨v,C',h',S'.nx,s,Y.mem objs Y'.next,k1.mono fun n hn k=>(hrun n hn he k).trans (r1 k),r2,k3.m.took r3 (fun i hi=>(k3.df i hi).resolve_left (by intro h;cases h)),r4,rfl,rfl,rfl,r5⟩
   cases e with
   |normal=>exact fin k4 (.inl rfl)
   |ret=>exact fin k4 (.inr rfl)
   |exit i=>exact (StuckR.out k4).elim
  rotate_left
  ·exact h.out.elim
  rename_i nm
  simp only [RvS] at hf
  obtain ⟨hnm,rfl⟩:=hf
  split at h
  rotate_left
  ·exact h.out.elim
  rename_i j0 nt regs ps asg body d hl
  have hob:=hM.ob _ _ hl
  simp only [ObS] at hob
  obtain ⟨hd,rg,o1,o2⟩:=hob
  split at h
  rotate_left
  ·exact h.out.elim
  rename_i regs' hbind
  obtain ⟨t',t1,t2⟩:=bind_ok ps args va regs regs' rg hbind ha o2
  obtain ⟨e1,S1,C1,Y1,k1,k2,k3,k4⟩:=vc_ok hE (ciN_ok hinl n) (rd:=some nm) asg _ _ h C ⟨nt,bar,t',hp,nx,[]⟩ ⟨rfl,t2,hM,.nil,fun d hd=>by cases hd⟩ (zB _) (fun l hl=>by cases hl;exact hnm)
  cases e1 with
  |normal=>
   simp only [yieldK1] at k4
   split at k4
   rotate_left
   ·exact k4.out.elim
   rename_i j nt' rgs' ps' a' b' d' hl1
   have hob1:=k2.m.ob _ _ hl1
   simp only [ObS] at hob1
   obtain ⟨hd1,rg1,p1,p2⟩:=hob1
   have hnm1:nm < Y1.next:=xH hnm k3.m.le
   have hid1:C1.ids nm=C.ids nm:=k3.m.ag.ids _ hnm
   have hbar1:geB bar (C1.ids nm)=true:=bleT (by have:=(k2.m.own _ _ hl1 trivial).1;rw [k3.bar] at this;exact this)
   obtain ⟨m1,m2⟩:=k2.m.upd (so:=.loop .busy j nt' rgs' ps' a' b' d') hl1 trivial trivial (o:=.loop .busy j nt' rg1 ps' a' b' (C1.ids d')) (by simp only [ObS,if_true];exact ⟨hd1,rg1,rfl,p2⟩)
   rw [<-up_get] at m1 m2
   rw [k3.bar] at m1
   obtain ⟨e2,S2,C2,Y2,l1,l2,l3,l4⟩:=vc_ok hE (ciN_ok hinl n) (rd:=some nm) body _ _ k4 C1 ⟨nt,bar,S1.regs,S1.h.up (C1.ids nm) (some (.loop .busy j nt' rg1 ps' a' b' (C1.ids d'))),S1.nx,S1.df⟩ ⟨rfl,k2.regs,m1,by have:=k2.df.ext m2 k2.dflt;rw [k3.bar] at this;exact this,k2.dflt⟩ k3.m.le (fun l hl=>by cases hl;exact hnm)
   have hbar2:S2.bar=bar:=l3.bar
   have hid2:C2.ids nm=C.ids nm:=(l3.m.ag.ids _ hnm).trans hid1
   unfold yieldK2 at l4
   split at l4
   rotate_left
   ·exact l4.out.elim
   rename_i st2 j2 nt2 rgs2 ps2 a2 b2 d2 hl2
   have hob2:=l2.m.ob _ _ hl2
   simp only [ObS] at hob2
   obtain ⟨hd2,rg2,q1,q2⟩:=hob2
   have hbar3:geB bar (C.ids nm)=true:=bleT (by have:=(l2.m.own _ _ hl2 trivial).1;rw [hbar2,hid2] at this;exact this)
   have hg2:S2.h.get (C.ids nm)=some (.loop st2 j2 nt2 rg2 ps2 a2 b2 (C2.ids d2)):=by rw [<-hid2];exact q1
   have fin:∀(st:LoopState) (jj:Option Code) (bb:Bool),K (.bool bb) (Y.mem ((nm,.loop st jj nt2 rgs2 ps2 a2 b2 d2) :: Y2.objs) Y2.next)->
     (∀n,cx E.E n (some (C.ids nm)) body ⟨nt,bar,S1.regs,S1.h.up (C1.ids nm) (some (.loop .busy j nt' rg1 ps' a' b' (C1.ids d'))),S1.nx,S1.df⟩=some (e2,S2)->cx E.E n (some (C.ids nm)) asg ⟨nt,bar,t',hp,nx,[]⟩=some (.normal,S1)->
      ∀k,callY (cx E.E n) bar hp nx (C.ids nm) va k=outV (setLoop bar S2.h (C.ids nm) st jj fun h=>retV (.bool bb) h S2.nx) k)->
     CallOk E.E (fun n k=>callV E.E (cx E.E n) bar hp nx (.fn (.yield (C.ids nm)) [] []) va k) C Y bar hp.get nx K:=by
    intro st jj bb hK hrun
    obtain ⟨w1,w2⟩:=l2.m.upd (so:=.loop st jj nt2 rgs2 ps2 a2 b2 d2) hl2 trivial trivial (o:=.loop st jj nt2 rg2 ps2 a2 b2 (C2.ids d2)) (by simp only [ObS,if_true];exact ⟨hd2,rg2,rfl,q2⟩)
    rw [<-up_get] at w1 w2
    rw [hbar2] at w1
    refine ⟨.bool bb,C2,_,S2.nx,.bool bb,Y.mem ((nm,.loop st jj nt2 rgs2 ps2 a2 b2 d2) :: Y2.objs) Y2.next,(k1.and l1).mono fun n hn k=>?_,w1,yext k3.m m2 l3.m w2,by simp only [RvS],rfl,rfl,rfl,hK⟩
    have h2:=hn.2
    simp only [zX,hid1] at h2
    have h2':cx E.E n (some (C.ids nm)) body ⟨nt,bar,S1.regs,S1.h.up (C1.ids nm) (some (.loop .busy j nt' rg1 ps' a' b' (C1.ids d'))),S1.nx,S1.df⟩=some (e2,S2):=by rw [hid1];exact h2
    show callV E.E (cx E.E n) bar hp nx (.fn (.yield (C.ids nm)) [] []) va k=_
    simp only [callV]
    rw [hrun n h2' hn.1 k]
    simp only [setLoop,hg2,hbar3,T.set_eq,hid2]
    rfl
   have base:∀n,cx E.E n (some (C.ids nm)) body ⟨nt,bar,S1.regs,S1.h.up (C1.ids nm) (some (.loop .busy j nt' rg1 ps' a' b' (C1.ids d'))),S1.nx,S1.df⟩=some (e2,S2)->cx E.E n (some (C.ids nm)) asg ⟨nt,bar,t',hp,nx,[]⟩=some (.normal,S1)->
     ∀k,callY (cx E.E n) bar hp nx (C.ids nm) va k=match (some (e2,S2):R) with
      |some (.normal,⟨_,_,_,h,nx,_⟩)=>outV (setLoop bar h (C.ids nm) .ready none fun h=>retV (.bool true) h nx) k
      |some (.ret,⟨_,_,_,h,nx,_⟩)=>outV (setLoop bar h (C.ids nm) .done (some .ret) fun h=>retV (.bool false) h nx) k
      |some (.exit e,⟨_,_,_,h,nx,_⟩)=>outV (setLoop bar h (C.ids nm) .done (some (.exit e)) fun h=>retV (.bool false) h nx) k
      |none=>none:=by
    intro n hb2 ha2 k
    have p1':S1.h.get (C.ids nm)=some (.loop .ready j nt' rg1 ps' a' b' (C1.ids d')):=by rw [<-hid1];exact p1
    have hbar1':geB bar (C.ids nm)=true:=by rw [<-hid1];exact hbar1
    rw [hid1] at hb2
    simp only [callY,o1,t1,ha2,p1',hbar1',T.set_eq,hb2]
    rfl
   cases e2 with
   |normal=>exact fin .ready none true l4 fun n h1 h2 k=>by rw [base n h1 h2]
   |ret=>exact fin .done (some .ret) false l4 fun n h1 h2 k=>by rw [base n h1 h2]
   |exit i=>exact fin .done (some (.exit i)) false l4 fun n h1 h2 k=>by rw [base n h1 h2]
  |ret=>exact (StuckC.out k4).elim
  |exit i=>exact (StuckC.out k4).elim
end
end HX

namespace HX
open Go CX
variable {ro:Addr->Option V}
def Sub (lo:Nat) (Y T:St):Prop:=∀(ro:Addr->Option V) (C:Cx ro) S,Sim C Y S->lo<=Y.next->∃C':Cx ro,Sim C' T S/\Ext lo C Y S C' T S
def loopQ {X:Type} (lo:Nat) (T:X->St) (Inv:X->Prop) (μ:X->Nat) (Q:Ex->St->Prop) (x:X):Ex->St->Prop
 |.normal,Y=>∃x',Inv x'/\μ x' < μ x/\Sub lo Y (T x')
 |e,Y=>Q e Y
theorem loop_ok {E:CX.Env} {rd:Option Nat} {lo:Nat} {c:Code} {Q:Ex->St->Prop} {Y:St} {X:Type} (T:X->St) (Inv:X->Prop) (μ:X->Nat) (x0:X) (h0:Inv x0) (hs:Sub lo Y (T x0)) (hT:∀x,lo<=(T x).next)
  (round:∀x,Inv x->SWP E rd lo c (loopQ lo T Inv μ Q x) (T x)):SWP E rd lo (.loop c) Q Y:=by
 have key:∀(m:Nat) (x:X),μ x<=m->Inv x->SWP E rd lo (.loop c) Q (T x):=by
  intro m
  induction m with
  |zero=>
   intro x hm hx C S hS hlo hrd
   obtain ⟨e,S1,C1,Y1,k1,k2,k3,k4⟩:=round x hx C S hS hlo hrd
   cases e with
   |normal=>obtain ⟨x',_,h2,_⟩:=k4;omega
   |ret=>
    refine ⟨.ret,S1,C1,Y1,k1.succ fun n hn=>?_,k2,k3,k4⟩
    show cxBody E (cx E n) (rd.map C.ids) (.loop c) S=_
    simp only [cxBody,hn]
   |exit i=>
    refine ⟨.exit i,S1,C1,Y1,k1.succ fun n hn=>?_,k2,k3,k4⟩
    show cxBody E (cx E n) (rd.map C.ids) (.loop c) S=_
    simp only [cxBody,hn]
  |succ m ih=>
   intro x hm hx C S hS hlo hrd
   obtain ⟨e,S1,C1,Y1,k1,k2,k3,k4⟩:=round x hx C S hS hlo hrd
   cases e with
   |normal=>
    obtain ⟨x',h1,h2,h3⟩:=k4
    obtain ⟨C2,s1,s2⟩:=h3 _ C1 S1 k2 k3.m.le
    obtain ⟨e,S3,C3,Y3,l1,l2,l3,l4⟩:=ih x' (by omega) h1 C2 S1 s1 (hT x') hrd
    have e12:=k3.trans s2
    have hmap:rd.map C2.ids=rd.map C.ids:=by
     cases rd with
     |none=>rfl
     |some l=>simp only [zX];rw [e12.m.ag.ids l (hrd l rfl)]
    refine ⟨e,S3,C3,Y3,(k1.and l1).succ fun n hn=>?_,l2,e12.trans l3,l4⟩
    show cxBody E (cx E n) (rd.map C.ids) (.loop c) S=_
    have h2':=hn.2
    rw [hmap] at h2'
    simp only [cxBody,hn.1,h2']
   |ret=>
    refine ⟨.ret,S1,C1,Y1,k1.succ fun n hn=>?_,k2,k3,k4⟩
    show cxBody E (cx E n) (rd.map C.ids) (.loop c) S=_
    simp only [cxBody,hn]
   |exit i=>
    refine ⟨.exit i,S1,C1,Y1,k1.succ fun n hn=>?_,k2,k3,k4⟩
    show cxBody E (cx E n) (rd.map C.ids) (.loop c) S=_
    simp only [cxBody,hn]
 intro C S hS hlo hrd
 obtain ⟨C1,s1,s2⟩:=hs _ C S hS hlo
 obtain ⟨e,S3,C3,Y3,l1,l2,l3,l4⟩:=key _ x0 (zB _) h0 C1 S s1 (hT x0) hrd
 have hmap:rd.map C1.ids=rd.map C.ids:=by
  cases rd with
  |none=>rfl
  |some l=>simp only [zX];rw [s2.m.ag.ids l (hrd l rfl)]
 rw [hmap] at l1
 exact ⟨e,S3,C3,Y3,l1,l2,s2.trans l3,l4⟩
theorem SWP.again {E:CX.Env} {rd:Option Nat} {lo:Nat} {c:Code} {Q:Ex->St->Prop} {Y T:St} (hs:Sub lo Y T) (hT:lo<=T.next) (h:SWP E rd lo c Q T):SWP E rd lo c Q Y:=by
 intro C S hS hlo hrd
 obtain ⟨C1,s1,s2⟩:=hs _ C S hS hlo
 obtain ⟨e,S3,C3,Y3,l1,l2,l3,l4⟩:=h C1 S s1 hT hrd
 have hmap:rd.map C1.ids=rd.map C.ids:=by
  cases rd with
  |none=>rfl
  |some l=>simp only [zX];rw [s2.m.ag.ids l (hrd l rfl)]
 rw [hmap] at l1
 exact ⟨e,S3,C3,Y3,l1,l2,s2.trans l3,l4⟩
abbrev Sgm:=List (Nat×Option Nat)
mutual
def infSV:SV->SV->Sgm->Sgm
 |.slc i',.slc i,s=>match look s i' with
  |some _=>s
  |none=>(i',some i) :: s
 |.slc i',.nils,s=>match look s i' with
  |some _=>s
  |none=>(i',none) :: s
 |.ptr i' _,.ptr i _,s=>match look s i' with
  |some _=>s
  |none=>(i',some i) :: s
 |.map i',.map i,s=>match look s i' with
  |some _=>s
  |none=>(i',some i) :: s
 |.mel i' _,.mel i _,s=>match look s i' with
  |some _=>s
  |none=>(i',some i) :: s
 |.sc i' _ _ _,.sc i _ _ _,s=>match look s i' with
  |some _=>s
  |none=>(i',some i) :: s
 |.yield i',.yield i,s=>match look s i' with
  |some _=>s
  |none=>(i',some i) :: s
 |.agg l',.agg l,s=>infL l' l s
 |.tup l',.tup l,s=>infL l' l s
 |.fn _ a' b',.fn _ a b,s=>infL b' b (infL a' a s)
 |.iface _ v',.iface _ v,s=>infSV v' v s
 |_,_,s=>s
def infL:List SV->List SV->Sgm->Sgm
 |x' :: r',x :: r,s=>infL r' r (infSV x' x s)
 |_,_,s=>s
end
def infRegs (S:List (Nat×SV)):List (Nat×SV)->Sgm->Sgm
 |[],s=>s
 |(t,v') :: r,s=>match look S t with
  |some v=>infRegs S r (infSV v' v s)
  |none=>infRegs S r s
def imgN (lo:Nat) (s:Sgm) (i':Nat):Option Nat:=
 match bltN i' lo with
 |true=>some i'
 |false=>match look s i' with
  |some (some i)=>some i
  |_=>none
def infObjs (lo:Nat) (S:List (Nat×SO)):List (Nat×SO)->Sgm->Sgm
 |[],s=>s
 |(i',.cells l') :: r,s=>match imgN lo s i' with
  |some i=>match look S i with
   |some (.cells l)=>infObjs lo S r (infL l' l s)
   |_=>infObjs lo S r s
  |none=>infObjs lo S r s
 |(i',.mat _ _ _ rn' _) :: r,s=>match imgN lo s i' with
  |some i=>match look S i with
   |some (.mat _ _ _ rn _)=>match look s rn' with
    |some _=>infObjs lo S r s
    |none=>infObjs lo S r ((rn',some rn) :: s)
   |_=>infObjs lo S r s
  |none=>infObjs lo S r s
 |_ :: r,s=>infObjs lo S r s
def infDf:List Nat->List Nat->Sgm->Sgm
 |d' :: r',d :: r,s=>infDf r' r (match look s d' with
  |some _=>s
  |none=>(d',some d) :: s)
 |_,_,s=>s
structure Bd where
 s:Sgm
 lo:Nat
 nx:Nat
def ckNm (B:Bd) (i' i:Nat):Bool:=bltN i' B.nx && (match imgN B.lo B.s i' with |some j=>beqN j i |none=>false)
def ckNil (B:Bd) (i':Nat):Bool:=bltN i' B.nx && (match bltN i' B.lo with |true=>false |false=>match look B.s i' with |some none=>true |_=>false)
def ckB (B:Bd) (b' b:Nat):Bool:=
 match bltN B.lo b' with
 |true=>bleN b' B.nx
 |false=>beqN b' b && bleN b B.lo
def ckF (B:Bd) (b':Nat):Bool:=bltN B.lo b' && bleN b' B.nx
mutual
def ckSV (Y:St) (B:Bd):SV->SV->Option (List Prop)
 |.int k' n',.int k n=>match decide (k'=k) with
  |true=>some [n'=n]
  |false=>none
 |.bool b',.bool b=>some [b'=b]
 |.sym b',.sym b=>some [b'=b]
 |.sym b',.bool b=>some [b'=b]
 |.str s',.str s=>some [s'=s]
 |.ptr i' o',.ptr i o=>match beqN o' o && ckNm B i' i with
  |true=>some []
  |false=>none
 |.el i' es' x' o',.el i es x o=>match beqN o' o && beqN es' es && ckNm B i' i with
  |true=>some [x'=x]
  |false=>none
 |.fel b' ks' rows' x' o',.fel b ks rows x o=>match beqN o' o && kdsEq ks' ks && ckB B b' b with
  |true=>some [rows'=rows,x'=x]
  |false=>none
 |.nilp,.nilp=>some []
 |.slc i',.slc i=>match ckNm B i' i with
  |true=>some []
  |false=>none
 |.slc i',.nils=>match ckNil B i' with
  |true=>some []
  |false=>none
 |.vw i' lo' n',.vw i lo n=>match ckNm B i' i with
  |true=>some [lo'=lo,n'=n]
  |false=>none
 |.sc i' es' o' n',.sc i es o n=>match ckNm B i' i && beqN es' es && beqN o' o && beqN n' n with
  |true=>some []
  |false=>none
 |.fz b' ks' rows',.fz b ks rows=>match kdsEq ks' ks && ckB B b' b with
  |true=>some [rows'=rows]
  |false=>none
 |.fz b' ks' rows',.slc i=>match look Y.objs i with
  |some (.frz ks rows)=>match kdsEq ks' ks && ckF B b' with
   |true=>some [rows'=rows]
   |false=>none
  |_=>none
 |.fz b' _ rows',.nils=>match ckF B b' with
  |true=>some [rows'=[]]
  |false=>none
 |.nils,.nils=>some []
 |.map i',.map i=>match ckNm B i' i with
  |true=>some []
  |false=>none
 |.nilm,.nilm=>some []
 |.fn f' a' b',.fn f a b=>match beqN f' f,ckL Y B a' a,ckL Y B b' b with
  |true,some p,some q=>some (p++q)
  |_,_,_=>none
 |.yield i',.yield i=>match ckNm B i' i with
  |true=>some []
  |false=>none
 |.nilf,.nilf=>some []
 |.iface t' v',.iface t v=>match beqN t' t with
  |true=>ckSV Y B v' v
  |false=>none
 |.nili,.nili=>some []
 |.agg l',.agg l=>ckL Y B l' l
 |.tup l',.tup l=>ckL Y B l' l
 |.mel i' x',.mel i x=>match ckNm B i' i with
  |true=>some [x'=x]
  |false=>none
 |_,_=>none
def ckL (Y:St) (B:Bd):List SV->List SV->Option (List Prop)
 |[],[]=>some []
 |x' :: r',x :: r=>match ckSV Y B x' x with
  |some p=>match ckL Y B r' r with
   |some q=>some (p++q)
   |none=>none
  |none=>none
 |_,_=>none
end
def ckRegs (Y:St) (B:Bd) (S:List (Nat×SV)):List (Nat×SV)->Option (List Prop)
 |[]=>some []
 |(t,v') :: r=>match look S t with
  |some v=>match ckSV Y B v' v with
   |some p=>match ckRegs Y B S r with
    |some q=>some (p++q)
    |none=>none
   |none=>none
  |none=>none
def ckOb (Y:St) (B:Bd) (i':Nat):SO->Option (List Prop)
 |.gone=>match bltN i' B.nx with
  |true=>some []
  |false=>none
 |.cells l'=>match imgN B.lo B.s i' with
  |some i=>match look Y.objs i with
   |some (.cells l)=>match ckNm B i' i with
    |true=>ckL Y B l' l
    |false=>none
   |_=>none
  |none=>none
 |.arr _ ks' rows'=>match imgN B.lo B.s i' with
  |some i=>match look Y.objs i with
   |some (.arr _ ks rows)=>match ckNm B i' i && kdsEq ks' ks with
    |true=>some [rows'=rows]
    |false=>none
   |_=>none
  |none=>match ckNil B i' && decide (0 < ks'.length) with
   |true=>some [rows'=[]]
   |false=>none
 |.mat _ ks' rows' rn' none=>match imgN B.lo B.s i' with
  |some i=>match look Y.objs i with
   |some (.mat _ ks rows rn none)=>match ckNm B i' i && kdsEq ks' ks && ckNm B rn' rn with
    |true=>some [rows'=rows]
    |false=>none
   |_=>none
  |none=>none
 |.mat _ _ _ _ (some _)=>none
 |.frz ks' rows'=>match imgN B.lo B.s i' with
  |some i=>match look Y.objs i with
   |some (.frz ks rows)=>match ckNm B i' i && kdsEq ks' ks with
    |true=>some [rows'=rows]
    |false=>none
   |_=>none
  |none=>none
 |.mp ka' va' kk' vk' ent'=>match imgN B.lo B.s i' with
  |some i=>match look Y.objs i with
   |some (.mp ka va kk vk ent)=>match ckNm B i' i && (sameA ka' ka && sameA va' va && (kdsEq kk' kk && kdsEq vk' vk)) with
    |true=>some [ent'=ent]
    |false=>none
   |_=>none
  |none=>none
 |.dfr b'=>match imgN B.lo B.s i' with
  |some i=>match look Y.objs i with
   |some (.dfr b)=>match ckNm B i' i with
    |true=>some [b'=b]
    |false=>none
   |_=>none
  |none=>none
 |.loop st' j' nt' regs' ps' a' b' d'=>match imgN B.lo B.s i' with
  |some i=>match look Y.objs i with
   |some (.loop st j nt regs ps a b d)=>match ckNm B i' i && ckNm B d' d && beqN nt' nt with
    |true=>match ckRegs Y B regs regs' with
     |some q=>some ((st'=st) :: (j'=j) :: (ps'=ps) :: (a'=a) :: (b'=b) :: q)
     |none=>none
    |false=>none
   |_=>none
  |none=>none
def ckObjs (Y:St) (B:Bd):List (Nat×SO)->Option (List Prop)
 |[]=>some []
 |(i',x') :: r=>match ckOb Y B i' x' with
  |some p=>match ckObjs Y B r with
   |some q=>some (p++q)
   |none=>none
  |none=>none
def ckDf (B:Bd):List Nat->List Nat->Bool
 |[],[]=>true
 |d' :: r',d :: r=>ckNm B d' d && ckDf B r' r
 |_,_=>false
def memN (x:Nat):List Nat->Bool
 |[]=>false
 |y :: r=>match beqN x y with
  |true=>true
  |false=>memN x r
def nodupN:List Nat->Bool
 |[]=>true
 |x :: r=>!memN x r && nodupN r
def imgs (B:Bd):List (Nat×SO)->List Nat
 |[]=>[]
 |(_,.gone) :: r=>imgs B r
 |(_,.frz ..) :: r=>imgs B r
 |(i',_) :: r=>match imgN B.lo B.s i' with
  |some i=>i :: imgs B r
  |none=>imgs B r
structure StuckS (B:Bd) (Y T:St):Prop where
 out:False
def allP:List Prop->Prop
 |[]=>True
 |[p]=>p
 |p :: r=>p/\allP r
def bdOf (lo:Nat) (Y T:St):Bd:=
 ⟨infObjs lo Y.objs T.objs (infObjs lo Y.objs T.objs (infDf T.df Y.df (infRegs Y.regs T.regs []))),lo,T.next⟩
def subP (lo:Nat) (Y T:St):Prop:=
 match bdOf lo Y T with
 |⟨s,lo,nx⟩=>match beqN Y.nt T.nt && bltN lo T.next && nodupN (imgs ⟨s,lo,nx⟩ T.objs) && ckDf ⟨s,lo,nx⟩ T.df Y.df with
  |false=>StuckS ⟨s,lo,nx⟩ Y T
  |true=>match ckRegs Y ⟨s,lo,nx⟩ Y.regs T.regs,ckObjs Y ⟨s,lo,nx⟩ T.objs with
   |some p,some q=>allP (p++q)
   |_,_=>StuckS ⟨s,lo,nx⟩ Y T
theorem allP_ok:∀l:List Prop,allP l->∀p∈l,p
 |[],_,_,h=>by simp at h
 |[p],h,q,hq=>by
  simp only [xS] at hq
  subst hq;exact h
 |p :: q :: r,h,x,hx=>by
  rcases zL.1 hx with rfl |hx
  ·exact h.1
  exact allP_ok (q :: r) h.2 x hx
theorem memN_iff {x:Nat}:∀{l:List Nat},memN x l=true↔x∈l
 |[]=>by simp [memN]
 |y :: r=>by
  simp only [memN,zL]
  split
  next h=>simp only [beqN_iff] at h;simp [h]
  rename_i h;simp only [beqN_not] at h;rw [memN_iff];simp [h]
theorem nodupN_ok:∀{l:List Nat},nodupN l=true->l.Nodup
 |[],_=>.nil
 |x :: r,h=>by
  simp only [nodupN,zC,kR,Bool.eq_false_iff] at h
  exact List.nodup_cons.2 ⟨fun hx=>h.1 (memN_iff.2 hx),nodupN_ok h.2⟩
def Cx.ren (C:Cx ro) (B:Bd) (nx:Nat):Cx ro:=
 ⟨fun i'=>match imgN B.lo B.s i' with |some i=>C.ids i |none=>0,fun i'=>match imgN B.lo B.s i' with |some i=>C.hdr i |none=>.nils,C.g,fun b=>if b<=B.lo then C.bd b else nx⟩
theorem imgN_lo {lo:Nat} {s:Sgm} {i:Nat} (h:i < lo):imgN lo s i=some i:=by
 have:bltN i lo=true:=by simpa using h
 simp only [imgN,this]
theorem Ag.ren (C:Cx ro) (B:Bd) (nx:Nat):Ag B.lo C (C.ren B nx):=
 ⟨fun nm h=>by simp only [Cx.ren,imgN_lo h],fun nm h=>by simp only [Cx.ren,imgN_lo h],fun b h=>by simp only [Cx.ren];rw [if_pos h],fun _ _ h=>h⟩
section
variable {C:Cx ro} {Y:St} {bar:Nat} {h:Nat->Option O} {nx:Nat} (hM:MSim C Y.objs Y.next bar h nx) {B:Bd}
include hM
theorem ckNm_ok {i' i:Nat} (hk:ckNm B i' i=true):i' < B.nx/\imgN B.lo B.s i'=some i/\(C.ren B nx).ids i'=C.ids i/\(C.ren B nx).hdr i'=C.hdr i:=by
 simp only [ckNm,zC,bltN_iff] at hk
 obtain ⟨h1,h2⟩:=hk
 split at h2
 next j hj=>
  simp only [beqN_iff] at h2
  subst h2
  exact ⟨h1,hj,by simp only [Cx.ren,hj],by simp only [Cx.ren,hj]⟩
 cases h2
theorem ckNil_ok {i':Nat} (hk:ckNil B i'=true):i' < B.nx/\imgN B.lo B.s i'=none/\(C.ren B nx).hdr i'=.nils:=by
 simp only [ckNil,zC,bltN_iff] at hk
 obtain ⟨h1,h2⟩:=hk
 split at h2
 ·cases h2
 rename_i hlo
 split at h2
 next hs=>
  have:imgN B.lo B.s i'=none:=by simp only [imgN,hlo,hs]
  exact ⟨h1,this,by simp only [Cx.ren,this]⟩
 cases h2
theorem ckB_ok {b' b:Nat} (hb:b<=Y.next) (hk:ckB B b' b=true) (hlo:B.lo<=B.nx):b'<=B.nx/\C.bd b<=(C.ren B nx).bd b':=by
 unfold ckB at hk
 split at hk
 next h1=>
  simp only [bltN_iff] at h1
  simp only [bleN_iff] at hk
  refine ⟨hk,?_⟩
  simp only [Cx.ren]
  rw [if_neg (by omega)]
  exact hM.bd b hb
 simp only [zC,beqN_iff,bleN_iff] at hk
 obtain ⟨rfl,h2⟩:=hk
 refine ⟨by omega,?_⟩
 simp only [Cx.ren]
 rw [if_pos h2]
 exact zB _
theorem ckF_ok {b':Nat} (hk:ckF B b'=true):b'<=B.nx/\(C.ren B nx).bd b'=nx:=by
 simp only [ckF,zC,bltN_iff,bleN_iff] at hk
 refine ⟨hk.2,?_⟩
 simp only [Cx.ren]
 rw [if_neg (by omega)]
mutual
theorem ckSV_ok (hlo:B.lo<=B.nx):∀(s' s:SV) (ps:List Prop),ckSV Y B s' s=some ps->(∀p∈ps,p)->∀v,RvS C Y.next s v->RvS (C.ren B nx) B.nx s' v:=by
 intro s' s ps hc hp v hv
 unfold ckSV at hc
 split at hc
 ·split at hc
  next hk=>
   have hk:=zV hk
   subst hk
   simp only [zA] at hc
   subst hc
   have:=hp _ (.head _)
   subst this
   exact hv
  cases hc
 ·simp only [zA] at hc
  subst hc
  have:=hp _ (.head _)
  subst this
  exact hv
 ·simp only [zA] at hc
  subst hc
  have:=hp _ (.head _)
  subst this
  exact hv
 ·simp only [zA] at hc
  subst hc
  have:=hp _ (.head _)
  subst this
  exact hv
 ·simp only [zA] at hc
  subst hc
  have:=hp _ (.head _)
  subst this
  exact hv
 ·split at hc
  next hk=>
   simp only [zC,beqN_iff] at hk
   obtain ⟨rfl,hk⟩:=hk
   obtain ⟨a,b,c,d⟩:=ckNm_ok hM hk
   simp only [RvS] at hv ⊢
   exact ⟨a,by rw [c];exact hv.2⟩
  cases hc
 ·split at hc
  next hk=>
   simp only [zC,beqN_iff] at hk
   obtain ⟨⟨rfl,rfl⟩,hk⟩:=hk
   obtain ⟨a,b,c,d⟩:=ckNm_ok hM hk
   simp only [zA] at hc
   subst hc
   have:=hp _ (.head _)
   subst this
   simp only [RvS] at hv ⊢
   exact ⟨a,by rw [c];exact hv.2⟩
  cases hc
 ·split at hc
  next hk=>
   simp only [zC,beqN_iff] at hk
   obtain ⟨⟨rfl,hk1⟩,hk⟩:=hk
   have hk1:=kds_eq hk1
   subst hk1
   simp only [zA] at hc
   subst hc
   have:=hp _ (.head _)
   subst this
   have:=hp _ (.tail _ (.head _))
   subst this
   simp only [RvS,FelR] at hv ⊢
   obtain ⟨h0,⟨id,base,t,m,a1,a2,a3,a4,a5⟩ |⟨a,a1,a5⟩⟩:=hv<;>obtain ⟨b1,b2⟩:=ckB_ok hM h0 hk hlo
   ·exact ⟨b1,.inl ⟨id,base,t,m,a1,by omega,a3,a4,FzR.mono (fun _ _ _ h=>h) b2 _ _ _ _ a5⟩⟩
   exact ⟨b1,.inr ⟨a,a1,FzR.mono (fun _ _ _ h=>h) b2 _ _ _ _ a5⟩⟩
  cases hc
 ·simpa [RvS] using hv
 ·split at hc
  next hk=>
   obtain ⟨a,b,c,d⟩:=ckNm_ok hM hk
   simp only [RvS] at hv ⊢
   exact ⟨a,by rw [d];exact hv.2.1,hv.2.2⟩
  cases hc
 ·split at hc
  next hk=>
   obtain ⟨a,b,c⟩:=ckNil_ok hM hk
   simp only [RvS] at hv ⊢
   exact ⟨a,by rw [c];exact hv,.inl hv⟩
  cases hc
 ·split at hc
  next hk=>
   obtain ⟨a,b,c,d⟩:=ckNm_ok hM hk
   simp only [zA] at hc
   subst hc
   have:=hp _ (.head _)
   subst this
   have:=hp _ (.tail _ (.head _))
   subst this
   simp only [RvS,VwR] at hv ⊢
   exact ⟨a,by rw [c,d];exact hv.2⟩
  cases hc
 ·split at hc
  next hk=>
   simp only [zC,beqN_iff] at hk
   obtain ⟨⟨⟨hk,rfl⟩,rfl⟩,rfl⟩:=hk
   obtain ⟨a,b,c,d⟩:=ckNm_ok hM hk
   simp only [RvS] at hv ⊢
   exact ⟨a,hv.2.1,by rw [c];exact hv.2.2⟩
  cases hc
 ·split at hc
  next hk=>
   simp only [zC] at hk
   obtain ⟨hk1,hk⟩:=hk
   have hk1:=kds_eq hk1
   subst hk1
   simp only [zA] at hc
   subst hc
   have:=hp _ (.head _)
   subst this
   simp only [RvS] at hv ⊢
   obtain ⟨b1,b2⟩:=ckB_ok hM hv.1 hk hlo
   exact ⟨b1,FzC.mono (fun _ _ _ h=>h) b2 _ _ _ hv.2⟩
  cases hc
 ·split at hc
  next hl=>
   split at hc
   next hk=>
    simp only [zC] at hk
    obtain ⟨hk1,hk⟩:=hk
    have hk1:=kds_eq hk1
    subst hk1
    simp only [zA] at hc
    subst hc
    have:=hp _ (.head _)
    subst this
    obtain ⟨b1,b2⟩:=ckF_ok (C:=C) hM hk
    simp only [RvS] at hv ⊢
    obtain ⟨_,rfl,_⟩:=hv
    exact ⟨b1,by rw [b2];exact (hM.ob _ _ hl).2.1⟩
   cases hc
  cases hc
 ·split at hc
  next hk=>
   simp only [zA] at hc
   subst hc
   have:=hp _ (.head _)
   subst this
   obtain ⟨b1,b2⟩:=ckF_ok (C:=C) hM hk
   simp only [RvS] at hv ⊢
   subst hv
   exact ⟨b1,by simp only [FzC,D.rows];exact ⟨⟨[],rfl,fun _ h=>(by cases h),by simp⟩,.inl (by simp)⟩⟩
  cases hc
 ·simpa [RvS] using hv
 ·split at hc
  next hk=>
   obtain ⟨a,b,c,d⟩:=ckNm_ok hM hk
   simp only [RvS] at hv ⊢
   exact ⟨a,by rw [c];exact hv.2⟩
  cases hc
 ·simpa [RvS] using hv
 ·split at hc
  next p q hf hp1 hp2=>
   simp only [beqN_iff] at hf
   subst hf
   simp only [zA] at hc
   subst hc
   simp only [RvS] at hv ⊢
   obtain ⟨x,y,a1,a2,a3⟩:=hv
   exact ⟨x,y,ckL_ok hlo _ _ _ hp1 (fun r hr=>hp r (xO _ hr)) x a1,ckL_ok hlo _ _ _ hp2 (fun r hr=>hp r (xF _ hr)) y a2,a3⟩
  cases hc
 ·split at hc
  next hk=>
   obtain ⟨a,b,c,d⟩:=ckNm_ok hM hk
   simp only [RvS] at hv ⊢
   exact ⟨a,by rw [c];exact hv.2⟩
  cases hc
 ·simpa [RvS] using hv
 ·split at hc
  next hk=>
   simp only [beqN_iff] at hk
   subst hk
   simp only [RvS] at hv ⊢
   obtain ⟨y,a1,a2⟩:=hv
   exact ⟨y,ckSV_ok hlo _ _ _ hc hp y a1,a2⟩
  cases hc
 ·simpa [RvS] using hv
 ·simp only [RvS] at hv ⊢
  obtain ⟨x,a1,a2⟩:=hv
  exact ⟨x,ckL_ok hlo _ _ _ hc hp x a1,a2⟩
 ·simp only [RvS] at hv ⊢
  obtain ⟨x,a1,a2⟩:=hv
  exact ⟨x,ckL_ok hlo _ _ _ hc hp x a1,a2⟩
 ·split at hc
  next hk=>
   obtain ⟨a,b,c,d⟩:=ckNm_ok hM hk
   simp only [zA] at hc
   subst hc
   have:=hp _ (.head _)
   subst this
   simp only [RvS] at hv ⊢
   exact ⟨a,by rw [c];exact hv.2⟩
  cases hc
 cases hc
theorem ckL_ok (hlo:B.lo<=B.nx):∀(l' l:List SV) (ps:List Prop),ckL Y B l' l=some ps->(∀p∈ps,p)->∀x,RvSL C Y.next l x->RvSL (C.ren B nx) B.nx l' x
 |[],[],ps,hc,hp,x,hx=>by
  cases x with
  |nil=>trivial
  |cons _ _=>simp [RvSL] at hx
 |s' :: l',s :: l,ps,hc,hp,x,hx=>by
  simp only [ckL] at hc
  split at hc
  next p hp1=>
   split at hc
   next q hq1=>
    simp only [zA] at hc
    subst hc
    cases x with
    |nil=>simp [RvSL] at hx
    |cons v x=>
     simp only [RvSL] at hx ⊢
     exact ⟨ckSV_ok hlo _ _ _ hp1 (fun r hr=>hp r (xO _ hr)) v hx.1,ckL_ok hlo _ _ _ hq1 (fun r hr=>hp r (xF _ hr)) x hx.2⟩
   cases hc
  cases hc
 |[],_ :: _,ps,hc,_,_,_=>by simp [ckL] at hc
 |_ :: _,[],ps,hc,_,_,_=>by simp [ckL] at hc
end
end
end HX

namespace HX
open Go CX
variable {ro:Addr->Option V}
section
variable {C:Cx ro} {Y:St} {bar:Nat} {h:Nat->Option O} {nx:Nat} (hM:MSim C Y.objs Y.next bar h nx) {B:Bd}
include hM
theorem ckRegs_ok (hlo:B.lo<=B.nx) {S:List (Nat×SV)} {regs:T V} (hR:RegsS C Y.next S regs):∀(l:List (Nat×SV)) (ps:List Prop),ckRegs Y B S l=some ps->(∀p∈ps,p)->RegsS (C.ren B nx) B.nx l regs
 |[],ps,_,_,t,s,hl=>by simp [look] at hl
 |(t',v') :: r,ps,hc,hp,t,s,hl=>by
  simp only [ckRegs] at hc
  split at hc
  rotate_left
  ·cases hc
  rename_i v hv
  split at hc
  rotate_left
  ·cases hc
  rename_i p hp1
  split at hc
  next q hq1=>
   simp only [zA] at hc
   subst hc
   rw [look_cons] at hl
   split at hl
   next e=>
    simp only [zA] at hl
    subst e hl
    rcases hR _ _ hv with h0 |⟨u,u1,u2⟩
    ·subst h0
     exfalso
     cases v'<;>simp [ckSV] at hp1
    exact .inr ⟨u,u1,ckSV_ok hM hlo _ _ _ hp1 (fun r hr=>hp r (xO _ hr)) u u2⟩
   exact ckRegs_ok hlo hR r q hq1 (fun x hx=>hp x (xF _ hx)) t s hl
  cases hc
theorem ckOb_ok (hlo:B.lo<=B.nx) (hlon:B.lo<=Y.next) {i':Nat} {so':SO} {ps:List Prop} (hc:ckOb Y B i' so'=some ps) (hp:∀p∈ps,p) :
  i' < B.nx/\ObS (C.ren B nx) B.nx h nx i' so'/\(∀id,owns (C.ren B nx) i' so' id->∃i so,imgN B.lo B.s i'=some i/\look Y.objs i=some so/\owns C i so id):=by
 have ha:=Ag.ren C B nx
 unfold ckOb at hc
 split at hc
 ·split at hc
  next hk=>
   simp only [bltN_iff] at hk
   exact ⟨hk,trivial,fun id h=>absurd h owns_gone⟩
  cases hc
 ·split at hc
  rotate_left
  ·cases hc
  rename_i i hi
  split at hc
  rotate_left
  ·cases hc
  rename_i l hl
  split at hc
  rotate_left
  ·cases hc
  rename_i hk
  obtain ⟨a,b,c,d⟩:=ckNm_ok hM hk
  refine ⟨a,?_,fun id ho=>⟨i,_,hi,hl,by rcases ho with ho |ho;exact .inl ⟨trivial,by rw [<-c];exact ho.2⟩;exact ho.elim⟩⟩
  have hob:=hM.ob _ _ hl
  simp only [ObS] at hob ⊢
  obtain ⟨t,o1,o2⟩:=hob
  have key:∀(l' l:List SV) (ps:List Prop),ckL Y B l' l=some ps->(∀p∈ps,p)->l'.length=l.length/\∀(j:Nat) (s':SV),l'[j]?=some s'->∃(s:SV) (p:List Prop),l[j]?=some s/\ckSV Y B s' s=some p/\∀x∈p,x:=by
   intro l'
   induction l' with
   |nil=>
    intro l ps hc hp
    cases l with
    |nil=>exact ⟨rfl,fun j s' h=>by simp at h⟩
    |cons _ _=>simp [ckL] at hc
   |cons s' l' ih=>
    intro l ps hc hp
    cases l with
    |nil=>simp [ckL] at hc
    |cons s l=>
     simp only [ckL] at hc
     split at hc
     next p hp1=>
      split at hc
      next q hq1=>
       simp only [zA] at hc
       subst hc
       obtain ⟨h1,h2⟩:=ih l q hq1 (fun x hx=>hp x (xF _ hx))
       refine ⟨by simp [h1],fun j s'' hj=>?_⟩
       cases j with
       |zero=>
        simp only [zK,zA] at hj
        subst hj
        exact ⟨s,p,by simp,hp1,fun x hx=>hp x (xO _ hx)⟩
       |succ j=>
        obtain ⟨s2,p2,e1,e2⟩:=h2 j s'' (by simpa using hj)
        exact ⟨s2,p2,by simpa using e1,e2⟩
      cases hc
     cases hc
  obtain ⟨k1,k2⟩:=key _ _ _ hc hp
  refine ⟨t,by rw [c,k1];exact o1,fun j s' hj=>?_⟩
  obtain ⟨s,p,e1,e2,e3⟩:=k2 j s' hj
  obtain ⟨v,v1,v2,v3⟩:=o2 j s e1
  exact ⟨v,v1,v2,ckSV_ok hM hlo _ _ _ e2 e3 v v3⟩
 next og' ks' rows'=>
  split at hc
  next i hi=>
   split at hc
   next og ks rows hl=>
    split at hc
    next hk=>
     rw [zC] at hk
     have hks:=kds_eq hk.2
     subst hks
     obtain ⟨a,b,c,d⟩:=ckNm_ok hM hk.1
     simp only [zA] at hc
     subst hc
     have:=hp _ (.head _)
     subst this
     refine ⟨a,?_,fun id ho=>⟨i,_,hi,hl,by rcases ho with ho |ho;exact .inl ⟨by simpa only [ownS,d] using ho.1,by rw [<-c];exact ho.2⟩;exact ho.elim⟩⟩
     have hob:=hM.ob _ _ hl
     simp only [ObS,c,d] at hob ⊢
     exact hob
    cases hc
   cases hc
  split at hc
  next hk=>
   rw [zC] at hk
   obtain ⟨a,b,c⟩:=ckNil_ok hM hk.1
   simp only [zA] at hc
   subst hc
   have:=hp _ (.head _)
   subst this
   refine ⟨a,?_,fun id ho=>by rcases ho with ho |ho;exact absurd c ho.1;exact ho.elim⟩
   simp only [ObS]
   exact ⟨⟨zV hk.2,fun _ h=>(by cases h),by simp⟩,.inl ⟨trivial,c⟩⟩
  cases hc
 ·split at hc
  rotate_left
  ·cases hc
  rename_i og' ks' rows' rn' i hi
  split at hc
  rotate_left
  ·cases hc
  rename_i og ks rows rn hl
  split at hc
  rotate_left
  ·cases hc
  rename_i hk
  simp only [zC] at hk
  obtain ⟨⟨hk1,hk2⟩,hk3⟩:=hk
  have hks:=kds_eq hk2
  subst hks
  obtain ⟨a,b,c,d⟩:=ckNm_ok hM hk1
  obtain ⟨a2,b2,c2,d2⟩:=ckNm_ok hM hk3
  simp only [zA] at hc
  subst hc
  have:=hp _ (.head _)
  subst this
  refine ⟨a,?_,fun id ho=>⟨i,_,hi,hl,?_⟩⟩
  ·have hob:=hM.ob _ _ hl
   simp only [ObS,c,d,d2] at hob ⊢
   exact ⟨a2,hob.2⟩
  rcases ho with ho |ho
  ·exact .inl ⟨by simpa only [ownS,d] using ho.1,by rw [<-c];exact ho.2⟩
  exact .inr (by simpa only [subS,d2] using ho)
 ·cases hc
 ·split at hc
  rotate_left
  ·cases hc
  rename_i i hi
  split at hc
  next ks rows hl=>
   split at hc
   next hk=>
    rw [zC] at hk
    have hks:=kds_eq hk.2
    subst hks
    obtain ⟨a,b,c,d⟩:=ckNm_ok hM hk.1
    simp only [zA] at hc
    subst hc
    have:=hp _ (.head _)
    subst this
    refine ⟨a,?_,fun id ho=>by rcases ho with ho |ho;exact ho.1.elim;exact ho.elim⟩
    have hob:=hM.ob _ _ hl
    simp only [ObS,c,d] at hob ⊢
    exact hob
   cases hc
  cases hc
 ·split at hc
  rotate_left
  ·cases hc
  rename_i i hi
  split at hc
  rotate_left
  ·cases hc
  rename_i ka va kk vk ent hl
  split at hc
  rotate_left
  ·cases hc
  rename_i hk
  simp only [zC] at hk
  obtain ⟨hk,⟨hk1,hk2⟩,hk3,hk4⟩:=hk
  have hk1:=sameA_eq hk1
  have hk2:=sameA_eq hk2
  have hk3:=kds_eq hk3
  have hk4:=kds_eq hk4
  subst hk1 hk2 hk3 hk4
  obtain ⟨a,b,c,d⟩:=ckNm_ok hM hk
  simp only [zA] at hc
  subst hc
  have:=hp _ (.head _)
  subst this
  refine ⟨a,?_,fun id ho=>⟨i,_,hi,hl,by rcases ho with ho |ho;exact .inl ⟨trivial,by rw [<-c];exact ho.2⟩;exact ho.elim⟩⟩
  have hob:=hM.ob _ _ hl
  simp only [ObS,c] at hob ⊢
  exact hob
 ·split at hc
  next i hi=>
   split at hc
   next b hl=>
    split at hc
    next hk=>
     obtain ⟨a,b,c,d⟩:=ckNm_ok hM hk
     simp only [zA] at hc
     subst hc
     have:=hp _ (.head _)
     subst this
     refine ⟨a,?_,fun id ho=>⟨i,_,hi,hl,by rcases ho with ho |ho;exact .inl ⟨trivial,by rw [<-c];exact ho.2⟩;exact ho.elim⟩⟩
     have hob:=hM.ob _ _ hl
     simp only [ObS,c] at hob ⊢
     exact hob
    cases hc
   cases hc
  cases hc
 split at hc
 rotate_left
 ·cases hc
 rename_i i hi
 split at hc
 rotate_left
 ·cases hc
 rename_i st j nt regs ps0 a0 b0 d hl
 split at hc
 rotate_left
 ·cases hc
 rename_i hk
 simp only [zC,beqN_iff] at hk
 obtain ⟨⟨hk1,hk2⟩,rfl⟩:=hk
 obtain ⟨a,b,c,_⟩:=ckNm_ok hM hk1
 obtain ⟨a2,b2,c2,_⟩:=ckNm_ok hM hk2
 split at hc
 next q hq=>
  simp only [zA] at hc
  subst hc
  have e1:=hp _ (.head _)
  have e2:=hp _ (.tail _ (.head _))
  have e3:=hp _ (.tail _ (.tail _ (.head _)))
  have e4:=hp _ (.tail _ (.tail _ (.tail _ (.head _))))
  have e5:=hp _ (.tail _ (.tail _ (.tail _ (.tail _ (.head _)))))
  subst e1 e2 e3 e4 e5
  refine ⟨a,?_,fun id ho=>⟨i,_,hi,hl,by rcases ho with ho |ho;exact .inl ⟨trivial,by rw [<-c];exact ho.2⟩;exact ho.elim⟩⟩
  have hob:=hM.ob _ _ hl
  simp only [ObS,c,c2] at hob ⊢
  obtain ⟨h1,rg,h2,h3⟩:=hob
  exact ⟨a2,rg,h2,ckRegs_ok hM hlo h3 _ _ hq fun x hx=>hp x (.tail _ (.tail _ (.tail _ (.tail _ (.tail _ hx)))))⟩
 cases hc
theorem ckObjs_ok:∀(l:List (Nat×SO)) (ps:List Prop),ckObjs Y B l=some ps->(∀p∈ps,p)->∀i' so',look l i'=some so'->∃p,ckOb Y B i' so'=some p/\∀x∈p,x
 |[],ps,_,_,i',so',hl=>by simp [look] at hl
 |(i,x) :: r,ps,hc,hp,i',so',hl=>by
  simp only [ckObjs] at hc
  split at hc
  next p hp1=>
   split at hc
   next q hq1=>
    simp only [zA] at hc
    subst hc
    rw [look_cons] at hl
    split at hl
    next e=>
     simp only [zA] at hl
     subst e hl
     exact ⟨p,hp1,fun y hy=>hp y (xO _ hy)⟩
    exact ckObjs_ok r q hq1 (fun y hy=>hp y (xF _ hy)) i' so' hl
   cases hc
  cases hc
omit hM in
theorem imgs_mem:∀(l:List (Nat×SO)) (i':Nat) (so:SO) (i:Nat),look l i'=some so->(∀C:Cx ro,ownS C i' so->True)->so≠.gone->(∀ks rows,so≠.frz ks rows)->imgN B.lo B.s i'=some i->i∈imgs B l
 |[],i',so,i,hl,_,_,_,_=>by simp [look] at hl
 |(j,x) :: r,i',so,i,hl,h0,h1,h2,hi=>by
  rw [look_cons] at hl
  split at hl
  next e=>
   simp only [zA] at hl
   subst e hl
   cases x with
   |gone=>exact absurd rfl h1
   |frz ks rows=>exact absurd rfl (h2 ks rows)
   |_=>all_goals (simp only [imgs,hi];exact List.mem_cons_self)
  have ih:=imgs_mem r i' so i hl h0 h1 h2 hi
  unfold imgs
  split
  ·cases ‹(j,x) :: r=[]›
  next heq=>simp only [xL] at heq;obtain ⟨_,rfl⟩:=heq;exact ih
  next heq=>simp only [xL] at heq;obtain ⟨_,rfl⟩:=heq;exact ih
  rename_i heq
  simp only [xL] at heq
  obtain ⟨_,rfl⟩:=heq
  split
  ·exact List.mem_cons_of_mem _ ih
  exact ih
omit hM in
theorem imgs_inj:∀(l:List (Nat×SO)),(imgs B l).Nodup->∀(a b:Nat) (x y:SO) (i:Nat),a≠b->look l a=some x->look l b=some y->x≠.gone->(∀ks rows,x≠.frz ks rows)->y≠.gone->(∀ks rows,y≠.frz ks rows)->imgN B.lo B.s a=some i->imgN B.lo B.s b=some i->False
 |[],_,a,b,x,y,i,_,hl,_,_,_,_,_,_,_=>by simp [look] at hl
 |(j,z) :: r,hn,a,b,x,y,i,hab,hla,hlb,hx,hx',hy,hy',hia,hib=>by
  have hr:(imgs B r).Nodup:=by
   unfold imgs at hn
   split at hn
   ·cases ‹(j,z) :: r=[]›
   next heq=>simp only [xL] at heq;obtain ⟨_,rfl⟩:=heq;exact hn
   next heq=>simp only [xL] at heq;obtain ⟨_,rfl⟩:=heq;exact hn
   rename_i heq
   simp only [xL] at heq
   obtain ⟨_,rfl⟩:=heq
   split at hn
   ·exact (List.nodup_cons.1 hn).2
   exact hn
  have head:∀(w:SO),w≠.gone->(∀ks rows,w≠.frz ks rows)->z=w->imgN B.lo B.s j=some i->i∉imgs B r:=by
   intro w h1 h2 e hi
   subst e
   have:imgs B ((j,z) :: r)=i :: imgs B r:=by
    cases z with
    |gone=>exact absurd rfl h1
    |frz ks rows=>exact absurd rfl (h2 ks rows)
    |_=>all_goals simp only [imgs,hi]
   rw [this] at hn
   exact (List.nodup_cons.1 hn).1
  rw [look_cons] at hla hlb
  split at hla
  next e=>
   simp only [zA] at hla
   subst e
   split at hlb
   next e2=>exact hab e2
   exact head x hx hx' hla hia (imgs_mem (ro:=fun _=>none) r b y i hlb (fun _ _=>trivial) hy hy' hib)
  split at hlb
  next e=>
   simp only [zA] at hlb
   subst e
   exact head y hy hy' hlb hib (imgs_mem (ro:=fun _=>none) r a x i hla (fun _ _=>trivial) hx hx' hia)
  exact imgs_inj r hr a b x y i hab hla hlb hx hx' hy hy' hia hib
end
theorem ownS_ne {C:Cx ro} {nm:Nat} {so:SO} (h:ownS C nm so):so≠.gone/\∀ks rows,so≠.frz ks rows:=by
 cases so<;>simp_all [ownS]
theorem owns_ne {C:Cx ro} {nm id:Nat} {so:SO} (h:owns C nm so id):so≠.gone/\∀ks rows,so≠.frz ks rows:=by
 rcases h with h |h
 ·exact ownS_ne h.1
 cases so<;>simp_all [subS]
theorem subP_ok {lo:Nat} {Y T:St} (hs:subP lo Y T):Sub lo Y T:=by
 intro ro C S hS hlon
 unfold subP at hs
 split at hs
 rename_i s lo' nx' hB
 have hlo':lo'=lo:=by have:=congrArg Bd.lo hB;exact this.symm
 have hnx':nx'=T.next:=by have:=congrArg Bd.nx hB;exact this.symm
 subst hlo' hnx'
 split at hs
 ·exact hs.out.elim
 rename_i hb
 simp only [zC,beqN_iff,bltN_iff] at hb
 obtain ⟨⟨⟨b1,b2⟩,b3⟩,b4⟩:=hb
 split at hs
 rotate_left
 ·exact hs.out.elim
 rename_i p q hp hq
 have hall:=allP_ok _ hs
 have hM:=hS.m
 have hle:(⟨s,lo',T.next⟩:Bd).lo<=(⟨s,lo',T.next⟩:Bd).nx:=kW b2
 have hobs:=ckObjs_ok hM T.objs q hq (fun x hx=>hall x (xF _ hx))
 have ob:∀{i' so'},look T.objs i'=some so'->_:=fun {i' so'} hl=>(fun ⟨pp,h1,h2⟩=>ckOb_ok hM hle hlon h1 h2) (hobs i' so' hl)
 have hnd:=nodupN_ok b3
 refine ⟨C.ren ⟨s,lo',T.next⟩ S.nx,⟨by rw [hS.nt,b1],ckRegs_ok hM hle hS.regs T.regs p hp (fun x hx=>hall x (xO _ hx)),⟨fun nm so hl=>(ob hl).1,fun nm so hl=>(ob hl).2.1,fun nm so hl id ho=>?_,fun a b x y hla hlb id hoa hob=>?_,hM.fz,fun b hb=>?_,?_,hM.barle,((Ag.ren C ⟨s,lo',T.next⟩ S.nx).bd 0 (xZ _)).trans hM.z⟩,?_,?_⟩,⟨Ag.ren C ⟨s,lo',T.next⟩ S.nx,kW b2,zB _,fun _ _ _=>rfl,fun id hid=>?_,fun id o hg=>.inl hg⟩,rfl,fun _ h=>.inl h⟩
 ·obtain ⟨i,so0,h1,h2,h3⟩:=(ob hl).2.2 id ho
  exact hM.own' _ _ h2 _ h3
 ·obtain ⟨i,x0,h1,h2,h3⟩:=(ob hla).2.2 id hoa
  obtain ⟨j,y0,k1,k2,k3⟩:=(ob hlb).2.2 id hob
  have e:=hM.inj' _ _ _ _ h2 k2 _ h3 k3
  subst e
  exact Classical.byContradiction fun hne=>imgs_inj T.objs hnd a b x y i hne hla hlb (owns_ne hoa).1 (owns_ne hoa).2 (owns_ne hob).1 (owns_ne hob).2 h1 k1
 ·simp only [Cx.ren]
  split
  next hbl=>exact hM.bd b (zT hbl hlon)
  exact zB _
 ·simp only [Cx.ren]
  rw [if_neg (Nat.not_le.2 b2)]
 ·have own':∀id,OwnId (C.ren ⟨s,lo',T.next⟩ S.nx) T.objs id->OwnId C Y.objs id:=fun id hid=>by
   obtain ⟨nm,so,hl,ho⟩:=hid
   obtain ⟨i,so0,h1,h2,h3⟩:=(ob hl).2.2 id ho
   exact ⟨i,so0,h2,h3⟩
  have key:∀{l ids:List Nat},DfR C Y.objs S.bar S.h.get S.nx l ids->∀l',ckDf ⟨s,lo',T.next⟩ l' l=true->DfR (C.ren ⟨s,lo',T.next⟩ S.nx) T.objs S.bar S.h.get S.nx l' ids:=by
   intro l ids k
   induction k with
   |nil=>
    intro l' h
    cases l' with
    |nil=>exact .nil
    |cons _ _=>simp [ckDf] at h
   |nm he hi _ ih=>
    intro l' h
    cases l' with
    |nil=>simp [ckDf] at h
    |cons d' l'=>
     simp only [ckDf,zC] at h
     exact .nm ((ckNm_ok hM h.1).2.2.1.trans he) hi (ih l' h.2)
   |mk hx hn _ ih=>exact fun l' h=>.mk ⟨hx.1,hx.2.1,hx.2.2.1,fun ho=>hx.2.2.2.1 (own' _ ho),hx.2.2.2.2⟩ hn (ih l' h)
  exact key hS.df _ b4
 ·have key:∀(l' l:List Nat),ckDf ⟨s,lo',T.next⟩ l' l=true->∀d∈l',d < T.next:=by
   intro l'
   induction l' with
   |nil=>intro l h d hd;cases hd
   |cons d' l' ih=>
    intro l h d hd
    cases l with
    |nil=>simp [ckDf] at h
    |cons d0 l=>
     simp only [ckDf,zC] at h
     rcases zL.1 hd with rfl |hd
     ·exact (ckNm_ok hM h.1).1
     exact ih l h.2 d hd
  exact key _ _ b4
 obtain ⟨nm,so,hl,ho⟩:=hid
 obtain ⟨i,so0,h1,h2,h3⟩:=(ob hl).2.2 id ho
 exact .inl ⟨i,so0,h2,h3⟩
end HX

namespace HX
open Go CX
variable {ro:Addr->Option V}
mutual
def ShK:Kd->D->Prop
 |.int _,d=>∃n,d=.i n
 |.bool,d=>∃b,d=.b b
 |.str,d=>∃s,d=.s s
 |.fnc _,d=>d=.nil
 |.pt k,d=>ShK k d
 |.clo _ k,d=>ShK k d
 |.sl ks,d=>∃rows,d=.l rows/\(∀row∈rows,ShL ks row)/\rows.length<=9223372036854775807
def ShL:List Kd->List D->Prop
 |[],[]=>True
 |k :: ks,d :: ds=>ShK k d/\ShL ks ds
 |_,_=>False
end
def ShR (ks:List Kd) (rows:Rows):Prop:=(∀row∈rows,ShL ks row)/\rows.length<=9223372036854775807
mutual
theorem ShK.of {g:Nat->Option O} {B:Nat}:∀(k:Kd) (d:D) (v:V),FzC ro g B k d v->ShK k d
 |.int _,_,_,h=>by simp only [FzC] at h;simp only [ShK];exact h.1
 |.bool,_,_,h=>by simp only [FzC] at h;simp only [ShK];exact h.1
 |.str,_,_,h=>by simp only [FzC] at h;simp only [ShK];exact h.1
 |.fnc _,_,_,h=>by simp only [FzC] at h;simp only [ShK];exact h.1
 |.pt k,_,_,h=>by
  simp only [FzC] at h
  simp only [ShK]
  rcases h with ⟨_,_,_,_,u,_,_,_,_,_,h6⟩ |⟨_,u,_,_,h6⟩
  ·exact ShK.of k _ u h6
  exact ShK.of k _ u h6
 |.clo f k,_,_,h=>by
  simp only [FzC] at h
  simp only [ShK]
  rcases h with ⟨_,_,⟨_,_,_,_,u,_,_,_,_,_,h6⟩ |⟨_,u,_,_,h6⟩⟩
  ·exact ShK.of k _ u h6
  exact ShK.of k _ u h6
 |.sl ks,_,_,h=>by
  simp only [FzC] at h
  simp only [ShK]
  obtain ⟨⟨rows,rfl,hl⟩,h⟩:=h
  refine ⟨rows,rfl,fun row hr=>?_,hl.2⟩
  obtain ⟨i,hi,rfl⟩:=List.getElem_of_mem hr
  rcases h with ⟨h,_⟩ |⟨id,off,cap,_,_,_,_,t,m,_,_,h⟩ |⟨a,cap,_,_,_,h⟩
  ·simp only [D.rows] at h;subst h;simp at hi
  all_goals
   have:=ShL.of ks (gt rows i) _ 0 (h i hi) rows[i] (hl.1 _ hr) (fun j hj=>by simp [gt,zH,hi])
   exact this
theorem ShL.of {g:Nat->Option O} {B:Nat}:∀(ks:List Kd) (f:Nat->D) (u:Nat->Option V) (c:Nat),FzR ro g B ks f u c->∀row:List D,row.length=ks.length->(∀j,j < ks.length->f (c+j)=row.getD j .nil)->ShL ks row
 |[],_,_,_,_,row,hl,_=>by
  have:row=[]:=zS.1 hl
  subst this;trivial
 |k :: ks,f,u,c,h,row,hl,hf=>by
  simp only [FzR] at h
  cases row with
  |nil=>simp at hl
  |cons d row=>
   simp only [ShL]
   obtain ⟨⟨v,_,h1⟩,h2⟩:=h
   refine ⟨?_,ShL.of ks f u (c+1) h2 row (by simpa using hl) fun j hj=>?_⟩
   ·have:=hf 0 (by simp)
    simp only [kF,List.getD_cons_zero] at this
    rw [<-this];exact ShK.of k _ v h1
   have:=hf (j+1) (by simp;omega)
   rw [show c+1+j=c+(j+1) by omega,this];simp
end
def allK:Kd->(D->Prop)->Prop
 |.int _,K=>∀n:Int,K (.i n)
 |.bool,K=>∀b:Bool,K (.b b)
 |.str,K=>∀s:List Nat,K (.s s)
 |.fnc _,K=>K .nil
 |.pt k,K=>allK k K
 |.clo _ k,K=>allK k K
 |.sl ks,K=>∀rows:Rows,ShR ks rows->K (.l rows)
def allL:List Kd->(List D->Prop)->Prop
 |[],K=>K []
 |k :: ks,K=>allK k fun d=>allL ks fun l=>K (d :: l)
def allA:List (Bool×List Kd)->(List (List D)->Prop)->Prop
 |[],K=>K []
 |(_,ks) :: r,K=>allL ks fun d=>allA r fun l=>K (d :: l)
theorem allK_ok:∀{k:Kd} {K:D->Prop},allK k K->∀{d:D},ShK k d->K d
 |.int _,K,h,d,hd=>by simp only [ShK] at hd;simp only [allK] at h;obtain ⟨n,rfl⟩:=hd;exact h n
 |.bool,K,h,d,hd=>by simp only [ShK] at hd;simp only [allK] at h;obtain ⟨n,rfl⟩:=hd;exact h n
 |.str,K,h,d,hd=>by simp only [ShK] at hd;simp only [allK] at h;obtain ⟨n,rfl⟩:=hd;exact h n
 |.sl _,K,h,d,hd=>by simp only [ShK] at hd;simp only [allK] at h;obtain ⟨rows,rfl,hr⟩:=hd;exact h rows hr
 |.fnc _,K,h,d,hd=>by simp only [ShK] at hd;simp only [allK] at h;subst hd;exact h
 |.pt k,K,h,d,hd=>by simp only [ShK] at hd;simp only [allK] at h;exact allK_ok (k:=k) h hd
 |.clo _ k,K,h,d,hd=>by simp only [ShK] at hd;simp only [allK] at h;exact allK_ok (k:=k) h hd
theorem allL_ok:∀{ks:List Kd} {K:List D->Prop},allL ks K->∀{l:List D},ShL ks l->K l
 |[],K,h,[],_=>h
 |k :: ks,K,h,d :: l,hd=>by
  simp only [ShL] at hd
  exact allL_ok (K:=fun l=>K (d :: l)) (allK_ok h hd.1) hd.2
 |[],_,_,_ :: _,hd=>by simp [ShL] at hd
 |_ :: _,_,_,[],hd=>by simp [ShL] at hd
theorem ShL_arg {g:Nat->Option O} {B:Nat} {a:Bool} {ks:List Kd} {d:List D} {v:V} (hl:d.length=ks.length) (h:FzA ro g B a ks (fun c=>d.getD c .nil) v):ShL ks d:=by
 obtain ⟨x,x1,x2,_⟩:=h
 exact ShL.of (g:=g) (B:=B) ks (fun c=>d.getD c .nil) (fun j=>x[j]?) 0 (FzR.of _ _ _ _ fun j k hk=>by simpa using x2 j k hk) d hl (fun j _=>by simp)
theorem allA_ok {g:Nat->Option O} {B:Nat}:∀{ps:List (Bool×List Kd)} {K:List (List D)->Prop},allA ps K->∀{ds:List (List D)} {vs:List V},ArgsFz ro g B ps ds vs->K ds
 |[],K,h,[],_,_=>h
 |(a,ks) :: ps,K,h,d :: ds,v :: vs,hd=>by
  simp only [ArgsFz] at hd
  exact allA_ok (K:=fun l=>K (d :: l)) (allL_ok h (ShL_arg hd.1 hd.2.1)) hd.2.2
 |[],_,_,_ :: _,_,hd=>by simp [ArgsFz] at hd
 |_ :: _,_,_,[],_,hd=>by simp [ArgsFz] at hd
 |_ :: _,_,_,_ :: _,[],hd=>by simp [ArgsFz] at hd
def argC (b:Nat):Kd->D->SV
 |.int k,.i n=>.int k n
 |.bool,.b x=>.sym x
 |.str,.s x=>.str x
 |.fnc f,.nil=>.fn f [] []
 |.sl ks,.l rows=>.fz b ks rows
 |.pt k,d=>.fel b [k] [[d]] 0 0
 |.clo f k,d=>.fn f [] [.fel b [k] [[d]] 0 0]
 |_,_=>.unk
def argL (b:Nat):List Kd->List D->List SV
 |k :: ks,d :: ds=>argC b k d :: argL b ks ds
 |_,_=>[]
def argsSV (b:Nat):List (Bool×List Kd)->List (List D)->Option (List SV)
 |[],[]=>some []
 |(g,ks) :: ps,d :: ds=>match pack g (argL b ks d),argsSV b ps ds with
  |some v,some vs=>some (v :: vs)
  |_,_=>none
 |_,_=>none
def eqRow (f:Nat->D):List D->Nat->List Prop
 |[],_=>[]
 |d :: ds,c=>(f c=d) :: eqRow f ds (c+1)
def eqRes (r:Nat->Nat->D):List (List D)->Nat->List Prop
 |[],_=>[]
 |d :: ds,i=>eqRow (r i) d 0++eqRes r ds (i+1)
def whole:SV->SV
 |.vw nm _ _=>.slc nm
 |v=>v
def retD (A:Ar) (fn:Func) (sg:Sig) (r:Nat->Nat->D) (vs:List SV) (Y:St):Prop:=
 match argsD A Y false sg.results vs with
 |some ds=>allP (eqRes r ds 0)
 |none=>StuckR fn.name Y
def retRP (E:Env) (fn:Func) (sg:Sig) (r:Nat->Nat->D) (Y:St):Prop:=
 match takeS Y.df Y.objs with
 |some objs=>match resAll E (Y.mem objs Y.next) fn.results.toList with
  |some vs=>retD E.A fn sg r vs (Y.mem (frzL objs (vs.map whole)) Y.next)
  |none=>StuckR fn.name Y
 |none=>StuckR fn.name Y
def retX (E:Env) (fn:Func) (sg:Sig) (r:Nat->Nat->D):Ex->St->Prop
 |.ret,Y=>retRP E fn sg r Y
 |.normal,Y=>retRP E fn sg r Y
 |_,Y=>StuckR fn.name Y
def fnVC (b0 n0:Nat) (E:Env) (inl:Nat->Option Func) (n:Nat) (fn:Func) (sg:Sig) (r:Nat->Nat->D) (ds:List (List D)):Prop:=
 match fn.body with
 |some c=>match argsSV b0 sg.params ds with
  |some vs=>match bleN vs.length fn.ntmps with
   |true=>vc E none 0 (ciN E inl n) c (retX E fn sg r) ⟨fn.ntmps,enterS 0 vs,[],n0,[]⟩
   |false=>False
  |none=>False
 |none=>False
theorem argL_ok {C:Cx ro} {n b:Nat} (hb:b<=n):∀{ks:List Kd} {d:List D},ShL ks d->∀{x:List V},x.length=ks.length->(∀j k,ks[j]?=some k->∃u,x[j]?=some u/\FzC ro C.g (C.bd b) k (d.getD j .nil) u)->RvSL C n (argL b ks d) x
 |[],[],_,x,hx,_=>by
  have:x=[]:=zS.1 hx
  subst this;trivial
 |k :: ks,d :: ds,hd,x,hx,h=>by
  simp only [ShL] at hd
  cases x with
  |nil=>simp at hx
  |cons v x=>
   simp only [argL,RvSL]
   refine ⟨?_,argL_ok hb hd.2 (by simpa using hx) fun j k' hk=>?_⟩
   ·obtain ⟨u,h1,h2⟩:=h 0 k (by simp)
    simp only [zK,zA,List.getD_cons_zero] at h1 h2
    subst h1
    have hs:=hd.1
    cases k<;>simp only [ShK] at hs
    ·obtain ⟨n,rfl⟩:=hs;simp only [FzC] at h2;simp only [argC,RvS];exact h2.2
    ·obtain ⟨n,rfl⟩:=hs;simp only [FzC] at h2;simp only [argC,RvS];exact h2.2
    ·obtain ⟨n,rfl⟩:=hs;simp only [FzC] at h2;simp only [argC,RvS];exact h2.2
    ·obtain ⟨rows,rfl,_⟩:=hs;simp only [argC,RvS];exact ⟨hb,h2⟩
    ·subst hs;simp only [FzC] at h2;simp only [argC,RvS];exact ⟨[],[],trivial,trivial,h2.2⟩
    ·simp only [FzC] at h2
     simp only [argC,RvS]
     exact ⟨hb,h2.fel⟩
    simp only [FzC] at h2
    obtain ⟨w,rfl,h2⟩:=h2
    simp only [argC,RvS]
    exact ⟨[],[w],trivial,⟨by simp only [RvS];exact ⟨hb,h2.fel⟩,trivial⟩,rfl⟩
   obtain ⟨u,h1,h2⟩:=h (j+1) k' (by simpa using hk)
   exact ⟨u,by simpa using h1,by simpa using h2⟩
 |[],_ :: _,hd,_,_,_=>by simp [ShL] at hd
 |_ :: _,[],hd,_,_,_=>by simp [ShL] at hd
theorem argsSV_ok {C:Cx ro} {n b:Nat} (hb:b<=n):∀{ps:List (Bool×List Kd)} {ds:List (List D)} {l:List SV},argsSV b ps ds=some l->∀{x:List V},ArgsFz ro C.g (C.bd b) ps ds x->RvSL C n l x
 |[],[],l,h,x,hx=>by
  simp only [argsSV,zA] at h
  subst h
  cases x with
  |nil=>trivial
  |cons _ _=>simp [ArgsFz] at hx
 |(a,ks) :: ps,d :: ds,l,h,x,hx=>by
  simp only [argsSV] at h
  split at h
  rotate_left
  ·cases h
  rename_i s ss hs hss
  simp only [zA] at h
  subst h
  cases x with
  |nil=>simp [ArgsFz] at hx
  |cons v x=>
   simp only [ArgsFz] at hx
   simp only [RvSL]
   refine ⟨?_,argsSV_ok hb hss hx.2.2⟩
   have hsh:=ShL_arg hx.1 hx.2.1
   obtain ⟨y,y1,y2,y3⟩:=hx.2.1
   have hy:=argL_ok hb (C:=C) (n:=n) hsh y1 y2
   obtain ⟨u,u1,u2⟩:=pack_ok hs hy
   cases a with
   |true=>
    simp only at y3
    subst y3
    simp only [pack,zA] at hs
    subst hs
    simp only [RvS]
    exact ⟨y,hy,rfl⟩
   |false=>
    simp only at y3
    obtain ⟨w,rfl,rfl⟩:=y3
    unfold pack at hs
    simp only at hs
    split at hs
    next w' hw=>
     simp only [zA] at hs
     subst hs
     rw [hw] at hy
     simp only [RvSL] at hy
     exact hy.1
    cases hs
 |[],_ :: _,l,h,_,_=>by simp [argsSV] at h
 |_ :: _,[],l,h,_,_=>by simp [argsSV] at h
theorem eqRow_ok {f:Nat->D}:∀(ds:List D) (c:Nat),(∀p∈eqRow f ds c,p)->∀j,j < ds.length->f (c+j)=ds.getD j .nil
 |[],c,_,j,hj=>by simp at hj
 |d :: ds,c,h,j,hj=>by
  simp only [eqRow] at h
  cases j with
  |zero=>simpa using h _ (.head _)
  |succ j=>
   have:=eqRow_ok ds (c+1) (fun p hp=>h p (.tail _ hp)) j (by simpa using hj)
   rw [show c+(j+1)=c+1+j by omega,this];simp
theorem eqRes_ok {g:Nat->Option O} {B:Nat} {r:Nat->Nat->D}:∀{ps:List (Bool×List Kd)} {ds:List (List D)} {i:Nat},(∀p∈eqRes r ds i,p)->∀{x:List V},ArgsFz ro g B ps ds x->ResFz ro g B r ps i x
 |[],[],i,_,x,hx=>by
  cases x with
  |nil=>trivial
  |cons _ _=>simp [ArgsFz] at hx
 |(a,ks) :: ps,d :: ds,i,h,x,hx=>by
  cases x with
  |nil=>simp [ArgsFz] at hx
  |cons v x=>
   simp only [ArgsFz] at hx
   simp only [ResFz]
   simp only [eqRes] at h
   refine ⟨?_,eqRes_ok (fun p hp=>h p (xF _ hp)) hx.2.2⟩
   obtain ⟨y,y1,y2,y3⟩:=hx.2.1
   refine ⟨y,y1,fun j k hk=>?_,y3⟩
   obtain ⟨u,u1,u2⟩:=y2 j k hk
   have hj:j < d.length:=by rw [hx.1];exact (xB.1 hk).1
   have:=eqRow_ok d 0 (fun p hp=>h p (xO _ hp)) j hj
   rw [zO] at this
   exact ⟨u,u1,by rw [this];exact u2⟩
 |[],_ :: _,i,_,x,hx=>by simp [ArgsFz] at hx
 |_ :: _,[],i,_,x,hx=>by simp [ArgsFz] at hx
theorem of_vcG {E:Env} (hE:EnvOk E) {inl:Nat->Option Func} (hinl:∀f fn,inl f=some fn->E.E.fn f=some fn/\E.E.ext f=none) (n:Nat) {f:Nat} {fn:Func} {sg:Sig} {pre:List (List D)->Prop} {res:List (List D)->Nat->Nat->D} (hf:E.E.fn f=some fn/\E.E.ext f=none)
  (b0 n0:Nat) (hb0:b0<=n0) (h:allA sg.params fun ds=>pre ds->fnVC b0 n0 E inl n fn sg (res ds) ds) {ds:List (List D)} (hpre:pre ds) {g:Nat->Option O} {bar nx:Nat} {hp:T O} {args:List V} (C:Cx E.E.ro) (hCg:C.g=g) (hM:MSim C [] n0 bar hp.get nx)
  (hargs:ArgsFz E.E.ro C.g (C.bd b0) sg.params ds args) :
  ∃(vs:List V) (h':T O) (nx':Nat) (g':Nat->Option O),Evt (fun n=>∀k,callF E.E (cx E.E n) bar hp nx f args k=k (CX.one vs) h' nx')/\nx<=nx'/\(∀id,id < nx->h'.get id=hp.get id)/\(∀id o,g id=some o->g' id=some o)/\
   (∀id o,g' id=some o->(id < nx'/\h'.get id=some o)/\(g id=some o\/nx<=id))/\ResFz E.E.ro g' nx' (res ds) sg.results 0 vs:=by
 subst hCg
 have hvc:=allA_ok h hargs hpre
 unfold fnVC at hvc
 split at hvc
 rotate_left
 ·exact hvc.elim
 rename_i c hc
 split at hvc
 rotate_left
 ·exact hvc.elim
 rename_i vs hvs
 split at hvc
 rotate_left
 ·exact hvc.elim
 rename_i hle
 simp only [bleN_iff] at hle
 have hrel:RvSL C n0 vs args:=argsSV_ok hb0 hvs hargs
 obtain ⟨t',t1,t2⟩:=enter_ok (C:=C) (n:=n0) _ _ 0 .e [] hrel (fun t s h=>by simp [look] at h) (fun j s h=>by simp [look] at h)
 obtain ⟨e,S',C',Y',k1,k2,k3,k4⟩:=vc_ok hE (ciN_ok hE hinl n) (rd:=none) (lo:=0) c _ _ hvc C ⟨fn.ntmps,bar,t',hp,nx,[]⟩ ⟨rfl,fun j s hl=>.inr (t2 j s hl),hM,.nil,fun d hd=>by cases hd⟩ (xZ _) (fun l hl=>by cases hl)
 have none0:∀id,¬OwnId C [] id:=fun id h=>by obtain ⟨_,_,hl,_⟩:=h;simp [look] at hl
 have fin:retRP E fn sg (res ds) Y'->(e=.normal\/e=.ret)->∃(vs:List V) (h':T O) (nx':Nat) (g':Nat->Option O),Evt (fun n=>∀k,callF E.E (cx E.E n) bar hp nx f args k=k (CX.one vs) h' nx')/\nx<=nx'/\(∀id,id < nx->h'.get id=hp.get id)/\(∀id o,C.g id=some o->g' id=some o)/\
   (∀id o,g' id=some o->(id < nx'/\h'.get id=some o)/\(C.g id=some o\/nx<=id))/\ResFz E.E.ro g' nx' (res ds) sg.results 0 vs:=by
  intro hr he
  unfold retRP at hr
  split at hr
  rotate_left
  ·exact hr.out.elim
  rename_i objs ho
  split at hr
  rotate_left
  ·exact hr.out.elim
  rename_i rs hrs
  unfold retD at hr
  split at hr
  rotate_left
  ·exact hr.out.elim
  rename_i ds' hds
  obtain ⟨h',t1',t2',t3'⟩:=take_ok S'.df Y'.df Y'.objs objs S'.h ho k2.m k2.df k2.dflt
  obtain ⟨x,x1,x2⟩:=resAll_ok (Y:=Y'.mem objs Y'.next) hE t2' k2.regs fn.results.toList hrs
  obtain ⟨C2,m2,e2⟩:=t2'.frzL (rs.map whole)
  have hA:=argsD_ok hE.A (Y:=Y'.mem (frzL objs (rs.map whole)) Y'.next) m2 (fun _ _ h=>h) (fun e=>by cases e) hds (RvSL.ag e2.ag (zB _) _ _ x1)
  have hext:MExt C [] 0 hp.get nx C2 (frzL objs (rs.map whole)) Y'.next h'.get S'.nx:=yext (k3.m.took t3' (fun i hi=>(k3.df i hi).resolve_left (by intro h;cases h))) (MExt.refl _ _ _ _ _) ((MExt.refl _ _ _ _ _).less (xZ _)) e2
  have hbar':S'.bar=bar:=k3.bar
  refine ⟨x,h',S'.nx,C2.g,k1.mono fun n hn k=>?_,hext.nxle,fun id hid=>hext.keep id hid (none0 id),fun id o hgo=>hext.ag.g id o hgo,fun id o hgo=>⟨m2.fz id o hgo,?_⟩,eqRes_ok (allP_ok _ hr) hA⟩
  ·have hlen:Nat.ble (CX.len args) fn.ntmps=true:=bleT (by rw [len_eq,hrel.length];exact hle)
   have hn':cx E.E n none c ⟨fn.ntmps,bar,t',hp,nx,[]⟩=some (e,S'):=hn
   have hrun:outV (takeDf bar S'.df S'.h fun h=>resultsX E.E S'.regs h fn.results.toList fun l=>retV (CX.one l) h S'.nx) k=k (CX.one x) h' S'.nx:=by
    rw [<-hbar',t1',x2];rfl
   simp only [callF,hf.1,hf.2,hc,hlen,t1,hn']
   rcases he with rfl |rfl<;>exact hrun
  rcases hext.g id o hgo with h |h |h
  ·exact .inl h
  ·exact absurd h (none0 id)
  exact .inr h
 cases e with
 |normal=>exact fin k4 (.inl rfl)
 |ret=>exact fin k4 (.inr rfl)
 |exit i=>exact (StuckR.out k4).elim
theorem PureC.of_vc {E:Env} (hE:EnvOk E) {inl:Nat->Option Func} (hinl:∀f fn,inl f=some fn->E.E.fn f=some fn/\E.E.ext f=none) (n:Nat) {f:Nat} {fn:Func} {sg:Sig} {pre:List (List D)->Prop} {res:List (List D)->Nat->Nat->D} (hf:E.E.fn f=some fn/\E.E.ext f=none)
  (h:allA sg.params fun ds=>pre ds->fnVC 1 1 E inl n fn sg (res ds) ds):PureC E.E f sg pre res:=by
 intro ds hpre g bar nx hp args hg hbar hargs
 refine of_vcG hE hinl n hf 1 1 (zB _) h hpre (bar:=bar) ⟨fun _=>0,fun _=>.nils,g,fun b=>if b=0 then 0 else nx⟩ rfl ?_ hargs
 exact ⟨fun _ _ h=>by simp [look] at h,fun _ _ h=>by simp [look] at h,fun _ _ h=>by simp [look] at h,fun _ _ _ _ h=>by simp [look] at h,hg,fun b _=>by show (if b=0 then 0 else nx)<=nx;split<;>omega,rfl,hbar,rfl⟩
def PureC0 (E:CX.Env) (f:Nat) (sg:Sig) (pre:List (List D)->Prop) (fn:List (List D)->Nat->Nat->D):Prop:=
 ∀ds,pre ds->∀(args:List V),ArgsFz E.ro (fun _=>none) 0 sg.params ds args->
  ∃(vs:List V) (h':T O) (nx':Nat) (g':Nat->Option O),Evt (fun n=>∀k,callF E (cx E n) 0 .e 0 f args k=k (CX.one vs) h' nx')/\ResFz E.ro g' nx' (fn ds) sg.results 0 vs
theorem PureC0.of_vc {E:Env} (hE:EnvOk E) {inl:Nat->Option Func} (hinl:∀f fn,inl f=some fn->E.E.fn f=some fn/\E.E.ext f=none) (n:Nat) {f:Nat} {fn:Func} {sg:Sig} {pre:List (List D)->Prop} {res:List (List D)->Nat->Nat->D} (hf:E.E.fn f=some fn/\E.E.ext f=none)
  (h:allA sg.params fun ds=>pre ds->fnVC 0 0 E inl n fn sg (res ds) ds):PureC0 E.E f sg pre res:=by
 intro ds hpre args hargs
 obtain ⟨vs,h',nx',g',c1,_,_,_,_,c6⟩:=of_vcG hE hinl n hf 0 0 (zB _) h hpre (bar:=0) (hp:=.e) (nx:=0) ⟨fun _=>0,fun _=>.nils,fun _=>none,fun _=>0⟩ rfl
  ⟨fun _ _ h=>by simp [look] at h,fun _ _ h=>by simp [look] at h,fun _ _ h=>by simp [look] at h,fun _ _ _ _ h=>by simp [look] at h,fun _ _ h=>(by cases h),fun _ _=>zB _,rfl,zB _,rfl⟩ hargs
 exact ⟨vs,h',nx',g',c1,c6⟩
end HX

namespace HX
open Go CX
def addN (l:List Nat) (x:Nat):List Nat:=
 match memN x l with
 |true=>l
 |false=>l++[x]
def addAll (l:List Nat):List Nat->List Nat
 |[]=>l
 |x :: r=>addAll (addN l x) r
def asg:Code->List (Nat×Nat)
 |.region _ ops _=>ops.toList.filterMap fun o=>match o.dst with
  |some d=>some (d,o.type)
  |none=>none
 |.seq a b=>asg a++asg b
 |.cond _ a b=>asg a++asg b
 |.block _ a=>asg a
 |.loop a=>asg a
 |.scope a=>asg a
 |.rangeFunc _ ps a b=>(ps.toList.map fun p=>(p,0))++(asg a++asg b)
 |_=>[]
def fstsU (seen:List Nat):List (Nat×Nat)->List (Nat×Nat)
 |[]=>[]
 |(t,y) :: r=>match memN t seen with
  |true=>fstsU seen r
  |false=>(t,y) :: fstsU (t :: seen) r
def memF (t:Nat):List (Nat×Nat)->Bool
 |[]=>false
 |(x,_) :: r=>match beqN t x with
  |true=>true
  |false=>memF t r
def tmplV (E:Env) (Y:St) (b ty:Nat) (s:SV) (d:D) (n:Nat):Option (SV×List (Nat×SO)×Nat):=
 match s with
 |.int k _=>some (.int k d.int,[],n)
 |.bool _=>some (.sym d.boo,[],n)
 |.sym _=>some (.sym d.boo,[],n)
 |.str _=>some (.str d.str,[],n)
 |.slc nm=>match look Y.objs nm with
  |some (.arr _ ks _)=>some (.slc n,[(n,.arr n ks d.rows)],n+1)
  |some (.frz ks _)=>some (.fz b ks d.rows,[],n)
  |_=>none
 |.fz _ ks _=>some (.fz b ks d.rows,[],n)
 |.nils=>match eKs E ty with
  |some (ks,_)=>some (.slc n,[(n,.arr n ks d.rows)],n+1)
  |none=>none
 |_=>none
def tmplL (E:Env) (Y:St) (b:Nat):List Nat->List SV->List D->Nat->Option (List SV×List (Nat×SO)×Nat)
 |_,[],_,n=>some ([],[],n)
 |ty,s :: l,ds,n=>match (match ds with |d :: _=>tmplV E Y b (ty.headD 0) s d n |[]=>none) with
  |some (v,o,n)=>match tmplL E Y b (ty.drop 1) l (ds.drop 1) n with
   |some (vs,os,n)=>some (v :: vs,o++os,n)
   |none=>none
  |none=>match tmplL E Y b (ty.drop 1) l (ds.drop 1) n with
   |some (vs,os,n)=>some (s :: vs,os,n)
   |none=>none
def tmplA (E:Env) (Y:St) (b ty:Nat) (s:SV) (d:D) (n:Nat):Option (SV×List (Nat×SO)×Nat):=
 match s with
 |.agg l=>match tmplL E Y b [] l (d.rows.getD 0 []) n with
  |some (vs,os,n)=>some (.agg vs,os,n)
  |none=>none
 |s=>tmplV E Y b ty s d n
def dataV:SV->Bool
 |.int ..=>true
 |.bool _=>true
 |.sym _=>true
 |.str _=>true
 |.slc _=>true
 |.fz ..=>true
 |.nils=>true
 |.agg _=>true
 |_=>false
def carried (regs:List (Nat×SV)) (drop:List Nat):List (Nat×Nat)->List (Nat×Nat×SV)
 |[]=>[]
 |(t,y) :: r=>match memN t drop with
  |true=>carried regs drop r
  |false=>match look regs t with
   |some v=>match dataV v with
    |true=>(t,y,v) :: carried regs drop r
    |false=>carried regs drop r
   |none=>carried regs drop r
def newRegs (E:Env) (Y:St) (b:Nat):List (Nat×Nat×SV)->List D->Nat->List (Nat×SV)×List (Nat×SO)×Nat×List D
 |[],ds,n=>([],[],n,ds)
 |(t,y,v) :: r,ds,n=>match tmplA E Y b y v (ds.headD .nil) n with
  |some (v',o,n)=>match newRegs E Y b r (ds.drop 1) n with
   |(rs,os,n,ds)=>((t,v') :: rs,o++os,n,ds)
  |none=>newRegs E Y b r (ds.drop 1) n
def keepR (asl:List (Nat×Nat)) (seen:List Nat):List (Nat×SV)->List (Nat×SV)
 |[]=>[]
 |(t,v) :: r=>match memF t asl || memN t seen with
  |true=>keepR asl seen r
  |false=>(t,v) :: keepR asl (t :: seen) r
def newObjs (E:Env) (Y:St) (drop:List Nat) (b:Nat):List (Nat×List Nat)->List D->Nat->List (Nat×SO)×Nat
 |[],_,n=>([],n)
 |(nm,tys) :: r,ds,n=>match look Y.objs nm with
  |some (.cells l)=>match tmplL E Y b tys l ((ds.headD .nil).rows.getD 0 []) n with
   |some (vs,os,n)=>match newObjs E Y drop b r (ds.drop 1) n with
    |(os',n)=>((nm,.cells vs) :: (os++os'),n)
   |none=>newObjs E Y drop b r (ds.drop 1) n
  |some (.arr og ks _)=>match newObjs E Y drop b r (ds.drop 1) n with
   |(os',n)=>((nm,.arr og ks (ds.headD .nil).rows) :: os',n)
  |some (.mat og ks _ _ _)=>match newObjs E Y drop b r (ds.drop 1) (n+1) with
   |(os',n')=>((nm,.mat og ks (ds.headD .nil).rows n none) :: os',n')
  |some (.mp ka va kk vk _)=>match newObjs E Y drop b r (ds.drop 1) n with
   |(os',n)=>((nm,.mp ka va kk vk (ds.headD .nil).rows) :: os',n)
  |some (.loop st j nt regs ps a c d)=>match fstsU [] (asg a++asg c) with
   |asl=>match newRegs E Y b (carried regs drop asl) ds n with
    |(rs,os,n,ds)=>match newObjs E Y drop b r ds n with
     |(os',n)=>((nm,.loop st j nt (rs++keepR asl [] regs) ps a c d) :: (os++os'),n)
  |_=>newObjs E Y drop b r (ds.drop 1) n
mutual
def svNs:SV->List Nat
 |.ptr n _=>[n]
 |.el n _ _ _=>[n]
 |.mel n _=>[n]
 |.mrow n rn _=>[n,rn]
 |.slc n=>[n]
 |.vw n _ _=>[n]
 |.sc n _ _ _=>[n]
 |.map n=>[n]
 |.yield n=>[n]
 |.fn _ a b=>svNsL a++svNsL b
 |.iface _ v=>svNs v
 |.agg l=>svNsL l
 |.tup l=>svNsL l
 |_=>[]
def svNsL:List SV->List Nat
 |[]=>[]
 |v :: l=>svNs v++svNsL l
end
def regNs:List (Nat×SV)->List Nat
 |[]=>[]
 |(_,v) :: r=>svNs v++regNs r
def objNs:SO->List Nat
 |.cells l=>svNsL l
 |.loop _ _ _ regs _ _ _ d=>d :: regNs regs
 |_=>[]
def reach1 (lo:Nat) (s seen:List Nat):List (Nat×SO)->List Nat
 |[]=>s
 |(i,o) :: r=>match memN i seen with
  |true=>reach1 lo s seen r
  |false=>match bltN i lo || memN i s with
   |true=>reach1 lo (addAll s (objNs o)) (i :: seen) r
   |false=>reach1 lo s (i :: seen) r
def reach (lo:Nat) (objs:List (Nat×SO)):Nat->List Nat->List Nat
 |0,s=>s
 |n+1,s=>reach lo objs n (reach1 lo s [] objs)
def keepO (lo:Nat) (s seen:List Nat):List (Nat×SO)->List (Nat×SO)
 |[]=>[]
 |(i,o) :: r=>match memN i seen with
  |true=>keepO lo s seen r
  |false=>match o with
   |.gone=>keepO lo s (i :: seen) r
   |o=>match bltN i lo || memN i s with
    |true=>(i,o) :: keepO lo s (i :: seen) r
    |false=>keepO lo s (i :: seen) r
def maxN (a b:Nat):Nat:=
 match bltN a b with
 |true=>b
 |false=>a
def slcNs:List SV->List Nat
 |[]=>[]
 |.slc n :: r=>n :: slcNs r
 |_ :: r=>slcNs r
def replC:List (Nat×Nat×SV)->List Nat
 |[]=>[]
 |(_,_,v) :: r=>slcNs (flat v)++replC r
def replO (Y:St):List (Nat×List Nat)->List Nat
 |[]=>[]
 |(nm,_) :: r=>match look Y.objs nm with
  |some (.cells l)=>slcNs l++replO Y r
  |_=>replO Y r
def anyN (l:List Nat):List Nat->Bool
 |[]=>false
 |x :: r=>match memN x l with
  |true=>true
  |false=>anyN l r
def forget (l:List Nat):List (Nat×SV)->List (Nat×SV)
 |[]=>[]
 |(t,v) :: r=>match anyN l (svNs v) with
  |true=>forget l r
  |false=>(t,v) :: forget l r
def goneN:List (Nat×SO)->List Nat
 |[]=>[]
 |(i,.gone) :: r=>i :: goneN r
 |_ :: r=>goneN r
def updT (E:Env) (lo:Nat) (c:Code) (Y:St) (drop:List Nat) (names:List (Nat×List Nat)) (vals:List D):St:=
 match fstsU [] (asg c) with
 |asl=>match newRegs E Y (maxN lo Y.next+1) (carried Y.regs drop asl) vals (maxN lo Y.next+1) with
  |(rs,os,n,ds)=>match newObjs E Y drop (maxN lo Y.next+1) names ds n with
   |(os',n)=>match rs++forget (goneN Y.objs++(replC (carried Y.regs drop asl)++replO Y names)) (keepR asl [] Y.regs),os++(os'++Y.objs) with
    |regs,objs=>⟨Y.nt,regs,keepO lo (reach lo objs 4 (addAll (addAll [] (regNs regs)) Y.df)) (replC (carried Y.regs drop asl)++replO Y names) objs,maxN n (maxN lo Y.next+1),Y.df⟩
theorem le_maxN (a b:Nat):a<=maxN a b/\b<=maxN a b:=by
 unfold maxN
 split
 next h=>simp only [bltN_iff] at h;omega
 rename_i h;simp only [bltN_not] at h;omega
theorem updT_lo {E:Env} {lo:Nat} {c:Code} {Y:St} {drop:List Nat} {names:List (Nat×List Nat)} {vals:List D}:lo<=(updT E lo c Y drop names vals).next:=by
 unfold updT
 simp only
 exact zT (Nat.le_succ_of_le (le_maxN lo Y.next).1) (le_maxN _ _).2
def endQ (K:St->Prop) (Q:Ex->St->Prop):Ex->St->Prop
 |.normal,Y=>K Y
 |e,Y=>Q e Y
theorem Leaf.gen {E:CX.Env} {rd:Option Nat} {lo:Nat} {c:Code} {Q:Ex->St->Prop} {Y:St} (h:∀s,s=Y->Leaf E rd lo c Q s):Leaf E rd lo c Q Y:=h Y rfl
def lookAll (regs:List (Nat×SV)):List Nat->List SV
 |[]=>[]
 |t :: r=>match look regs t with
  |some v=>v :: lookAll regs r
  |none=>lookAll regs r
def frzT (ts:List Nat) (Y:St):St:=⟨Y.nt,Y.regs,frzL Y.objs (lookAll Y.regs ts),Y.next,Y.df⟩
theorem Sub.frz {lo:Nat} {Y T:St} (ts:List Nat) (h:Sub lo (frzT ts Y) T):Sub lo Y T:=by
 intro ro C S hS hlo
 obtain ⟨C1,m1,e1⟩:=hS.m.frzL (lookAll Y.regs ts)
 have hS1:Sim C1 (frzT ts Y) S:=⟨hS.nt,RegsS.ag e1.ag (zB _) hS.regs,m1,by
  exact hS.df.ext e1 hS.dflt,hS.dflt⟩
 have hx:Ext lo C Y S C1 (frzT ts Y) S:=⟨e1.less hlo,rfl,fun _ h=>.inl h⟩
 obtain ⟨C2,s1,s2⟩:=h ro C1 S hS1 hlo
 exact ⟨C2,s1,hx.trans s2⟩
theorem loopB {E:Env} (hE:EnvOk E) {inl:Nat->Option Func} (hinl:∀f fn,inl f=some fn->E.E.fn f=some fn/\E.E.ext f=none) {rd:Option Nat} {lo:Nat} (n:Nat) (fz drop:List Nat) (names:List (Nat×List Nat)) {c:Code} {Q:Ex->St->Prop} {Y:St} {X:Type} (vals:X->List D) (Inv:X->Prop) (μ:X->Nat) (x0:X) (h0:Inv x0)
  (hs:subP lo (frzT fz Y) (updT E lo c (frzT fz Y) drop names (vals x0)))
  (round:∀x,Inv x->∀K:St->Prop,(∀x' Y',Inv x'->μ x' < μ x->subP lo (frzT fz Y') (updT E lo c (frzT fz Y) drop names (vals x'))->K Y')->vc E rd lo (ciN E inl n) c (endQ K Q) (updT E lo c (frzT fz Y) drop names (vals x))) :
  Leaf E.E rd lo (.loop c) Q Y:=by
 refine ⟨loop_ok (fun x=>updT E lo c (frzT fz Y) drop names (vals x)) Inv μ x0 h0 ((subP_ok hs).frz fz) (fun _=>updT_lo) fun x hx=>?_⟩
 have e:loopQ lo (fun x=>updT E lo c (frzT fz Y) drop names (vals x)) Inv μ Q x=endQ (fun Y'=>∃x',Inv x'/\μ x' < μ x/\Sub lo Y' (updT E lo c (frzT fz Y) drop names (vals x'))) Q:=by
  funext e Y'
  cases e<;>rfl
 rw [e]
 exact vc_ok hE (ciN_ok hE hinl n) c _ _ (round x hx _ fun x' Y' h1 h2 h3=>⟨x',h1,h2,(subP_ok h3).frz fz⟩)
end HX

namespace HX
open Go CX
inductive BT (α:Type) where
 |e
 |n (l:BT α) (k:Nat) (v:α) (r:BT α)
def BT.get {α:Type}:BT α->Nat->Option α
 |.e,_=>none
 |.n l k v r,i=>match beqN i k with
  |true=>some v
  |false=>match bltN i k with
   |true=>l.get i
   |false=>r.get i
def BT.All {α:Type} (p:Nat->α->Prop):BT α->Prop
 |.e=>True
 |.n l k v r=>l.All p/\p k v/\r.All p
theorem BT.All.get {α:Type} {p:Nat->α->Prop}:∀{t:BT α},t.All p->∀{i:Nat} {v:α},t.get i=some v->p i v
 |.e,_,i,v,h=>by simp [BT.get] at h
 |.n l k v0 r,ha,i,v,h=>by
  simp only [BT.get] at h
  split at h
  next hb=>
   simp only [beqN_iff] at hb
   simp only [zA] at h
   subst hb h
   exact ha.2.1
  split at h
  ·exact BT.All.get ha.1 h
  exact BT.All.get ha.2.2 h
end HX
