/-
  Texts of the executors: HxMap, HxMapOk, HxSeq, HxDraw, HxVc, HxDrawOk, HxDrawOk2, HxVcOk.
-/
import Derived.Test.YtmnaiddobipclaaSensePacks5
set_option linter.all false
noncomputable section

namespace HX
open Go CX
variable {ro:Addr->Option V}
variable {E:Env} (hA:E.A=Ar.std)
include hA
theorem xmR_ok {ev:Operand->SV} {op:Op} {σ:St} {C:Cx E.E.ro} {bar:Nat} {hp:T O} {nx:Nat} (hM:MSim C σ.objs σ.next bar hp.get nx) {evc:Operand->Option V} (hev:EvOk C σ.next ev evc) {q:QR} (hq:xmR E σ ev op=some q) :
  ∃v,RvS C σ.next q.sv v/\∀k,opL E.E hp evc op k=k v:=by simp [xmR] at hq
theorem xmW_ok {ev:Operand->SV} {op:Op} {σ:St} {C:Cx E.E.ro} {bar:Nat} {hp:T O} {nx:Nat} (hM:MSim C σ.objs σ.next bar hp.get nx) {evc:Operand->Option V} (hev:EvOk C σ.next ev evc) {w:WR} (hw:xmW E σ ev op=some w) :
  ∃v C' h' nx',(∀k,opM E.E bar evc hp nx op k=k v h' nx')/\MSim C' w.objs w.next bar h'.get nx'/\MExt C σ.objs σ.next hp.get nx C' w.objs w.next h'.get nx'/\RvS C' w.next w.sv v:=by simp [xmW] at hw
end HX

namespace HX
open Go CX
variable {ro:Addr->Option V}
theorem dOfA0_ok {A:Ar} (hA:A=Ar.std) {C:Cx ro} {σ:St} {bar:Nat} {h:Nat->Option O} {nx:Nat} (hM:MSim C σ.objs σ.next bar h nx) {g:Nat->Option O} (hg:∀id o,C.g id=some o->g id=some o) {own:Bool} (hgo:own=true->∀id,id < nx->g id=h id)
  {k:Kd} {s:SV} {d:D} (hd:dOfA0 A σ own k s=some d) {v:V} (hs:RvS C σ.next s v):FzC ro g nx k d v:=by
 unfold dOfA0 at hd
 split at hd
 next ks nm=>
  split at hd
  next og ks' rows hl=>
   split at hd
   rotate_left
   ·cases hd
   rename_i hk
   rw [zC] at hk
   obtain ⟨hown0,hk⟩:=hk
   have hk:=kds_eq hk
   subst hk
   simp only [zA] at hd
   subst hd
   simp only [RvS] at hs
   obtain ⟨_,rfl,_⟩:=hs
   have hob:=hM.ob _ _ hl
   simp only [ObS] at hob
   simp only [FzC,D.rows]
   obtain ⟨hpos,hob⟩:=hob
   refine ⟨⟨_,rfl,hpos.2⟩,?_⟩
   have hpos:=hpos.1
   obtain ⟨hr,hh⟩ |⟨t,m,cap,hh,o1,o2,o3,o4⟩:=hob
   ·exact .inl ⟨hr,hh⟩
   have hown:ownS C nm (.arr og ks rows):=by simp only [ownS,hh];intro e;cases e
   refine .inr (.inl ⟨C.ids nm,0,cap,hh,hpos,fun c hc=>(o3 c hc).1,(hM.own _ _ hl hown).2.1,t,m,?_,by omega,fun i hi=>?_⟩)
   ·rw [hgo hown0 _ (hM.own _ _ hl hown).2.1];exact o1
   refine FzR.mono (fun id o _ h'=>hg id o h') (zB _) _ _ _ _ ?_
   exact FzR.cells _ _ _ _ 0 0 (fun j _=>by simp) _ (fun _=>rfl) (o4 i hi)
  next ks' rows hl=>
   split at hd
   next hk=>
    have hk:=kds_eq hk
    subst hk
    simp only [zA] at hd
    subst hd
    simp only [RvS] at hs
    obtain ⟨_,rfl,_⟩:=hs
    exact FzC.mono (fun id o _ h'=>hg id o h') (zB _) _ _ _ (hM.ob _ _ hl).2.1
   cases hd
  cases hd
 next ks nm lo n=>
  split at hd
  rotate_left
  ·cases hd
  rename_i ks' rows hl
  split at hd
  rotate_left
  ·cases hd
  rename_i hk
  have hk:=kds_eq hk
  subst hk
  simp only [zA] at hd
  subst hd
  subst hA
  have hob:=hM.ob _ _ hl
  simp only [ObS] at hob
  obtain ⟨hpos,hfz,_⟩:=hob
  refine FzC.mono (fun id o _ h'=>hg id o h') (zB _) _ _ _ ?_
  simp only [RvS,VwR] at hs
  simp only [FzC,D.rows] at hfz ⊢
  obtain ⟨⟨rows',hrr,hlr⟩,hfz⟩:=hfz
  cases hrr
  have hlr':LenR ks (Ar.std.sub' rows lo n):=⟨fun row hrow=>hlr.1 row (kZ (kK hrow)),by
   show (List.take n (List.drop lo rows)).length<=_
   rw [zM,xC];have:=hlr.2;omega⟩
  refine ⟨⟨_,rfl,hlr'⟩,?_⟩
  obtain ⟨_,⟨_,rfl,rfl⟩ |⟨es,len,cap0,off,cap,hh,rfl,hoff,hcap,hln⟩⟩:=hs
  ·exact .inl ⟨(List.take_zero:List.take 0 (List.drop lo rows)=[]),rfl⟩
  rw [hh] at hfz
  obtain ⟨_,h0⟩ |⟨id,o1,c1,h1,h2,h3,h4,t,m,g1,g2,g3⟩ |⟨a,c,h1,_⟩:=hfz
  ·cases h0
  ·simp only [V.slc.injEq] at h1
   obtain ⟨e1,e2,e3,e4,e5⟩:=h1
   subst e2
   have lenE:(Ar.std.sub' rows lo n).length=n:=by
    show (List.take n (List.drop lo rows)).length=n
    rw [zM,xC];omega
   refine .inr (.inl ⟨C.ids nm,off,cap,by rw [lenE],h2,fun c hc=>by rw [lenE];exact (hcap c hc).1,by rw [e1];exact h4,t,m,by rw [e1];exact g1,?_,fun i hi=>?_⟩)
   ·rw [lenE]
    rcases hoff with ⟨e,e'⟩ |e
    ·rw [e,e'];omega
    rw [e,<-zV]
    exact zY (zR _ (show lo+n<=rows.length by omega)) (by omega)
   rw [lenE] at hi
   have e:off=lo * ks.length:=by rcases hoff with h |h;omega;exact h
   have gE:gt (Ar.std.sub' rows lo n) i=gt rows (lo+i):=by
    funext c
    show ((List.take n (List.drop lo rows)).getD i []).getD c .nil=_
    simp only [gt,zI]
    rw [xO,if_pos hi,xT]
   rw [gE,e,<-zV]
   have:=g3 (lo+i) (by omega)
   rw [<-e3,zU] at this
   exact this
  cases h1
 exact FzC.mono (fun id o _ h'=>hg id o h') (zB _) _ _ _ (dOf_ok hM hd hs)
theorem dOfA_ok {A:Ar} (hA:A=Ar.std) {C:Cx ro} {σ:St} {bar:Nat} {h:Nat->Option O} {nx:Nat} (hM:MSim C σ.objs σ.next bar h nx) {g:Nat->Option O} (hg:∀id o,C.g id=some o->g id=some o) {own:Bool} (hgo:own=true->∀id,id < nx->g id=h id)
  {k:Kd} {s:SV} {d:D} (hd:dOfA A σ own k s=some d) {v:V} (hs:RvS C σ.next s v):FzC ro g nx k d v:=by
 unfold dOfA at hd
 split at hd
 rotate_left
 ·exact dOfA0_ok hA hM hg hgo hd hs
 rename_i k nm off
 cases ho:own with
 |false=>subst ho;simp at hd
 |true=>
  subst ho
  cases hl:look σ.objs nm with
  |none=>rw [hl] at hd;simp at hd
  |some so=>
   rw [hl] at hd
   cases so with
   |cells l=>
    simp only at hd
    split at hd
    next s' hs'=>
     simp only [RvS] at hs
     obtain ⟨_,rfl⟩:=hs
     have hob:=hM.ob _ _ hl
     simp only [ObS] at hob
     obtain ⟨t,o1,o2⟩:=hob
     obtain ⟨u,u1,_,u3⟩:=o2 off s' hs'
     have hlt:=(hM.own _ _ hl trivial).2.1
     simp only [FzC]
     exact ⟨C.ids nm,off,t,l.length,u,rfl,hlt,by rw [hgo rfl _ hlt];exact o1,(xD.1 hs').1,u1,dOfA0_ok hA hM hg hgo hd u3⟩
    cases hd
   |_=>simp at hd
theorem dListA_ok {A:Ar} (hA:A=Ar.std) {C:Cx ro} {σ:St} {bar:Nat} {h:Nat->Option O} {nx:Nat} (hM:MSim C σ.objs σ.next bar h nx) {g:Nat->Option O} (hg:∀id o,C.g id=some o->g id=some o) {own:Bool} (hgo:own=true->∀id,id < nx->g id=h id) :
  ∀{ks:List Kd} {l:List SV} {ds:List D},dListA A σ own ks l=some ds->∀{x:List V},RvSL C σ.next l x->(x.length=ks.length/\ds.length=ks.length)/\∀j k,ks[j]?=some k->∃v,x[j]?=some v/\FzC ro g nx k (ds.getD j .nil) v
 |[],[],ds,hd,x,hx=>by
  simp only [dListA,zA] at hd
  subst hd
  cases x with
  |nil=>exact ⟨⟨rfl,rfl⟩,fun j k hk=>by simp at hk⟩
  |cons _ _=>simp [RvSL] at hx
 |k :: ks,s :: l,ds,hd,x,hx=>by
  simp only [dListA] at hd
  split at hd
  rotate_left
  ·cases hd
  rename_i d hd1
  split at hd
  rotate_left
  ·cases hd
  rename_i ds' hd2
  simp only [zA] at hd
  subst hd
  cases x with
  |nil=>simp [RvSL] at hx
  |cons v x=>
   simp only [RvSL] at hx
   obtain ⟨h1,h2⟩:=dListA_ok hA hM hg hgo hd2 hx.2
   refine ⟨⟨by simp [h1.1],by simp [h1.2]⟩,fun j k' hk=>?_⟩
   cases j with
   |zero=>
    simp only [zL,zA] at hk
    subst hk
    exact ⟨v,by simp,by simpa using dOfA_ok hA hM hg hgo hd1 hx.1⟩
   |succ j=>
    obtain ⟨v',a,b⟩:=h2 j k' (by simpa using hk)
    exact ⟨v',by simpa using a,by simpa using b⟩
 |[],_ :: _,ds,hd,_,_=>by simp [dListA] at hd
 |_ :: _,[],ds,hd,_,_=>by simp [dListA] at hd
theorem argsD_ok {A:Ar} (hA:A=Ar.std) {C:Cx ro} {σ:St} {bar:Nat} {h:Nat->Option O} {nx:Nat} (hM:MSim C σ.objs σ.next bar h nx) {g:Nat->Option O} (hg:∀id o,C.g id=some o->g id=some o) {own:Bool} (hgo:own=true->∀id,id < nx->g id=h id) :
  ∀{ps:List (Bool×List Kd)} {l:List SV} {ds:List (List D)},argsD A σ own ps l=some ds->∀{x:List V},RvSL C σ.next l x->ArgsFz ro g nx ps ds x
 |[],[],ds,hd,x,hx=>by
  simp only [argsD,zA] at hd
  subst hd
  cases x with
  |nil=>trivial
  |cons _ _=>simp [RvSL] at hx
 |(a,ks) :: ps,s :: l,ds,hd,x,hx=>by
  simp only [argsD] at hd
  split at hd
  rotate_left
  ·cases hd
  rename_i ha
  split at hd
  rotate_left
  ·cases hd
  rename_i d hd1
  split at hd
  rotate_left
  ·cases hd
  rename_i ds' hd2
  simp only [zA] at hd
  subst hd
  cases x with
  |nil=>simp [RvSL] at hx
  |cons v x=>
   simp only [RvSL] at hx
   simp only [ArgsFz]
   obtain ⟨⟨h1,h0⟩,h2⟩:=dListA_ok hA hM hg hgo hd1 hx.1.flat
   refine ⟨h0,?_,argsD_ok hA hM hg hgo hd2 hx.2⟩
   have ha:=eq_of_beq ha
   refine ⟨CX.flat v,h1,h2,?_⟩
   cases s with
   |agg l=>
    have hv:=hx.1
    simp only [RvS] at hv
    obtain ⟨y,hy,rfl⟩:=hv
    have:a=true:=ha
    subst this;rfl
   |_=>
    all_goals
     have:a=false:=ha
     subst this
     have hlen:=hx.1.flat.length
     simp only [flat,zH,zK] at hlen
     have hv:=hx.1
     refine ⟨v,?_,rfl⟩
     cases v<;>first |rfl |skip
     all_goals (exfalso;simp [RvS,VwR,FelR,FzC,isHdr] at hv)
 |[],_ :: _,ds,hd,_,_=>by simp [argsD] at hd
 |_ :: _,[],ds,hd,_,_=>by simp [argsD] at hd
theorem resSV_ok {E:Env} (hA:E.A=Ar.std) {C:Cx ro} {n b:Nat} (hb:b<=n) {f:Nat->Nat->D}:∀(ps:List (Bool×List Kd)) (i:Nat) {l:List SV},resSV E.A b f ps i=some l->∀{x:List V},ResFz ro C.g (C.bd b) f ps i x->RvSL C n l x
 |[],i,l,h,x,hx=>by
  simp only [resSV,zA] at h
  subst h
  cases x with
  |nil=>trivial
  |cons _ _=>simp [ResFz] at hx
 |(g,ks) :: ps,i,l,h,x,hx=>by
  simp only [resSV] at h
  split at h
  rotate_left
  ·cases h
  rename_i s hs
  split at h
  rotate_left
  ·cases h
  rename_i ss hss
  simp only [zA] at h
  subst h
  cases x with
  |nil=>simp [ResFz] at hx
  |cons v x=>
   simp only [ResFz] at hx
   simp only [RvSL]
   refine ⟨?_,resSV_ok hA hb ps (i+1) hss hx.2⟩
   obtain ⟨⟨y,y1,y2,y3⟩,_⟩:=hx
   have hcells:RvSL C n (mkCells E.A b ks (f i) 0) y:=by
    obtain ⟨z,z1,z2,z3⟩:=mkCells_ok hA hb ks (f i) (fun j=>y[j]?) 0 (FzR.of _ _ _ _ fun j k hk=>by
     obtain ⟨u,a,b⟩:=y2 j k hk
     exact ⟨u,by simpa using a,by simpa using b⟩)
    have:z=y:=by
     refine qO fun j=>?_
     by_cases hj:j < ks.length
     ·rw [<-z3 j hj];simp
     rw [kV (by omega),kV (by omega)]
    rw [<-this];exact z1
   cases g with
   |true=>
    simp only [pack,zA] at hs
    subst hs
    simp only at y3
    simp only [RvS]
    exact ⟨y,hcells,y3⟩
   |false=>
    simp only at y3
    obtain ⟨u,rfl,rfl⟩:=y3
    unfold pack at hs
    simp only at hs
    split at hs
    next w hw=>
     simp only [zA] at hs
     subst hs
     rw [hw] at hcells
     simp only [RvSL] at hcells
     exact hcells.1
    cases hs
theorem RvSL_one {C:Cx ro} {n:Nat} {l:List SV} {x:List V} (h:RvSL C n l x):RvS C n (one l) (CX.one x):=by
 match l,x,h with
 |[],[],_=>simp only [one,CX.one,RvS];exact ⟨[],trivial,rfl⟩
 |[s],[v],h=>simp only [RvSL] at h;exact h.1
 |a :: b :: l,c :: d :: x,h=>simp only [one,CX.one,RvS];exact ⟨_,h,rfl⟩
 |[],_ :: _,h=>simp [RvSL] at h
 |_ :: _,[],h=>simp [RvSL] at h
 |[_],_ :: _ :: _,h=>simp [RvSL] at h
 |_ :: _ :: _,[_],h=>simp [RvSL] at h
theorem FzC_scalar {g g':Nat->Option O} {B B':Nat} {k:Kd} (hk:scalarK k=true) {d:D} {v:V} (h:FzC ro g B k d v):FzC ro g' B' k d v:=by
 cases k<;>simp only [scalarK] at hk<;>first |(simp only [FzC] at h ⊢;exact h) |cases hk
theorem ResFz_scalar {g g':Nat->Option O} {B B':Nat} {f:Nat->Nat->D}:∀{ps:List (Bool×List Kd)} {i:Nat} {x:List V},(ps.all fun r=>r.2.all scalarK)=true->ResFz ro g B f ps i x->ResFz ro g' B' f ps i x
 |[],_,[],_,_=>trivial
 |(a,ks) :: ps,i,v :: x,hs,h=>by
  simp only [kA,zC] at hs
  simp only [ResFz] at h ⊢
  refine ⟨?_,ResFz_scalar hs.2 h.2⟩
  obtain ⟨y,y1,y2,y3⟩:=h.1
  refine ⟨y,y1,fun j k hk=>?_,y3⟩
  obtain ⟨u,a1,a2⟩:=y2 j k hk
  exact ⟨u,a1,FzC_scalar (qG.1 hs.1 k (List.mem_of_getElem? hk)) a2⟩
 |[],_,_ :: _,_,h=>by simp [ResFz] at h
 |_ :: _,_,[],_,h=>by simp [ResFz] at h
theorem MSim.bump {C:Cx ro} {objs:List (Nat×SO)} {n bar:Nat} {h h':Nat->Option O} {nx nx':Nat} (hM:MSim C objs n bar h nx) (hnx:nx<=nx') (hh:∀id,id < nx->h' id=h id) {g':Nat->Option O} (hg:∀id o,C.g id=some o->g' id=some o)
  (hg':∀id o,g' id=some o->(id < nx'/\h' id=some o)/\(C.g id=some o\/nx<=id)) :
  MSim (ro:=ro) ⟨C.ids,C.hdr,g',fun b=>if b=n+1 then nx' else C.bd b⟩ objs (n+1) bar h' nx'/\MExt C objs n h nx ⟨C.ids,C.hdr,g',fun b=>if b=n+1 then nx' else C.bd b⟩ objs (n+1) h' nx':=by
 have ha:Ag n C ⟨C.ids,C.hdr,g',fun b=>if b=n+1 then nx' else C.bd b⟩:=⟨fun _ _=>rfl,fun _ _=>rfl,fun b hb=>if_neg (by omega),hg⟩
 have ho:∀{nm so id},look objs nm=some so->owns ⟨C.ids,C.hdr,g',fun b=>if b=n+1 then nx' else C.bd b⟩ nm so id->owns C nm so id:=fun hl h=>(owns_ag ha (hM.lt _ _ hl) (hM.rn hl)).1 h
 refine ⟨⟨fun nm so hl=>Nat.lt_succ_of_lt (hM.lt _ _ hl),fun nm so hl=>?_,fun nm so hl id hw=>?_,fun a b s s' hla hlb id hoa hob=>hM.inj' _ _ _ _ hla hlb _ (ho hla hoa) (ho hlb hob),fun id o hgo=>(hg' id o hgo).1,fun b hb=>?_,if_pos rfl,zY hM.barle hnx,(ha.bd 0 (xZ _)).trans hM.z⟩,ha,zZ _,hnx,fun id hid _=>hh id hid,fun id hid=>?_,fun id o hgo=>?_⟩
 ·exact ObS.mono ha (zZ _) hnx (hM.lt _ _ hl) (fun id hw=>hh _ (hM.own' _ _ hl _ hw).2.1) (hM.ob _ _ hl)
 ·obtain ⟨a,b,c⟩:=hM.own' _ _ hl _ (ho hl hw)
  refine ⟨a,xJ b hnx,?_⟩
  cases e:g' id with
  |none=>exact e
  |some o=>
   rcases (hg' _ _ e).2 with h |h
   ·rw [c] at h;cases h
   omega
 ·show (if b=n+1 then nx' else C.bd b)<=nx'
  split
  ·exact zB _
  have:=hM.bd b (by omega);omega
 ·obtain ⟨nm,so,hl,hw⟩:=hid
  exact .inl ⟨nm,so,hl,ho hl hw⟩
 rcases (hg' id o hgo).2 with h |h
 ·exact .inl h
 exact .inr (.inr h)
section
variable {E:Env} (hE:EnvOk E)
include hE
def CallQ (E:CX.Env) (run:Nat->(V->T O->Nat->R)->R) (C:Cx E.ro) (σ:St) (bar:Nat) (h:Nat->Option O) (nx:Nat) (K:SV->St->Prop):Prop:=
 ∃(v:V) (C':Cx E.ro) (h':T O) (nx':Nat) (s:SV) (σ':St),Evt (fun n=>∀k,run n k=k v h' nx')/\MSim C' σ'.objs σ'.next bar h'.get nx'/\MExt C σ.objs σ.next h nx C' σ'.objs σ'.next h'.get nx'/\RvS C' σ'.next s v/\
  σ'.nt=σ.nt/\σ'.regs=σ.regs/\σ'.df=σ.df/\K s σ'/\∀id,id < nx->h'.get id=h id
omit hE in
theorem CallQ.ok {E:CX.Env} {run:Nat->(V->T O->Nat->R)->R} {C:Cx E.ro} {σ:St} {bar:Nat} {h:Nat->Option O} {nx:Nat} {K:SV->St->Prop} (hq:CallQ E run C σ bar h nx K):CallOk E run C σ bar h nx K:=
 let ⟨a,b,c,d,e,f,h1,h2,h3,h4,h5,h6,h7,h8,_⟩:=hq
 ⟨a,b,c,d,e,f,h1,h2,h3,h4,h5,h6,h7,h8⟩
theorem ctr_ok {f:Nat} {sg:Sig} (hs:E.sig f=some sg) {σ:St} {args:List SV} {ds:List (List D)} (hd:argsD E.A σ (scalarR sg) sg.params args=some ds) {vs:List SV} (hr:resSV E.A (σ.next+1) (E.fn f ds) sg.results 0=some vs) (hp:E.pre f ds)
  {C:Cx E.E.ro} {bar barv:Nat} {h:T O} {nx:Nat} (hM:MSim C σ.objs σ.next bar h.get nx) (hbv:barv<=nx) {va:List V} (ha:RvSL C σ.next args va) {K:SV->St->Prop} (hK:K (one vs) (σ.mem σ.objs (σ.next+1))) :
  CallQ E.E (fun n k=>callF E.E (cx E.E n) barv h nx f va k) C σ bar h.get nx K:=by
 have hC:=hE.ctr f sg hs ds hp
 cases hsc:scalarR sg with
 |true=>
  rw [hsc] at hd
  obtain ⟨xs,h',nx',g',c1,c2,c3,c4,c5,c6⟩:=hC (fun id=>if id < nx then h.get id else none) barv nx h va (fun id o hg=>by
   split at hg
   next hlt=>exact ⟨hlt,hg⟩
   cases hg) hbv (argsD_ok hE.A hM (fun id o hg=>by
   obtain ⟨a,b⟩:=hM.fz _ _ hg
   rw [if_pos a];exact b) (fun _ id hlt=>if_pos hlt) hd ha)
  obtain ⟨a,b⟩:=hM.bump c2 c3 (g':=C.g) (fun _ _ h=>h) (fun id o hg=>by
   obtain ⟨p,q⟩:=hM.fz _ _ hg
   exact ⟨⟨by omega,by rw [c3 _ p];exact q⟩,.inl hg⟩)
  refine ⟨_,_,h',nx',one vs,σ.mem σ.objs (σ.next+1),c1,a,b,?_,rfl,rfl,rfl,hK,c3⟩
  exact RvSL_one (resSV_ok hE.A (zB _) _ _ hr (ResFz_scalar hsc c6))
 |false=>
  rw [hsc] at hd
  obtain ⟨xs,h',nx',g',c1,c2,c3,c4,c5,c6⟩:=hC C.g barv nx h va (fun id o hg=>hM.fz _ _ hg) hbv (argsD_ok hE.A hM (fun _ _ h=>h) (fun e=>by cases e) hd ha)
  obtain ⟨a,b⟩:=hM.bump c2 c3 c4 c5
  refine ⟨_,_,h',nx',one vs,σ.mem σ.objs (σ.next+1),c1,a,b,?_,rfl,rfl,rfl,hK,c3⟩
  refine RvSL_one (resSV_ok hE.A (zB _) _ _ hr ?_)
  show ResFz E.E.ro g' (if σ.next+1=σ.next+1 then nx' else C.bd (σ.next+1)) _ _ _ _
  rw [if_pos rfl];exact c6
theorem callC_ok {sg:Sig} {g:Nat} (hs:E.sig g=some sg) {args:List SV} {σ:St} {K:SV->St->Prop} (h:callC E sg g args K σ) {C:Cx E.E.ro} {bar barv:Nat} {hp:T O} {nx:Nat} (hM:MSim C σ.objs σ.next bar hp.get nx) (hbv:barv<=nx) {va:List V} (ha:RvSL C σ.next args va) :
  CallQ E.E (fun n k=>callF E.E (cx E.E n) barv hp nx g va k) C σ bar hp.get nx K:=by
 rw [callC_eq] at h
 split at h
 next ds hd=>
  split at h
  next vs hv=>
   exact ctr_ok hE hs hd hv h.1 hM hbv ha h.2
  exact h.out.elim
 exact h.out.elim
omit hE in
theorem pairs_un:∀p:List (Int×Int),pairs (unpairs p)=some p
 |[]=>rfl
 |a :: p=>by simp only [unpairs,pairs,pairs_un p]
omit hE in
theorem unpairs_get:∀(p:List (Int×Int)) (i:Nat),i < p.length->(unpairs p)[i * 2]?=some (.int .i64 (p.getD i (0,0)).1)/\(unpairs p)[i * 2+1]?=some (.int .i64 (p.getD i (0,0)).2)
 |[],i,h=>by simp at h
 |a :: p,0,_=>⟨rfl,rfl⟩
 |a :: p,i+1,h=>by
  have:=unpairs_get p i (by simpa using h)
  rw [show (i+1) * 2=i * 2+1+1 by omega]
  simp only [unpairs,kI,List.getD_cons_succ]
  exact this
omit hE in
theorem psort_len (l:List (Int×Int)):(psort l).length=l.length:=List.length_mergeSort l
omit hE in
theorem oneAll_un:∀p:List (Int×Int),oneAll (unpairs p)=true
 |[]=>rfl
 |a :: p=>by simp only [unpairs,oneAll,one1,oneAll_un p]
theorem callT_ok {g c:Nat} (hx:E.E.ext g=some (.sort c)) {l:List SV} {σ:St} {K:SV->St->Prop} (h:callT E c g l σ K) {C:Cx E.E.ro} {bar:Nat} {hp:T O} {nx:Nat} (hM:MSim C σ.objs σ.next bar hp.get nx) {va:List V} (ha:RvSL C σ.next l va) :
  CallOk E.E (fun n k=>callF E.E (cx E.E n) bar hp nx g va k) C σ bar hp.get nx K:=by
 obtain ⟨fn,b,hf1,hf2,hf3⟩:=hE.srt g c hx
 have hA:=hE.A
 unfold callT at h
 split at h
 rotate_left
 ·exact h.out.elim
 rename_i s c'
 split at h
 rotate_left
 ·exact h.out.elim
 rename_i hc
 simp only [beqN_iff] at hc
 subst hc
 have hva:∃v,RvS C σ.next s v/\va=[v,.fn (.func c) [] []]:=by
  match va,ha with
  |[v,u],ha=>
   simp only [RvSL,and_true] at ha
   obtain ⟨a1,a2⟩:=ha
   simp only [RvS] at a2
   obtain ⟨x,y,hx,hy,rfl⟩:=a2
   cases x with
   |cons _ _=>simp [RvSL] at hx
   |nil=>
    cases y with
    |cons _ _=>simp [RvSL] at hy
    |nil=>exact ⟨v,a1,rfl⟩
  |[],ha=>simp [RvSL] at ha
  |[_],ha=>simp [RvSL] at ha
  |_ :: _ :: _ :: _,ha=>simp [RvSL] at ha
 obtain ⟨v,hv,rfl⟩:=hva
 have run:∀n k,callF E.E (cx E.E n) bar hp nx g [v,.fn (.func c) [] []] k=sortX bar hp nx c [v,.fn (.func c) [] []] k:=fun n k=>by
  have e:Nat.ble (len [v,V.fn (.func c) [] []]) fn.ntmps=true:=bleT hf3
  simp only [callF,hf1,hf2,e,hx]
 have cc:Nat.beq c c=true:=xH c
 unfold callT1 at h
 split at h
 ·simp only [RvS] at hv
  subst hv
  exact ⟨.tup [],C,hp,nx,.tup [],σ,Evt.of fun n k=>(run n k).trans (by simp only [sortX,cc]),hM,MExt.refl _ _ _ _ _,by simp [RvS,RvSL],rfl,rfl,rfl,h⟩
 rotate_left
 ·exact h.out.elim
 rename_i nm
 unfold callT2 at h
 split at h
 rotate_left
 ·exact h.out.elim
 rename_i og ks rows hl
 split at h
 rotate_left
 ·exact h.out.elim
 rename_i hk
 have hk:=kds_eq hk
 subst hk
 obtain ⟨hle,h⟩:=h
 rw [hA] at hle h
 have hle:rows.length+1<=4611686018427387904:=hle
 have hsrt:Ar.std.srt rows=srtR rows:=rfl
 rw [hsrt] at h
 simp only [RvS] at hv
 obtain ⟨hnm,rfl,_⟩:=hv
 have hob:=hM.ob _ _ hl
 simp only [ObS] at hob
 obtain ⟨⟨_,hlr⟩,⟨hr,hh1⟩ |⟨t0,m0,cap1,hh1,o1,o2,o3,o4⟩⟩:=hob
 ·subst hr
  have hlo:∀t,look ((nm,SO.arr og [.int .i64,.int .i64] (srtR [])) :: σ.objs) t=look σ.objs t:=fun t=>by
   rw [look_cons];split
   next e=>subst e;rw [hl];simp [srtR,prs,unprs,psort]
   rfl
  refine ⟨.tup [],C,hp,nx,.tup [],σ.mem ((nm,SO.arr og [.int .i64,.int .i64] (srtR [])) :: σ.objs) σ.next,Evt.of fun n k=>(run n k).trans ?_,hM.lk hlo,MExt.lk hlo,by simp [RvS,RvSL],rfl,rfl,rfl,h⟩
  rw [hh1]
  simp only [sortX,cc]
 have hown:∀r:Rows,ownS C nm (.arr og [.int .i64,.int .i64] r):=fun r=>by simp only [ownS];rw [hh1];intro e;cases e
 have pl:(prs rows).length=rows.length:=by simp [prs]
 have sl:(psort (prs rows)).length=rows.length:=by rw [psort_len,pl]
 have o2:rows.length * 2<=m0:=o2
 obtain ⟨t',w1,w2⟩:=wrt_eq (unpairs (psort (prs rows))) t0 0
 have len':(srtR rows).length=rows.length:=by simp [srtR,unprs,psort_len,prs]
 obtain ⟨a,b⟩:=hM.upd (so:=.arr og [.int .i64,.int .i64] (srtR rows)) hl (hown _) (hown _) (o:=.cells t' m0) (by
  simp only [ObS,if_true]
  refine ⟨⟨by simp,fun row hr=>?_,by rw [len'];exact hlr.2⟩,.inr ⟨t',m0,cap1,by rw [len'];exact hh1,rfl,by rw [len'];exact o2,fun c hc=>by rw [len'];exact o3 c hc,fun i hi=>?_⟩⟩
  ·simp only [srtR,unprs,qQ] at hr
   obtain ⟨p,_,rfl⟩:=hr
   rfl
  rw [len'] at hi
  obtain ⟨u0,u1⟩:=unpairs_get (psort (prs rows)) i (by omega)
  have hun:(unpairs (psort (prs rows))).length=rows.length * 2:=by rw [unpairs_len,sl]
  have gE:∀c,gt (srtR rows) i c=[D.i ((psort (prs rows)).getD i (0,0)).1,D.i ((psort (prs rows)).getD i (0,0)).2].getD c .nil:=fun c=>by
   have hi':i < (psort (prs rows)).length:=by omega
   simp only [gt,srtR,unprs,zI,kM,zE hi',zX,kE]
  refine FzR.of _ _ _ _ fun j k hj=>?_
  match j,hj with
  |0,hj=>
   simp only [zL,zA] at hj
   subst hj
   refine ⟨.int .i64 ((psort (prs rows)).getD i (0,0)).1,?_,?_⟩
   ·rw [w2,if_pos ⟨by omega,by simp only [zH,zK];omega⟩]
    simpa using u0
   simp only [FzC,zU,gE];exact ⟨⟨_,rfl⟩,rfl⟩
  |1,hj=>
   simp only [kI,zL,zA] at hj
   subst hj
   refine ⟨.int .i64 ((psort (prs rows)).getD i (0,0)).2,?_,?_⟩
   ·rw [w2,if_pos ⟨by omega,by simp only [zH,zK];omega⟩]
    simpa using u1
   simp only [FzC,zU,gE];exact ⟨⟨_,rfl⟩,rfl⟩
  |j+2,hj=>simp at hj)
 refine ⟨.tup [],C,hp.up (C.ids nm) (some (.cells t' m0)),nx,.tup [],σ.mem ((nm,SO.arr og [.int .i64,.int .i64] (srtR rows)) :: σ.objs) σ.next,Evt.of fun n k=>(run n k).trans ?_,?_,?_,by simp [RvS,RvSL],rfl,rfl,rfl,h⟩
 ·rw [hh1]
  have e1:hp.get (C.ids nm)=some (.cells t0 m0):=o1
  have e2:geB bar (C.ids nm)=true:=bleT (hM.own _ _ hl (hown _)).1
  have e3:Nat.ble (Nat.add 0 (Nat.mul rows.length 2)) m0=true:=bleT (by show 0+rows.length * 2<=m0;omega)
  have e4:Nat.blt rows.length 4611686018427387904=true:=bltT (by omega)
  have e5:rd t0 0 (Nat.mul rows.length 2)=fun k:List V->R=>k (unpairs (prs rows)):=by
   funext k
   have hun:(unpairs (prs rows)).length=rows.length * 2:=by rw [unpairs_len,pl]
   show rd t0 0 (rows.length * 2) k=_
   rw [<-hun]
   refine rd_eq _ 0 k fun j hj=>?_
   rw [hun] at hj
   have hi:j / 2 < rows.length:=by omega
   have g4:=o4 (j / 2) hi
   obtain ⟨u0,u1⟩:=unpairs_get (prs rows) (j / 2) (by omega)
   have pE:(prs rows).getD (j / 2) (0,0)=((gt rows (j / 2) 0).int,(gt rows (j / 2) 1).int):=by
    simp only [prs,gt,zI,kM,zE hi,zX,kE]
   rw [pE] at u0 u1
   rcases Nat.mod_two_eq_zero_or_one j with hm |hm
   ·obtain ⟨v,v1,v2⟩:=FzR.get _ _ _ _ g4 0 (.int .i64) rfl
    simp only [FzC] at v2
    rw [v2.2] at v1
    rw [show j=j / 2 * 2 by omega,zU,u0,<-v1]
    simp
   obtain ⟨v,v1,v2⟩:=FzR.get _ _ _ _ g4 1 (.int .i64) rfl
   simp only [FzC] at v2
   rw [v2.2] at v1
   rw [show j=j / 2 * 2+1 by omega,zU,u1,<-v1]
   simp
  have e6:Nat.ble (Nat.add 0 (len (unpairs (psort (prs rows))))) m0=true:=bleT (by rw [len_eq,unpairs_len,sl];show 0+rows.length * 2<=m0;omega)
  simp only [sortX,cc,zH,zK,xH,e4,qM,e1,e3,e5,pairs_un,CX.store,e2,oneAll_un,e6,w1,T.set_eq]
 ·have e:(fun id=>if id=C.ids nm then some (O.cells t' m0) else hp.get id)=(hp.up (C.ids nm) (some (.cells t' m0))).get:=by
   funext id;rw [T.get_up]
  rw [<-e];exact a
 have e:(fun id=>if id=C.ids nm then some (O.cells t' m0) else hp.get id)=(hp.up (C.ids nm) (some (.cells t' m0))).get:=by
  funext id;rw [T.get_up]
 rw [<-e];exact b
theorem callS_ok {ci:CI} (hci:CIOk E.E ci) {f:SV} {args:List SV} {σ:St} {K:SV->St->Prop} (h:callS E ci f args σ K) {C:Cx E.E.ro} {bar:Nat} {hp:T O} {nx:Nat} (hM:MSim C σ.objs σ.next bar hp.get nx) {vf:V} {va:List V} (hf:RvS C σ.next f vf) (ha:RvSL C σ.next args va) :
  CallOk E.E (fun n k=>callV E.E (cx E.E n) bar hp nx vf va k) C σ bar hp.get nx K:=by
 rw [callS_eq] at h
 split at h
 rotate_left
 ·exact hci _ _ _ _ h C bar hp nx hM vf va hf ha
 rename_i g a b
 split at h
 next sg hs=>
  simp only [RvS] at hf
  obtain ⟨x,y,f1,f2,rfl⟩:=hf
  have hargs:RvSL C σ.next (a++args++b) (x++va++y):=RvSL.append (RvSL.append f1 ha) f2
  split at h
  ·exact (callC_ok hE hs h hM hM.barle hargs).ok
  obtain ⟨C1,h1,e1⟩:=hM.frzL (a++args++b)
  obtain ⟨v,C',h',nx',s,σ',k1,k2,k3,k4,k5,k6,k7,k8,_⟩:=callC_ok hE hs h h1 h1.barle (RvSL.ag e1.ag (zB _) _ _ hargs)
  exact ⟨v,C',h',nx',s,σ',k1,k2,e1.trans k3,k4,k5,k6,k7,k8⟩
 split at h
 next c hc=>
  have hx:E.E.ext g=some (.sort c):=by
   unfold sortC at hc
   split at hc
   next c' he=>simp only [zA] at hc;subst hc;exact he
   cases hc
  simp only [RvS] at hf
  obtain ⟨x,y,f1,f2,rfl⟩:=hf
  exact callT_ok hE hx h hM (RvSL.append (RvSL.append f1 ha) f2)
 exact hci _ _ _ _ h C bar hp nx hM vf va hf ha
theorem execW_ok {ev:Operand->SV} {op:Op} {σ:St} {K:SV->St->Prop} (h:execW E ev op K σ) {C:Cx E.E.ro} {bar:Nat} {hp:T O} {nx:Nat} (hM:MSim C σ.objs σ.next bar hp.get nx) {evc:Operand->Option V} (hev:EvOk C σ.next ev evc) (hc:clsOf E.E op=2) :
  CallOk E.E (fun n k=>opA E.E (cx E.E n) bar evc hp nx op k) C σ bar hp.get nx K:=by
 unfold execW at h
 split at h
 next w hw=>
  obtain ⟨h1,h2⟩:=preK_ok h
  obtain ⟨F,_,v,C',h',nx',w1,w2,w3,w4,w5⟩:=xw_ok hE.A hM hE.T hev hw h1
  obtain ⟨hv',r1,r2⟩:=w5 hp bar (fun _ _=>rfl) (fun _ _ h=>h)
  have hget:hv'.get=h':=by
   funext id
   rw [r2]
   split
   ·rfl
   rename_i hn
   exact (w4 id (fun h=>hn (.inl h)) (fun h=>hn (.inr h))).symm
  rw [<-hget] at w1 w2
  exact ⟨v,C',hv',nx',w.sv,σ.mem w.objs w.next,Evt.of fun n k=>by simp only [opA,hc];exact r1 _,w1,w2,w3,rfl,rfl,rfl,h2⟩
 split at h
 next w hw=>
  obtain ⟨h1,h2⟩:=preK_ok h
  obtain ⟨v,C',h',nx',r1,w1,w2,w3⟩:=xmW_ok hE.A hM hev hw
  exact ⟨v,C',h',nx',w.sv,σ.mem w.objs w.next,Evt.of fun n k=>by simp only [opA,hc];exact r1 _,w1,w2,w3,rfl,rfl,rfl,h2⟩
 exact h.out.elim
theorem EvOk.ag {C C':Cx E.E.ro} {n m:Nat} (ha:Ag n C C') (hn:n<=m) {ev:Operand->SV} {evc:Operand->Option V} (hev:EvOk C n ev evc):EvOk C' m ev evc:=fun x=>by
 rcases hev x with h |⟨v,a,b⟩
 ·exact .inl h
 exact .inr ⟨v,a,RvS.ag ha hn _ _ b⟩
theorem exec0_ok {ev:Operand->SV} {op:Op} {σ:St} {K:SV->Prop} (h:exec0 E σ ev op K) {C:Cx E.E.ro} {bar:Nat} {hp:Nat->Option O} {nx:Nat} (hM:MSim C σ.objs σ.next bar hp nx) {evc:Operand->Option V} (hev:EvOk C σ.next ev evc) :
  ∃s v,RvS C σ.next s v/\(∀k,opP E.E evc op k=k v)/\K s:=by
 rw [exec0_eq] at h
 split at h
 next rows sg hn=>
  unfold nilQ at hn
  split at hn
  rotate_left
  ·cases hn
  rename_i o t x y ty
  split at hn
  rotate_left
  ·cases hn
  rename_i b ks rows' hx hy hs
  obtain ⟨e,hk⟩:=isSl_ok hE.A hs
  obtain ⟨vx,e1,e2⟩:=hev.get (x:=x) rfl (norm_unk (σ:=σ) (by rw [hx];intro e;cases e))
  obtain ⟨vy,e3,e4⟩:=hev.get hy (by intro e;cases e)
  have e2:=norm_ok hM e2
  rw [hx] at e2
  simp only [RvS,FzC,D.rows] at e2 e4
  subst e4
  obtain ⟨_,_,hv⟩:=e2
  have key:∀q:Bool,vEq E.E t vx .nils=some q->(q=true->rows'.length<=0)->∃s v,RvS C σ.next s v/\(∀k,opP E.E evc (.binOp o t x y ty) k=k v)/\K s:=by
   intro q hq hlen
   split at hn
   ·simp only [zA,zJ] at hn
    obtain ⟨rfl,rfl⟩:=hn
    refine ⟨.bool q,.bool q,by simp only [RvS],fun k=>by simp only [opP,e1,e3,bin,hq,fB_eq],?_⟩
    cases q with
    |true=>exact h.t (by rw [hE.A];exact hlen rfl)
    |false=>exact h.e
   ·simp only [zA,zJ] at hn
    obtain ⟨rfl,rfl⟩:=hn
    refine ⟨.bool (!q),.bool (!q),by simp only [RvS],fun k=>by simp only [opP,e1,e3,bin,hq,fB_eq];cases q<;>rfl,?_⟩
    cases q with
    |true=>exact h.t (by rw [hE.A];exact hlen rfl)
    |false=>exact h.e
   cases hn
  rcases hv with ⟨hr,rfl⟩ |⟨id,off,cap,rfl,_⟩ |⟨a,cap,rfl,_⟩
  ·exact key true (by simp [vEq,hk]) (fun _=>by rw [hr];exact zB _)
  ·exact key false (by simp [vEq,hk]) (fun e=>by cases e)
  exact key false (by simp [vEq,hk]) (fun e=>by cases e)
 split at h
 next q hq=>
  obtain ⟨h1,h2⟩:=preK_ok h
  obtain ⟨v,v1,v2⟩:=xq0_ok hE.A hM hev hq h1
  exact ⟨q.sv,v,v1,v2,h2⟩
 exact h.out.elim
omit hE in
theorem strCells_ok:∀(x:List V) (rows:Rows) (k:List Nat->R),x.length=rows.length->(∀i,i < rows.length->x[i]?=some (.int .u8 (gt rows i 0).int)/\0<=(gt rows i 0).int/\(gt rows i 0).int<=255)->
  strCells x k=k (rows.map fun r=>(r.getD 0 .nil).int.toNat)
 |[],[],k,_,_=>by simp [strCells]
 |[],_ :: _,_,hl,_=>by simp at hl
 |_ :: _,[],_,hl,_=>by simp at hl
 |v :: x,r :: rows,k,hl,h=>by
  have h0:=h 0 (by simp)
  have e0:gt (r :: rows) 0 0=r.getD 0 .nil:=rfl
  rw [e0] at h0
  simp only [zL,zA] at h0
  obtain ⟨rfl,a,b⟩:=h0
  have ih:=strCells_ok x rows (fun s=>k ((r.getD 0 .nil).int.toNat :: s)) (by simpa using hl) fun i hi=>by
   have:=h (i+1) (by simpa using hi)
   rw [kI] at this
   exact this
  rw [kH]
  generalize (r.getD 0 .nil).int=n at a b ih ⊢
  obtain ⟨m,rfl⟩:=Int.eq_ofNat_of_zero_le a
  have hm:Nat.blt m 256=true:=bltT (by omega)
  simp only [strCells]
  show (match Nat.blt m 256 with |true=>strCells x fun s=>k (m :: s) |false=>none)=_
  rw [hm]
  exact ih
omit hE in
theorem xstr_ok {E:Env} (hA:E.A=Ar.std) {ev:Operand->SV} {op:Op} {σ:St} {C:Cx E.E.ro} {bar:Nat} {hp:T O} {nx:Nat} (hM:MSim C σ.objs σ.next bar hp.get nx) {evc:Operand->Option V} (hev:EvOk C σ.next ev evc) {q:QR} (hq:xstr E σ ev op=some q) (h1:∀p∈q.pre,p) :
  ∃v,RvS C σ.next q.sv v/\∀k,opL E.E hp evc op k=k v:=by
 unfold xstr at hq
 split at hq
 rotate_left
 ·cases hq
 rename_i s t x
 split at hq
 rotate_left
 ·cases hq
 rename_i e he hk
 split at hq
 rotate_left
 ·cases hq
 rename_i hke
 split at hq
 rotate_left
 ·cases hq
 rename_i p rows hs
 simp only [zA] at hq
 subst hq
 have hx:ev x≠.unk:=fun e=>by rw [e] at hs;simp [srcOf,norm] at hs
 obtain ⟨vx,e1,e2⟩:=hev.get rfl hx
 obtain ⟨_,y,l1,l2,_,l4,l5⟩:=src_ok hA hM (ks:=[.int .u8]) (by simp) hs (fun q hq=>h1 q (xW _ hq)) e2
 have pu:=h1 (E.A.pU8 rows) (xP _ (.head _))
 rw [hA] at pu
 have pu:∀i,i < rows.length->0<=(gt rows i 0).int/\(gt rows i 0).int<=255:=pu
 have sc:∀k:List Nat->R,strCells y k=k (rows.map fun r=>(r.getD 0 .nil).int.toNat):=fun k=>strCells_ok y rows k (by simpa using l2) fun i hi=>by
  have h4:=l4 i hi
  simp only [FzR,FzC] at h4
  obtain ⟨⟨v,v1,_,v2⟩,_⟩:=h4
  refine ⟨?_,pu i hi⟩
  rw [<-v2]
  simpa using v1
 refine ⟨.str (E.A.strD rows),by simp only [RvS],fun k=>?_⟩
 have fin:k (.str (rows.map fun r=>(r.getD 0 .nil).int.toNat))=k (.str (E.A.strD rows)):=by rw [hA];rfl
 rw [<-fin]
 have l5':=fun k=>l5 hp (fun _ _=>rfl) k
 cases vx with
 |nils=>
  simp only [lenV,zA] at l1
  have:rows=[]:=xA.1 l1.symm
  subst this
  simp only [opL,he,hk,hke,e1]
  rfl
 |slc id es off l cap=>
  simp only [lenV,zA] at l1
  subst l1
  simp only [opL,he,hk,hke,e1]
  have:=l5' fun l=>strCells l fun s=>k (.str s)
  simp only [zH,zK,zU] at this
  rw [this]
  exact sc _
 |rslc a l cap=>
  simp only [lenV,zA] at l1
  subst l1
  simp only [opL,he,hk,hke,e1]
  have:=l5' fun l=>strCells l fun s=>k (.str s)
  simp only [zH,zK,zU] at this
  rw [this]
  exact sc _
 |_=>simp [lenV] at l1
theorem exec1_ok {ci:CI} (hci:CIOk E.E ci) {ev:Operand->SV} {op:Op} {σ:St} {K:SV->St->Prop} (h:exec1 E ci ev op σ K) {C:Cx E.E.ro} {bar:Nat} {hp:T O} {nx:Nat} (hM:MSim C σ.objs σ.next bar hp.get nx) {evc:Operand->Option V} (hev:EvOk C σ.next ev evc) :
  CallOk E.E (fun n k=>opA E.E (cx E.E n) bar evc hp nx op k) C σ bar hp.get nx K:=by
 rw [exec1_eq] at h
 split at h
 next hc=>
  obtain ⟨sv,v,v1,v2,h2⟩:=exec0_ok hE h hM hev
  exact ⟨v,C,hp,nx,sv,σ,Evt.of fun n k=>by simp only [opA,hc,far_none v2];exact v2 _,hM,MExt.refl _ _ _ _ _,v1,rfl,rfl,rfl,h2⟩
 next hc=>
  split at h
  next q hq=>
   obtain ⟨h1,h2⟩:=preK_ok h
   unfold xq1 at hq
   split at hq
   next t x=>
    have hx:ev x≠.unk:=fun e=>by rw [e] at hq;unfold xload at hq;split at hq<;>simp at hq
    obtain ⟨vx,e1,e2⟩:=hev.get rfl hx
    obtain ⟨v,v1,v2⟩:=load_ok hE.A hE.T hM e2 hq h1 e1
    have v2:∀k,opL E.E hp evc (.load t x) k=k v:=by
     rcases v2 with ⟨id,off,rfl,v2⟩ |⟨a,rfl,v2⟩
     ·exact v2 hp rfl
     exact v2 hp
    exact ⟨v,C,hp,nx,q.sv,σ,Evt.of fun n k=>by simp only [opA,hc];exact v2 _,hM,MExt.refl _ _ _ _ _,v1,rfl,rfl,rfl,h2⟩
   cases hq
  split at h
  next q hq=>
   obtain ⟨h1,h2⟩:=preK_ok h
   obtain ⟨v,v1,v2⟩:=xstr_ok hE.A hM hev hq h1
   exact ⟨v,C,hp,nx,q.sv,σ,Evt.of fun n k=>by simp only [opA,hc];exact v2 _,hM,MExt.refl _ _ _ _ _,v1,rfl,rfl,rfl,h2⟩
  split at h
  next q hq=>
   obtain ⟨h1,h2⟩:=preK_ok h
   obtain ⟨v,v1,v2⟩:=xmR_ok hE.A hM hev hq
   exact ⟨v,C,hp,nx,q.sv,σ,Evt.of fun n k=>by simp only [opA,hc];exact v2 _,hM,MExt.refl _ _ _ _ _,v1,rfl,rfl,rfl,h2⟩
  exact h.out.elim
 next hc=>
  obtain ⟨C1,m1,e1⟩:=hM.frzL (wants ev op)
  obtain ⟨v,C',h',nx',s,σ',k1,k2,k3,k4⟩:=execW_ok hE h (C:=C1) (bar:=bar) (hp:=hp) (nx:=nx) m1 (hev.ag hE e1.ag (zB _)) hc
  exact ⟨v,C',h',nx',s,σ',k1,k2,e1.trans k3,k4⟩
 next hc=>
  split at h
  next c=>
   split at h
   next f hf=>
    split at h
    next hk=>
     rw [zC] at hk
     obtain ⟨va,a1,a2⟩:=evL_list hev c.args.toList hk.2
     obtain ⟨vf,f1,f2⟩:=hev.get (x:=f) rfl (fun e=>by rw [e] at hk;simp [knownC] at hk)
     obtain ⟨v,C',h',nx',s,σ',k1,k2⟩:=callS_ok hE hci h hM f2 a1
     exact ⟨v,C',h',nx',s,σ',k1.mono fun n hn k=>by simp only [opA,hc,hf,f1,a2];exact hn k,k2⟩
    exact h.out.elim
   exact h.out.elim
  exact h.out.elim
 exact h.out.elim
theorem putS_ok {σ σ':St} {dst:Option Nat} {s:SV} (h:putS σ dst s=some σ') {C:Cx E.E.ro} {S:CX.St} (hnt:S.nt=σ.nt) (hR:RegsS C σ.next σ.regs S.regs) {v:V} (hv:RvS C σ.next s v) (hp:T O) (nx:Nat) :
  ∃regs,(∀k,putD S dst v hp nx k=k ⟨S.nt,S.bar,regs,hp,nx,S.df⟩)/\RegsS C σ.next σ'.regs regs/\σ'.nt=σ.nt/\σ'.objs=σ.objs/\σ'.next=σ.next/\σ'.df=σ.df:=by
 unfold putS at h
 split at h
 ·simp only [zA] at h
  subst h
  exact ⟨S.regs,fun k=>rfl,hR,rfl,rfl,rfl,rfl⟩
 rename_i d
 split at h
 next hd=>
  simp only [zA] at h
  subst h
  simp only [bltN_iff] at hd
  have hd':Nat.blt d S.nt=true:=bltT (by rw [hnt];exact hd)
  refine ⟨S.regs.up d (some v),fun k=>by simp only [putD,hd',T.set_eq],fun t s' hl=>?_,rfl,rfl,rfl,rfl⟩
  rw [look_cons] at hl
  split at hl
  next e=>
   simp only [zA] at hl
   subst e hl
   exact .inr ⟨v,by rw [T.get_up,if_pos rfl],hv⟩
  rename_i e
  rcases hR t s' hl with h |⟨u,a,b⟩
  ·exact .inl h
  exact .inr ⟨u,by rw [T.get_up,if_neg (Ne.symm e)];exact a,b⟩
 cases h
omit hE in
theorem know_ok {C:Cx E.E.ro} {n:Nat} {l:List (Nat×SV)} {regs:T V} (hR:RegsS C n l regs) {d:Nat} {b:Bool} (h:regs.get d=some (.bool b)):RegsS C n ((d,.bool b) :: l) regs:=fun t s hl=>by
 rw [look_cons] at hl
 split at hl
 next e=>
  simp only [zA] at hl
  subst e hl
  exact .inr ⟨_,h,by simp only [RvS]⟩
 exact hR t s hl
theorem wantS_ok {σ:St} {all:List Oper} {o:Oper} {K:Bool->St->Prop} (h:wantS σ all o K) {C:Cx E.E.ro} {S:CX.St} (hR:RegsS C σ.next σ.regs S.regs) :
  ∃b σ',K b σ'/\RegsS C σ.next σ'.regs S.regs/\(σ'.nt=σ.nt/\σ'.objs=σ.objs/\σ'.next=σ.next/\σ'.df=σ.df)/\∀k,wantX S.regs all o k=k b:=by
 rw [wantS_eq] at h
 split at h
 next hg=>
  exact ⟨true,σ,h,hR,⟨rfl,rfl,rfl,rfl⟩,fun k=>by simp only [wantX,hg]⟩
 rename_i g want hg
 split at h
 rotate_left
 ·exact h.out.elim
 rename_i og hog
 split at h
 rotate_left
 ·exact h.out.elim
 rename_i d hd
 split at h
 next b hl=>
  rcases hR _ _ hl with h0 |⟨v,v1,v2⟩
  ·cases h0
  simp only [RvS] at v2
  subst v2
  refine ⟨_,σ,h,hR,⟨rfl,rfl,rfl,rfl⟩,fun k=>?_⟩
  simp only [wantX,hg,nth_eq,hog,hd,v1]
  cases b<;>cases want<;>rfl
 next b hl=>
  rcases hR _ _ hl with h0 |⟨v,v1,v2⟩
  ·cases h0
  simp only [RvS] at v2
  subst v2
  cases hb:b with
  |true=>
   refine ⟨_,_,h.t hb,know_ok hR (by rw [v1,hb]),⟨rfl,rfl,rfl,rfl⟩,fun k=>?_⟩
   simp only [wantX,hg,nth_eq,hog,hd,v1,hb]
   cases want<;>rfl
  |false=>
   refine ⟨_,_,h.e hb,know_ok hR (by rw [v1,hb]),⟨rfl,rfl,rfl,rfl⟩,fun k=>?_⟩
   simp only [wantX,hg,nth_eq,hog,hd,v1,hb]
   cases want<;>rfl
 next hl=>
  rcases hR _ _ hl with h0 |⟨v,v1,v2⟩
  ·cases h0
  simp only [RvS] at v2
  obtain ⟨x,hx,rfl⟩:=v2
  cases x with
  |nil=>exact ⟨_,σ,h,hR,⟨rfl,rfl,rfl,rfl⟩,fun k=>by simp only [wantX,hg,nth_eq,hog,hd,v1]⟩
  |cons _ _=>simp [RvSL] at hx
 exact h.out.elim
theorem seqS_ok {ci:CI} (hci:CIOk E.E ci) {all:List Oper} {lo:Nat}:∀(r:List Oper) (σ:St) (K:St->Prop),seqS E ci all r σ K->∀(C:Cx E.E.ro) S,Sim C σ S->lo<=σ.next->∃S' C' σ',Evt (fun n=>∀k,CX.seqOps E.E (cx E.E n) all r S k=k S')/\Sim C' σ' S'/\Ext lo C σ S C' σ' S'/\K σ'
 |[],σ,K,h,C,S,hS,hlo=>⟨S,C,σ,Evt.of fun _ _=>rfl,hS,Ext.refl _ _ _ hlo,h⟩
 |o :: r,σ,K,h,C,S,hS,hlo=>by
  rw [seqS_cons] at h
  obtain ⟨b,σa,hb,hRa,⟨q1,q2,q3,q4⟩,hw⟩:=wantS_ok hE h hS.regs
  have hSa:Sim C σa S:=⟨by rw [q1];exact hS.nt,by rw [q3];exact hRa,by rw [q2,q3];exact hS.m,by rw [q2,q4];exact hS.df,by rw [q4,q3];exact hS.dflt⟩
  have hloa:lo<=σa.next:=by rw [q3];exact hlo
  have eq0:Ext lo C σ S C σa S:=⟨by rw [q2,q3];exact (MExt.refl _ _ _ _ _).less hlo,rfl,fun _ h=>.inl h⟩
  have hS:=hSa
  have hlo:=hloa
  cases b with
  |true=>
   simp only at hb
   obtain ⟨v,C1,h1,nx1,s,σ1,k1,k2,k3,k4,k5,k6,k7,k8⟩:=exec1_ok hE hci hb hS.m (evR_ok hS.regs)
   split at k8
   next σ2 hput=>
    have hR1:RegsS C1 σ1.next σ1.regs S.regs:=by rw [k6];exact RegsS.ag k3.ag k3.le hS.regs
    obtain ⟨regs,p1,p2,p3,p4,p5,p6⟩:=putS_ok hE hput (S:=S) (by rw [k5];exact hS.nt) hR1 k4 h1 nx1
    have hS2:Sim C1 σ2 ⟨S.nt,S.bar,regs,h1,nx1,S.df⟩:=by
     refine ⟨by rw [p3,k5];exact hS.nt,by rw [p5];exact p2,by rw [p4,p5];exact k2,?_,?_⟩
     ·rw [p4,p6,k7]
      exact hS.df.ext k3 hS.dflt
     rw [p6,k7,p5];exact fun d hd=>xJ (hS.dflt d hd) k3.le
    have hE2:Ext lo C σa S C1 σ2 ⟨S.nt,S.bar,regs,h1,nx1,S.df⟩:=⟨by rw [p4,p5];exact k3.less hlo,rfl,fun _ h=>.inl h⟩
    obtain ⟨S',C',σ',e1,e2,e3,e4⟩:=seqS_ok hci r σ2 K k8 C1 _ hS2 hE2.m.le
    refine ⟨S',C',σ',(k1.and e1).mono fun n hn k=>?_,e2,eq0.trans (hE2.trans e3),e4⟩
    simp only [CX.seqOps,hw]
    refine (hn.1 _).trans ?_
    rw [p1]
    exact hn.2 k
   exact k8.out.elim
  |false=>
   simp only at hb
   split at hb
   next σ2 hput=>
    obtain ⟨regs,p1,p2,p3,p4,p5,p6⟩:=putS_ok hE hput (S:=S) hS.nt hS.regs (v:=.tup []) (by simp only [RvS];exact ⟨[],trivial,rfl⟩) S.h S.nx
    have hS2:Sim C σ2 ⟨S.nt,S.bar,regs,S.h,S.nx,S.df⟩:=by
     refine ⟨by rw [p3];exact hS.nt,by rw [p5];exact p2,by rw [p4,p5];exact hS.m,by rw [p4,p6];exact hS.df,by rw [p6,p5];exact hS.dflt⟩
    have hE2:Ext lo C σa S C σ2 ⟨S.nt,S.bar,regs,S.h,S.nx,S.df⟩:=⟨by rw [p4,p5];exact (MExt.refl _ _ _ _ _).less hlo,rfl,fun _ h=>.inl h⟩
    obtain ⟨S',C',σ',e1,e2,e3,e4⟩:=seqS_ok hci r σ2 K hb C _ hS2 hE2.m.le
    refine ⟨S',C',σ',e1.mono fun n hn k=>?_,e2,eq0.trans (hE2.trans e3),e4⟩
    simp only [CX.seqOps,hw,p1]
    exact hn k
   exact hb.out.elim
end
end HX

namespace HX
open Go CX
structure StuckD (ops:List Oper) (σ:St):Prop where
 out:False
def maskS (ml:List (Nat×Nat)):List Edge->Nat->Option Nat
 |[],acc=>some acc
 |e :: r,acc=>match bindsA e with
  |false=>maskS ml r acc
  |true=>match look ml e.on with
   |some m=>maskS ml r (Nat.lor acc (Nat.lor m (Nat.shiftLeft 1 e.on)))
   |none=>none
def prepS:List Oper->Nat->List (Nat×Nat)->List (Nat×Nat)->Option (List (Nat×Nat)×List (Nat×Nat))
 |[],_,ml,dl=>some (ml,dl)
 |o :: r,i,ml,dl=>match maskS ml o.after.toList 0 with
  |some m=>match o.dst with
   |none=>prepS r (i+1) ((i,m) :: ml) dl
   |some d=>match look dl d with
    |none=>prepS r (i+1) ((i,m) :: ml) ((d,i) :: dl)
    |some _=>none
  |none=>none
def visS (ml dl:List (Nat×Nat)) (i cl t:Nat):Bool:=
 match look dl t with
 |none=>true
 |some j=>match CX.bit cl j with
  |true=>true
  |false=>match look ml j with
   |some m=>CX.bit m i
   |none=>false
def evDS (ml dl:List (Nat×Nat)) (i cl:Nat) (regs:List (Nat×SV)) (x:Operand):SV:=
 match x with
 |.tmp t=>match visS ml dl i cl t with
  |true=>evR regs (.tmp t)
  |false=>.unk
 |x=>evR regs x
def gvisS (ml dl:List (Nat×Nat)) (i cl:Nat) (all:List Oper) (o:Oper):Bool:=
 match o.guard with
 |none=>true
 |some (g,_)=>match all[g]? with
  |some og=>match og.dst with
   |some d=>visS ml dl i cl d
   |none=>true
  |none=>true
def laterOkS (E:CX.Env) (ml:List (Nat×Nat)) (i:Nat):List Oper->Nat->Bool
 |[],_=>true
 |o :: r,j=>match Nat.beq (clsOf E o.op) 0 with
  |true=>laterOkS E ml i r (j+1)
  |false=>match look ml j with
   |some m=>match CX.bit m i with
    |true=>laterOkS E ml i r (j+1)
    |false=>false
   |none=>false
inductive At where
 |cl (nm:Nat)
 |ar (nm:Nat)
 |fz (b:Nat)
 |mt (nm:Nat)
 |sb (nm rn:Nat)
inductive FpS where
 |all
 |q
 |ls (A:List At) (wr:Bool)
structure RcS where
 i:Nat
 fp:FpS
 al:Bool
def isCl:Option SO->Bool
 |some (.cells _)=>true
 |_=>false
def isAr:Option SO->Bool
 |some (.arr ..)=>true
 |_=>false
def isMt:Option SO->Bool
 |some (.mat ..)=>true
 |_=>false
def isMr (rn:Nat):Option SO->Bool
 |some (.mat _ _ _ rn' none)=>beqN rn rn'
 |_=>false
def atomsOf (E:Env) (σ:St) (x:SV):Option (List Prop×List At):=
 match x with
 |.ptr nm _=>match isCl (look σ.objs nm) with
  |true=>some ([],[.cl nm])
  |false=>none
 |.el nm _ i _=>match look σ.objs nm with
  |some (.arr _ _ rows)=>some ([E.A.pLt (E.A.nat i) (E.A.nat (E.A.len rows))],[.ar nm])
  |_=>none
 |.fel b _ _ _ _=>some ([],[.fz b])
 |.slc nm=>match isAr (look σ.objs nm) with
  |true=>some ([],[.ar nm])
  |false=>none
 |.vw nm _ _=>match isAr (look σ.objs nm) with
  |true=>some ([],[.ar nm])
  |false=>none
 |.sc nm _ _ _=>match isCl (look σ.objs nm) with
  |true=>some ([],[.cl nm])
  |false=>none
 |.fz b _ _=>some ([],[.fz b])
 |.mel nm i=>match look σ.objs nm with
  |some (.mat _ _ rows _ _)=>some ([E.A.pLt (E.A.nat i) (E.A.nat (E.A.len rows))],[.mt nm])
  |_=>none
 |.mrow nm rn _=>match isMr rn (look σ.objs nm) with
  |true=>some ([],[.sb nm rn])
  |false=>none
 |.nils=>some ([],[])
 |_=>none
def footS (E:Env) (σ:St) (ev:Operand->SV) (op:Op):Option (List Prop×List At):=
 match op with
 |.load _ x=>atomsOf E σ (ev x)
 |.store _ x _=>atomsOf E σ (ev x)
 |.call c=>match c.args.toList with
  |[x,y]=>match atomsOf E σ (ev x),atomsOf E σ (ev y) with
   |some (p,a),some (q,b)=>some (p++q,a++b)
   |_,_=>none
  |_=>none
 |.alloc _ |.box .. |.buildSlice .. |.makeSlice ..=>some ([],[])
 |_=>none
def oldA (σ0:List (Nat×SO)) (n0:Nat):At->Bool
 |.cl nm=>isCl (look σ0 nm)
 |.ar nm=>isAr (look σ0 nm)
 |.fz b=>bleN b n0
 |.mt nm=>isMt (look σ0 nm)
 |.sb nm rn=>isMr rn (look σ0 nm)
def disA (objs:List (Nat×SO)):At->At->Bool
 |.fz b,.fz b'=>beqN b 0 || beqN b' 0
 |.fz b,.cl y=>beqN b 0 || isCl (look objs y)
 |.fz b,.ar y=>beqN b 0 || isAr (look objs y)
 |.cl x,.fz b=>beqN b 0 || isCl (look objs x)
 |.ar x,.fz b=>beqN b 0 || isAr (look objs x)
 |.cl x,.cl y=>!(beqN x y) && (isCl (look objs x) && isCl (look objs y))
 |.cl x,.ar y=>!(beqN x y) && (isCl (look objs x) && isAr (look objs y))
 |.ar x,.cl y=>!(beqN x y) && (isAr (look objs x) && isCl (look objs y))
 |.ar x,.ar y=>!(beqN x y) && (isAr (look objs x) && isAr (look objs y))
 |.mt x,.cl y=>isMt (look objs x) && isCl (look objs y)
 |.cl y,.mt x=>isMt (look objs x) && isCl (look objs y)
 |.mt x,.ar y=>isMt (look objs x) && isAr (look objs y)
 |.ar y,.mt x=>isMt (look objs x) && isAr (look objs y)
 |.sb x rn,.cl y=>isMr rn (look objs x) && isCl (look objs y)
 |.cl y,.sb x rn=>isMr rn (look objs x) && isCl (look objs y)
 |.sb x rn,.ar y=>isMr rn (look objs x) && isAr (look objs y)
 |.ar y,.sb x rn=>isMr rn (look objs x) && isAr (look objs y)
 |.fz b,.mt y=>beqN b 0 || isMt (look objs y)
 |.mt y,.fz b=>beqN b 0 || isMt (look objs y)
 |.fz b,.sb y rn=>beqN b 0 || isMr rn (look objs y)
 |.sb y rn,.fz b=>beqN b 0 || isMr rn (look objs y)
 |_,_=>false
def disL (objs:List (Nat×SO)) (A B:List At):Bool:=A.all fun a=>B.all fun b=>disA objs a b
def noA:List At->Bool
 |[]=>true
 |_=>false
def pairS (σ0:List (Nat×SO)) (n0:Nat) (objs:List (Nat×SO)) (A:List At) (wr:Bool) (r:RcS):Bool:=
 match r.fp with
 |.all=>false
 |.q=>match wr with
  |true=>noA A
  |false=>!r.al || A.all (oldA σ0 n0)
 |.ls B wr'=>(!r.al || A.all (oldA σ0 n0)) && match wr || wr' with
  |false=>true
  |true=>disL objs A B
def pairQ (r:RcS):Bool:=
 !r.al && match r.fp with
 |.all=>false
 |.q=>true
 |.ls B wr=>match wr with
  |true=>noA B
  |false=>true
def fitsL (p:RcS->Bool) (cl:Nat):List RcS->Bool
 |[]=>true
 |r :: rs=>match CX.bit cl r.i with
  |true=>fitsL p cl rs
  |false=>match p r with
   |true=>fitsL p cl rs
   |false=>false
def memW (E:Env) (σ0:List (Nat×SO)) (n0 cl i:Nat) (recs:List RcS) (ev:Operand->SV) (op:Op) (K:SV->List RcS->St->Prop) (σ:St):Prop:=
 match xw E σ ev op with
 |some w=>match footS E σ ev op with
  |some (p,A)=>match fitsL (pairS σ0 n0 σ.objs A true) cl recs with
   |true=>preK p (preK w.pre (K w.sv (⟨i,.ls A true,!(beqN w.next σ.next)⟩ :: recs) (σ.mem w.objs w.next)))
   |false=>StuckO op σ
  |none=>StuckO op σ
 |none=>StuckO op σ
def isCtr (E:Env) (f:SV):Bool:=
 match f with
 |.fn g _ _=>match E.sig g with
  |some _=>true
  |none=>false
 |_=>false
def memC (E:Env) (ci:CI) (cl i:Nat) (recs:List RcS) (ev:Operand->SV) (op:Op) (K:SV->List RcS->St->Prop) (σ:St):Prop:=
 match op with
 |.call c=>match c.callee with
  |.value f=>match fitsL pairQ cl recs && isCtr E (ev f) with
   |true=>match knownC (ev f) && (c.args.toList.map ev).all knownC with
    |true=>callS E ci (ev f) (c.args.toList.map ev) σ fun v σ'=>K v (⟨i,.q,true⟩ :: recs) σ'
    |false=>StuckO op σ
   |false=>StuckO op σ
  |_=>StuckO op σ
 |_=>StuckO op σ
def stepL3 (E:Env) (σ0:List (Nat×SO)) (n0:Nat) (i cl:Nat) (recs:List RcS) (op:Op) (σ:St) (K:SV->List RcS->St->Prop) (q:QR) (p:List Prop) (A:List At):Prop:=
 match fitsL (pairS σ0 n0 σ.objs A false) cl recs with
 |true=>preK p (preK q.pre (K q.sv (⟨i,.ls A false,false⟩ :: recs) σ))
 |false=>StuckO op σ
def stepL2 (E:Env) (σ0:List (Nat×SO)) (n0:Nat) (i cl:Nat) (recs:List RcS) (ev:Operand->SV) (op:Op) (σ:St) (K:SV->List RcS->St->Prop) (q:QR):Prop:=
 match footS E σ ev op with
 |some (p,A)=>stepL3 E σ0 n0 i cl recs op σ K q p A
 |none=>StuckO op σ
def stepL1 (E:Env) (σ0:List (Nat×SO)) (n0:Nat) (i cl:Nat) (recs:List RcS) (ev:Operand->SV) (op:Op) (σ:St) (K:SV->List RcS->St->Prop):Prop:=
 match xq1 E σ ev op with
 |some q=>stepL2 E σ0 n0 i cl recs ev op σ K q
 |none=>StuckO op σ
def stepL (E:Env) (σ0:List (Nat×SO)) (n0:Nat) (ml:List (Nat×Nat)) (r:List Oper) (i cl:Nat) (recs:List RcS) (ev:Operand->SV) (op:Op) (σ:St) (K:SV->List RcS->St->Prop):Prop:=
 match fitsL (fun _=>false) cl recs && laterOkS E.E ml i r (i+1) with
 |true=>execL E ev op σ fun v σ'=>K v (⟨i,.all,true⟩ :: recs) σ'
 |false=>stepL1 E σ0 n0 i cl recs ev op σ K
def stepW (E:Env) (σ0:List (Nat×SO)) (n0:Nat) (ml:List (Nat×Nat)) (r:List Oper) (i cl:Nat) (recs:List RcS) (ev:Operand->SV) (op:Op) (σ:St) (K:SV->List RcS->St->Prop):Prop:=
 match fitsL (fun _=>false) cl recs && laterOkS E.E ml i r (i+1) with
 |true=>execW E ev op (fun v σ'=>K v (⟨i,.all,true⟩ :: recs) σ') (σ.mem (frzL σ.objs (wants ev op)) σ.next)
 |false=>memW E σ0 n0 cl i recs ev op K (σ.mem (frzL σ.objs (wants ev op)) σ.next)
def stepC (E:Env) (ci:CI) (ml:List (Nat×Nat)) (r:List Oper) (i cl:Nat) (recs:List RcS) (ev:Operand->SV) (op:Op) (σ:St) (K:SV->List RcS->St->Prop):Prop:=
 match fitsL (fun _=>false) cl recs && laterOkS E.E ml i r (i+1) with
 |true=>execC E ci ev op σ fun v σ'=>K v (⟨i,.all,true⟩ :: recs) σ'
 |false=>memC E ci cl i recs ev op K σ
def stepS (E:Env) (ci:CI) (σ0:List (Nat×SO)) (n0:Nat) (ml:List (Nat×Nat)) (r:List Oper) (i cl:Nat) (recs:List RcS) (ev:Operand->SV) (op:Op) (σ:St) (K:SV->List RcS->St->Prop):Prop:=
 match clsOf E.E op with
 |0=>exec0 E σ ev op fun v=>K v recs σ
 |1=>stepL E σ0 n0 ml r i cl recs ev op σ K
 |2=>stepW E σ0 n0 ml r i cl recs ev op σ K
 |3=>stepC E ci ml r i cl recs ev op σ K
 |_=>StuckO op σ
theorem stepS_imp (E:Env) (ci:CI) (σ0:List (Nat×SO)) (n0:Nat) (ml:List (Nat×Nat)) (r:List Oper) (i cl:Nat) (recs:List RcS) (ev:Operand->SV) (op:Op) (σ:St) (K:SV->List RcS->St->Prop) (h:stepS E ci σ0 n0 ml r i cl recs ev op σ K) :
 match clsOf E.E op with
 |0=>exec0 E σ ev op fun v=>K v recs σ
 |c=>match fitsL (fun _=>false) cl recs && laterOkS E.E ml i r (i+1) with
  |true=>exec1 E ci ev op σ fun v σ'=>K v (⟨i,.all,true⟩ :: recs) σ'
  |false=>match c with
   |1=>match xq1 E σ ev op with
    |some q=>match footS E σ ev op with
     |some (p,A)=>match fitsL (pairS σ0 n0 σ.objs A false) cl recs with
      |true=>preK p (preK q.pre (K q.sv (⟨i,.ls A false,false⟩ :: recs) σ))
      |false=>StuckO op σ
     |none=>StuckO op σ
    |none=>StuckO op σ
   |2=>memW E σ0 n0 cl i recs ev op K (σ.mem (frzL σ.objs (wants ev op)) σ.next)
   |3=>memC E ci cl i recs ev op K σ
   |_=>StuckO op σ:=by
 unfold stepS at h
 split at h
 next hc=>rw [hc];exact h
 next hc=>
  rw [hc]
  unfold stepL at h
  show (match fitsL (fun _=>false) cl recs && laterOkS E.E ml i r (i+1) with
   |true=>exec1 E ci ev op σ fun v σ'=>K v (⟨i,.all,true⟩ :: recs) σ'
   |false=>stepL1 E σ0 n0 i cl recs ev op σ K)
  split at h
  ·unfold exec1;rw [hc];exact h
  exact h
 next hc=>
  rw [hc]
  unfold stepW at h
  show (match fitsL (fun _=>false) cl recs && laterOkS E.E ml i r (i+1) with
   |true=>exec1 E ci ev op σ fun v σ'=>K v (⟨i,.all,true⟩ :: recs) σ'
   |false=>memW E σ0 n0 cl i recs ev op K (σ.mem (frzL σ.objs (wants ev op)) σ.next))
  split at h
  ·unfold exec1;rw [hc];exact h
  exact h
 next hc=>
  rw [hc]
  unfold stepC at h
  show (match fitsL (fun _=>false) cl recs && laterOkS E.E ml i r (i+1) with
   |true=>exec1 E ci ev op σ fun v σ'=>K v (⟨i,.all,true⟩ :: recs) σ'
   |false=>memC E ci cl i recs ev op K σ)
  split at h
  ·unfold exec1;rw [hc];exact h
  exact h
 exact h.out.elim
def drawP (o:Oper) (σ:St) (x:Option St) (k:St->Prop):Prop:=
 match x with
 |some σ'=>k σ'
 |none=>StuckG o σ
def drawB (E:Env) (ci:CI) (σ0:List (Nat×SO)) (n0:Nat) (ml dl:List (Nat×Nat)) (o:Oper) (r:List Oper) (i:Nat) (recs:List RcS) (cl:Nat) (next:List RcS->St->Prop) (b:Bool) (σ:St):Prop:=
 match b with
 |false=>drawP o σ (putS σ o.dst (.tup [])) (next recs)
 |true=>stepS E ci σ0 n0 ml r i cl recs (evDS ml dl i cl σ.regs) o.op σ fun v recs σ'=>drawP o σ' (putS σ' o.dst v) (next recs)
def drawG (E:Env) (ci:CI) (σ0:List (Nat×SO)) (n0:Nat) (all:List Oper) (ml dl:List (Nat×Nat)) (o:Oper) (r:List Oper) (i:Nat) (recs:List RcS) (σ:St) (cl:Nat) (next:List RcS->St->Prop):Prop:=
 match gvisS ml dl i cl all o with
 |false=>StuckG o σ
 |true=>wantS σ all o (drawB E ci σ0 n0 ml dl o r i recs cl next)
def drawS (E:Env) (ci:CI) (σ0:List (Nat×SO)) (n0:Nat) (all:List Oper) (ml dl:List (Nat×Nat)):List Oper->Nat->List RcS->St->(St->Prop)->Prop
 |[],_,_,σ,K=>K σ
 |o :: r,i,recs,σ,K=>match look ml i with
  |none=>StuckG o σ
  |some cl=>drawG E ci σ0 n0 all ml dl o r i recs σ cl fun recs σ'=>drawS E ci σ0 n0 all ml dl r (i+1) recs σ' K
theorem drawS_cons (E:Env) (ci:CI) (σ0:List (Nat×SO)) (n0:Nat) (all:List Oper) (ml dl:List (Nat×Nat)) (o:Oper) (r:List Oper) (i:Nat) (recs:List RcS) (σ:St) (K:St->Prop):drawS E ci σ0 n0 all ml dl (o :: r) i recs σ K =
 match look ml i with
 |none=>StuckG o σ
 |some cl=>match gvisS ml dl i cl all o with
  |false=>StuckG o σ
  |true=>wantS σ all o fun b σ=>match b with
   |false=>match putS σ o.dst (.tup []) with
    |some σ'=>drawS E ci σ0 n0 all ml dl r (i+1) recs σ' K
    |none=>StuckG o σ
   |true=>stepS E ci σ0 n0 ml r i cl recs (evDS ml dl i cl σ.regs) o.op σ fun v recs σ'=>match putS σ' o.dst v with
    |some σ'=>drawS E ci σ0 n0 all ml dl r (i+1) recs σ' K
    |none=>StuckG o σ':=rfl
def regionS (E:Env) (ci:CI) (ops:List Oper) (σ:St) (K:St->Prop):Prop:=
 match prepS ops 0 [] [] with
 |some (ml,dl)=>drawS E ci σ.objs σ.next ops ml dl ops 0 [] σ K
 |none=>StuckD ops σ
end HX

namespace HX
open Go CX
structure StuckC (c:Code) (σ:St):Prop where
 out:False
structure StuckR (fn:String) (σ:St):Prop where
 out:False
structure Leaf (E:CX.Env) (rd:Option Nat) (lo:Nat) (c:Code) (Q:Ex->St->Prop) (σ:St):Prop where
 out:SWP E rd lo c Q σ
def thenQ (k:St->Prop) (Q:Ex->St->Prop):Ex->St->Prop
 |.normal,σ=>k σ
 |e,σ=>Q e σ
def inBlockQ (id:Nat) (Q:Ex->St->Prop):Ex->St->Prop
 |.exit id',σ=>match beqN id' id with
  |true=>Q .normal σ
  |false=>Q (.exit id') σ
 |e,σ=>Q e σ
def resOne (E:Env) (σ:St):ResultVar->Option SV
 |.tmp t=>match look σ.regs t with
  |some .unk=>none
  |x=>x
 |.cell a t=>match E.E.T t,look σ.regs a with
  |some ty,some (.ptr nm off)=>match look σ.objs nm with
   |some (.cells l)=>match bleN (off+ty.size) l.length with
    |true=>pack ty.agg ((l.drop off).take ty.size)
    |false=>none
   |_=>none
  |_,_=>none
def resAll (E:Env) (σ:St):List ResultVar->Option (List SV)
 |[]=>some []
 |x :: r=>match resOne E σ x with
  |some v=>match resAll E σ r with
   |some vs=>some (v :: vs)
   |none=>none
  |none=>none
def takeS:List Nat->List (Nat×SO)->Option (List (Nat×SO))
 |[],l=>some l
 |d :: r,l=>match look l d with
  |some (.dfr true)=>takeS r ((d,.dfr false) :: l)
  |_=>none
def retP (E:Env) (fn:Func) (σ0:St) (K:SV->St->Prop) (σ:St):Prop:=
 match takeS σ.df σ.objs with
 |some objs=>match resAll E (σ.mem objs σ.next) fn.results.toList with
  |some vs=>K (one vs) (σ0.mem objs σ.next)
  |none=>StuckR fn.name σ
 |none=>StuckR fn.name σ
def retK (E:Env) (fn:Func) (σ0:St) (K:SV->St->Prop):Ex->St->Prop
 |.ret,σ=>retP E fn σ0 K σ
 |.normal,σ=>retP E fn σ0 K σ
 |_,σ=>StuckR fn.name σ
def enterS:Nat->List SV->List (Nat×SV)
 |_,[]=>[]
 |t,v :: vs=>(t,v) :: enterS (t+1) vs
def rangeS (rd:Option Nat) (ci:CI) (g:SV) (ps:List Nat) (asg body:Code) (Q:Ex->St->Prop) (σ:St):Prop:=False
def knowO (σ:St) (c:Operand) (b:Bool):St:=
 match c with
 |.tmp t=>σ.know t b
 |_=>σ
def vc (E:Env) (rd:Option Nat) (lo:Nat) (ci:CI):Code->(Ex->St->Prop)->St->Prop
 |.skip,Q,σ=>Q .normal σ
 |.label _,Q,σ=>Q .normal σ
 |.seq a b,Q,σ=>vc E rd lo ci a (thenQ (fun σ'=>vc E rd lo ci b Q σ') Q) σ
 |.ret,Q,σ=>Q .ret σ
 |.exit id,Q,σ=>Q (.exit id) σ
 |.block id b,Q,σ=>vc E rd lo ci b (inBlockQ id Q) σ
 |.cond c a b,Q,σ=>match evR σ.regs c with
  |.bool true=>vc E rd lo ci a Q σ
  |.bool false=>vc E rd lo ci b Q σ
  |.sym p=>Br p (fun _=>vc E rd lo ci a Q (knowO σ c true)) (fun _=>vc E rd lo ci b Q (knowO σ c false))
  |_=>StuckC (.cond c .skip .skip) σ
 |.region _ ops draw,Q,σ=>match draw with
  |false=>seqS E ci ops.toList ops.toList σ (fun σ'=>Q .normal σ')
  |true=>regionS E ci ops.toList σ (fun σ'=>Q .normal σ')
 |.rangeFunc g ps asg body,Q,σ=>rangeS rd ci (evR σ.regs g) ps.toList asg body Q σ
 |c,Q,σ=>Leaf E.E rd lo c Q σ
def ciN (E:Env) (inl:Nat->Option Func):Nat->CI
 |0,_,_,_,_=>False
 |n+1,f,args,σ,K=>match f with
  |.fn g a b=>match inl g with
   |some fn=>match fn.body with
    |some c=>match bleN (a++args++b).length fn.ntmps with
     |true=>vc E none σ.next (ciN E inl n) c (retK E fn σ K) ⟨fn.ntmps,enterS 0 (a++args++b),σ.objs,σ.next,[]⟩
     |false=>StuckF g args σ
    |none=>StuckF g args σ
   |none=>StuckF g args σ
  |_=>StuckF 0 args σ
end HX

namespace HX
open Go CX
variable {ro:Addr->Option V}
theorem maskS_ok {β:Type} {ml:List (Nat×Nat)} {ms:T Nat} (hm:∀j,ms.get j=look ml j):∀(es:List Edge) (acc m:Nat),maskS ml es acc=some m->∀k:Nat->Option β,maskOf ms es acc k=k m
 |[],acc,m,h,k=>by simp only [maskS,zA] at h;subst h;rfl
 |e :: r,acc,m,h,k=>by
  simp only [maskS] at h
  simp only [maskOf]
  split at h
  next hb=>simp only [hb];exact maskS_ok hm r acc m h k
  rename_i hb
  split at h
  next x hx=>
   rw [<-hm] at hx
   simp only [hb,hx,fN_eq]
   exact maskS_ok hm r _ m h k
  cases h
theorem prepS_ok {β:Type}:∀(r:List Oper) (i:Nat) (ml dl ml' dl':List (Nat×Nat)),prepS r i ml dl=some (ml',dl')->∀ms dm:T Nat,(∀j,ms.get j=look ml j)->(∀t,dm.get t=look dl t)->
  ∃ms' dm':T Nat,(∀j,ms'.get j=look ml' j)/\(∀t,dm'.get t=look dl' t)/\∀k:T Nat->T Nat->Option β,prep r i ms dm k=k ms' dm'
 |[],i,ml,dl,ml',dl',h,ms,dm,hm,hd=>by
  simp only [prepS,zA,zJ] at h
  obtain ⟨rfl,rfl⟩:=h
  exact ⟨ms,dm,hm,hd,fun k=>rfl⟩
 |o :: r,i,ml,dl,ml',dl',h,ms,dm,hm,hd=>by
  simp only [prepS] at h
  split at h
  rotate_left
  ·cases h
  rename_i m hmask
  have hm':∀j,(ms.up i (some m)).get j=look ((i,m) :: ml) j:=fun j=>by
   rw [T.get_up,look_cons]
   split
   next e=>rw [if_pos e.symm]
   rename_i e;rw [if_neg (Ne.symm e)];exact hm j
  split at h
  next ho=>
   obtain ⟨ms',dm',a,b,c⟩:=prepS_ok (β:=β) r (i+1) _ _ _ _ h _ dm hm' hd
   refine ⟨ms',dm',a,b,fun k=>?_⟩
   simp only [prep,maskS_ok hm _ _ _ hmask,T.set_eq,ho]
   exact c k
  rename_i d ho
  split at h
  next hl=>
   have hd':∀t,(dm.up d (some i)).get t=look ((d,i) :: dl) t:=fun t=>by
    rw [T.get_up,look_cons]
    split
    next e=>rw [if_pos e.symm]
    rename_i e;rw [if_neg (Ne.symm e)];exact hd t
   obtain ⟨ms',dm',a,b,c⟩:=prepS_ok (β:=β) r (i+1) _ _ _ _ h _ _ hm' hd'
   refine ⟨ms',dm',a,b,fun k=>?_⟩
   rw [<-hd] at hl
   simp only [prep,maskS_ok hm _ _ _ hmask,T.set_eq,ho,hl]
   exact c k
  cases h
section
variable {ml dl:List (Nat×Nat)} {ms dm:T Nat} (hm:∀j,ms.get j=look ml j) (hd:∀t,dm.get t=look dl t)
include hm hd
theorem visS_ok {regs:T V} {i cl t:Nat} (h:visS ml dl i cl t=true):CX.getD regs ms dm i cl t=regs.get t:=by
 unfold visS at h
 unfold CX.getD
 rw [hd]
 split at h
 next hl=>rw [hl]
 rename_i j hl
 rw [hl]
 simp only
 split at h
 next hb=>rw [hb]
 rename_i hb
 rw [hb]
 simp only
 rw [hm]
 split at h
 next m hl2=>rw [hl2];simp only;rw [h]
 cases h
theorem evDS_ok {C:Cx ro} {n:Nat} {l:List (Nat×SV)} {regs:T V} (hR:RegsS C n l regs) {i cl:Nat}:EvOk C n (evDS ml dl i cl l) (evD regs ms dm i cl):=fun x=>by
 cases x with
 |tmp t=>
  simp only [evDS,evD]
  split
  next hv=>
   rw [visS_ok hm hd hv]
   exact evR_ok hR (.tmp t)
  exact .inl rfl
 |const v=>exact evR_ok hR (.const v)
 |func f=>exact evR_ok hR (.func f)
 |global g=>exact .inl rfl
theorem wantB_of {regs:T V} {all:List Oper} {o:Oper} {b:Bool} (h:∀k:Bool->R,wantX regs all o k=k b) {i cl:Nat} (hv:gvisS ml dl i cl all o=true):wantB regs ms dm i cl all o=some b:=by
 have inj:∀{x:Bool},(some (Ex.normal,(⟨cond x 1 0,0,.e,.e,0,[]⟩:CX.St)):R)=some (.normal,⟨cond b 1 0,0,.e,.e,0,[]⟩)->x=b:=by
  intro x hx
  cases x<;>cases b<;>first |rfl |(simp at hx)
 have h:=h fun x=>some (.normal,⟨cond x 1 0,0,.e,.e,0,[]⟩)
 unfold wantX at h
 unfold wantB
 unfold gvisS at hv
 cases hg:o.guard with
 |none=>rw [hg] at h;simp only at h;rw [inj h]
 |some p=>
  obtain ⟨g,want⟩:=p
  rw [hg] at h hv
  simp only [nth_eq] at h hv ⊢
  cases ho:all[g]? with
  |none=>rw [ho] at h;cases h
  |some og=>
   rw [ho] at h hv
   simp only at h hv ⊢
   cases hdst:og.dst with
   |none=>rw [hdst] at h;cases h
   |some d=>
    rw [hdst] at h hv
    simp only at h hv ⊢
    rw [visS_ok hm hd hv]
    cases hr:regs.get d with
    |none=>rw [hr] at h;cases h
    |some u=>
     rw [hr] at h
     cases u with
     |bool x=>cases x<;>cases want<;>exact congrArg some (inj h)
     |tup l=>cases l with
      |nil=>exact congrArg some (inj h)
      |cons _ _=>cases h
     |_=>cases h
end
theorem laterOk_ok {E:CX.Env} {ml:List (Nat×Nat)} {ms:T Nat} (hm:∀j,ms.get j=look ml j) {i:Nat}:∀(r:List Oper) (j:Nat),laterOk E ms i r j=laterOkS E ml i r j
 |[],_=>rfl
 |o :: r,j=>by
  simp only [laterOk,laterOkS,hm,laterOk_ok hm r]
  rfl
theorem disj_of:∀(a b:List Nat),(∀x∈a,x∉b)->disj a b=true
 |[],_,_=>rfl
 |x :: r,b,h=>by
  have h1:CX.memN x b=false:=by
   cases hb:CX.memN x b with
   |false=>rfl
   |true=>exact absurd ((CX.memN_iff b).1 hb) (h x (.head _))
  simp only [disj,h1]
  exact disj_of r b fun y hy=>h y (.tail _ hy)
theorem outs_of {lo hi:Nat}:∀(l:List Nat),(∀x∈l,¬(lo<=x/\x < hi))->outs lo hi l=true
 |[],_=>rfl
 |x :: r,h=>by
  have h1:(Nat.ble lo x && Nat.blt x hi)=false:=by
   cases hb:(Nat.ble lo x && Nat.blt x hi) with
   |false=>rfl
   |true=>
    rw [zC,xX,kL] at hb
    exact absurd hb (h x (.head _))
  simp only [outs,h1]
  exact outs_of r fun y hy=>h y (.tail _ hy)
theorem below_of {nx:Nat}:∀(l:List Nat),(∀x∈l,x < nx)->below nx l=true
 |[],_=>rfl
 |x :: r,h=>by
  simp only [below,bltT (h x (.head _))]
  exact below_of r fun y hy=>h y (.tail _ hy)
theorem fits_of {cl:Nat} {fp:Fp}:∀(rs:List Rc),(∀r∈rs,CX.bit cl r.i=true\/pairOk fp r=true)->fits cl fp rs=true
 |[],_=>rfl
 |r :: rs,h=>by
  simp only [fits]
  rcases h r (.head _) with h1 |h1
  ·rw [h1];exact fits_of rs fun y hy=>h y (.tail _ hy)
  cases hb:CX.bit cl r.i with
  |true=>exact fits_of rs fun y hy=>h y (.tail _ hy)
  |false=>simp only [h1];exact fits_of rs fun y hy=>h y (.tail _ hy)
theorem fitsL_ok {p:RcS->Bool} {cl:Nat}:∀(rs:List RcS),fitsL p cl rs=true->∀r∈rs,CX.bit cl r.i=true\/p r=true
 |[],_,_,hr=>by cases hr
 |r' :: rs,h,r,hr=>by
  simp only [fitsL] at h
  have next:fitsL p cl rs=true:=by
   split at h
   ·exact h
   split at h
   ·exact h
   cases h
  rcases zT.1 hr with rfl |hr
  ·split at h
   ·exact .inl ‹_›
   split at h
   ·exact .inr ‹_›
   cases h
  exact fitsL_ok rs next r hr
theorem without_same {cl:Nat}:∀(rs:List Rc) (h:T O),(∀r∈rs,CX.bit cl r.i=true\/r.hi<=r.lo)->withoutS cl rs h=h
 |[],_,_=>rfl
 |r :: rs,h,hr=>by
  simp only [withoutS]
  cases hb:CX.bit cl r.i with
  |true=>exact without_same rs h fun y hy=>hr y (.tail _ hy)
  |false=>
   simp only
   rcases hr r (.head _) with h1 |h1
   ·rw [h1] at hb;cases hb
   rw [show Nat.sub r.hi r.lo=0 from Nat.sub_eq_zero_of_le h1]
   exact without_same rs _ fun y hy=>hr y (.tail _ hy)
def AtR (C:Cx ro) (n:Nat):At->Nat->Prop
 |.cl nm,id=>nm < n/\id=C.ids nm
 |.ar nm,id=>nm < n/\id=C.ids nm/\C.hdr nm≠.nils
 |.fz b,id=>b<=n/\id < C.bd b/\∃o,C.g id=some o
 |.mt nm,id=>nm < n/\id=C.ids nm/\C.hdr nm≠.nils
 |.sb nm rn,id=>(nm < n/\rn < n)/\∃l i,C.hdr rn=.tup l/\RowId l i id
theorem AtR.ag {C C':Cx ro} {n m:Nat} (ha:Ag n C C') (hn:n<=m) {a:At} {id:Nat} (h:AtR C n a id):AtR C' m a id:=by
 cases a with
 |cl nm=>exact ⟨by have:=h.1;omega,by rw [ha.ids _ h.1];exact h.2⟩
 |ar nm=>exact ⟨by have:=h.1;omega,by rw [ha.ids _ h.1];exact h.2.1,by rw [ha.hdr _ h.1];exact h.2.2⟩
 |mt nm=>exact ⟨by have:=h.1;omega,by rw [ha.ids _ h.1];exact h.2.1,by rw [ha.hdr _ h.1];exact h.2.2⟩
 |sb nm rn=>exact ⟨⟨by have:=h.1.1;omega,by have:=h.1.2;omega⟩,by rw [ha.hdr _ h.1.2];exact h.2⟩
 |fz b=>
  obtain ⟨h1,h2,o,h3⟩:=h
  exact ⟨by omega,by rw [ha.bd _ h1];exact h2,o,ha.g _ _ h3⟩
def FtR (C:Cx ro) (n:Nat) (A:List At) (F:List Nat):Prop:=∀id∈F,∃a∈A,AtR C n a id
def FpR (C:Cx ro) (n:Nat):FpS->Fp->Prop
 |.all,.all=>True
 |.q,.q=>True
 |.ls A wr,.ls F wr'=>wr=wr'/\FtR C n A F
 |_,_=>False
structure RcR (C:Cx ro) (n nx0:Nat) (r:RcS) (x:Rc):Prop where
 i:x.i=r.i
 fp:FpR C n r.fp x.fp
 lo:nx0<=x.lo
 al:r.al=false->x.hi<=x.lo
theorem RcR.ag {C C':Cx ro} {n m nx0:Nat} (ha:Ag n C C') (hn:n<=m) {r:RcS} {x:Rc} (h:RcR C n nx0 r x):RcR C' m nx0 r x:=by
 refine ⟨h.i,?_,h.lo,h.al⟩
 have:=h.fp
 revert this
 cases r.fp<;>cases x.fp<;>simp only [FpR]<;>intro hh<;>first |trivial |exact hh |skip
 exact ⟨hh.1,fun id hid=>let ⟨a,h1,h2⟩:=hh.2 id hid;⟨a,h1,h2.ag ha hn⟩⟩
def RcsR (C:Cx ro) (n nx0:Nat):List RcS->List Rc->Prop
 |[],[]=>True
 |r :: rs,x :: xs=>RcR C n nx0 r x/\RcsR C n nx0 rs xs
 |_,_=>False
theorem RcsR.ag {C C':Cx ro} {n m nx0:Nat} (ha:Ag n C C') (hn:n<=m):∀{rs:List RcS} {xs:List Rc},RcsR C n nx0 rs xs->RcsR C' m nx0 rs xs
 |[],[],_=>trivial
 |_ :: _,_ :: _,h=>⟨h.1.ag ha hn,RcsR.ag ha hn h.2⟩
 |[],_ :: _,h=>h.elim
 |_ :: _,[],h=>h.elim
theorem RcsR.mem {C:Cx ro} {n nx0:Nat}:∀{rs:List RcS} {xs:List Rc},RcsR C n nx0 rs xs->∀x∈xs,∃r∈rs,RcR C n nx0 r x
 |[],[],_,_,hx=>by cases hx
 |r :: rs,x' :: xs,h,x,hx=>by
  rcases zT.1 hx with rfl |hx
  ·exact ⟨r,.head _,h.1⟩
  obtain ⟨r',a,b⟩:=RcsR.mem h.2 x hx
  exact ⟨r',.tail _ a,b⟩
 |[],_ :: _,h,_,_=>h.elim
 |_ :: _,[],h,_,_=>h.elim
theorem isCl_ok {s:Option SO} (h:isCl s=true):∃l,s=some (.cells l):=by
 unfold isCl at h
 split at h
 ·exact ⟨_,rfl⟩
 cases h
theorem isAr_ok {s:Option SO} (h:isAr s=true):∃og ks rows,s=some (.arr og ks rows):=by
 unfold isAr at h
 split at h
 ·exact ⟨_,_,_,rfl⟩
 cases h
section
variable {C:Cx ro} {objs:List (Nat×SO)} {n bar:Nat} {h:Nat->Option O} {nx:Nat} (hM:MSim C objs n bar h nx)
include hM
theorem mt_own {nm x:Nat} (hl:isMt (look objs nm)=true) (hx:AtR C n (.mt nm) x):∃og ks rows rn hole,look objs nm=some (.mat og ks rows rn hole)/\owns C nm (.mat og ks rows rn hole) x:=by
 unfold isMt at hl
 split at hl
 next og ks rows rn hole e=>
  exact ⟨og,ks,rows,rn,hole,e,.inl ⟨hx.2.2,hx.2.1.symm⟩⟩
 cases hl
theorem sb_own {nm rn x:Nat} (hl:isMr rn (look objs nm)=true) (hx:AtR C n (.sb nm rn) x):∃og ks rows rn hole,look objs nm=some (.mat og ks rows rn hole)/\owns C nm (.mat og ks rows rn hole) x:=by
 unfold isMr at hl
 split at hl
 next og ks rows rn' e=>
  simp only [beqN_iff] at hl
  subst hl
  obtain ⟨_,l,i,h1,h2⟩:=hx
  exact ⟨og,ks,rows,rn,none,e,.inr ⟨l,i,h1,by simp,h2⟩⟩
 cases hl
theorem mat_cl {nm y x:Nat} (hm:∃og ks rows rn hole,look objs nm=some (.mat og ks rows rn hole)/\owns C nm (.mat og ks rows rn hole) x) (hl:isCl (look objs y)=true):x≠C.ids y:=by
 obtain ⟨og,ks,rows,rn,hole,e,o⟩:=hm
 obtain ⟨l,hl⟩:=isCl_ok hl
 intro c
 have:=hM.inj' _ _ _ _ e hl x o (.inl ⟨trivial,c.symm⟩)
 subst this
 rw [e] at hl;cases hl
theorem mat_ar {nm y x:Nat} (hm:∃og ks rows rn hole,look objs nm=some (.mat og ks rows rn hole)/\owns C nm (.mat og ks rows rn hole) x) (hl:isAr (look objs y)=true) (hy:C.hdr y≠.nils):x≠C.ids y:=by
 obtain ⟨og,ks,rows,rn,hole,e,o⟩:=hm
 obtain ⟨og',ks',rows',hl⟩:=isAr_ok hl
 intro c
 have:=hM.inj' _ _ _ _ e hl x o (.inl ⟨hy,c.symm⟩)
 subst this
 rw [e] at hl;cases hl
theorem mat_fz {nm x:Nat} (hm:∃og ks rows rn hole,look objs nm=some (.mat og ks rows rn hole)/\owns C nm (.mat og ks rows rn hole) x):C.g x=none:=by
 obtain ⟨og,ks,rows,rn,hole,e,o⟩:=hm
 exact (hM.own' _ _ e _ o).2.2
theorem dis_ok {a b:At} (hd:disA objs a b=true) {x y:Nat} (hx:AtR C n a x) (hy:AtR C n b y):x≠y:=by
 have fzc:∀{bb nm:Nat} {x y:Nat} {so:SO},AtR C n (.fz bb) x->look objs nm=some so->ownS C nm so->y=C.ids nm->x≠y:=by
  intro bb nm x y so hx hl ho hy e
  obtain ⟨_,_,o,hg⟩:=hx
  have:=(hM.own _ _ hl ho).2.2
  rw [e,hy,this] at hg
  cases hg
 have fz0:∀{bb x:Nat},beqN bb 0=true->¬AtR C n (.fz bb) x:=fun {bb x} hb h=>by
  rw [beqN_iff] at hb
  subst hb
  have:=h.2.1
  rw [hM.z] at this
  omega
 cases a<;>cases b<;>simp only [disA,zC,Bool.or_eq_true,kG] at hd
 case cl.cl=>
  obtain ⟨h1,h2,h3⟩:=hd
  obtain ⟨l,hl⟩:=isCl_ok h2
  obtain ⟨l',hl'⟩:=isCl_ok h3
  rw [hx.2,hy.2]
  exact hM.inj _ _ _ _ hl hl' trivial trivial (fun e=>by rw [<-beqN_iff,h1] at e;cases e)
 case cl.ar=>
  obtain ⟨h1,h2,h3⟩:=hd
  obtain ⟨l,hl⟩:=isCl_ok h2
  obtain ⟨og,ks,rows,hl'⟩:=isAr_ok h3
  rw [hx.2,hy.2.1]
  exact hM.inj _ _ _ _ hl hl' trivial hy.2.2 (fun e=>by rw [<-beqN_iff,h1] at e;cases e)
 case ar.cl=>
  obtain ⟨h1,h2,h3⟩:=hd
  obtain ⟨l,hl⟩:=isCl_ok h3
  obtain ⟨og,ks,rows,hl'⟩:=isAr_ok h2
  rw [hx.2.1,hy.2]
  exact hM.inj _ _ _ _ hl' hl hx.2.2 trivial (fun e=>by rw [<-beqN_iff,h1] at e;cases e)
 case ar.ar=>
  obtain ⟨h1,h2,h3⟩:=hd
  obtain ⟨og,ks,rows,hl⟩:=isAr_ok h2
  obtain ⟨og',ks',rows',hl'⟩:=isAr_ok h3
  rw [hx.2.1,hy.2.1]
  exact hM.inj _ _ _ _ hl hl' hx.2.2 hy.2.2 (fun e=>by rw [<-beqN_iff,h1] at e;cases e)
 case fz.cl=>
  rcases hd with hd |hd
  ·exact absurd hx (fz0 hd)
  obtain ⟨l,hl⟩:=isCl_ok hd
  exact fzc hx hl trivial hy.2
 case fz.ar=>
  rcases hd with hd |hd
  ·exact absurd hx (fz0 hd)
  obtain ⟨og,ks,rows,hl⟩:=isAr_ok hd
  exact fzc hx hl hy.2.2 hy.2.1
 case cl.fz=>
  rcases hd with hd |hd
  ·exact absurd hy (fz0 hd)
  obtain ⟨l,hl⟩:=isCl_ok hd
  exact (fzc hy hl trivial hx.2).symm
 case ar.fz=>
  rcases hd with hd |hd
  ·exact absurd hy (fz0 hd)
  obtain ⟨og,ks,rows,hl⟩:=isAr_ok hd
  exact (fzc hy hl hx.2.2 hx.2.1).symm
 case fz.fz=>
  rcases hd with hd |hd
  ·exact absurd hx (fz0 hd)
  exact absurd hy (fz0 hd)
 case mt.cl=>rw [hy.2];exact mat_cl hM (mt_own hM hd.1 hx) hd.2
 case cl.mt=>rw [hx.2];exact (mat_cl hM (mt_own hM hd.1 hy) hd.2).symm
 case mt.ar=>rw [hy.2.1];exact mat_ar hM (mt_own hM hd.1 hx) hd.2 hy.2.2
 case ar.mt=>rw [hx.2.1];exact (mat_ar hM (mt_own hM hd.1 hy) hd.2 hx.2.2).symm
 case sb.cl=>rw [hy.2];exact mat_cl hM (sb_own hM hd.1 hx) hd.2
 case cl.sb=>rw [hx.2];exact (mat_cl hM (sb_own hM hd.1 hy) hd.2).symm
 case sb.ar=>rw [hy.2.1];exact mat_ar hM (sb_own hM hd.1 hx) hd.2 hy.2.2
 case ar.sb=>rw [hx.2.1];exact (mat_ar hM (sb_own hM hd.1 hy) hd.2 hx.2.2).symm
 case fz.mt=>
  rcases hd with hd |hd
  ·exact absurd hx (fz0 hd)
  obtain ⟨_,_,o,hg⟩:=hx
  intro e
  rw [e,mat_fz hM (mt_own hM hd hy)] at hg;cases hg
 case mt.fz=>
  rcases hd with hd |hd
  ·exact absurd hy (fz0 hd)
  obtain ⟨_,_,o,hg⟩:=hy
  intro e
  rw [<-e,mat_fz hM (mt_own hM hd hx)] at hg;cases hg
 case fz.sb=>
  rcases hd with hd |hd
  ·exact absurd hx (fz0 hd)
  obtain ⟨_,_,o,hg⟩:=hx
  intro e
  rw [e,mat_fz hM (sb_own hM hd hy)] at hg;cases hg
 case sb.fz=>
  rcases hd with hd |hd
  ·exact absurd hy (fz0 hd)
  obtain ⟨_,_,o,hg⟩:=hy
  intro e
  rw [<-e,mat_fz hM (sb_own hM hd hx)] at hg;cases hg
 all_goals cases hd
theorem old_ok {C':Cx ro} {n':Nat} (ha:Ag n C C') {a:At} (ho:oldA objs n a=true) {x:Nat} (hx:AtR C' n' a x):x < nx:=by
 cases a with
 |cl nm=>
  obtain ⟨l,hl⟩:=isCl_ok ho
  rw [hx.2,ha.ids _ (hM.lt _ _ hl)]
  exact (hM.own _ _ hl trivial).2.1
 |ar nm=>
  obtain ⟨og,ks,rows,hl⟩:=isAr_ok ho
  have hlt:=hM.lt _ _ hl
  rw [hx.2.1,ha.ids _ hlt]
  exact (hM.own _ _ hl (by have:=hx.2.2;rw [ha.hdr _ hlt] at this;exact this)).2.1
 |mt nm=>
  have hx0:AtR C n (.mt nm) x:=by
   have ho:isMt (look objs nm)=true:=ho
   unfold isMt at ho
   split at ho
   next e=>
    have hlt:=hM.lt _ _ e
    exact ⟨hlt,by rw [<-ha.ids _ hlt];exact hx.2.1,by rw [<-ha.hdr _ hlt];exact hx.2.2⟩
   cases ho
  obtain ⟨_,_,_,_,_,e,o⟩:=mt_own hM ho hx0
  exact (hM.own' _ _ e _ o).2.1
 |sb nm rn=>
  have hx0:AtR C n (.sb nm rn) x:=by
   have ho:isMr rn (look objs nm)=true:=ho
   unfold isMr at ho
   split at ho
   next og ks rows rn' e=>
    simp only [beqN_iff] at ho
    subst ho
    have hlt:=hM.lt _ _ e
    have hr:=hM.rn e
    exact ⟨⟨hlt,hr⟩,by rw [<-ha.hdr _ hr];exact hx.2⟩
   cases ho
  obtain ⟨_,_,_,_,_,e,o⟩:=sb_own hM ho hx0
  exact (hM.own' _ _ e _ o).2.1
 |fz b=>
  simp only [oldA,bleN_iff] at ho
  have:=hx.2.1
  rw [ha.bd _ ho] at this
  exact xJ this (hM.bd _ ho)
end
theorem pairS_ok {C0:Cx ro} {σ0:List (Nat×SO)} {n0 bar0:Nat} {h0:Nat->Option O} {nx0:Nat} (hM0:MSim C0 σ0 n0 bar0 h0 nx0) {C:Cx ro} (ha:Ag n0 C0 C) {objs:List (Nat×SO)} {n bar:Nat} {h:Nat->Option O} {nx:Nat} (hM:MSim C objs n bar h nx)
  {A:List At} {F:List Nat} (hF:FtR C n A F) {wr:Bool} {r:RcS} {x:Rc} (hx:RcR C n nx0 r x) (hp:pairS σ0 n0 objs A wr r=true):pairOk (.ls F wr) x=true:=by
 have hout:(!r.al || A.all (oldA σ0 n0))=true->outs x.lo x.hi F=true:=by
  intro ho
  refine outs_of F fun id hid hh=>?_
  rw [Bool.or_eq_true,kG] at ho
  rcases ho with ho |ho
  ·have:=hx.al ho;omega
  obtain ⟨a,h1,h2⟩:=hF id hid
  have:=old_ok hM0 ha (qG.1 ho a h1) h2
  have:=hx.lo
  omega
 have hfp:=hx.fp
 unfold pairS at hp
 cases hr:r.fp with
 |all=>rw [hr] at hp;cases hp
 |q=>
  rw [hr] at hp hfp
  cases hxf:x.fp<;>rw [hxf] at hfp<;>simp only [FpR] at hfp
  simp only [pairOk,hxf]
  cases wr with
  |true=>
   simp only [noA] at hp ⊢
   cases F with
   |nil=>rfl
   |cons id F=>
    obtain ⟨a,h1,_⟩:=hF id (.head _)
    split at hp
    ·cases h1
    cases hp
  |false=>exact hout hp
 |ls B wr'=>
  rw [hr] at hp hfp
  cases hxf:x.fp<;>rw [hxf] at hfp<;>simp only [FpR] at hfp
  rename_i F' wr2
  obtain ⟨rfl,hB⟩:=hfp
  simp only [zC] at hp
  obtain ⟨hp1,hp2⟩:=hp
  simp only [pairOk,hxf,hout hp1]
  have hdis:disL objs A B=true->disj F F'=true:=by
   intro hd
   refine disj_of F F' fun id hid hid'=>?_
   obtain ⟨a,a1,a2⟩:=hF id hid
   obtain ⟨b,b1,b2⟩:=hB id hid'
   exact dis_ok hM (qG.1 (qG.1 hd a a1) b b1) a2 b2 rfl
  cases wr<;>cases wr'<;>simp only [Bool.or_false,Bool.or_true,Bool.true_or] at hp2 ⊢<;>exact hdis hp2
theorem fitsA_ok {C:Cx ro} {n nx0:Nat} {p:RcS->Bool} {cl:Nat} {rs:List RcS} {xs:List Rc} (hR:RcsR C n nx0 rs xs) (h:fitsL p cl rs=true) {fp:Fp} (hp:∀r x,RcR C n nx0 r x->p r=true->pairOk fp x=true):fits cl fp xs=true:=by
 refine fits_of xs fun x hx=>?_
 obtain ⟨r,h1,h2⟩:=hR.mem x hx
 rcases fitsL_ok rs h r h1 with hb |hb
 ·exact .inl (by rw [h2.i];exact hb)
 exact .inr (hp r x h2 hb)
theorem atomsOf_ok {E:Env} (hA:E.A=Ar.std) {C:Cx ro} {σ:St} {bar:Nat} {h:Nat->Option O} {nx:Nat} (hM:MSim C σ.objs σ.next bar h nx) {x:SV} {v:V} (hx:RvS C σ.next x v) {p:List Prop} {A:List At} (ha:atomsOf E σ x=some (p,A)) (hp:∀q∈p,q):∀id∈footV v,id < nx/\∃a∈A,AtR C σ.next a id:=by
 have slcv:∀{nm:Nat},nm < σ.next->isHdr (C.hdr nm)->isAr (look σ.objs nm)=true->∀id∈footV (C.hdr nm),id < nx/\∃a∈[At.ar nm],AtR C σ.next a id:=by
  intro nm hnm hh hl id hid
  obtain ⟨og,ks,rows,hl⟩:=isAr_ok hl
  have ho:=hM.ob _ _ hl
  simp only [ObS] at ho
  obtain ⟨_,⟨_,e⟩ |⟨t,m,cap,e,_⟩⟩:=ho
  ·rw [e] at hid;simp [footV] at hid
  rw [e] at hid
  simp only [footV,xE] at hid
  have hne:C.hdr nm≠.nils:=by rw [e];intro e;cases e
  exact ⟨by rw [hid];exact (hM.own _ _ hl hne).2.1,.ar nm,by simp,hnm,hid,hne⟩
 unfold atomsOf at ha
 split at ha
 ·split at ha
  next hl=>
   obtain ⟨l,hl⟩:=isCl_ok hl
   simp only [zA,zJ] at ha
   obtain ⟨rfl,rfl⟩:=ha
   simp only [RvS] at hx
   obtain ⟨h1,rfl⟩:=hx
   intro id hid
   simp only [footV,xE] at hid
   exact ⟨by rw [hid];exact (hM.own _ _ hl trivial).2.1,_,.head _,h1,hid⟩
  cases ha
 next nm es i off=>
  split at ha
  rotate_left
  ·cases ha
  rename_i og ks rows hl
  simp only [zA,zJ] at ha
  obtain ⟨rfl,rfl⟩:=ha
  simp only [RvS] at hx
  obtain ⟨h1,rfl⟩:=hx
  intro id hid
  simp only [footV,xE] at hid
  have hne:C.hdr nm≠.nils:=by
   have p1:=hp _ (.head _)
   rw [hA] at p1
   have ho:=hM.ob _ _ hl
   simp only [ObS] at ho
   obtain ⟨_,⟨hr,_⟩ |⟨t,m,cap,e,_⟩⟩:=ho
   ·rw [hr] at p1
    simp [Ar.std] at p1
    omega
   rw [e];intro e;cases e
  exact ⟨by rw [hid];exact (hM.own _ _ hl hne).2.1,_,.head _,h1,hid,hne⟩
 next b ks rows i off=>
  simp only [zA,zJ] at ha
  obtain ⟨rfl,rfl⟩:=ha
  simp only [RvS,FelR] at hx
  obtain ⟨h0,⟨id',base,t,m,rfl,h2,h3,_⟩ |⟨a,rfl,_⟩⟩:=hx
  ·intro id hid
   simp only [footV,xE] at hid
   subst hid
   exact ⟨(hM.fz _ _ h3).1,_,.head _,h0,h2,_,h3⟩
  intro id hid;simp [footV] at hid
 ·split at ha
  next hl=>
   simp only [zA,zJ] at ha
   obtain ⟨rfl,rfl⟩:=ha
   simp only [RvS] at hx
   obtain ⟨h1,rfl,h2⟩:=hx
   exact slcv h1 h2 hl
  cases ha
 next nm lo m=>
  split at ha
  next hl=>
   obtain ⟨og,ks,rows,hl⟩:=isAr_ok hl
   simp only [zA,zJ] at ha
   obtain ⟨rfl,rfl⟩:=ha
   simp only [RvS,VwR] at hx
   obtain ⟨h1,⟨_,rfl,_⟩ |⟨es,len,cap0,off,cap,e,rfl,_⟩⟩:=hx
   ·intro id hid;simp [footV] at hid
   intro id hid
   simp only [footV,xE] at hid
   have hne:C.hdr nm≠.nils:=by rw [e];intro e;cases e
   exact ⟨by rw [hid];exact (hM.own _ _ hl hne).2.1,_,.head _,h1,hid,hne⟩
  cases ha
 ·split at ha
  next hl=>
   obtain ⟨l,hl⟩:=isCl_ok hl
   simp only [zA,zJ] at ha
   obtain ⟨rfl,rfl⟩:=ha
   simp only [RvS] at hx
   obtain ⟨h1,_,cap,rfl,_⟩:=hx
   intro id hid
   simp only [footV,xE] at hid
   exact ⟨by rw [hid];exact (hM.own _ _ hl trivial).2.1,_,.head _,h1,hid⟩
  cases ha
 ·simp only [zA,zJ] at ha
  obtain ⟨rfl,rfl⟩:=ha
  simp only [RvS,FzC,D.rows] at hx
  obtain ⟨h0,_,⟨_,rfl⟩ |⟨id',off,cap,rfl,_,_,h2,t,m,h3,_⟩ |⟨a,cap,rfl,_⟩⟩:=hx
  ·intro id hid;simp [footV] at hid
  ·intro id hid
   simp only [footV,xE] at hid
   subst hid
   exact ⟨(hM.fz _ _ h3).1,_,.head _,h0,h2,_,h3⟩
  intro id hid;simp [footV] at hid
 next nm i=>
  split at ha
  rotate_left
  ·cases ha
  rename_i og ks rows rn hole hl
  simp only [zA,zJ] at ha
  obtain ⟨rfl,rfl⟩:=ha
  simp only [RvS] at hx
  obtain ⟨h1,rfl⟩:=hx
  intro id hid
  simp only [footV,xE] at hid
  have hne:C.hdr nm≠.nils:=by
   have p1:=hp _ (.head _)
   rw [hA] at p1
   have ho:=hM.ob _ _ hl
   simp only [ObS] at ho
   obtain ⟨_,_,l,_,_,⟨hr,_⟩ |⟨t,m,cap,e,_⟩,_⟩:=ho
   ·rw [hr] at p1
    simp [Ar.std] at p1
    omega
   rw [e];intro e;cases e
  exact ⟨by rw [hid];exact (hM.own _ _ hl hne).2.1,_,.head _,h1,hid,hne⟩
 next nm rn i=>
  split at ha
  next hl=>
   simp only [zA,zJ] at ha
   obtain ⟨rfl,rfl⟩:=ha
   simp only [RvS] at hx
   obtain ⟨h1,h2,l,h3,h4⟩:=hx
   rcases h2 with rfl |⟨id',es,off,len,cap,rfl⟩
   ·intro id hid;simp [footV] at hid
   intro id hid
   simp only [footV,xE] at hid
   subst hid
   have at_:AtR C σ.next (.sb nm rn) id:=⟨h1,l,i,h3,_,_,_,_,h4⟩
   obtain ⟨_,_,_,_,_,e,o⟩:=sb_own hM hl at_
   exact ⟨(hM.own' _ _ e _ o).2.1,_,.head _,at_⟩
  cases ha
 ·simp only [zA,zJ] at ha
  obtain ⟨rfl,rfl⟩:=ha
  simp only [RvS] at hx
  subst hx
  intro id hid;simp [footV] at hid
 cases ha
theorem footS_ok {E:Env} (hA:E.A=Ar.std) {C:Cx ro} {σ:St} {bar:Nat} {h:Nat->Option O} {nx:Nat} (hM:MSim C σ.objs σ.next bar h nx) {ev:Operand->SV} {evc:Operand->Option V} (hev:EvOk C σ.next ev evc) {op:Op} {p:List Prop} {A:List At} (ha:footS E σ ev op=some (p,A)) (hp:∀q∈p,q)
  {F:List Nat} (hF:foot evc op=some F):∀id∈F,id < nx/\∃a∈A,AtR C σ.next a id:=by
 have ne:∀{y:Operand} {r:List Prop×List At},atomsOf E σ (ev y)=some r->ev y≠.unk:=fun h e=>by rw [e] at h;simp [atomsOf] at h
 have one:∀{y:Operand} {p:List Prop} {A:List At} {F:List Nat},atomsOf E σ (ev y)=some (p,A)->(∀q∈p,q)->foot1 evc y=some F->∀id∈F,id < nx/\∃a∈A,AtR C σ.next a id:=by
  intro y p A F h hp hF
  obtain ⟨v,e1,e2⟩:=hev.get rfl (ne h)
  rw [foot1_eq e1] at hF
  simp only [zA] at hF
  subst hF
  exact atomsOf_ok hA hM e2 h hp
 unfold footS at ha
 split at ha
 ·exact one ha hp hF
 ·exact one ha hp hF
 next c=>
  split at ha
  rotate_left
  ·cases ha
  rename_i x y hargs
  split at ha
  next p1 a1 p2 a2 hx hy=>
   simp only [zA,zJ] at ha
   obtain ⟨rfl,rfl⟩:=ha
   simp only [foot,hargs] at hF
   split at hF
   next f1 f2 h1 h2=>
    simp only [zA] at hF
    subst hF
    intro id hid
    rcases xN.1 hid with hid |hid
    ·obtain ⟨d,a,b,c⟩:=one hx (fun q hq=>hp q (xW _ hq)) h1 id hid
     exact ⟨d,a,xW _ b,c⟩
    obtain ⟨d,a,b,c⟩:=one hy (fun q hq=>hp q (xP _ hq)) h2 id hid
    exact ⟨d,a,xP _ b,c⟩
   cases hF
  cases ha
 all_goals first
  |(simp only [foot,zA] at hF;subst hF;intro id hid;cases hid)
  |cases ha
end HX

namespace HX
open Go CX
variable {ro:Addr->Option V}
theorem MSim.cong {C:Cx ro} {objs:List (Nat×SO)} {n bar:Nat} {h h2:Nat->Option O} {nx:Nat} (hM:MSim C objs n bar h nx) (hh:∀id,id < nx->h2 id=h id):MSim C objs n bar h2 nx:=
 ⟨hM.lt,fun nm so hl=>ObS.mono (Ag.refl _ _) (zB _) (zB _) (hM.lt _ _ hl) (fun id hw=>hh _ (hM.own' _ _ hl _ hw).2.1) (hM.ob _ _ hl),hM.own',hM.inj',
  fun id o hg=>⟨(hM.fz _ _ hg).1,by rw [hh _ (hM.fz _ _ hg).1];exact (hM.fz _ _ hg).2⟩,hM.bd,hM.top,hM.barle,hM.z⟩
theorem memD_of {E:CX.Env} {ih:IH} {ms dm:T Nat} {i cl:Nat} {recs:List Rc} {o:Oper} {S:CX.St} {fp:Fp} {hv:T O} {barv:Nat} {v:V} {h' h2:T O} {nx':Nat}
  (h1:belowF S.nx fp=true) (hfits:fits cl fp recs=true) (h3:S.bar<=S.nx) (hview:∀k:T O->Nat->Option (CX.St×List Rc),viewX cl recs fp S.h S.bar S.nx k=k hv barv)
  (hop:opA E ih barv (evD S.regs ms dm i cl) hv S.nx o.op retV=retV v h' nx') (hle:S.nx<=nx') (hmerge:∀k:T O->Option (CX.St×List Rc),mergeX fp S.h h' S.bar S.nx nx' k=k h2) :
  memD E ih ms dm i cl recs o S fp=putO ⟨S.nt,S.bar,S.regs,h2,nx',S.df⟩ o.dst v fun S'=>some (S',⟨i,fp,S.nx,nx'⟩ :: recs):=by
 obtain ⟨nt,bar,regs,h,nx,df⟩:=S
 have e:(belowF nx fp && fits cl fp recs && Nat.ble bar nx)=true:=by
  rw [show belowF nx fp=true from h1,hfits,bleT h3];rfl
 simp only [memD,e]
 rw [hview]
 simp only at hop
 rw [hop]
 simp only [retV,outV,bleT hle]
 rw [hmerge]
theorem fitsAll_eq {C:Cx ro} {n nx0 cl:Nat}:∀{rs:List RcS} {xs:List Rc},RcsR C n nx0 rs xs->fits cl .all xs=fitsL (fun _=>false) cl rs
 |[],[],_=>rfl
 |r :: rs,x :: xs,h=>by
  simp only [fits,fitsL,h.1.i,pairOk,fitsAll_eq h.2]
  cases CX.bit cl r.i<;>rfl
 |[],_ :: _,h=>h.elim
 |_ :: _,[],h=>h.elim
def stepT (E:CX.Env) (ih:IH) (ms dm:T Nat) (r:List Oper) (o:Oper) (i cl:Nat) (recs:List Rc) (S:CX.St):Option (CX.St×List Rc):=
 match clsOf E o.op with
 |0=>outV (opP E (evD S.regs ms dm i cl) o.op (fun v=>retV v .e 0)) fun v _ _=>putO S o.dst v fun S=>some (S,recs)
 |c=>match pickD E ms dm cl r i recs o S c with
  |some fp=>memD E ih ms dm i cl recs o S fp
  |none=>none
structure StepR (E:CX.Env) (ms dm:T Nat) (r:List Oper) (o:Oper) (i cl:Nat) (xs:List Rc) (S:CX.St) (nx0:Nat) (C:Cx E.ro) (σ:St) (K:SV->List RcS->St->Prop) (v:V) (C':Cx E.ro) (h':T O) (nx':Nat) (s:SV) (σ':St) (rs':List RcS) (xs':List Rc):Prop where
 run:Evt fun n=>stepT E (cx E n) ms dm r o i cl xs S=putO ⟨S.nt,S.bar,S.regs,h',nx',S.df⟩ o.dst v fun S'=>some (S',xs')
 m:MSim C' σ'.objs σ'.next S.bar h'.get nx'
 e:MExt C σ.objs σ.next S.h.get S.nx C' σ'.objs σ'.next h'.get nx'
 v:RvS C' σ'.next s v
 nt:σ'.nt=σ.nt
 regs:σ'.regs=σ.regs
 df:σ'.df=σ.df
 recs:RcsR C' σ'.next nx0 rs' xs'
 k:K s rs' σ'
section
variable {E:Env} (hE:EnvOk E)
include hE
theorem putO_ok {σ σ':St} {dst:Option Nat} {s:SV} (h:putS σ dst s=some σ') {C:Cx E.E.ro} {S:CX.St} (hnt:S.nt=σ.nt) (hR:RegsS C σ.next σ.regs S.regs) {v:V} (hv:RvS C σ.next s v) {β:Type} :
  ∃regs,(∀k:CX.St->Option β,putO S dst v k=k ⟨S.nt,S.bar,regs,S.h,S.nx,S.df⟩)/\RegsS C σ.next σ'.regs regs/\σ'.nt=σ.nt/\σ'.objs=σ.objs/\σ'.next=σ.next/\σ'.df=σ.df:=by
 obtain ⟨regs,p1,p2⟩:=putS_ok hE h hnt hR hv S.h S.nx
 refine ⟨regs,fun k=>?_,p2⟩
 obtain ⟨nt,bar,rg,hp,nx,df⟩:=S
 unfold putD at p1
 unfold putO
 cases dst with
 |none=>
  have:=p1 fun S=>some (.normal,S)
  simp at this
  simp only
  rw [this]
 |some d=>
  simp only at p1 ⊢
  cases hb:Nat.blt d nt with
  |false=>
   have:=p1 fun S=>some (.normal,S)
   rw [hb] at this
   cases this
  |true=>
   have:=p1 fun S=>some (.normal,S)
   rw [hb] at this
   simp [T.set_eq] at this
   simp only [T.set_eq]
   rw [this]
theorem callS_q {ci:CI} {f:SV} {args:List SV} {σ:St} {K:SV->St->Prop} (h:callS E ci f args σ K) (hc:isCtr E f=true) {C:Cx E.E.ro} {bar:Nat} {hp:T O} {nx:Nat} (hM:MSim C σ.objs σ.next bar hp.get nx) {vf:V} {va:List V} (hf:RvS C σ.next f vf) (ha:RvSL C σ.next args va) :
  CallQ E.E (fun n k=>callV E.E (cx E.E n) nx hp nx vf va k) C σ bar hp.get nx K:=by
 unfold isCtr at hc
 rw [callS_eq] at h
 split at h
 next g a b=>
  split at h
  next sg hs=>
   simp only [RvS] at hf
   obtain ⟨x,y,f1,f2,rfl⟩:=hf
   have hargs:RvSL C σ.next (a++args++b) (x++va++y):=RvSL.append (RvSL.append f1 ha) f2
   split at h
   ·exact callC_ok hE hs h hM (zB _) hargs
   obtain ⟨C1,h1,e1⟩:=hM.frzL (a++args++b)
   obtain ⟨v,C',h',nx',s,σ',k1,k2,k3,k4,k5,k6,k7,k8,k9⟩:=callC_ok hE hs h h1 (zB nx) (RvSL.ag e1.ag (zB _) _ _ hargs)
   exact ⟨v,C',h',nx',s,σ',k1,k2,e1.trans k3,k4,k5,k6,k7,k8,k9⟩
  rename_i hs
  simp only [hs] at hc;cases hc
 rename_i hno
 exfalso
 cases f<;>first |exact hno _ _ _ rfl |simp at hc
set_option maxHeartbeats 1000000 in
theorem stepS_ok {ci:CI} (hci:CIOk E.E ci) {C0:Cx E.E.ro} {σ0:List (Nat×SO)} {n0 bar0:Nat} {h0:Nat->Option O} {nx0:Nat} (hM0:MSim C0 σ0 n0 bar0 h0 nx0) {ml:List (Nat×Nat)} {ms dm:T Nat} (hm:∀j,ms.get j=look ml j) {r:List Oper} {i cl:Nat} {rs:List RcS} {o:Oper} {σ:St} {ev:Operand->SV} {K:SV->List RcS->St->Prop}
  (h:stepS E ci σ0 n0 ml r i cl rs ev o.op σ K) {C:Cx E.E.ro} {S:CX.St} (hM:MSim C σ.objs σ.next S.bar S.h.get S.nx) (ha:Ag n0 C0 C) (hn0:n0<=σ.next) (hnx0:nx0<=S.nx) {xs:List Rc} (hR:RcsR C σ.next nx0 rs xs) (hev:EvOk C σ.next ev (evD S.regs ms dm i cl)) :
  ∃v C' h' nx' s σ' rs' xs',StepR E.E ms dm r o i cl xs S nx0 C σ K v C' h' nx' s σ' rs' xs':=by
 have h:=stepS_imp _ _ _ _ _ _ _ _ _ _ _ _ _ h
 split at h
 next hc=>
  obtain ⟨sv,v,v1,v2,h2⟩:=exec0_ok hE h hM hev
  refine ⟨v,C,S.h,S.nx,sv,σ,rs,xs,⟨Evt.of fun n=>?_,hM,MExt.refl _ _ _ _ _,v1,rfl,rfl,rfl,hR,h2⟩⟩
  unfold stepT
  split
  ·rw [v2];rfl
  rename_i hn;exact absurd hc hn
 rename_i hc0
 have hst:∀(n:Nat) (fp:Fp),pickD E.E ms dm cl r i xs o S (clsOf E.E o.op)=some fp->stepT E.E (cx E.E n) ms dm r o i cl xs S=memD E.E (cx E.E n) ms dm i cl xs o S fp:=by
  intro n fp hp
  unfold stepT
  split
  next hc=>exact absurd hc hc0
  simp only [hp]
 have hall:(fits cl .all xs && laterOk E.E ms i r (Nat.succ i))=(fitsL (fun _=>false) cl rs && laterOkS E.E ml i r (i+1)):=by
  rw [fitsAll_eq hR,laterOk_ok hm]
 split at h
 ·-- all memory
  rename_i hfa
  rw [hfa] at hall
  have hpick:pickD E.E ms dm cl r i xs o S (clsOf E.E o.op)=some .all:=by
   simp only [pickD,hall]
  rw [zC] at hall
  obtain ⟨v,C',h',nx',s,σ',k1,k2,k3,k4,k5,k6,k7,k8⟩:=exec1_ok hE hci h hM hev
  refine ⟨v,C',h',nx',s,σ',⟨i,.all,true⟩ :: rs,⟨i,.all,S.nx,nx'⟩ :: xs,⟨k1.mono fun n hn=>?_,k2,k3,k4,k5,k6,k7,⟨⟨rfl,trivial,hnx0,fun e=>by cases e⟩,hR.ag k3.ag k3.le⟩,k8⟩⟩
  rw [hst n _ hpick]
  exact memD_of (hv:=S.h) (barv:=S.bar) rfl hall.1 hM.barle (fun _=>rfl) (hn retV) k3.nxle (fun _=>rfl)
 rename_i hfa
 rw [hfa] at hall
 split at h
 ·-- a load
  rename_i hc
  split at h
  rotate_left
  ·exact h.out.elim
  rename_i q hq
  split at h
  rotate_left
  ·exact h.out.elim
  rename_i p A hfo
  split at h
  rotate_left
  ·exact h.out.elim
  rename_i hfit
  obtain ⟨hp,h⟩:=preK_ok h
  obtain ⟨h1,h2⟩:=preK_ok h
  unfold xq1 at hq
  split at hq
  rotate_left
  ·cases hq
  rename_i t x hop
  have hx:ev x≠.unk:=fun e=>by rw [e] at hq;unfold xload at hq;split at hq<;>simp at hq
  obtain ⟨vx,e1,e2⟩:=hev.get rfl hx
  have hF:foot (evD S.regs ms dm i cl) o.op=some (footV vx):=by rw [hop];simp only [foot];exact foot1_eq e1
  have hFt:=footS_ok hE.A hM hev hfo hp hF
  have hpick:pickD E.E ms dm cl r i xs o S (clsOf E.E o.op)=some (.ls (footV vx) false):=by
   simp only [pickD,hall,hc,hF]
  obtain ⟨v,v1,v2⟩:=load_ok hE.A hE.T hM e2 hq h1 e1
  have hFt':FtR C σ.next A (footV vx):=fun id hid=>(hFt id hid).2
  refine ⟨v,C,S.h,S.nx,q.sv,σ,⟨i,.ls A false,false⟩ :: rs,⟨i,.ls (footV vx) false,S.nx,S.nx⟩ :: xs,⟨Evt.of fun n=>?_,hM,MExt.refl _ _ _ _ _,v1,rfl,rfl,rfl,⟨⟨rfl,⟨rfl,hFt'⟩,hnx0,fun _=>zB _⟩,hR⟩,h2⟩⟩
  rw [hst n _ hpick]
  refine memD_of (hv:=partS S.h (footV vx) .e) (barv:=S.nx) (below_of _ fun id hid=>(hFt id hid).1) (fitsA_ok hR hfit fun r x hx hp=>pairS_ok hM0 ha hM hFt' hx hp) hM.barle (fun k=>?_) (h':=partS S.h (footV vx) .e) ?_ (zB _) (fun k=>?_)
  ·simp only [viewX];rw [part_eq]
  ·have v3:∀k,opL E.E (partS S.h (footV vx) .e) (evD S.regs ms dm i cl) (.load t x) k=k v:=by
    rcases v2 with ⟨id,off,e,v2⟩ |⟨a,e,v2⟩
    ·refine v2 _ ?_
     rw [partS_get,if_pos (by rw [e];simp [footV])]
    exact v2 _
   have hcl:clsOf E.E (.load t x)=1:=rfl
   rw [hop]
   simp only [opA,hcl]
   exact v3 _
  simp only [mergeX,show Nat.sub S.nx S.nx=0 from qK _,copyN]
 ·-- a write
  rename_i hc
  obtain ⟨C1,m1,e1⟩:=hM.frzL (wants ev o.op)
  unfold memW at h
  split at h
  rotate_left
  ·exact h.out.elim
  rename_i w hw
  split at h
  rotate_left
  ·exact h.out.elim
  rename_i p A hfo
  split at h
  rotate_left
  ·exact h.out.elim
  rename_i hfit
  obtain ⟨hp,h⟩:=preK_ok h
  obtain ⟨h1,h2⟩:=preK_ok h
  have hev1:=hev.ag hE e1.ag (zB _)
  obtain ⟨F,hF,v,C',hw',nx',w1,w2,w3,w4,w5⟩:=xw_ok (σ:=σ.mem (frzL σ.objs (wants ev o.op)) σ.next) hE.A m1 hE.T hev1 hw h1
  have hFt:=footS_ok (σ:=σ.mem (frzL σ.objs (wants ev o.op)) σ.next) hE.A m1 hev1 hfo hp hF
  have hFt':FtR C1 σ.next A F:=fun id hid=>(hFt id hid).2
  have hR1:RcsR C1 σ.next nx0 rs xs:=hR.ag e1.ag (zB _)
  have hpick:pickD E.E ms dm cl r i xs o S (clsOf E.E o.op)=some (.ls F true):=by
   simp only [pickD,hall,hc,hF]
  obtain ⟨hv',r1,r2⟩:=w5 (partS S.h F .e) S.bar (fun id hid=>by rw [partS_get,if_pos hid]) (fun _ _ h=>h)
  have hget:(copyS hv' S.nx (Nat.sub nx' S.nx) (partS hv' (geL S.bar F) S.h)).get=hw':=by
   funext id
   have hle:=w2.nxle
   rw [copyS_get,partS_get]
   by_cases hnew:S.nx<=id/\id < nx'
   ·rw [if_pos ⟨hnew.1,by show id < S.nx+(nx' - S.nx);omega⟩,r2,if_pos (.inr hnew)]
   rw [if_neg (by show ¬(S.nx<=id/\id < S.nx+(nx' - S.nx));omega)]
   by_cases hid:id∈geL S.bar F
   ·rw [if_pos hid,r2,if_pos (.inl ((geL_mem F).1 hid).1)]
   rw [if_neg hid]
   by_cases hF':id∈F
   ·have hlt:=(hFt id hF').1
    refine (w2.keep id hlt fun hown=>hid ((geL_mem F).2 ⟨hF',?_⟩)).symm
    obtain ⟨nm,so,a,b⟩:=hown
    exact (m1.own' _ _ a _ b).1
   exact (w4 id hF' hnew).symm
  rw [<-hget] at w1 w2
  refine ⟨v,C',_,nx',w.sv,(σ.mem (frzL σ.objs (wants ev o.op)) σ.next).mem w.objs w.next,⟨i,.ls A true,!(beqN w.next σ.next)⟩ :: rs,⟨i,.ls F true,S.nx,nx'⟩ :: xs,⟨Evt.of fun n=>?_,w1,e1.trans w2,w3,rfl,rfl,rfl,⟨⟨rfl,⟨rfl,fun id hid=>let ⟨a,b,c⟩:=hFt' id hid;⟨a,b,c.ag w2.ag w2.le⟩⟩,hnx0,fun hal=>?_⟩,hR1.ag w2.ag w2.le⟩,h2⟩⟩
  ·rw [hst n _ hpick]
   refine memD_of (hv:=partS S.h F .e) (barv:=S.bar) (below_of _ fun id hid=>(hFt id hid).1) (fitsA_ok hR1 hfit fun r x hx hp=>pairS_ok hM0 (ha.trans hn0 e1.ag) m1 hFt' hx hp) hM.barle (fun k=>?_) (h':=hv') ?_ w2.nxle (fun k=>?_)
   ·simp only [viewX];rw [part_eq]
   ·simp only [opA,hc];exact r1 _
   simp only [mergeX];rw [part_eq,copyN_eq]
  simp only [Bool.not_eq_false',beqN_iff] at hal
  have t1:=w1.top
  have t2:=m1.top
  have hal:w.next=σ.next:=hal
  rw [hal] at t1
  have:=w2.ag.bd σ.next (zB _)
  show nx'<=S.nx
  have t2:C1.bd σ.next=S.nx:=t2
  omega
 rotate_left
 ·exact h.out.elim
 -- a call
 rename_i hc
 unfold memC at h
 split at h
 rotate_left
 ·exact h.out.elim
 rename_i c hop
 split at h
 rotate_left
 ·exact h.out.elim
 rename_i f hcf
 split at h
 rotate_left
 ·exact h.out.elim
 rename_i hfq
 rw [zC] at hfq
 split at h
 rotate_left
 ·exact h.out.elim
 rename_i hk
 rw [zC] at hk
 obtain ⟨va,a1,a2⟩:=evL_list hev c.args.toList hk.2
 obtain ⟨vf,f1,f2⟩:=hev.get (x:=f) rfl (fun e=>by rw [e] at hk;simp [knownC] at hk)
 obtain ⟨v,C',h',nx',s,σ',k1,k2,k3,k4,k5,k6,k7,k8,k9⟩:=callS_q hE h hfq.2 hM f2 a1
 have hpick:pickD E.E ms dm cl r i xs o S (clsOf E.E o.op)=some .q:=by
  simp only [pickD,hall,hc]
 have hle:=k3.nxle
 have hcong:∀id,id < nx'->(copyS h' S.nx (Nat.sub nx' S.nx) S.h).get id=h'.get id:=by
  intro id hid
  rw [copyS_get]
  split
  ·rfl
  rename_i hn
  have hlt:id < S.nx:=by
   have hn:¬(S.nx<=id/\id < S.nx+(nx' - S.nx)):=hn
   omega
  exact (k9 id hlt).symm
 refine ⟨v,C',copyS h' S.nx (Nat.sub nx' S.nx) S.h,nx',s,σ',⟨i,.q,true⟩ :: rs,⟨i,.q,S.nx,nx'⟩ :: xs,⟨k1.mono fun n hn=>?_,k2.cong hcong,?_,k4,k5,k6,k7,⟨⟨rfl,trivial,hnx0,fun e=>by cases e⟩,hR.ag k3.ag k3.le⟩,k8⟩⟩
 ·rw [hst n _ hpick]
  refine memD_of (hv:=S.h) (barv:=S.nx) rfl (fitsA_ok hR hfq.1 fun r x hx hp=>?_) hM.barle (fun k=>?_) (h':=h') ?_ hle (fun k=>?_)
  ·unfold pairQ at hp
   rw [zC] at hp
   have hfp:=hx.fp
   cases hrf:r.fp with
   |all=>rw [hrf] at hp;cases hp.2
   |q=>
    rw [hrf] at hfp
    cases hxf:x.fp<;>rw [hxf] at hfp<;>simp only [FpR] at hfp
    simp only [pairOk,hxf]
   |ls B wr=>
    rw [hrf] at hfp hp
    cases hxf:x.fp<;>rw [hxf] at hfp<;>simp only [FpR] at hfp
    rename_i F' wr2
    obtain ⟨rfl,hB⟩:=hfp
    simp only [pairOk,hxf]
    cases wr with
    |false=>rfl
    |true=>
     have hp2:=hp.2
     simp only [noA] at hp2
     cases F' with
     |nil=>rfl
     |cons id F=>
      obtain ⟨a,b1,_⟩:=hB id (.head _)
      split at hp2
      ·cases b1
      cases hp2
  ·simp only [viewX]
   rw [without_eq,without_same]
   intro x hx
   obtain ⟨r',h1',h2'⟩:=hR.mem x hx
   rcases fitsL_ok _ hfq.1 r' h1' with hb |hb
   ·exact .inl (by rw [h2'.i];exact hb)
   unfold pairQ at hb
   rw [zC,kG] at hb
   exact .inr (h2'.al hb.1)
  ·have hcl:clsOf E.E (.call c)=3:=by rw [<-hop];exact hc
   rw [hop]
   simp only [opA,hcl,hcf,f1,a2]
   exact hn retV
  simp only [mergeX];rw [copyN_eq]
 exact ⟨k3.ag,k3.le,k3.nxle,fun id hid ho=>by
  rw [hcong id (by omega)];exact k3.keep id hid ho,k3.own,k3.g⟩
theorem drawS_ok {ci:CI} (hci:CIOk E.E ci) {C0:Cx E.E.ro} {σ0:List (Nat×SO)} {n0 bar0:Nat} {h0:Nat->Option O} {nx0:Nat} (hM0:MSim C0 σ0 n0 bar0 h0 nx0) {all:List Oper} {ml dl:List (Nat×Nat)} {ms dm:T Nat} (hm:∀j,ms.get j=look ml j) (hd:∀t,dm.get t=look dl t) {lo:Nat} :
  ∀(r:List Oper) (i:Nat) (rs:List RcS) (σ:St) (K:St->Prop),drawS E ci σ0 n0 all ml dl r i rs σ K->∀(C:Cx E.E.ro) S xs,Sim C σ S->Ag n0 C0 C->n0<=σ.next->lo<=σ.next->nx0<=S.nx->RcsR C σ.next nx0 rs xs->
   ∃S' C' σ',Evt (fun n=>drawGo E.E (cx E.E n) all ms dm r i xs S=some S')/\Sim C' σ' S'/\Ext lo C σ S C' σ' S'/\K σ'
 |[],i,rs,σ,K,h,C,S,xs,hS,ha,hn0,hlo,hnx0,hR=>⟨S,C,σ,Evt.of fun _=>rfl,hS,Ext.refl _ _ _ hlo,h⟩
 |o :: r,i,rs,σ,K,h,C,S,xs,hS,ha,hn0,hlo,hnx0,hR=>by
  rw [drawS_cons] at h
  split at h
  ·exact h.out.elim
  rename_i cl hcl
  have hcl':ms.get i=some cl:=by rw [hm];exact hcl
  split at h
  ·exact h.out.elim
  rename_i hgv
  obtain ⟨b,σa,hb,hRa,⟨q1,q2,q3,q4⟩,hw⟩:=wantS_ok hE h hS.regs
  have hwB:=wantB_of hm hd hw hgv
  have hSa:Sim C σa S:=⟨by rw [q1];exact hS.nt,by rw [q3];exact hRa,by rw [q2,q3];exact hS.m,by rw [q2,q4];exact hS.df,by rw [q4,q3];exact hS.dflt⟩
  have eq0:Ext lo C σ S C σa S:=⟨by rw [q2,q3];exact (MExt.refl _ _ _ _ _).less hlo,rfl,fun _ h=>.inl h⟩
  have hlo:lo<=σa.next:=by rw [q3];exact hlo
  have hn0:n0<=σa.next:=by rw [q3];exact hn0
  have hR:RcsR C σa.next nx0 rs xs:=by rw [q3];exact hR
  have hS:=hSa
  cases b with
  |false=>
   simp only at hb
   split at hb
   next σ2 hput=>
    obtain ⟨regs,p1,p2,p3,p4,p5,p6⟩:=putO_ok hE hput (S:=S) hS.nt hS.regs (v:=.tup []) (by simp only [RvS];exact ⟨[],trivial,rfl⟩) (β:=CX.St×List Rc)
    have hS2:Sim C σ2 ⟨S.nt,S.bar,regs,S.h,S.nx,S.df⟩:=by
     refine ⟨by rw [p3];exact hS.nt,by rw [p5];exact p2,by rw [p4,p5];exact hS.m,by rw [p4,p6];exact hS.df,by rw [p6,p5];exact hS.dflt⟩
    have hE2:Ext lo C σa S C σ2 ⟨S.nt,S.bar,regs,S.h,S.nx,S.df⟩:=⟨by rw [p4,p5];exact (MExt.refl _ _ _ _ _).less hlo,rfl,fun _ h=>.inl h⟩
    obtain ⟨S',C',σ',e1,e2,e3,e4⟩:=drawS_ok hci hM0 hm hd r (i+1) rs σ2 K hb C _ xs hS2 ha (by rw [p5];exact hn0) hE2.m.le hnx0 (by rw [p5];exact hR)
    refine ⟨S',C',σ',e1.mono fun n hn=>?_,e2,eq0.trans (hE2.trans e3),e4⟩
    simp only [drawGo,stepD,hcl',hwB,p1]
    exact hn
   exact hb.out.elim
  |true=>
   simp only at hb
   obtain ⟨v,C1,h1,nx1,s,σ1,rs1,xs1,k⟩:=stepS_ok hE hci hM0 hm hb hS.m ha hn0 hnx0 hR (evDS_ok hm hd hS.regs)
   have kk:=k.k
   split at kk
   rotate_left
   ·exact kk.out.elim
   rename_i σ2 hput
   have hR1:RegsS C1 σ1.next σ1.regs S.regs:=by rw [k.regs];exact RegsS.ag k.e.ag k.e.le hS.regs
   obtain ⟨regs,p1,p2,p3,p4,p5,p6⟩:=putO_ok hE hput (S:=⟨S.nt,S.bar,S.regs,h1,nx1,S.df⟩) (by rw [k.nt];exact hS.nt) hR1 k.v (β:=CX.St×List Rc)
   have hS2:Sim C1 σ2 ⟨S.nt,S.bar,regs,h1,nx1,S.df⟩:=by
    refine ⟨by rw [p3,k.nt];exact hS.nt,by rw [p5];exact p2,by rw [p4,p5];exact k.m,?_,?_⟩
    ·rw [p4,p6,k.df]
     exact hS.df.ext k.e hS.dflt
    rw [p6,k.df,p5];exact fun d hd=>xJ (hS.dflt d hd) k.e.le
   have hE2:Ext lo C σa S C1 σ2 ⟨S.nt,S.bar,regs,h1,nx1,S.df⟩:=⟨by rw [p4,p5];exact k.e.less hlo,rfl,fun _ h=>.inl h⟩
   obtain ⟨S',C',σ',e1,e2,e3,e4⟩:=drawS_ok hci hM0 hm hd r (i+1) rs1 σ2 K kk C1 _ xs1 hS2 (ha.trans hn0 k.e.ag) (by rw [p5];exact zY hn0 k.e.le) hE2.m.le (zY hnx0 k.e.nxle) (by rw [p5];exact k.recs)
   refine ⟨S',C',σ',(k.run.and e1).mono fun n hn=>?_,e2,eq0.trans (hE2.trans e3),e4⟩
   have hrun:stepT E.E (cx E.E n) ms dm r o i cl xs S=some (⟨S.nt,S.bar,regs,h1,nx1,S.df⟩,xs1):=by rw [hn.1,p1]
   have hst:stepD E.E (cx E.E n) all ms dm r o i xs S=stepT E.E (cx E.E n) ms dm r o i cl xs S:=by
    simp only [stepD,hcl',hwB]
    unfold stepT
    rfl
   simp only [drawGo,hst,hrun]
   exact hn.2
theorem regionS_ok {ci:CI} (hci:CIOk E.E ci) {lo:Nat} {ops:List Oper} {σ:St} {K:St->Prop} (h:regionS E ci ops σ K) (C:Cx E.E.ro) (S:CX.St) (hS:Sim C σ S) (hlo:lo<=σ.next) :
  ∃S' C' σ',Evt (fun n=>(match prep ops 0 .e .e (fun ms dm=>some (ms,dm)) with
   |some (ms,dm)=>match drawGo E.E (cx E.E n) ops ms dm ops 0 [] S with
    |some S=>some (Ex.normal,S)
    |none=>none
   |none=>none)=some (.normal,S'))/\Sim C' σ' S'/\Ext lo C σ S C' σ' S'/\K σ':=by
 unfold regionS at h
 split at h
 next ml dl hprep=>
  obtain ⟨ms,dm,hm,hd,hk⟩:=prepS_ok (β:=T Nat×T Nat) ops 0 [] [] ml dl hprep .e .e (fun j=>rfl) (fun t=>rfl)
  obtain ⟨S',C',σ',e1,e2,e3,e4⟩:=drawS_ok hE hci hS.m hm hd ops 0 [] σ K h C S [] hS (Ag.refl _ _) (zB _) hlo (zB _) trivial
  refine ⟨S',C',σ',e1.mono fun n hn=>?_,e2,e3,e4⟩
  rw [hk]
  show (match drawGo E.E (cx E.E n) ops ms dm ops 0 [] S with
   |some S=>some (Ex.normal,S)
   |none=>none)=some (Ex.normal,S')
  rw [hn]
 exact h.out.elim
end
end HX

namespace HX
open Go CX
variable {ro:Addr->Option V}
theorem MSim.new {C:Cx ro} {objs:List (Nat×SO)} {n bar:Nat} {h:Nat->Option O} {nx:Nat} (hM:MSim C objs n bar h nx) {so:SO} {o:O} (hob:ObS (C.put n nx .nilp (nx+1)) (n+1) (fun id=>if id=nx then some o else h id) (nx+1) n so) (hns:∀id,¬subS (C.put n nx .nilp (nx+1)) so id:=by exact fun _ h=>h) :
  MSim (C.put n nx .nilp (nx+1)) ((n,so) :: objs) (n+1) bar (fun id=>if id=nx then some o else h id) (nx+1)/\MExt C objs n h nx (C.put n nx .nilp (nx+1)) ((n,so) :: objs) (n+1) (fun id=>if id=nx then some o else h id) (nx+1):=by
 refine hM.put (dead:=none) (fun _ e=>by cases e) hM.barle (zO _) (zZ _) ?_ (fun nm s hl id ho e=>?_) (fun id hid _=>if_neg hid) (.inr (zB _)) hob hns
 ·cases hg:C.g nx with
  |none=>rfl
  |some o=>have:=(hM.fz _ _ hg).1;omega
 have:=(hM.own' _ _ hl _ ho).2.1;omega
theorem up_get (h:T O) (i:Nat) (o:O):(h.up i (some o)).get=fun id=>if id=i then some o else h.get id:=by
 funext id
 exact T.get_up _ _ _ _
theorem enter_ok {C:Cx ro} {n:Nat}:∀(args:List SV) (va:List V) (i:Nat) (t:T V) (l:List (Nat×SV)),RvSL C n args va->RegsS C n l t->(∀j s,look l j=some s->j < i)->
  ∃t',(∀k:T V->R,enterRegs va i t k=k t')/\∀j s,look (enterS i args) j=some s->∃v,t'.get j=some v/\RvS C n s v
 |[],[],i,t,l,_,hl,_=>⟨t,fun _=>rfl,fun j s h=>by simp [enterS,look] at h⟩
 |s :: args,v :: va,i,t,l,ha,hl,hlt=>by
  simp only [RvSL] at ha
  have key:∀(args:List SV) (va:List V) (i:Nat) (t:T V),RvSL C n args va->∃t',(∀k:T V->R,enterRegs va i t k=k t')/\(∀j,j < i->t'.get j=t.get j)/\∀j s,look (enterS i args) j=some s->∃v,t'.get j=some v/\RvS C n s v:=by
   intro args
   induction args with
   |nil=>
    intro va i t ha
    cases va with
    |nil=>exact ⟨t,fun _=>rfl,fun _ _=>rfl,fun j s h=>by simp [enterS,look] at h⟩
    |cons _ _=>simp [RvSL] at ha
   |cons s args ih=>
    intro va i t ha
    cases va with
    |nil=>simp [RvSL] at ha
    |cons v va=>
     simp only [RvSL] at ha
     obtain ⟨t',h1,h2,h3⟩:=ih va (i+1) (t.up i (some v)) ha.2
     refine ⟨t',fun k=>by simp only [enterRegs,T.set_eq];exact h1 k,fun j hj=>?_,fun j s' hl=>?_⟩
     ·rw [h2 j (by omega),T.get_up,if_neg (by omega)]
     simp only [enterS,look_cons] at hl
     split at hl
     next e=>
      simp only [zA] at hl
      subst e hl
      exact ⟨v,by rw [h2 _ (zO _),T.get_up,if_pos rfl],ha.1⟩
     exact h3 j s' hl
  obtain ⟨t',h1,_,h3⟩:=key (s :: args) (v :: va) i t (by simp only [RvSL];exact ha)
  exact ⟨t',h1,h3⟩
 |[],_ :: _,_,_,_,h,_,_=>by simp [RvSL] at h
 |_ :: _,[],_,_,_,h,_,_=>by simp [RvSL] at h
theorem MSim.drop {C:Cx ro} {objs:List (Nat×SO)} {n bar:Nat} {h:Nat->Option O} {nx:Nat} (hM:MSim C objs n bar h nx) {nm:Nat} (hnm:nm < n) :
  MSim C ((nm,.gone) :: objs) n bar h nx/\MExt C objs n h nx C ((nm,.gone) :: objs) n h nx:=by
 have key:∀{nm' s},look ((nm,SO.gone) :: objs) nm'=some s->(s=.gone/\nm'=nm)\/(nm≠nm'/\look objs nm'=some s):=fun {nm' s} hl=>by
  rw [look_cons] at hl
  split at hl
  next e=>simp only [zA] at hl;exact .inl ⟨hl.symm,e.symm⟩
  rename_i e;exact .inr ⟨e,hl⟩
 refine ⟨⟨fun nm' s hl=>?_,fun nm' s hl=>?_,fun nm' s hl id ho=>?_,fun a b s s' hla hlb id hoa hob=>?_,hM.fz,hM.bd,hM.top,hM.barle,hM.z⟩,Ag.refl _ _,zB _,zB _,fun _ _ _=>rfl,fun id ho=>?_,fun id o hg=>.inl hg⟩
 ·rcases key hl with ⟨_,rfl⟩ |⟨_,h⟩
  ·exact hnm
  exact hM.lt _ _ h
 ·rcases key hl with ⟨rfl,rfl⟩ |⟨_,h⟩
  ·trivial
  exact hM.ob _ _ h
 ·rcases key hl with ⟨rfl,rfl⟩ |⟨_,h⟩
  ·exact absurd ho owns_gone
  exact hM.own' _ _ h _ ho
 ·rcases key hla with ⟨rfl,rfl⟩ |⟨_,h⟩
  ·exact absurd hoa owns_gone
  rcases key hlb with ⟨rfl,rfl⟩ |⟨_,k⟩
  ·exact absurd hob owns_gone
  exact hM.inj' _ _ _ _ h k _ hoa hob
 obtain ⟨nm',s,hl,ho⟩:=ho
 rcases key hl with ⟨rfl,rfl⟩ |⟨_,h⟩
 ·exact absurd ho owns_gone
 exact .inl ⟨nm',s,h,ho⟩
structure Took (C:Cx ro) (objs:List (Nat×SO)) (h:Nat->Option O) (ids:List Nat) (nx:Nat) (objs':List (Nat×SO)) (h':Nat->Option O):Prop where
 keep:∀id,id < nx->¬OwnId C objs id->id∉ids->h' id=h id
 own:∀id,OwnId C objs' id->OwnId C objs id
theorem MExt.took {C0 C:Cx ro} {objs0 objs objs':List (Nat×SO)} {n0 n nx0 nx:Nat} {h0 h h':Nat->Option O} {ids:List Nat} (a:MExt C0 objs0 n0 h0 nx0 C objs n h nx) (k:Took C objs h ids nx objs' h') (hi:∀i∈ids,nx0<=i):MExt C0 objs0 n0 h0 nx0 C objs' n h' nx:=by
 refine ⟨a.ag,a.le,a.nxle,fun id hid ho=>?_,fun id ho=>a.own id (k.own id ho),a.g⟩
 rw [k.keep id (xJ hid a.nxle) (fun hh=>?_) (fun hm=>by have:=hi id hm;omega),a.keep id hid ho]
 rcases a.own id hh with h |h
 ·exact ho h
 omega
theorem take_ok {C:Cx ro} {n bar nx:Nat}:∀(ids df:List Nat) (objs objs':List (Nat×SO)) (h:T O),takeS df objs=some objs'->MSim C objs n bar h.get nx->DfR C objs bar h.get nx df ids->(∀d∈df,d < n)->∃h':T O,(∀k:T O->R,takeDf bar ids h k=k h')/\MSim C objs' n bar h'.get nx/\Took C objs h.get ids nx objs' h'.get
 |[],df,objs,objs',h,hd,hM,hdf,hlt=>by
  cases hdf
  simp only [takeS,zA] at hd
  subst hd
  exact ⟨h,fun _=>rfl,hM,fun _ _ _ _=>rfl,fun _ h=>h⟩
 |i :: ids,df,objs,objs',h,hd,hM,hdf,hlt=>by
  cases hdf with
  |nm he hi hk=>
   rename_i d df
   subst he
   simp only [takeS] at hd
   split at hd
   rotate_left
   ·cases hd
   rename_i hl
   have ho:h.get (C.ids d)=some (.dfr true):=hM.ob _ _ hl
   obtain ⟨a,b⟩:=hM.upd (so:=.dfr false) hl trivial trivial (o:=.dfr false) (by simp only [ObS,if_true])
   rw [<-up_get] at a b
   obtain ⟨h',k1,k2,k3⟩:=take_ok ids df _ objs' _ hd a (hk.ext b fun d hd=>hlt d (.tail _ hd)) (fun d hd=>hlt d (.tail _ hd))
   refine ⟨h',fun k=>?_,k2,fun id h1 h2 h3=>?_,fun id ho=>?_⟩
   ·have e:geB bar (C.ids d)=true:=bleT (hM.own _ _ hl trivial).1
    simp only [takeDf,ho,e,T.set_eq]
    exact k1 k
   ·rw [k3.keep id h1 (fun hh=>?_) (fun hm=>h3 (.tail _ hm)),b.keep id h1 h2]
    rcases b.own id hh with h |h
    ·exact h2 h
    omega
   rcases b.own id (k3.own id ho) with h |h
   ·exact h
   obtain ⟨nm,so,hl',ho'⟩:=k3.own id ho
   have:=(a.own' _ _ hl' _ ho').2.1
   omega
  |mk hx hn hk=>
   obtain ⟨x1,x2,x3,x4,x5⟩:=hx
   have e1:∀id,id≠i->(h.up i (some (.dfr false))).get id=h.get id:=fun id hne=>by rw [T.get_up,if_neg hne]
   have ne:∀{nm so id},look objs nm=some so->owns C nm so id->id≠i:=fun {nm so id} hl ho e=>x4 ⟨nm,so,hl,by rw [<-e];exact ho⟩
   have a:MSim C objs n bar (h.up i (some (.dfr false))).get nx:=⟨hM.lt,fun nm so hl=>ObS.mono (Ag.refl _ _) (zB _) (zB _) (hM.lt _ _ hl) (fun id ho=>e1 _ (ne hl ho)) (hM.ob _ _ hl),hM.own',hM.inj',
    fun id o hg=>⟨(hM.fz _ _ hg).1,by rw [e1 id (fun e=>by rw [e,x5] at hg;cases hg)];exact (hM.fz _ _ hg).2⟩,hM.bd,hM.top,hM.barle,hM.z⟩
   have dk:∀{l s},DfR C objs bar h.get nx l s->i∉s->DfR C objs bar (h.up i (some (.dfr false))).get nx l s:=by
    intro l s k
    induction k with
    |nil=>exact fun _=>.nil
    |nm he hi _ ih=>exact fun hn=>.nm he hi (ih fun hm=>hn (.tail _ hm))
    |mk hx hm _ ih=>exact fun hn=>.mk ⟨by rw [e1 _ (fun e=>hn (e ▸ .head _))];exact hx.1,hx.2⟩ hm (ih fun hm=>hn (.tail _ hm))
   obtain ⟨h',k1,k2,k3⟩:=take_ok ids df objs objs' _ hd a (dk hk hn) hlt
   refine ⟨h',fun k=>?_,k2,fun id h1 h2 h3=>?_,k3.own⟩
   ·have e:geB bar i=true:=bleT x2
    simp only [takeDf,x1,e,T.set_eq]
    exact k1 k
   rw [k3.keep id h1 h2 (fun hm=>h3 (.tail _ hm)),e1 id (fun e=>h3 (e ▸ .head _))]
section
variable {E:Env} (hE:EnvOk E)
include hE
theorem resAll_ok {C:Cx E.E.ro} {σ:St} {bar:Nat} {h:T O} {nx:Nat} (hM:MSim C σ.objs σ.next bar h.get nx) {regs:T V} (hR:RegsS C σ.next σ.regs regs):∀(l:List ResultVar) {vs:List SV},resAll E σ l=some vs->∃x,RvSL C σ.next vs x/\∀k:List V->R,resultsX E.E regs h l k=k x
 |[],vs,hv=>by
  simp only [resAll,zA] at hv
  subst hv
  exact ⟨[],trivial,fun _=>rfl⟩
 |r :: l,vs,hv=>by
  simp only [resAll] at hv
  split at hv
  rotate_left
  ·cases hv
  rename_i s hs
  split at hv
  rotate_left
  ·cases hv
  rename_i ss hss
  simp only [zA] at hv
  subst hv
  obtain ⟨x,x1,x2⟩:=resAll_ok hM hR l hss
  cases r with
  |tmp t=>
   simp only [resOne] at hs
   split at hs
   ·cases hs
   rename_i hno
   rcases hR t s hs with h0 |⟨v,v1,v2⟩
   ·subst h0;exact absurd hs hno
   refine ⟨v :: x,by simp only [RvSL];exact ⟨v2,x1⟩,fun k=>?_⟩
   simp only [resultsX,v1,x2]
  |cell a t=>
   simp only [resOne] at hs
   split at hs
   rotate_left
   ·cases hs
   rename_i ty nm off hty ha
   rcases hR a _ ha with h0 |⟨v,v1,v2⟩
   ·cases h0
   split at hs
   rotate_left
   ·cases hs
   rename_i cl hl
   split at hs
   next hle=>
    have hq:xload E σ t (.ptr nm off)=some ⟨[],s⟩:=by
     simp only [xload,hty,hl,hle,hs,q0]
    let evc:Operand->Option V:=fun _=>some v
    obtain ⟨w,w1,w2⟩:=load_ok hE.A hE.T hM v2 hq (fun _ h=>by cases h) (evc:=evc) (o:=.global 0) rfl
    simp only [RvS] at v2
    obtain ⟨_,rfl⟩:=v2
    have w3:∀k,opL E.E h evc (.load t (.global 0)) k=k w:=by
     rcases w2 with ⟨id,off,e,w2⟩ |⟨a,e,w2⟩
     ·cases e;exact w2 h rfl
     cases e
    refine ⟨w :: x,by simp only [RvSL];exact ⟨w1,x1⟩,fun k=>?_⟩
    simp only [opL,hty,evc] at w3
    simp only [resultsX,hty,v1]
    have:=w3 (fun v=>resultsX E.E regs h l fun l=>k (v :: l))
    exact this.trans (x2 _)
   cases hs
theorem range_ok {ci:CI} (hci:CIOk E.E ci) {rd:Option Nat} {lo:Nat} {g:Operand} {ps:Array Nat} {asg body:Code} {Q:Ex->St->Prop} {σ:St} (h:rangeS rd ci (evR σ.regs g) ps.toList asg body Q σ):SWP E.E rd lo (.rangeFunc g ps asg body) Q σ:=by exact h.elim
theorem rd_ag {rd:Option Nat} {n:Nat} (h:∀l,rd=some l->l < n) {C C':Cx E.E.ro} (ha:Ag n C C'):rd.map C'.ids=rd.map C.ids:=by
 cases rd with
 |none=>rfl
 |some l=>simp only [zX];rw [ha.ids l (h l rfl)]
theorem vc_ok {ci:CI} (hci:CIOk E.E ci) {rd:Option Nat} {lo:Nat}:∀(c:Code) (Q:Ex->St->Prop) (σ:St),vc E rd lo ci c Q σ->SWP E.E rd lo c Q σ
 |.skip,Q,σ,h=>fun C S hS hlo _=>⟨.normal,S,C,σ,(Evt.of fun _=>trivial).succ fun n _=>rfl,hS,Ext.refl _ _ _ hlo,h⟩
 |.label _,Q,σ,h=>fun C S hS hlo _=>⟨.normal,S,C,σ,(Evt.of fun _=>trivial).succ fun n _=>rfl,hS,Ext.refl _ _ _ hlo,h⟩
 |.ret,Q,σ,h=>fun C S hS hlo _=>⟨.ret,S,C,σ,(Evt.of fun _=>trivial).succ fun n _=>rfl,hS,Ext.refl _ _ _ hlo,h⟩
 |.exit id,Q,σ,h=>fun C S hS hlo _=>⟨.exit id,S,C,σ,(Evt.of fun _=>trivial).succ fun n _=>rfl,hS,Ext.refl _ _ _ hlo,h⟩
 |.seq a b,Q,σ,h=>fun C S hS hlo hrd=>by
  obtain ⟨e,S1,C1,σ1,k1,k2,k3,k4⟩:=vc_ok hci a _ σ h C S hS hlo hrd
  cases e with
  |normal=>
   obtain ⟨e,S2,C2,σ2,l1,l2,l3,l4⟩:=vc_ok hci b Q σ1 k4 C1 S1 k2 k3.m.le hrd
   refine ⟨e,S2,C2,σ2,(k1.and l1).succ fun n hn=>?_,l2,k3.trans l3,l4⟩
   show cxBody E.E (cx E.E n) (rd.map C.ids) (.seq a b) S=_
   have hn2:=hn.2
   rw [rd_ag hE hrd k3.m.ag] at hn2
   simp only [cxBody,hn.1,hn2]
  |ret=>
   refine ⟨.ret,S1,C1,σ1,k1.succ fun n hn=>?_,k2,k3,k4⟩
   show cxBody E.E (cx E.E n) (rd.map C.ids) (.seq a b) S=_
   simp only [cxBody,hn]
  |exit i=>
   refine ⟨.exit i,S1,C1,σ1,k1.succ fun n hn=>?_,k2,k3,k4⟩
   show cxBody E.E (cx E.E n) (rd.map C.ids) (.seq a b) S=_
   simp only [cxBody,hn]
 |.block id b,Q,σ,h=>fun C S hS hlo hrd=>by
  obtain ⟨e,S1,C1,σ1,k1,k2,k3,k4⟩:=vc_ok hci b _ σ h C S hS hlo hrd
  cases e with
  |normal=>
   refine ⟨.normal,S1,C1,σ1,k1.succ fun n hn=>?_,k2,k3,k4⟩
   show cxBody E.E (cx E.E n) (rd.map C.ids) (.block id b) S=_
   simp only [cxBody,hn]
  |ret=>
   refine ⟨.ret,S1,C1,σ1,k1.succ fun n hn=>?_,k2,k3,k4⟩
   show cxBody E.E (cx E.E n) (rd.map C.ids) (.block id b) S=_
   simp only [cxBody,hn]
  |exit i=>
   simp only [inBlockQ] at k4
   split at k4
   next hb=>
    simp only [beqN_iff] at hb
    refine ⟨.normal,S1,C1,σ1,k1.succ fun n hn=>?_,k2,k3,k4⟩
    show cxBody E.E (cx E.E n) (rd.map C.ids) (.block id b) S=_
    simp only [cxBody,hn,hb,xH]
   rename_i hb
   simp only [beqN_not] at hb
   refine ⟨.exit i,S1,C1,σ1,k1.succ fun n hn=>?_,k2,k3,k4⟩
   show cxBody E.E (cx E.E n) (rd.map C.ids) (.block id b) S=_
   have hne:Nat.beq i id=false:=by
    cases he:Nat.beq i id with
    |true=>exact absurd (zS he) hb
    |false=>rfl
   simp only [cxBody,hn,hne]
 |.cond c a b,Q,σ,h=>fun C S hS hlo hrd=>by
  simp only [vc] at h
  have hx:=evR_ok hS.regs
  have go:∀(bb:Bool) (σ:St),Sim C σ S->lo<=σ.next->CX.evR S.regs c=some (.bool bb)->(match bb with |true=>vc E rd lo ci a Q σ |false=>vc E rd lo ci b Q σ)->∃e S' C' σ',Evt (fun n=>cx E.E n (rd.map C.ids) (.cond c a b) S=some (e,S'))/\Sim C' σ' S'/\Ext lo C σ S C' σ' S'/\Q e σ':=by
   intro bb σ hS hlo hb h
   cases bb with
   |true=>
    obtain ⟨e,S1,C1,σ1,k1,k2,k3,k4⟩:=vc_ok hci a Q σ h C S hS hlo hrd
    refine ⟨e,S1,C1,σ1,k1.succ fun n hn=>?_,k2,k3,k4⟩
    show cxBody E.E (cx E.E n) (rd.map C.ids) (.cond c a b) S=_
    simp only [cxBody,hb,hn]
   |false=>
    obtain ⟨e,S1,C1,σ1,k1,k2,k3,k4⟩:=vc_ok hci b Q σ h C S hS hlo hrd
    refine ⟨e,S1,C1,σ1,k1.succ fun n hn=>?_,k2,k3,k4⟩
    show cxBody E.E (cx E.E n) (rd.map C.ids) (.cond c a b) S=_
    simp only [cxBody,hb,hn]
  have kn:∀bb,CX.evR S.regs c=some (.bool bb)->Sim C (knowO σ c bb) S/\lo<=(knowO σ c bb).next/\Ext lo C σ S C (knowO σ c bb) S:=by
   intro bb hb
   unfold knowO
   split
   ·exact ⟨⟨hS.nt,know_ok hS.regs hb,hS.m,hS.df,hS.dflt⟩,hlo,(MExt.refl _ _ _ _ _).less hlo,rfl,fun _ h=>.inl h⟩
   exact ⟨hS,hlo,Ext.refl _ _ _ hlo⟩
  split at h
  next he=>
   obtain ⟨v,v1,v2⟩:=hx.get he (by intro e;cases e)
   simp only [RvS] at v2
   subst v2
   exact go true σ hS hlo v1 h
  next he=>
   obtain ⟨v,v1,v2⟩:=hx.get he (by intro e;cases e)
   simp only [RvS] at v2
   subst v2
   exact go false σ hS hlo v1 h
  next p he=>
   obtain ⟨v,v1,v2⟩:=hx.get he (by intro e;cases e)
   simp only [RvS] at v2
   subst v2
   cases hp:p with
   |true=>rw [hp] at v1;exact let ⟨e,S',C',σ',k1,k2,k3,k4⟩:=go true (knowO σ c true) (kn true v1).1 (kn true v1).2.1 v1 (h.t hp);⟨e,S',C',σ',k1,k2,(kn true v1).2.2.trans k3,k4⟩
   |false=>rw [hp] at v1;exact let ⟨e,S',C',σ',k1,k2,k3,k4⟩:=go false (knowO σ c false) (kn false v1).1 (kn false v1).2.1 v1 (h.e hp);⟨e,S',C',σ',k1,k2,(kn false v1).2.2.trans k3,k4⟩
  exact h.out.elim
 |.region id ops draw,Q,σ,h=>fun C S hS hlo hrd=>by
  simp only [vc] at h
  cases draw with
  |true=>
   obtain ⟨S1,C1,σ1,k1,k2,k3,k4⟩:=regionS_ok hE hci h C S hS hlo
   refine ⟨.normal,S1,C1,σ1,k1.succ fun n hn=>?_,k2,k3,k4⟩
   show cxBody E.E (cx E.E n) (rd.map C.ids) (.region id ops true) S=_
   simp only [cxBody]
   exact hn
  |false=>
   obtain ⟨S1,C1,σ1,k1,k2,k3,k4⟩:=seqS_ok hE hci ops.toList σ _ h C S hS hlo
   refine ⟨.normal,S1,C1,σ1,k1.succ fun n hn=>?_,k2,k3,k4⟩
   show cxBody E.E (cx E.E n) (rd.map C.ids) (.region id ops false) S=_
   simp only [cxBody]
   exact hn _
 |.rangeFunc g ps asg body,Q,σ,h=>range_ok hE hci h
 |.loop c,Q,σ,h=>Leaf.out h
 |.scope ..,Q,σ,h=>Leaf.out h
 |.goto ..,Q,σ,h=>Leaf.out h
 |.refuse ..,Q,σ,h=>Leaf.out h
theorem outV_ret (v:V) (h:T O) (nx:Nat) (k:V->T O->Nat->R):outV (retV v h nx) k=k v h nx:=rfl
theorem retP_ok {fn:Func} {σ0 σ:St} {K:SV->St->Prop} (h:retP E fn σ0 K σ) {C:Cx E.E.ro} {S:CX.St} (hS:Sim C σ S) :
  ∃(v:V) (h':T O) (s:SV) (objs:List (Nat×SO)),(∀k:V->T O->Nat->R,outV (takeDf S.bar S.df S.h fun h=>resultsX E.E S.regs h fn.results.toList fun l=>retV (CX.one l) h S.nx) k=k v h' S.nx)/\MSim C objs σ.next S.bar h'.get S.nx/\Took C σ.objs S.h.get S.df S.nx objs h'.get/\RvS C σ.next s v/\K s (σ0.mem objs σ.next):=by
 unfold retP at h
 split at h
 next objs ho=>
  split at h
  next vs hv=>
   obtain ⟨h',t1,t2,t3⟩:=take_ok S.df σ.df σ.objs objs S.h ho hS.m hS.df hS.dflt
   obtain ⟨x,x1,x2⟩:=resAll_ok (σ:=σ.mem objs σ.next) hE t2 hS.regs fn.results.toList hv
   refine ⟨CX.one x,h',one vs,objs,fun k=>?_,t2,t3,RvSL_one x1,h⟩
   rw [t1,x2]
   exact outV_ret hE _ _ _ _
  exact h.out.elim
 exact h.out.elim
omit hE in
theorem yext {C C1 C2 C3 C4:Cx E.E.ro} {o o1 o2 o3 o4:List (Nat×SO)} {lo n1 n2 n3 n4:Nat} {h h1 h2 h3 h4:Nat->Option O} {x x1 x2 x3 x4:Nat} (a:MExt C o lo h x C1 o1 n1 h1 x1) (b:MExt C1 o1 n1 h1 x1 C2 o2 n2 h2 x2) (c:MExt C2 o2 lo h2 x2 C3 o3 n3 h3 x3) (d:MExt C3 o3 n3 h3 x3 C4 o4 n4 h4 x4) :
  MExt C o lo h x C4 o4 n4 h4 x4:=by
 have ab:=a.trans b
 have cd:=c.trans d
 exact ⟨ab.ag.trans (zB _) cd.ag,cd.le,zY ab.nxle cd.nxle,fun id hid ho=>by
  rw [cd.keep id (xJ hid ab.nxle) fun hh=>?_,ab.keep id hid ho]
  rcases ab.own id hh with h' |h'
  ·exact ho h'
  ·omega,fun id ho=>by
  rcases cd.own id ho with h' |h'
  ·exact ab.own id h'
  ·exact .inr (zY ab.nxle h'),fun id o hg=>by
  rcases cd.g id o hg with h' |h' |h'
  ·exact ab.g id o h'
  ·exact .inr (ab.own id h')
  exact .inr (.inr (zY ab.nxle h'))⟩
theorem ciN_ok {inl:Nat->Option Func} (hinl:∀f fn,inl f=some fn->E.E.fn f=some fn/\E.E.ext f=none):∀n,CIOk E.E (ciN E inl n)
 |0=>fun _ _ _ _ h=>h.elim
 |n+1=>by
  intro f args σ K h C bar hp nx hM vf va hf ha
  simp only [ciN] at h
  split at h
  rotate_left
  ·exact h.out.elim
  rename_i g a b
  simp only [RvS] at hf
  obtain ⟨x,y,f1,f2,rfl⟩:=hf
  have hargs:RvSL C σ.next (a++args++b) (x++va++y):=RvSL.append (RvSL.append f1 ha) f2
  split at h
  rotate_left
  ·exact h.out.elim
  rename_i fn hfn
  split at h
  rotate_left
  ·exact h.out.elim
  rename_i c hb
  split at h
  rotate_left
  ·exact h.out.elim
  rename_i hle
  simp only [bleN_iff] at hle
  obtain ⟨t',t1,t2⟩:=enter_ok (C:=C) (n:=σ.next) _ _ 0 .e [] hargs (fun t s h=>by simp [look] at h) (fun j s h=>by simp [look] at h)
  obtain ⟨e,S',C',σ',k1,k2,k3,k4⟩:=vc_ok hE (ciN_ok hinl n) (rd:=none) c _ _ h C ⟨fn.ntmps,bar,t',hp,nx,[]⟩ ⟨rfl,fun j s hl=>.inr (t2 j s hl),hM,.nil,fun d hd=>by cases hd⟩ (zB _) (fun l hl=>by cases hl)
  have hrun:∀n,cx E.E n none c ⟨fn.ntmps,bar,t',hp,nx,[]⟩=some (e,S')->(e=.normal\/e=.ret)->∀k,callV E.E (cx E.E n) bar hp nx (.fn (.func g) x y) va k=outV (takeDf bar S'.df S'.h fun h=>resultsX E.E S'.regs h fn.results.toList fun l=>retV (CX.one l) h S'.nx) k:=by
   intro n hn he k
   have hlen:Nat.ble (CX.len (x++va++y)) fn.ntmps=true:=bleT (by rw [len_eq,hargs.length];exact hle)
   simp only [callV,callF,(hinl _ _ hfn).1,(hinl _ _ hfn).2,hb,hlen,t1,hn]
   rcases he with rfl |rfl<;>rfl
  have fin:retP E fn σ K σ'->(e=.normal\/e=.ret)->CallOk E.E (fun n k=>callV E.E (cx E.E n) bar hp nx (.fn (.func g) x y) va k) C σ bar hp.get nx K:=by
   intro hr he
   obtain ⟨v,h',s,objs,r1,r2,r3,r4,r5⟩:=retP_ok hE hr k2
   rw [k3.bar] at r1 r2
   exact ⟨v,C',h',S'.nx,s,σ.mem objs σ'.next,k1.mono fun n hn k=>(hrun n hn he k).trans (r1 k),r2,k3.m.took r3 (fun i hi=>(k3.df i hi).resolve_left (by intro h;cases h)),r4,rfl,rfl,rfl,r5⟩
  cases e with
  |normal=>exact fin k4 (.inl rfl)
  |ret=>exact fin k4 (.inr rfl)
  |exit i=>exact (StuckR.out k4).elim
end
end HX
