/-
  Texts of the executors: HxM, HxW, HxW2, HxW3, HxClear, HxApV, HxW4.
-/
import Derived.Test.YtcpndododgchbaaMeshTrees4
set_option linter.all false
noncomputable section
namespace HX
open Go CX
variable {ro:Addr->Option V}
theorem look_cons {α:Type} (k:Nat) (x:α) (l:List (Nat×α)) (t:Nat):look ((k,x) :: l) t=if k=t then some x else look l t:=by
 simp only [look]
 by_cases h:k=t
 ·subst h;simp
 rw [if_neg h]
 have:beqN k t=false:=by simp [h]
 rw [this]
theorem ObS.mono {C C':Cx ro} {n n' nx nx' nm:Nat} {h h':Nat->Option O} (ha:Ag n C C') (hn:n<=n') (hx:nx<=nx') (hnm:nm < n):∀{so:SO},(∀id,owns C nm so id->h' id=h id)->ObS C n h nx nm so->ObS C' n' h' nx' nm so
 |.gone,_,_=>trivial
 |.cells l,hh,ho=>by
  simp only [ObS] at ho ⊢
  obtain ⟨t,h1,h2⟩:=ho
  rw [ha.ids _ hnm,hh _ (.inl ⟨trivial,rfl⟩)]
  exact ⟨t,h1,fun i s hs=>let ⟨v,a,b,c⟩:=h2 i s hs;⟨v,a,b,RvS.ag ha hn _ _ c⟩⟩
 |.arr og ks rows,hh,ho=>by
  simp only [ObS] at ho ⊢
  rw [ha.ids _ hnm,ha.hdr _ hnm]
  obtain ⟨h0,h1 |⟨t,m,cap,a1,a2,a3,a4,a5⟩⟩:=ho
  ·exact ⟨h0,.inl h1⟩
  refine ⟨h0,.inr ⟨t,m,cap,a1,?_,a3,a4,fun i hi=>FzR.mono (fun id o _ hg=>ha.g id o hg) hx _ _ _ _ (a5 i hi)⟩⟩
  rw [hh _ (.inl ⟨(by simp only [ownS,a1];intro e;cases e),rfl⟩)];exact a2
 |.mat og ks rows rn hole,hh,ho=>by
  simp only [ObS] at ho ⊢
  obtain ⟨h0,hlr,l,h1,h2,h3,h4,h5,h6⟩:=ho
  refine ⟨by omega,hlr,l,by rw [ha.hdr _ h0];exact h1,h2,?_,fun i v hv=>⟨(h4 i v hv).1,(h4 i v hv).2.1,fun hi=>?_⟩,h5,by rw [ha.ids _ hnm,ha.hdr _ hnm];exact h6⟩
  ·rw [ha.ids _ hnm,ha.hdr _ hnm]
   rcases h3 with h3 |⟨t,m,cap,a1,a2,a3⟩
   ·exact .inl h3
   exact .inr ⟨t,m,cap,a1,by rw [hh _ (.inl ⟨(by simp only [ownS,a1];intro e;cases e),rfl⟩)];exact a2,a3⟩
  obtain ⟨q0,q1 |⟨id,t,m,cap,b1,b2,b3,b4,b5⟩⟩:=(h4 i v hv).2.2 hi
  ·exact ⟨q0,.inl q1⟩
  refine ⟨q0,.inr ⟨id,t,m,cap,b1,?_,b3,b4,fun i hi=>FzR.mono (fun id o _ hg=>ha.g id o hg) hx _ _ _ _ (b5 i hi)⟩⟩
  rw [hh id (.inr ⟨l,i,h1,hi,_,_,_,_,by rw [hv,b1]⟩)];exact b2
 |.frz ks rows,_,ho=>by
  simp only [ObS] at ho ⊢
  rw [ha.ids _ hnm,ha.hdr _ hnm]
  exact ⟨ho.1,FzC.mono (fun id o _ hg=>ha.g id o hg) hx _ _ _ ho.2.1,ho.2.2⟩
 |.mp ka va kk vk ent,hh,ho=>by
  simp only [ObS] at ho ⊢
  obtain ⟨l,c,h1,h2,h3⟩:=ho
  rw [ha.ids _ hnm,hh _ (.inl ⟨trivial,rfl⟩)]
  exact ⟨l,c,h1,h2,fun i e he=>⟨(h3 i e he).1,(h3 i e he).2.1,FzR.mono (fun id o _ hg=>ha.g id o hg) hx _ _ _ _ (h3 i e he).2.2⟩⟩
 |.dfr b,hh,ho=>by
  simp only [ObS] at ho ⊢
  rw [ha.ids _ hnm,hh _ (.inl ⟨trivial,rfl⟩)];exact ho
 |.loop st j nt regs ps a b df,hh,ho=>by
  simp only [ObS] at ho ⊢
  obtain ⟨h1,rg,h2,h3⟩:=ho
  rw [ha.ids _ hnm,ha.ids _ h1,hh _ (.inl ⟨trivial,rfl⟩)]
  exact ⟨by omega,rg,h2,RegsS.ag ha hn h3⟩
theorem ownS_ag {C C':Cx ro} {n nm:Nat} (ha:Ag n C C') (hnm:nm < n) {so:SO}:ownS C' nm so↔ownS C nm so:=by
 cases so<;>simp only [ownS]
 ·rw [ha.hdr _ hnm]
 rw [ha.hdr _ hnm]
theorem owns_ag {C C':Cx ro} {n nm:Nat} (ha:Ag n C C') (hnm:nm < n) {so:SO} (hr:rnLt n so) {id:Nat}:owns C' nm so id↔owns C nm so id:=by
 unfold owns
 rw [ownS_ag ha hnm,subS_ag ha hr,ha.ids _ hnm]
def Cx.put (C:Cx ro) (n j:Nat) (hd:V) (nx':Nat):Cx ro:=⟨fun i=>if i=n then j else C.ids i,fun i=>if i=n then hd else C.hdr i,C.g,fun b=>if b=n+1 then nx' else C.bd b⟩
theorem Ag.put (C:Cx ro) (n j:Nat) (hd:V) (nx':Nat):Ag n C (C.put n j hd nx'):=
 ⟨fun nm h=>by simp only [Cx.put];rw [if_neg (by omega)],fun nm h=>by simp only [Cx.put];rw [if_neg (by omega)],fun b h=>by simp only [Cx.put];rw [if_neg (by omega)],fun _ _ h=>h⟩
def kill:Option Nat->List (Nat×SO)->List (Nat×SO)
 |none,l=>l
 |some nm,l=>(nm,.gone) :: l
theorem look_kill {d:Option Nat} {l:List (Nat×SO)} {nm:Nat} {so:SO} (h:look (kill d l) nm=some so):so=.gone/\d=some nm\/look l nm=some so/\d≠some nm:=by
 cases d with
 |none=>exact .inr ⟨h,by simp⟩
 |some x=>
  simp only [kill,look_cons] at h
  split at h
  next e=>
   simp only [zA] at h
   exact .inl ⟨h.symm,by rw [e]⟩
  rename_i e
  exact .inr ⟨h,by simpa using e⟩
theorem MSim.put {C:Cx ro} {objs:List (Nat×SO)} {n bar:Nat} {h:Nat->Option O} {nx:Nat} (hM:MSim C objs n bar h nx) {dead:Option Nat} {so:SO} {j nx':Nat} {hd:V} {h':Nat->Option O}
  (hdead:∀nm,dead=some nm->∃so0,look objs nm=some so0)
  (hbar:bar<=j) (hj:j < nx') (hnx:nx<=nx') (hg:C.g j=none) (hjn:∀nm s,look (kill dead objs) nm=some s->∀id,owns C nm s id->id≠j)
  (hh:∀id,id≠j->(∀nm,dead=some nm->∀s,look objs nm=some s->ownS C nm s->id≠C.ids nm)->h' id=h id) (hjo:OwnId C objs j\/nx<=j)
  (hob:ObS (C.put n j hd nx') (n+1) h' nx' n so) (hns:∀id,¬subS (C.put n j hd nx') so id:=by exact fun _ h=>h) :
  MSim (C.put n j hd nx') ((n,so) :: kill dead objs) (n+1) bar h' nx'/\MExt C objs n h nx (C.put n j hd nx') ((n,so) :: kill dead objs) (n+1) h' nx':=by
 have ha:=Ag.put C n j hd nx'
 have old:∀{nm s},look (kill dead objs) nm=some s->nm < n:=fun {nm s} hl=>by
  rcases look_kill hl with ⟨_,e⟩ |⟨hl,_⟩
  ·obtain ⟨so0,h0⟩:=hdead _ e
   exact hM.lt _ _ h0
  exact hM.lt _ _ hl
 have oldr:∀{nm s},look (kill dead objs) nm=some s->rnLt n s:=fun {nm s} hl=>by
  rcases look_kill hl with ⟨rfl,_⟩ |⟨hl,_⟩
  ·trivial
  exact hM.rn hl
 have gone:∀{nm id},¬owns C nm .gone id:=fun {nm id} h=>by
  rcases h with h |h
  ·exact h.1
  exact h
 have ids_n:(C.put n j hd nx').ids n=j:=by simp [Cx.put]
 have hsame:∀{nm s},look (kill dead objs) nm=some s->∀id,owns C nm s id->h' id=h id:=fun {nm s} hl id ho=>by
  refine hh _ (hjn _ _ hl _ ho) fun nm2 e2 s2 hl2 ho2 e3=>?_
  rcases look_kill hl with ⟨rfl,_⟩ |⟨hl,hne⟩
  ·exact gone ho
  exact hne (by rw [hM.inj' _ _ _ _ hl hl2 id ho (.inl ⟨ho2,e3.symm⟩)];exact e2)
 have hgsame:∀id o,C.g id=some o->h' id=h id:=fun id o hgo=>by
  refine hh id (fun e=>by rw [e,hg] at hgo;cases hgo) fun nm2 e2 s2 hl2 ho2 e=>?_
  have:=(hM.own _ _ hl2 ho2).2.2
  rw [<-e,hgo] at this;cases this
 have newo:∀{id},owns (C.put n j hd nx') n so id->id=j:=fun {id} h=>by
  rcases h with h |h
  ·rw [<-h.2,ids_n]
  exact absurd h (hns id)
 refine ⟨⟨fun nm s hl=>?_,fun nm s hl=>?_,fun nm s hl id ho=>?_,fun nm nm' s s' hl hl' id ho ho'=>?_,fun id o hgo=>?_,fun b hb=>?_,?_,zT hM.barle hnx,(ha.bd 0 (xZ _)).trans hM.z⟩,?_⟩
 ·rw [look_cons] at hl
  split at hl
  ·omega
  have:=old hl;omega
 ·rw [look_cons] at hl
  split at hl
  next e=>
   simp only [zA] at hl
   subst e hl
   exact hob
  have hlt:=old hl
  refine ObS.mono ha (zQ _) hnx hlt (fun id ho=>hsame hl id ho) ?_
  rcases look_kill hl with ⟨rfl,_⟩ |⟨hl,_⟩
  ·trivial
  exact hM.ob _ _ hl
 ·rw [look_cons] at hl
  split at hl
  next e=>
   simp only [zA] at hl
   subst e hl
   rw [newo ho]
   exact ⟨hbar,hj,hg⟩
  have hlt:=old hl
  rw [owns_ag ha hlt (oldr hl)] at ho
  rcases look_kill hl with ⟨rfl,_⟩ |⟨hl,_⟩
  ·exact absurd ho gone
  obtain ⟨a,b,c⟩:=hM.own' _ _ hl _ ho
  exact ⟨a,by omega,c⟩
 ·rw [look_cons] at hl hl'
  split at hl
  next e=>
   simp only [zA] at hl
   subst e hl
   split at hl'
   next e'=>exact e'
   have hlt:=old hl'
   rw [owns_ag ha hlt (oldr hl')] at ho'
   exact absurd (newo ho) (hjn _ _ hl' _ ho')
  have hlt:=old hl
  rw [owns_ag ha hlt (oldr hl)] at ho
  split at hl'
  next e'=>
   simp only [zA] at hl'
   subst e' hl'
   exact absurd (newo ho') (hjn _ _ hl _ ho)
  have hlt':=old hl'
  rw [owns_ag ha hlt' (oldr hl')] at ho'
  rcases look_kill hl with ⟨rfl,_⟩ |⟨hl,_⟩
  ·exact absurd ho gone
  rcases look_kill hl' with ⟨rfl,_⟩ |⟨hl',_⟩
  ·exact absurd ho' gone
  exact hM.inj' _ _ _ _ hl hl' _ ho ho'
 ·have hgo':C.g id=some o:=hgo
  obtain ⟨a,b⟩:=hM.fz _ _ hgo'
  exact ⟨by omega,by rw [hgsame _ _ hgo'];exact b⟩
 ·simp only [Cx.put]
  split
  ·exact zB _
  have:=hM.bd b (by omega);omega
 ·simp [Cx.put]
 refine ⟨ha,zQ _,hnx,fun id hid hno=>?_,fun id hid=>?_,fun id o hgo=>.inl hgo⟩
 ·refine hh id (fun e=>?_) fun nm e s hl ho e'=>hno ⟨nm,s,hl,.inl ⟨ho,e'.symm⟩⟩
  subst e
  rcases hjo with hjo |hjo
  ·exact hno hjo
  omega
 obtain ⟨nm,s,hl,ho⟩:=hid
 rw [look_cons] at hl
 split at hl
 next e=>
  simp only [zA] at hl
  subst e hl
  rw [newo ho]
  exact hjo
 have hlt:=old hl
 rw [owns_ag ha hlt (oldr hl)] at ho
 rcases look_kill hl with ⟨rfl,_⟩ |⟨hl,_⟩
 ·exact absurd ho gone
 exact .inl ⟨nm,s,hl,ho⟩
theorem MSim.lk {C:Cx ro} {objs objs':List (Nat×SO)} {n bar:Nat} {h:Nat->Option O} {nx:Nat} (hM:MSim C objs n bar h nx) (hl:∀t,HX.look objs' t=HX.look objs t):MSim C objs' n bar h nx:=
 ⟨fun nm so h=>hM.lt nm so (by rw [<-hl];exact h),fun nm so h=>hM.ob nm so (by rw [<-hl];exact h),fun nm so h=>hM.own' nm so (by rw [<-hl];exact h),
  fun a b s s' h h'=>hM.inj' a b s s' (by rw [<-hl];exact h) (by rw [<-hl];exact h'),hM.fz,hM.bd,hM.top,hM.barle,hM.z⟩
theorem MExt.lk {C:Cx ro} {objs objs':List (Nat×SO)} {n:Nat} {h:Nat->Option O} {nx:Nat} (hl:∀t,HX.look objs' t=HX.look objs t):MExt C objs n h nx C objs' n h nx:=
 ⟨Ag.refl _ _,zB _,zB _,fun _ _ _=>rfl,fun id ⟨nm,so,h1,h2⟩=>.inl ⟨nm,so,by rw [<-hl];exact h1,h2⟩,fun _ _ h=>.inl h⟩
theorem MSim.putN {C:Cx ro} {objs:List (Nat×SO)} {n bar:Nat} {h:Nat->Option O} {nx:Nat} (hM:MSim C objs n bar h nx) {dead:Option Nat} {so:SO} {j:Nat} {hd:V} (hdead:∀nm,dead=some nm->∃so0,look objs nm=some so0)
  (hob:ObS (C.put n j hd nx) (n+1) h nx n so) (hno:∀id,¬owns (C.put n j hd nx) n so id) :
  MSim (C.put n j hd nx) ((n,so) :: kill dead objs) (n+1) bar h nx/\MExt C objs n h nx (C.put n j hd nx) ((n,so) :: kill dead objs) (n+1) h nx:=by
 have ha:=Ag.put C n j hd nx
 have old:∀{nm s},look (kill dead objs) nm=some s->nm < n:=fun {nm s} hl=>by
  rcases look_kill hl with ⟨_,e⟩ |⟨hl,_⟩
  ·obtain ⟨so0,h0⟩:=hdead _ e
   exact hM.lt _ _ h0
  exact hM.lt _ _ hl
 have case:∀{nm s id},look ((n,so) :: kill dead objs) nm=some s->owns (C.put n j hd nx) nm s id->look objs nm=some s/\owns C nm s id:=fun {nm s id} hl ho=>by
  rw [look_cons] at hl
  split at hl
  next e=>
   simp only [zA] at hl
   subst e hl
   exact absurd ho (hno id)
  have hlt:=old hl
  rcases look_kill hl with ⟨rfl,_⟩ |⟨hl,_⟩
  ·rcases ho with ho |ho
   ·exact ho.1.elim
   exact ho.elim
  exact ⟨hl,(owns_ag ha hlt (hM.rn hl)).1 ho⟩
 refine ⟨⟨fun nm s hl=>?_,fun nm s hl=>?_,fun nm s hl id ho=>?_,fun nm nm' s s' hl hl' id ho ho'=>?_,hM.fz,fun b hb=>?_,by simp [Cx.put],hM.barle,(ha.bd 0 (xZ _)).trans hM.z⟩,ha,zQ _,zB _,fun _ _ _=>rfl,fun id hid=>?_,fun id o hg=>.inl hg⟩
 ·rw [look_cons] at hl
  split at hl
  ·omega
  have:=old hl;omega
 ·rw [look_cons] at hl
  split at hl
  next e=>
   simp only [zA] at hl
   subst e hl
   exact hob
  have hlt:=old hl
  refine ObS.mono ha (zQ _) (zB _) hlt (fun _ _=>rfl) ?_
  rcases look_kill hl with ⟨rfl,_⟩ |⟨hl,_⟩
  ·trivial
  exact hM.ob _ _ hl
 ·obtain ⟨a,b⟩:=case hl ho
  exact hM.own' _ _ a _ b
 ·obtain ⟨a,b⟩:=case hl ho
  obtain ⟨a',b'⟩:=case hl' ho'
  exact hM.inj' _ _ _ _ a a' _ b b'
 ·simp only [Cx.put]
  split
  ·exact zB _
  have:=hM.bd b (by omega);omega
 obtain ⟨nm,s,hl,ho⟩:=hid
 obtain ⟨a,b⟩:=case hl ho
 exact .inl ⟨nm,s,a,b⟩
theorem MSim.put0 {C:Cx ro} {objs:List (Nat×SO)} {n bar:Nat} {h:Nat->Option O} {nx:Nat} (hM:MSim C objs n bar h nx) {dead:Option Nat} {og:Nat} {ks:List Kd} (hks:0 < ks.length) (hdead:∀nm,dead=some nm->∃so0,look objs nm=some so0) :
  MSim (C.put n 0 .nils nx) ((n,.arr og ks []) :: kill dead objs) (n+1) bar h nx/\MExt C objs n h nx (C.put n 0 .nils nx) ((n,.arr og ks []) :: kill dead objs) (n+1) h nx:=by
 refine hM.putN hdead ?_ fun id ho=>?_
 ·simp only [ObS,Cx.put,if_true]
  exact ⟨⟨hks,fun _ h=>(by cases h),by simp⟩,.inl ⟨trivial,trivial⟩⟩
 rcases ho with ho |ho
 ·simp [ownS,Cx.put] at ho
 exact ho
theorem MSim.updG {C:Cx ro} {objs:List (Nat×SO)} {n bar:Nat} {h:Nat->Option O} {nx:Nat} (hM:MSim C objs n bar h nx) {nm:Nat} {so0 so:SO} (hl:look objs nm=some so0) (ho:ownS C nm so0) (hsub:∀id,owns C nm so id->owns C nm so0 id) {o:O}
  (hob:ObS C n (fun id=>if id=C.ids nm then some o else h id) nx nm so) :
  MSim C ((nm,so) :: objs) n bar (fun id=>if id=C.ids nm then some o else h id) nx/\MExt C objs n h nx C ((nm,so) :: objs) n (fun id=>if id=C.ids nm then some o else h id) nx:=by
 have other:∀{nm' s},look objs nm'=some s->nm≠nm'->∀id,owns C nm' s id->(if id=C.ids nm then some o else h id)=h id:=fun {nm' s} hl' hne id ho''=>by
  rw [if_neg fun e=>hne (hM.inj' _ _ _ _ hl hl' id (.inl ⟨ho,e.symm⟩) ho'')]
 refine ⟨⟨fun nm' s hl'=>?_,fun nm' s hl'=>?_,fun nm' s hl' id ho''=>?_,fun a b s s' hla hlb id hoa hob'=>?_,fun id o' hg=>?_,hM.bd,hM.top,hM.barle,hM.z⟩,?_⟩
 ·rw [look_cons] at hl'
  split at hl'
  next e=>subst e;exact hM.lt _ _ hl
  exact hM.lt _ _ hl'
 ·rw [look_cons] at hl'
  split at hl'
  next e=>
   subst e
   simp only [zA] at hl';subst hl'
   exact hob
  rename_i hne
  exact ObS.mono (Ag.refl _ _) (zB _) (zB _) (hM.lt _ _ hl') (fun id ho''=>other hl' hne id ho'') (hM.ob _ _ hl')
 ·rw [look_cons] at hl'
  split at hl'
  next e=>
   simp only [zA] at hl'
   subst e hl'
   exact hM.own' _ _ hl _ (hsub _ ho'')
  exact hM.own' _ _ hl' _ ho''
 ·rw [look_cons] at hla hlb
  split at hla
  next e=>
   simp only [zA] at hla
   subst e hla
   split at hlb
   next e=>exact e
   exact hM.inj' _ _ _ _ hl hlb _ (hsub _ hoa) hob'
  split at hlb
  next e=>
   simp only [zA] at hlb
   subst e hlb
   exact hM.inj' _ _ _ _ hla hl _ hoa (hsub _ hob')
  exact hM.inj' _ _ _ _ hla hlb _ hoa hob'
 ·obtain ⟨a,b⟩:=hM.fz _ _ hg
  refine ⟨a,?_⟩
  show (if id=C.ids nm then some o else h id)=some o'
  rw [if_neg fun e=>?_]
  ·exact b
  rw [e,(hM.own _ _ hl ho).2.2] at hg;cases hg
 refine ⟨Ag.refl _ _,zB _,zB _,fun id hid hno=>?_,fun id hid=>?_,fun id o hg=>.inl hg⟩
 ·show (if id=C.ids nm then some o else h id)=h id
  rw [if_neg fun e=>hno ⟨nm,so0,hl,.inl ⟨ho,e.symm⟩⟩]
 obtain ⟨nm',s,hl',ho''⟩:=hid
 rw [look_cons] at hl'
 split at hl'
 next e=>
  simp only [zA] at hl'
  subst e hl'
  exact .inl ⟨nm,so0,hl,hsub _ ho''⟩
 exact .inl ⟨nm',s,hl',ho''⟩
theorem MSim.upd {C:Cx ro} {objs:List (Nat×SO)} {n bar:Nat} {h:Nat->Option O} {nx:Nat} (hM:MSim C objs n bar h nx) {nm:Nat} {so0 so:SO} (hl:look objs nm=some so0) (ho:ownS C nm so0) (ho':ownS C nm so) {o:O}
  (hob:ObS C n (fun id=>if id=C.ids nm then some o else h id) nx nm so) (hns:∀id,¬subS C so id:=by exact fun _ h=>h) :
  MSim C ((nm,so) :: objs) n bar (fun id=>if id=C.ids nm then some o else h id) nx/\MExt C objs n h nx C ((nm,so) :: objs) n (fun id=>if id=C.ids nm then some o else h id) nx:=
 hM.updG hl ho (fun id h=>by
  rcases h with h |h
  ·exact .inl ⟨ho,h.2⟩
  exact absurd h (hns id)) hob
open Classical in
theorem MSim.frzG {C:Cx ro} {objs:List (Nat×SO)} {n bar:Nat} {h:Nat->Option O} {nx:Nat} (hM:MSim C objs n bar h nx) {nm:Nat} {so:SO} {ks:List Kd} {rows:Rows} (hl:look objs nm=some so)
  (hob:∀C':Cx ro,Ag n C C'->(∀id o,owns C nm so id->h id=some o->C'.g id=some o)->C'.hdr=C.hdr->ObS C' n h nx nm (.frz ks rows)) :
  ∃C',MSim C' ((nm,.frz ks rows) :: objs) n bar h nx/\MExt C objs n h nx C' ((nm,.frz ks rows) :: objs) n h nx:=by
 have hlt:=hM.lt _ _ hl
 have hag:Ag n C ⟨C.ids,C.hdr,fun id=>if owns C nm so id then h id else C.g id,C.bd⟩:=
  ⟨fun _ _=>rfl,fun _ _=>rfl,fun _ _=>rfl,fun id o hg=>by
   show (if owns C nm so id then h id else C.g id)=some o
   rw [if_neg fun e=>by rw [(hM.own' _ _ hl _ e).2.2] at hg;cases hg];exact hg⟩
 have no:∀{C':Cx ro} {nm' id},¬owns C' nm' (.frz ks rows) id:=fun {C' nm' id} h=>by
  rcases h with h |h
  ·exact h.1
  exact h
 refine ⟨⟨C.ids,C.hdr,fun id=>if owns C nm so id then h id else C.g id,C.bd⟩,⟨fun nm' s hl'=>?_,fun nm' s hl'=>?_,fun nm' s hl' id ho=>?_,fun a b s s' hla hlb id hoa hob'=>?_,fun id o hg=>?_,hM.bd,hM.top,hM.barle,hM.z⟩,hag,zB _,zB _,fun _ _ _=>rfl,fun id hid=>?_,fun id o hg=>?_⟩
 ·rw [look_cons] at hl'
  split at hl'
  next e=>subst e;exact hlt
  exact hM.lt _ _ hl'
 ·rw [look_cons] at hl'
  split at hl'
  next e=>
   subst e
   simp only [zA] at hl';subst hl'
   exact hob _ hag (fun id o ho hh=>by show (if owns C nm so id then h id else C.g id)=some o;rw [if_pos ho,hh]) rfl
  exact ObS.mono hag (zB _) (zB _) (hM.lt _ _ hl') (fun _ _=>rfl) (hM.ob _ _ hl')
 ·rw [look_cons] at hl'
  split at hl'
  ·simp only [zA] at hl';subst hl';exact absurd ho no
  rename_i hne
  have ho:=(owns_ag hag (hM.lt _ _ hl') (hM.rn hl')).1 ho
  obtain ⟨b1,b2,b3⟩:=hM.own' _ _ hl' _ ho
  refine ⟨b1,b2,?_⟩
  show (if owns C nm so id then h id else C.g id)=none
  rw [if_neg fun e=>hne (hM.inj' _ _ _ _ hl hl' id e ho)];exact b3
 ·rw [look_cons] at hla hlb
  split at hla
  ·simp only [zA] at hla;subst hla;exact absurd hoa no
  split at hlb
  ·simp only [zA] at hlb;subst hlb;exact absurd hob' no
  exact hM.inj' _ _ _ _ hla hlb _ ((owns_ag hag (hM.lt _ _ hla) (hM.rn hla)).1 hoa) ((owns_ag hag (hM.lt _ _ hlb) (hM.rn hlb)).1 hob')
 ·simp only at hg
  split at hg
  next e=>
   exact ⟨(hM.own' _ _ hl _ e).2.1,hg⟩
  exact hM.fz _ _ hg
 ·obtain ⟨nm',s,hl',ho''⟩:=hid
  rw [look_cons] at hl'
  split at hl'
  ·simp only [zA] at hl';subst hl';exact absurd ho'' no
  exact .inl ⟨nm',s,hl',(owns_ag hag (hM.lt _ _ hl') (hM.rn hl')).1 ho''⟩
 simp only at hg
 split at hg
 next e=>
  exact .inr (.inl ⟨nm,_,hl,e⟩)
 exact .inl hg
theorem MSim.frz {C:Cx ro} {objs:List (Nat×SO)} {n bar:Nat} {h:Nat->Option O} {nx:Nat} (hM:MSim C objs n bar h nx) (nm:Nat) :
  ∃C',MSim C' (frz objs nm) n bar h nx/\MExt C objs n h nx C' (frz objs nm) n h nx:=by
 unfold HX.frz
 split
 next og ks rows hl=>
  have hob:=hM.ob _ _ hl
  simp only [ObS] at hob
  obtain ⟨hpos,hob⟩:=hob
  refine hM.frzG hl fun C' hag hg hh=>?_
  simp only [ObS,FzC,D.rows,hh]
  rcases hob with hnil |⟨t,m,cap,a1,a2,a3,a4,a5⟩
  ·exact ⟨hpos.1,⟨⟨_,rfl,hpos.2⟩,.inl hnil⟩,.inl hnil.1⟩
  have hown:owns C nm (.arr og ks rows) (C.ids nm):=.inl ⟨(by simp only [ownS,a1];intro e;cases e),rfl⟩
  have ei:C'.ids nm=C.ids nm:=hag.ids _ (hM.lt _ _ hl)
  refine ⟨hpos.1,⟨⟨_,rfl,hpos.2⟩,.inr (.inl ⟨C.ids nm,0,cap,a1,hpos.1,fun c hc=>(a4 c hc).1,(hM.own' _ _ hl _ hown).2.1,t,m,hg _ _ hown a2,by omega,fun i hi=>?_⟩)⟩,.inr ⟨_,_,by rw [ei];exact a1⟩⟩
  refine FzR.mono (fun id o _ hg=>hag.g id o hg) (zB _) _ _ _ _ ?_
  exact FzR.cells _ _ _ _ 0 0 (fun j _=>by simp) _ (fun _=>rfl) (a5 i hi)
 rotate_left
 ·exact ⟨C,hM,MExt.refl _ _ _ _ _⟩
 rename_i og ks rows rn hl
 have hob:=hM.ob _ _ hl
 simp only [ObS] at hob
 obtain ⟨h0,hlr,l,h1,h2,h3,h4,h5,h6⟩:=hob
 refine hM.frzG hl fun C' hag hg hh=>?_
 have ei:C'.ids nm=C.ids nm:=hag.ids _ (hM.lt _ _ hl)
 simp only [ObS,FzC,D.rows,hh]
 rcases h3 with hnil |⟨t,m,cap,a1,a2,a3,a4,a5⟩
 ·exact ⟨by simp,⟨⟨_,rfl,hlr⟩,.inl hnil⟩,.inl hnil.1⟩
 have hown:owns C nm (.mat og ks rows rn none) (C.ids nm):=.inl ⟨(by simp only [ownS,a1];intro e;cases e),rfl⟩
 refine ⟨by simp,⟨⟨_,rfl,hlr⟩,.inr (.inl ⟨C.ids nm,0,cap,a1,by simp,fun c hc=>(a4 c hc).1,(hM.own' _ _ hl _ hown).2.1,t,m,hg _ _ hown a2,by simp;omega,fun i hi=>?_⟩)⟩,.inr ⟨_,_,by rw [ei];exact a1⟩⟩
 obtain ⟨v,hv⟩:∃v,l[i]?=some v:=⟨l[i]'(by omega),zJ (by omega)⟩
 obtain ⟨q1,⟨r,q2⟩,q3⟩:=h4 i v hv
 obtain ⟨⟨r1,r2⟩,r3⟩:=q3 (by simp)
 rw [q2] at r2 r3
 simp only [D.rows] at r2 r3
 simp only [FzR,and_true]
 refine ⟨v,by simp only [zY,xI];rw [<-hv,<-a5 i hi (by simp)];congr 1;omega,?_⟩
 rw [q2]
 simp only [FzC,D.rows]
 refine ⟨⟨r,rfl,r2⟩,?_⟩
 rcases r3 with ⟨e,rfl⟩ |⟨id,t',m',cap',b1,b2,b3,b4,b5⟩
 ·exact .inl ⟨e,rfl⟩
 have hown2:owns C nm (.mat og ks rows rn none) id:=.inr ⟨l,i,h1,by simp,_,_,_,_,by rw [hv,b1]⟩
 refine .inr (.inl ⟨id,0,cap',b1,r1,fun c hc=>(b4 c hc).1,(hM.own' _ _ hl _ hown2).2.1,t',m',hg _ _ hown2 b2,by omega,fun i hi=>?_⟩)
 refine FzR.mono (fun id o _ hg=>hag.g id o hg) (zB _) _ _ _ _ ?_
 exact FzR.cells _ _ _ _ 0 0 (fun j _=>by simp) _ (fun _=>rfl) (b5 i hi)
theorem MSim.ghost {C:Cx ro} {objs objs':List (Nat×SO)} {n bar:Nat} {h:Nat->Option O} {nx:Nat} (hM:MSim C objs n bar h nx) {j:Nat} {hd:V} (hlt:∀nm so,look objs' nm=some so->nm < n+1) (hob:∀nm so,look objs' nm=some so->ObS (C.put n j hd nx) (n+1) h nx nm so)
  (ho:∀nm so id,look objs' nm=some so->owns (C.put n j hd nx) nm so id->OwnId C objs id) (hinj:∀nm nm' so so' id,look objs' nm=some so->look objs' nm'=some so'->owns (C.put n j hd nx) nm so id->owns (C.put n j hd nx) nm' so' id->nm=nm') :
  MSim (C.put n j hd nx) objs' (n+1) bar h nx/\MExt C objs n h nx (C.put n j hd nx) objs' (n+1) h nx:=by
 have ha:=Ag.put C n j hd nx
 refine ⟨⟨hlt,hob,fun nm s hl id ho'=>?_,fun nm nm' s s' hl hl' id ho ho'=>hinj _ _ _ _ _ hl hl' ho ho',hM.fz,fun b hb=>?_,by simp [Cx.put],hM.barle,(ha.bd 0 (xZ _)).trans hM.z⟩,ha,zQ _,zB _,fun _ _ _=>rfl,fun id hid=>?_,fun id o hg=>.inl hg⟩
 ·obtain ⟨nm0,s0,a,b⟩:=ho _ _ _ hl ho'
  exact hM.own' _ _ a _ b
 ·simp only [Cx.put]
  split
  ·exact zB _
  have:=hM.bd b (by omega);omega
 obtain ⟨nm,s,hl,ho'⟩:=hid
 exact .inl (ho _ _ _ hl ho')
theorem owns_gone {C:Cx ro} {nm id:Nat}:¬owns C nm .gone id:=fun h=>by
 rcases h with h |h
 ·exact h.1
 exact h
theorem MSim.out {C:Cx ro} {objs:List (Nat×SO)} {n bar:Nat} {h:Nat->Option O} {nx:Nat} (hM:MSim C objs n bar h nx) {nm og rn i:Nat} {ks:List Kd} {rows:Rows} (hl:look objs nm=some (.mat og ks rows rn none)) (hi:i < rows.length) :
  ∃j l v,C.hdr rn=.tup l/\l[i]?=some v/\isHdr v/\MSim (C.put n j v nx) ((n,.arr n ks (gt rows i 0).rows) :: (nm,.mat og ks rows rn (some i)) :: objs) (n+1) bar h nx/\
   MExt C objs n h nx (C.put n j v nx) ((n,.arr n ks (gt rows i 0).rows) :: (nm,.mat og ks rows rn (some i)) :: objs) (n+1) h nx:=by
 have hob:=hM.ob _ _ hl
 have hlt:=hM.lt _ _ hl
 simp only [ObS] at hob
 obtain ⟨h0,hlr,l,h1,h2,h3,h4,h5,h6⟩:=hob
 obtain ⟨v,hv⟩:∃v,l[i]?=some v:=⟨l[i]'(by omega),zJ (by omega)⟩
 obtain ⟨q1,_,q3⟩:=h4 i v hv
 have q3:=q3 (by simp)
 obtain ⟨j,hj⟩:∃j,∀es off len cap id,v=.slc id es off len cap->id=j:=by
  rcases q1 with rfl |⟨id,_,_,_,_,rfl⟩
  ·exact ⟨0,fun _ _ _ _ _ e=>by cases e⟩
  exact ⟨id,fun _ _ _ _ _ e=>by simp only [V.slc.injEq] at e;exact e.1.symm⟩
 have ha:=Ag.put C n j v nx
 have hn:(C.put n j v nx).hdr n=v:=by simp [Cx.put]
 have hn':(C.put n j v nx).ids n=j:=by simp [Cx.put]
 have hr:(C.put n j v nx).hdr rn=.tup l:=by rw [ha.hdr _ h0];exact h1
 have own:∀nm' so id,look ((n,SO.arr n ks (gt rows i 0).rows) :: (nm,.mat og ks rows rn (some i)) :: objs) nm'=some so->owns (C.put n j v nx) nm' so id->
   (nm'=n/\RowId l i id)\/(nm'=nm/\nm≠n/\((C.hdr nm≠.nils/\C.ids nm=id)\/∃k,k≠i/\RowId l k id))\/(nm'≠n/\nm'≠nm/\look objs nm'=some so/\owns C nm' so id):=by
  intro nm' so id hl' ho'
  rw [look_cons] at hl'
  split at hl'
  next e=>
   simp only [zA] at hl'
   subst e hl'
   refine .inl ⟨rfl,?_⟩
   rcases ho' with ⟨ho',e⟩ |ho'
   ·simp only [ownS,hn] at ho'
    rcases q1 with rfl |⟨id0,es,off,len,cap,rfl⟩
    ·exact absurd rfl ho'
    rw [hn',<-hj _ _ _ _ _ rfl] at e
    subst e
    exact ⟨es,off,len,cap,hv⟩
   exact ho'.elim
  rename_i hne
  rw [look_cons] at hl'
  split at hl'
  next e=>
   simp only [zA] at hl'
   subst e hl'
   refine .inr (.inl ⟨rfl,Ne.symm hne,?_⟩)
   rcases ho' with ⟨ho',e⟩ |⟨l',k,e1,e2,e3⟩
   ·simp only [ownS,ha.hdr _ hlt] at ho'
    rw [ha.ids _ hlt] at e
    exact .inl ⟨ho',e⟩
   rw [hr] at e1
   simp only [V.tup.injEq] at e1
   subst e1
   exact .inr ⟨k,fun e=>e2 (by rw [e]),e3⟩
  rename_i hne2
  exact .inr (.inr ⟨Ne.symm hne,Ne.symm hne2,hl',(owns_ag ha (hM.lt _ _ hl') (hM.rn hl')).1 ho'⟩)
 have sub:∀k id,RowId l k id->owns C nm (.mat og ks rows rn none) id:=fun k id hk=>.inr ⟨l,k,h1,by simp,hk⟩
 refine ⟨j,l,v,h1,hv,q1,hM.ghost (fun nm' so hl'=>?_) (fun nm' so hl'=>?_) (fun nm' so id hl' ho'=>?_) (fun a b s s' id hla hlb hoa hob'=>?_)⟩
 ·rw [look_cons] at hl'
  split at hl'
  ·omega
  rw [look_cons] at hl'
  split at hl'
  ·omega
  have:=hM.lt _ _ hl';omega
 ·rw [look_cons] at hl'
  split at hl'
  next e=>
   simp only [zA] at hl'
   subst e hl'
   obtain ⟨r0,r1⟩:=q3
   simp only [ObS,hn,hn']
   refine ⟨r0,?_⟩
   rcases r1 with r1 |⟨id,t,m,cap,b1,b2,b3,b4,b5⟩
   ·exact .inl r1
   have:=hj _ _ _ _ _ b1
   subst this
   exact .inr ⟨t,m,cap,b1,b2,b3,b4,b5⟩
  rw [look_cons] at hl'
  split at hl'
  next e=>
   simp only [zA] at hl'
   subst e hl'
   refine ObS.mono ha (zQ _) (zB _) hlt (fun _ _=>rfl) ?_
   simp only [ObS]
   refine ⟨h0,hlr,l,h1,h2,?_,fun k w hw=>⟨(h4 k w hw).1,(h4 k w hw).2.1,fun _=>(h4 k w hw).2.2 (by simp)⟩,fun a b id _ _=>h5 a b id (by simp) (by simp),fun a _=>h6 a (by simp)⟩
   rcases h3 with h3 |⟨t,m,cap,a1,a2,a3,a4,a5⟩
   ·exact .inl h3
   exact .inr ⟨t,m,cap,a1,a2,a3,a4,fun k hk _=>a5 k hk (by simp)⟩
  exact ObS.mono ha (zQ _) (zB _) (hM.lt _ _ hl') (fun _ _=>rfl) (hM.ob _ _ hl')
 ·rcases own _ _ _ hl' ho' with ⟨_,a⟩ |⟨_,_,a |⟨k,_,a⟩⟩ |⟨_,_,a,b⟩
  ·exact ⟨nm,_,hl,sub _ _ a⟩
  ·exact ⟨nm,_,hl,.inl a⟩
  ·exact ⟨nm,_,hl,sub _ _ a⟩
  exact ⟨nm',_,a,b⟩
 rcases own _ _ _ hla hoa with ⟨rfl,x⟩ |⟨rfl,n1,x⟩ |⟨n1,n2,x,y⟩<;>rcases own _ _ _ hlb hob' with ⟨rfl,x'⟩ |⟨rfl,n1',x'⟩ |⟨n1',n2',x',y'⟩
 ·rfl
 ·exfalso
  rcases x' with ⟨c,rfl⟩ |⟨k,hk,x'⟩
  ·exact h6 i (by simp) ⟨c,x⟩
  exact hk (h5 _ _ _ (by simp) (by simp) x' x)
 ·exact absurd (hM.inj' _ _ _ _ hl x' id (sub _ _ x) y').symm n2'
 ·exfalso
  rcases x with ⟨c,rfl⟩ |⟨k,hk,x⟩
  ·exact h6 i (by simp) ⟨c,x'⟩
  exact hk (h5 _ _ _ (by simp) (by simp) x x')
 ·rfl
 ·refine absurd (hM.inj' _ _ _ _ hl x' id ?_ y').symm n2'
  rcases x with x |⟨k,_,x⟩
  ·exact .inl x
  exact sub _ _ x
 ·exact absurd (hM.inj' _ _ _ _ hl x id (sub _ _ x') y).symm n2
 ·refine absurd (hM.inj' _ _ _ _ hl x id ?_ y).symm n2
  rcases x' with x' |⟨k,_,x'⟩
  ·exact .inl x'
  exact sub _ _ x'
 exact hM.inj' _ _ _ _ x x' id y y'
theorem MSim.absorb {C:Cx ro} {objs:List (Nat×SO)} {n bar:Nat} {h:Nat->Option O} {nx:Nat} (hM:MSim C objs n bar h nx) {nm og rn i m og2:Nat} {ks:List Kd} {rows r2:Rows} (hl:look objs nm=some (.mat og ks rows rn (some i))) (hm:look objs m=some (.arr og2 ks r2)) (hne:m≠nm) (hi:i < rows.length)
  (hcell:∀t m0,h (C.ids nm)=some (.cells t m0)->t.get i=some (C.hdr m)) :
  ∃C',MSim C' ((nm,.mat og ks (rows.set i [.l r2]) n none) :: (m,.gone) :: objs) (n+1) bar h nx/\MExt C objs n h nx C' ((nm,.mat og ks (rows.set i [.l r2]) n none) :: (m,.gone) :: objs) (n+1) h nx:=by
 have hob:=hM.ob _ _ hl
 have hlt:=hM.lt _ _ hl
 have hobm:=hM.ob _ _ hm
 simp only [ObS] at hob hobm
 obtain ⟨h0,hlr,l,h1,h2,h3,h4,h5,h6⟩:=hob
 obtain ⟨m0,m1⟩:=hobm
 have mh:isHdr (C.hdr m):=by
  rcases m1 with ⟨_,e⟩ |⟨t,mm,cap,e,_⟩
  ·exact .inl e
  exact .inr ⟨_,_,_,_,_,e⟩
 have ha:=Ag.put C n 0 (.tup (l.set i (C.hdr m))) nx
 have hn:(C.put n 0 (.tup (l.set i (C.hdr m))) nx).hdr n=.tup (l.set i (C.hdr m)):=by simp [Cx.put]
 have rid:∀k id,RowId (l.set i (C.hdr m)) k id->(k=i/\owns C m (.arr og2 ks r2) id)\/(k≠i/\RowId l k id):=by
  rintro k id ⟨es,off,len,cap,e⟩
  rw [xY] at e
  split at e
  next c=>
   subst c
   split at e
   ·simp only [zA] at e
    refine .inl ⟨rfl,.inl ⟨(by simp only [ownS,e];intro c;cases c),?_⟩⟩
    rcases m1 with ⟨_,e'⟩ |⟨t,mm,cap',e',_⟩
    ·rw [e] at e';cases e'
    rw [e] at e';simp only [V.slc.injEq] at e';exact e'.1.symm
   cases e
  rename_i c
  exact .inr ⟨Ne.symm c,es,off,len,cap,e⟩
 have sub:∀k id,k≠i->RowId l k id->owns C nm (.mat og ks rows rn (some i)) id:=fun k id hk hr=>.inr ⟨l,k,h1,fun e=>hk (by simpa using e.symm),hr⟩
 have own:∀nm' so id,look ((nm,SO.mat og ks (rows.set i [.l r2]) n none) :: (m,.gone) :: objs) nm'=some so->owns (C.put n 0 (.tup (l.set i (C.hdr m))) nx) nm' so id->
   (nm'=nm/\(owns C nm (.mat og ks rows rn (some i)) id\/owns C m (.arr og2 ks r2) id))\/(nm'≠nm/\nm'≠m/\look objs nm'=some so/\owns C nm' so id):=by
  intro nm' so id hl' ho'
  rw [look_cons] at hl'
  split at hl'
  next e=>
   simp only [zA] at hl'
   subst e hl'
   refine .inl ⟨rfl,?_⟩
   rcases ho' with ⟨ho',e⟩ |⟨l',k,e1,_,e3⟩
   ·simp only [ownS,ha.hdr _ hlt] at ho'
    rw [ha.ids _ hlt] at e
    exact .inl (.inl ⟨ho',e⟩)
   rw [hn] at e1
   simp only [V.tup.injEq] at e1
   subst e1
   rcases rid k id e3 with ⟨_,e⟩ |⟨hk,e⟩
   ·exact .inr e
   exact .inl (sub _ _ hk e)
  rename_i hne1
  rw [look_cons] at hl'
  split at hl'
  ·simp only [zA] at hl'
   subst hl'
   exact absurd ho' owns_gone
  rename_i hne2
  exact .inr ⟨Ne.symm hne1,Ne.symm hne2,hl',(owns_ag ha (hM.lt _ _ hl') (hM.rn hl')).1 ho'⟩
 refine ⟨_,hM.ghost (j:=0) (hd:=.tup (l.set i (C.hdr m))) (fun nm' so hl'=>?_) (fun nm' so hl'=>?_) (fun nm' so id hl' ho'=>?_) (fun a b s s' id hla hlb hoa hob'=>?_)⟩
 ·rw [look_cons] at hl'
  split at hl'
  ·omega
  rw [look_cons] at hl'
  split at hl'
  ·have:=hM.lt _ _ hm;omega
  have:=hM.lt _ _ hl';omega
 ·rw [look_cons] at hl'
  split at hl'
  next e=>
   simp only [zA] at hl'
   subst e hl'
   have gset:∀k,gt (rows.set i [.l r2]) k 0=if k=i then .l r2 else gt rows k 0:=fun k=>by
    simp only [gt,zH,xY]
    by_cases c:i=k
    ·subst c;simp [hi]
    rw [if_neg c,if_neg (Ne.symm c)]
   simp only [ObS,hn,ha.hdr _ hlt,ha.ids _ hlt]
   refine ⟨zM _,⟨fun row hr=>?_,by rw [xN];exact hlr.2⟩,l.set i (C.hdr m),rfl,by rw [xN,xN];exact h2,?_,fun k w hw=>?_,fun a b id _ _ hra hrb=>?_,fun k _=>?_⟩
   ·rcases List.mem_or_eq_of_mem_set hr with hr |rfl
    ·exact hlr.1 row hr
    rfl
   ·rcases h3 with ⟨e,_⟩ |⟨t,mm,cap,a1,a2,a3,a4,a5⟩
    ·rw [e] at hi;simp at hi
    refine .inr ⟨t,mm,cap,by rw [xN];exact a1,a2,by rw [xN];exact a3,by rw [xN];exact a4,fun k hk _=>?_⟩
    rw [xN] at hk
    rw [xY]
    split
    next c=>
     subst c
     rw [if_pos (by omega)]
     exact hcell _ _ a2
    rename_i c
    exact a5 k hk fun e=>c (by simpa using e)
   ·rw [gset]
    rw [xY] at hw
    split at hw
    next c=>
     subst c
     split at hw
     ·simp only [zA] at hw
      subst hw
      rw [if_pos rfl]
      refine ⟨mh,⟨_,rfl⟩,fun _=>⟨m0,?_⟩⟩
      rcases m1 with m1 |⟨t,mm,cap,b1,b2,b3,b4,b5⟩
      ·exact .inl m1
      exact .inr ⟨_,t,mm,cap,b1,b2,b3,b4,b5⟩
     cases hw
    rename_i c
    rw [if_neg (Ne.symm c)]
    refine ⟨(h4 k w hw).1,(h4 k w hw).2.1,fun _=>?_⟩
    exact (h4 k w hw).2.2 fun e=>c (by simpa using e)
   ·rcases rid _ _ hra with ⟨ea,oa⟩ |⟨na,oa⟩<;>rcases rid _ _ hrb with ⟨eb,ob⟩ |⟨nb,ob⟩
    ·rw [ea,eb]
    ·exact absurd (hM.inj' _ _ _ _ hm hl id oa (sub _ _ nb ob)) hne
    ·exact absurd (hM.inj' _ _ _ _ hm hl id ob (sub _ _ na oa)) hne
    exact h5 _ _ _ (fun e=>na (by simpa using e.symm)) (fun e=>nb (by simpa using e.symm)) oa ob
   rintro ⟨c1,c2⟩
   have o1:owns C nm (.mat og ks rows rn (some i)) (C.ids nm):=.inl ⟨c1,rfl⟩
   rcases rid _ _ c2 with ⟨_,oa⟩ |⟨na,oa⟩
   ·exact hne (hM.inj' _ _ _ _ hm hl _ oa o1)
   exact h6 _ (fun e=>na (by simpa using e.symm)) ⟨c1,oa⟩
  rw [look_cons] at hl'
  split at hl'
  ·simp only [zA] at hl'
   subst hl'
   trivial
  exact ObS.mono ha (zQ _) (zB _) (hM.lt _ _ hl') (fun _ _=>rfl) (hM.ob _ _ hl')
 ·rcases own _ _ _ hl' ho' with ⟨_,a |a⟩ |⟨_,_,a,b⟩
  ·exact ⟨nm,_,hl,a⟩
  ·exact ⟨m,_,hm,a⟩
  exact ⟨nm',_,a,b⟩
 rcases own _ _ _ hla hoa with ⟨rfl,x⟩ |⟨n1,n2,x,y⟩<;>rcases own _ _ _ hlb hob' with ⟨rfl,x'⟩ |⟨n1',n2',x',y'⟩
 ·rfl
 ·rcases x with x |x
  ·exact absurd (hM.inj' _ _ _ _ x' hl id y' x) n1'
  exact absurd (hM.inj' _ _ _ _ x' hm id y' x) n2'
 ·rcases x' with x' |x'
  ·exact absurd (hM.inj' _ _ _ _ x hl id y x') n1
  exact absurd (hM.inj' _ _ _ _ x hm id y x') n2
 exact hM.inj' _ _ _ _ x x' id y y'
mutual
theorem MSim.frzV {C:Cx ro} {objs:List (Nat×SO)} {n bar:Nat} {h:Nat->Option O} {nx:Nat} (hM:MSim C objs n bar h nx):∀s:SV,∃C',MSim C' (frzV objs s) n bar h nx/\MExt C objs n h nx C' (frzV objs s) n h nx
 |.slc nm=>hM.frz nm
 |.agg l=>MSim.frzL hM l
 |.unk=>⟨C,hM,MExt.refl _ _ _ _ _⟩
 |.int ..=>⟨C,hM,MExt.refl _ _ _ _ _⟩
 |.bool _=>⟨C,hM,MExt.refl _ _ _ _ _⟩
 |.sym _=>⟨C,hM,MExt.refl _ _ _ _ _⟩
 |.str _=>⟨C,hM,MExt.refl _ _ _ _ _⟩
 |.ptr ..=>⟨C,hM,MExt.refl _ _ _ _ _⟩
 |.el ..=>⟨C,hM,MExt.refl _ _ _ _ _⟩
 |.fel ..=>⟨C,hM,MExt.refl _ _ _ _ _⟩
 |.nilp=>⟨C,hM,MExt.refl _ _ _ _ _⟩
 |.mrow ..=>⟨C,hM,MExt.refl _ _ _ _ _⟩
 |.mel ..=>⟨C,hM,MExt.refl _ _ _ _ _⟩
 |.vw ..=>⟨C,hM,MExt.refl _ _ _ _ _⟩
 |.sc ..=>⟨C,hM,MExt.refl _ _ _ _ _⟩
 |.fz ..=>⟨C,hM,MExt.refl _ _ _ _ _⟩
 |.nils=>⟨C,hM,MExt.refl _ _ _ _ _⟩
 |.map _=>⟨C,hM,MExt.refl _ _ _ _ _⟩
 |.nilm=>⟨C,hM,MExt.refl _ _ _ _ _⟩
 |.fn ..=>⟨C,hM,MExt.refl _ _ _ _ _⟩
 |.yield _=>⟨C,hM,MExt.refl _ _ _ _ _⟩
 |.nilf=>⟨C,hM,MExt.refl _ _ _ _ _⟩
 |.iface ..=>⟨C,hM,MExt.refl _ _ _ _ _⟩
 |.nili=>⟨C,hM,MExt.refl _ _ _ _ _⟩
 |.tup _=>⟨C,hM,MExt.refl _ _ _ _ _⟩
theorem MSim.frzL {C:Cx ro} {objs:List (Nat×SO)} {n bar:Nat} {h:Nat->Option O} {nx:Nat} (hM:MSim C objs n bar h nx):∀l:List SV,∃C',MSim C' (frzL objs l) n bar h nx/\MExt C objs n h nx C' (frzL objs l) n h nx
 |[]=>⟨C,hM,MExt.refl _ _ _ _ _⟩
 |s :: l=>by
  obtain ⟨C1,h1,e1⟩:=MSim.frzV hM s
  obtain ⟨C2,h2,e2⟩:=MSim.frzL h1 l
  exact ⟨C2,h2,e1.trans e2⟩
end
end HX

namespace HX
open Go CX
variable {ro:Addr->Option V}
theorem wrt_eq:∀(l:List V) (t:T V) (i:Nat),∃t',(∀k:T V->R,wrt t i l k=k t')/\∀j,t'.get j=if i<=j/\j < i+l.length then l[j - i]? else t.get j
 |[],t,i=>⟨t,fun _=>rfl,fun j=>by rw [if_neg (by simp)]⟩
 |v :: l,t,i=>by
  obtain ⟨t',h1,h2⟩:=wrt_eq l (t.up i (some v)) (Nat.succ i)
  refine ⟨t',fun k=>by simp only [wrt,T.set_eq];exact h1 k,fun j=>?_⟩
  rw [h2,T.get_up]
  by_cases hj:j=i
  ·subst hj
   rw [if_neg (by omega),if_pos rfl,if_pos (by simp)]
   simp
  by_cases hj2:Nat.succ i<=j/\j < Nat.succ i+l.length
  ·rw [if_pos hj2,if_pos (by simp;omega),show j - i=(j - Nat.succ i)+1 by omega]
   simp
  rw [if_neg hj2,if_neg hj,if_neg (by simp;omega)]
def Writes (C:Cx ro) (objs:List (Nat×SO)) (n bar:Nat) (h:Nat->Option O) (nx:Nat) (F:List Nat) (run:Nat->T O->(V->T O->Nat->R)->R) (sv:SV) (objs':List (Nat×SO)) (n':Nat):Prop:=
 ∃v C' h' nx',MSim C' objs' n' bar h' nx'/\MExt C objs n h nx C' objs' n' h' nx'/\RvS C' n' sv v/\(∀id,id∉F->¬(nx<=id/\id < nx')->h' id=h id)/\
  ∀(hv:T O) (barv:Nat),(∀id∈F,hv.get id=h id)->(∀id∈F,bar<=id->barv<=id)->∃hv',(∀k,run barv hv k=k v hv' nx')/\∀id,hv'.get id=if id∈F\/(nx<=id/\id < nx') then h' id else hv.get id
theorem upGet (hv:T O) (nx:Nat) (o:O) (h:Nat->Option O) (id:Nat):(hv.up nx (some o)).get id=if id∈([]:List Nat)\/(nx<=id/\id < nx+1) then (if id=nx then some o else h id) else hv.get id:=by
 rw [T.get_up]
 by_cases e:id=nx
 ·subst e;rw [if_pos rfl,if_pos (.inr ⟨zB _,zM _⟩),if_pos rfl]
 rw [if_neg e,if_neg (by simp;omega)]
theorem new_cells {C:Cx ro} {objs:List (Nat×SO)} {n bar:Nat} {h:Nat->Option O} {nx:Nat} (hM:MSim C objs n bar h nx) {l:List SV} {x:List V} (hl:RvSL C n l x) (ho:l.all oneC=true) {t:T V} (ht:∀i,i < l.length->t.get i=x[i]?) (hd:V) :
  MSim (C.put n nx hd (nx+1)) ((n,.cells l) :: objs) (n+1) bar (fun id=>if id=nx then some (.cells t l.length) else h id) (nx+1)/\
   MExt C objs n h nx (C.put n nx hd (nx+1)) ((n,.cells l) :: objs) (n+1) (fun id=>if id=nx then some (.cells t l.length) else h id) (nx+1):=by
 refine hM.put (dead:=none) (fun _ e=>by cases e) hM.barle (zM _) (zQ _) ?_ (fun nm s hl id ho e=>?_) (fun id hid _=>if_neg hid) (.inr (zB _)) ?_
 ·cases hg:C.g nx with
  |none=>rfl
  |some o=>have:=(hM.fz _ _ hg).1;omega
 ·have:=(hM.own' _ _ hl _ ho).2.1;omega
 simp only [ObS,Cx.put,if_true]
 refine ⟨t,rfl,fun i s hs=>?_⟩
 obtain ⟨v,h1,h2⟩:=hl.get i s hs
 have hlt:i < l.length:=(xB.1 hs).1
 refine ⟨v,by rw [ht i hlt,h1],one_of h2 ?_,RvS.ag (Ag.put C n nx hd (nx+1)) (zQ _) _ _ h2⟩
 exact kT.1 ho s (List.mem_of_getElem? hs)
theorem dOf_ok {C:Cx ro} {Y:St} {bar:Nat} {h:Nat->Option O} {nx:Nat} (hM:MSim C Y.objs Y.next bar h nx) {k:Kd} {s:SV} {d:D} (hd:dOf Y k s=some d) {v:V} (hs:RvS C Y.next s v):FzC ro C.g nx k d v:=by
 have kk:∀{a b:List Kd},kdsEq a b=true->a=b:=fun {a b} h=>kdsEq_ok a b h
 unfold dOf at hd
 split at hd
 ·split at hd
  next hk=>
   have hk:=zV hk
   subst hk
   simp only [zA] at hd
   subst hd
   simp only [RvS] at hs;simp only [FzC];exact ⟨⟨_,rfl⟩,hs⟩
  cases hd
 ·simp only [zA] at hd
  subst hd
  simp only [RvS] at hs;simp only [FzC];exact ⟨⟨_,rfl⟩,hs⟩
 ·simp only [zA] at hd
  subst hd
  simp only [RvS] at hs;simp only [FzC];exact ⟨⟨_,rfl⟩,hs⟩
 ·simp only [zA] at hd
  subst hd
  simp only [RvS] at hs;simp only [FzC];exact ⟨⟨_,rfl⟩,hs⟩
 ·split at hd
  next hk=>
   have hk:=kk hk
   subst hk
   simp only [zA] at hd
   subst hd
   simp only [RvS] at hs
   exact FzC.mono (fun _ _ _ h=>h) (hM.bd _ hs.1) _ _ _ hs.2
  cases hd
 ·split at hd
  next hl=>
   split at hd
   next hk=>
    have hk:=kk hk
    subst hk
    simp only [zA] at hd
    subst hd
    simp only [RvS] at hs
    obtain ⟨_,rfl,_⟩:=hs
    exact (hM.ob _ _ hl).2.1
   cases hd
  cases hd
 ·simp only [zA] at hd
  subst hd
  simp only [RvS] at hs
  subst hs
  simp only [FzC,D.rows]
  exact ⟨⟨[],rfl,fun _ h=>(by cases h),by simp⟩,.inl ⟨trivial,trivial⟩⟩
 ·split at hd
  next hb=>
   rw [beqN_iff] at hb
   simp only [zA] at hd
   subst hb hd
   simp only [RvS] at hs
   obtain ⟨x,y,h1,h2,rfl⟩:=hs
   cases x with
   |nil=>cases y with
    |nil=>simp only [FzC];exact ⟨trivial,trivial⟩
    |cons _ _=>simp [RvSL] at h2
   |cons _ _=>simp [RvSL] at h1
  cases hd
 cases hd
where
 kdEq_ok:∀(a b:Kd),kdEq a b=true->a=b
  |.int _,.int _,h=>by simp only [kdEq,xQ] at h;rw [h]
  |.bool,.bool,_=>rfl
  |.str,.str,_=>rfl
  |.sl a,.sl b,h=>by simp only [kdEq] at h;rw [kdsEq_ok a b h]
  |.int _,.bool,h=>by simp [kdEq] at h
  |.int _,.str,h=>by simp [kdEq] at h
  |.int _,.sl _,h=>by simp [kdEq] at h
  |.bool,.int _,h=>by simp [kdEq] at h
  |.bool,.str,h=>by simp [kdEq] at h
  |.bool,.sl _,h=>by simp [kdEq] at h
  |.str,.int _,h=>by simp [kdEq] at h
  |.str,.bool,h=>by simp [kdEq] at h
  |.str,.sl _,h=>by simp [kdEq] at h
  |.sl _,.int _,h=>by simp [kdEq] at h
  |.sl _,.bool,h=>by simp [kdEq] at h
  |.sl _,.str,h=>by simp [kdEq] at h
  |.fnc _,.fnc _,h=>by simp only [kdEq,xQ] at h;rw [h]
  |.fnc _,.int _,h=>by simp [kdEq] at h
  |.fnc _,.bool,h=>by simp [kdEq] at h
  |.fnc _,.str,h=>by simp [kdEq] at h
  |.fnc _,.sl _,h=>by simp [kdEq] at h
  |.int _,.fnc _,h=>by simp [kdEq] at h
  |.bool,.fnc _,h=>by simp [kdEq] at h
  |.str,.fnc _,h=>by simp [kdEq] at h
  |.sl _,.fnc _,h=>by simp [kdEq] at h
  |.pt a,.pt b,h=>by simp only [kdEq] at h;rw [kdEq_ok a b h]
  |.pt _,.int _,h=>by simp [kdEq] at h
  |.pt _,.bool,h=>by simp [kdEq] at h
  |.pt _,.str,h=>by simp [kdEq] at h
  |.pt _,.sl _,h=>by simp [kdEq] at h
  |.pt _,.fnc _,h=>by simp [kdEq] at h
  |.int _,.pt _,h=>by simp [kdEq] at h
  |.bool,.pt _,h=>by simp [kdEq] at h
  |.str,.pt _,h=>by simp [kdEq] at h
  |.sl _,.pt _,h=>by simp [kdEq] at h
  |.fnc _,.pt _,h=>by simp [kdEq] at h
  |.clo a k,.clo b k',h=>by simp only [kdEq,zC,xQ] at h;rw [h.1,kdEq_ok k k' h.2]
  |.clo _ _,.int _,h=>by simp [kdEq] at h
  |.int _,.clo _ _,h=>by simp [kdEq] at h
  |.clo _ _,.bool,h=>by simp [kdEq] at h
  |.bool,.clo _ _,h=>by simp [kdEq] at h
  |.clo _ _,.str,h=>by simp [kdEq] at h
  |.str,.clo _ _,h=>by simp [kdEq] at h
  |.clo _ _,.sl _,h=>by simp [kdEq] at h
  |.sl _,.clo _ _,h=>by simp [kdEq] at h
  |.clo _ _,.fnc _,h=>by simp [kdEq] at h
  |.fnc _,.clo _ _,h=>by simp [kdEq] at h
  |.clo _ _,.pt _,h=>by simp [kdEq] at h
  |.pt _,.clo _ _,h=>by simp [kdEq] at h
 kdsEq_ok:∀(a b:List Kd),kdsEq a b=true->a=b
  |[],[],_=>rfl
  |a :: r,b :: s,h=>by
   simp only [kdsEq,zC] at h
   rw [kdEq_ok a b h.1,kdsEq_ok r s h.2]
  |[],_ :: _,h=>by simp [kdsEq] at h
  |_ :: _,[],h=>by simp [kdsEq] at h
theorem sameA_eq {a b:Bool} (h:sameA a b=true):a=b:=by cases a<;>cases b<;>first |rfl |(simp [sameA] at h)
theorem kds_eq {a b:List Kd} (h:kdsEq a b=true):a=b:=dOf_ok.kdsEq_ok a b h
theorem dList_ok {C:Cx ro} {Y:St} {bar:Nat} {h:Nat->Option O} {nx:Nat} (hM:MSim C Y.objs Y.next bar h nx):∀{ks:List Kd} {l:List SV} {ds:List D},dList Y ks l=some ds->∀{x:List V},RvSL C Y.next l x->
  ds.length=ks.length/\l.length=ks.length/\l.all oneC=true/\∀j k,ks[j]?=some k->∃v,x[j]?=some v/\FzC ro C.g nx k (ds.getD j .nil) v
 |[],[],ds,hd,x,hx=>by
  simp only [dList,zA] at hd
  subst hd
  exact ⟨rfl,rfl,rfl,fun j k hk=>by simp at hk⟩
 |k :: ks,s :: l,ds,hd,x,hx=>by
  simp only [dList] at hd
  split at hd
  rotate_left
  ·cases hd
  rename_i d hd1
  split at hd
  rotate_left
  ·cases hd
  rename_i ds' hd2
  simp only [zA] at hd
  subst hd
  cases x with
  |nil=>simp [RvSL] at hx
  |cons v x=>
   simp only [RvSL] at hx
   obtain ⟨h1,h2,h3,h4⟩:=dList_ok hM hd2 hx.2
   refine ⟨by simp [h1],by simp [h2],?_,fun j k' hk=>?_⟩
   ·simp only [kA,h3,Bool.and_true]
    unfold dOf at hd1
    split at hd1<;>first |rfl |cases hd1
   cases j with
   |zero=>
    simp only [zK,zA] at hk
    subst hk
    exact ⟨v,by simp,by simpa using dOf_ok hM hd1 hx.1⟩
   |succ j=>
    obtain ⟨v',a,b⟩:=h4 j k' (by simpa using hk)
    exact ⟨v',by simpa using a,by simpa using b⟩
 |[],_ :: _,ds,hd,_,_=>by simp [dList] at hd
 |_ :: _,[],ds,hd,_,_=>by simp [dList] at hd
theorem chunks_ok {C:Cx ro} {Y:St} {bar:Nat} {h:Nat->Option O} {nx:Nat} (hM:MSim C Y.objs Y.next bar h nx) {ks:List Kd}:∀(m:Nat) (l:List SV) (rows:Rows),dRows Y ks (chunks ks.length m l)=some rows->∀{x:List V},RvSL C Y.next l x->
  (rows.length=m/\∀row∈rows,row.length=ks.length)/\∀i,i < m->FzR ro C.g nx ks (gt rows i) (fun c=>x[i * ks.length+c]?) 0
 |0,l,rows,hd,x,hx=>by
  simp only [chunks,dRows,zA] at hd
  subst hd
  exact ⟨⟨rfl,fun _ h=>(by cases h)⟩,fun i hi=>by omega⟩
 |m+1,l,rows,hd,x,hx=>by
  simp only [chunks,dRows] at hd
  split at hd
  rotate_left
  ·cases hd
  rename_i d hd1
  split at hd
  rotate_left
  ·cases hd
  rename_i ds hd2
  simp only [zA] at hd
  subst hd
  obtain ⟨h1,h2⟩:=chunks_ok hM m _ _ hd2 (RvSL.drop ks.length hx)
  obtain ⟨g1,_,_,g2⟩:=dList_ok hM hd1 (RvSL.take ks.length hx)
  refine ⟨⟨by simp [h1.1],fun row hr=>by
   rcases zL.1 hr with rfl |hr
   ·exact g1
   exact h1.2 row hr⟩,fun i hi=>?_⟩
  cases i with
  |zero=>
   refine FzR.of _ _ _ _ fun j k hk=>?_
   obtain ⟨v,a,b⟩:=g2 j k hk
   have hlt:j < ks.length:=(xB.1 hk).1
   rw [xJ,if_pos hlt] at a
   exact ⟨v,by simpa using a,by simpa [gt] using b⟩
  |succ i=>
   have:=h2 i (by omega)
   refine FzR.cells _ _ _ _ 0 0 (fun j _=>?_) _ (fun j=>?_) this
   ·simp only [xR]
    congr 1
    rw [zR];omega
   simp [gt]
theorem new_arr {C:Cx ro} {objs:List (Nat×SO)} {n bar:Nat} {h:Nat->Option O} {nx:Nat} (hM:MSim C objs n bar h nx) {ks:List Kd} (hks:0 < ks.length) {rows:Rows} (hlr:LenR ks rows) {t:T V} {m:Nat} {cap:Option Nat} (hm:rows.length * ks.length<=m)
  (hc:∀c,cap=some c->rows.length<=c/\c * ks.length<=m) (hr:∀i,i < rows.length->FzR ro C.g nx ks (gt rows i) (fun c=>t.get (i * ks.length+c)) 0) :
  MSim (C.put n nx (.slc nx ks.length 0 rows.length cap) (nx+1)) ((n,.arr n ks rows) :: objs) (n+1) bar (fun id=>if id=nx then some (.cells t m) else h id) (nx+1)/\
   MExt C objs n h nx (C.put n nx (.slc nx ks.length 0 rows.length cap) (nx+1)) ((n,.arr n ks rows) :: objs) (n+1) (fun id=>if id=nx then some (.cells t m) else h id) (nx+1):=by
 refine hM.put (dead:=none) (fun _ e=>by cases e) hM.barle (zM _) (zQ _) ?_ (fun nm s hl id ho e=>?_) (fun id hid _=>if_neg hid) (.inr (zB _)) ?_
 ·cases hg:C.g nx with
  |none=>rfl
  |some o=>have:=(hM.fz _ _ hg).1;omega
 ·have:=(hM.own' _ _ hl _ ho).2.1;omega
 simp only [ObS,Cx.put,if_true]
 exact ⟨⟨hks,hlr⟩,.inr ⟨t,m,cap,rfl,rfl,hm,hc,fun i hi=>FzR.mono (fun _ _ _ h=>h) (zQ _) _ _ _ _ (hr i hi)⟩⟩
theorem zD_ok {g:Nat->Option O} {B:Nat}:∀{ks:List Kd} {z:List V} {ds:List D},zD ks z=some ds->(z.length=ks.length/\ds.length=ks.length)/\∀j k,ks[j]?=some k->∃v,z[j]?=some v/\FzC ro g B k (ds.getD j .nil) v:=by
 intro ks
 induction ks with
 |nil=>
  intro z ds h
  cases z with
  |nil=>simp only [zD,zA] at h;subst h;exact ⟨⟨rfl,rfl⟩,fun j k hk=>by simp at hk⟩
  |cons _ _=>simp [zD] at h
 |cons k ks ih=>
  intro z ds h
  have fin:∀{v:V} {z':List V} {d:D} {ds':List D},zD ks z'=some ds'->FzC ro g B k d v->((v :: z').length=(k :: ks).length/\(d :: ds').length=(k :: ks).length)/\∀j k',(k :: ks)[j]?=some k'->∃v',(v :: z')[j]?=some v'/\FzC ro g B k' ((d :: ds').getD j .nil) v':=by
   intro v z' d ds' h1 h2
   obtain ⟨a,b⟩:=ih h1
   refine ⟨⟨by simp [a.1],by simp [a.2]⟩,fun j k' hk=>?_⟩
   cases j with
   |zero=>
    simp only [zK,zA] at hk
    subst hk
    exact ⟨v,by simp,by simpa using h2⟩
   |succ j=>
    obtain ⟨v',c,d⟩:=b j k' (by simpa using hk)
    exact ⟨v',by simpa using c,by simpa using d⟩
  cases z with
  |nil=>cases k<;>simp [zD] at h
  |cons v z=>
   unfold zD at h
   split at h
   ·cases ‹k :: ks=[]›
   next heq1 heq2=>
    simp only [xL] at heq1 heq2
    obtain ⟨rfl,rfl⟩:=heq1
    obtain ⟨rfl,rfl⟩:=heq2
    split at h
    next hk hz=>
     have hk:=zV hk
     subst hk
     simp only [zA] at h
     subst h
     exact fin hz (by simp only [FzC];exact ⟨⟨_,rfl⟩,rfl⟩)
    cases h
   next heq1 heq2=>
    simp only [xL] at heq1 heq2
    obtain ⟨rfl,rfl⟩:=heq1
    obtain ⟨rfl,rfl⟩:=heq2
    split at h
    next hz=>
     simp only [zA] at h
     subst h
     exact fin hz (by simp only [FzC];exact ⟨⟨_,rfl⟩,rfl⟩)
    cases h
   next heq1 heq2=>
    simp only [xL] at heq1 heq2
    obtain ⟨rfl,rfl⟩:=heq1
    obtain ⟨rfl,rfl⟩:=heq2
    split at h
    next hz=>
     simp only [zA] at h
     subst h
     exact fin hz (by simp only [FzC];exact ⟨⟨_,rfl⟩,rfl⟩)
    cases h
   next heq1 heq2=>
    simp only [xL] at heq1 heq2
    obtain ⟨rfl,rfl⟩:=heq1
    obtain ⟨rfl,rfl⟩:=heq2
    split at h
    next hz=>
     simp only [zA] at h
     subst h
     exact fin hz (by simp only [FzC];exact ⟨⟨[],rfl,fun _ h=>(by cases h),by simp⟩,.inl (by simp [D.rows])⟩)
    cases h
   cases h
theorem eKs_ok {E:Env} {t:Nat} {ks:List Kd} {ty:CX.Ty} (h:eKs E t=some (ks,ty)):∃e,kindOf E.E t=.slice e/\E.E.T e=some ty/\ks.length=ty.size/\0 < ty.size/\elemSize E.E t=some ty.size:=by
 unfold eKs at h
 split at h
 next e hk=>
  split at h
  next ty' ks' hty hks=>
   split at h
   next hb=>
    simp only [zC,beqN_iff,xQ] at hb
    simp only [zA,zI] at h
    obtain ⟨rfl,rfl⟩:=h
    refine ⟨e,hk,hty,hb.1,hb.2,?_⟩
    simp only [elemSize,hk,hty]
    obtain ⟨m,hm⟩:∃m,ty'.size=m+1:=⟨ty'.size - 1,by omega⟩
    rw [hm]
   cases h
  cases h
 cases h
section
variable {E:Env} (hA:E.A=Ar.std) (hT:TOk E.E) {C:Cx ro} {Y:St} {bar:Nat} {h:Nat->Option O} {nx:Nat} (hM:MSim C Y.objs Y.next bar h nx)
include hM hT
theorem alloc_ok {t:Nat} {ty:CX.Ty} (hty:E.E.T t=some ty) (ho:(svL ty.zero).all oneC=true) {evc:Operand->Option V} :
  Writes C Y.objs Y.next bar h nx [] (fun barv hv k=>opM E.E barv evc hv nx (.alloc t) k) (.ptr Y.next 0) ((Y.next,.cells (svL ty.zero)) :: Y.objs) (Y.next+1):=by
 have hz:=svL_ok (C:=C) (n:=Y.next) ty.zero ho
 have hlen:(svL ty.zero).length=ty.size:=by rw [<-hz.length];exact hT.zlen _ _ hty
 obtain ⟨h1,h2⟩:=new_cells hM hz ho (t:=ty.zt) (fun i hi=>hT.zt _ _ hty i (by omega)) .nilp
 rw [hlen] at h1 h2
 refine ⟨.ptr nx 0,_,_,nx+1,h1,h2,?_,fun id _ hid=>?_,fun hv barv _ _=>⟨hv.up nx (some (.cells ty.zt ty.size)),fun k=>?_,fun id=>?_⟩⟩
 ·simp only [RvS,Cx.put,if_true];exact ⟨zM _,trivial⟩
 ·show (if id=nx then _ else h id)=h id
  rw [if_neg (by omega)]
 ·simp only [opM,hty,CX.new,T.set_eq]
 exact upGet _ _ _ _ _
omit hT in
theorem newRow_cells {l:List SV} {x:List V} (hl:RvSL C Y.next l x) (ho:l.all oneC=true) (hd:V):∃C' t,MSim C' ((Y.next,.cells l) :: Y.objs) (Y.next+1) bar (fun id=>if id=nx then some (.cells t l.length) else h id) (nx+1)/\
  MExt C Y.objs Y.next h nx C' ((Y.next,.cells l) :: Y.objs) (Y.next+1) (fun id=>if id=nx then some (.cells t l.length) else h id) (nx+1)/\C'.ids Y.next=nx/\C'.hdr Y.next=hd/\
  ∀(hv:T O) (k:T O->Nat->R),newRow hv nx x k=k (hv.up nx (some (.cells t l.length))) (nx+1):=by
 obtain ⟨t,h1,h2⟩:=wrt_eq x .e 0
 obtain ⟨a,b⟩:=new_cells hM hl ho (t:=t) (fun i hi=>by rw [h2,if_pos ⟨by omega,by rw [hl.length];omega⟩];rfl) hd
 refine ⟨_,t,a,b,by simp [Cx.put],by simp [Cx.put],fun hv k=>?_⟩
 simp only [CX.newRow,one_all hl ho,h1,fN_eq,len_eq,hl.length,CX.new,T.set_eq]
theorem box_ok {x:Operand} {ty:Nat} {ev:Operand->SV} {evc:Operand->Option V} (hev:EvOk C Y.next ev evc) (ho:(flat (ev x)).all oneC=true) :
  Writes C Y.objs Y.next bar h nx [] (fun barv hv k=>opM E.E barv evc hv nx (.box ty x) k) (.ptr Y.next 0) ((Y.next,.cells (flat (ev x))) :: Y.objs) (Y.next+1):=by
 obtain ⟨v,e1,e2,e3,e4,e5⟩:=ev_flat hev ho
 obtain ⟨C',t,h1,h2,h3,h4,h5⟩:=newRow_cells hM e3 ho .nilp
 refine ⟨.ptr nx 0,_,_,nx+1,h1,h2,?_,fun id _ hid=>?_,fun hv barv _ _=>⟨hv.up nx (some (.cells t (flat (ev x)).length)),fun k=>?_,fun id=>?_⟩⟩
 rotate_left 2
 ·simp only [opM,e1];exact h5 hv _
 ·exact upGet _ _ _ _ _
 ·simp only [RvS];exact ⟨zM _,by rw [h3]⟩
 show (if id=nx then _ else h id)=h id
 rw [if_neg (by omega)]
theorem rep_rel {n:Nat} {l:List SV} {x:List V} (hl:RvSL C n l x):∀m,RvSL C n (rep m l) (CX.rep m x)
 |0=>trivial
 |m+1=>RvSL.append hl (rep_rel hl m)
theorem rep_one {l:List SV} (ho:l.all oneC=true):∀m,(rep m l).all oneC=true
 |0=>rfl
 |m+1=>by simp only [rep,List.all_append,ho,rep_one ho m,kL]
theorem rep_length {α:Type} {l:List α}:∀m,(rep m l).length=m * l.length
 |0=>by simp [rep]
 |m+1=>by simp only [rep,xK,rep_length m];rw [zR];omega
theorem buildSlice_ok {t len:Nat} {ps:Array (Nat×Operand)} {ev:Operand->SV} {evc:Operand->Option V} (hev:EvOk C Y.next ev evc) {w:WR} (hw:xbuildSlice E Y t len ps.toList ev=some w) :
  Writes C Y.objs Y.next bar h nx [] (fun barv hv k=>opM E.E barv evc hv nx (.buildSlice t len ps) k) w.sv w.objs w.next:=by
 unfold xbuildSlice at hw
 split at hw
 rotate_left
 ·cases hw
 rename_i e hk
 split at hw
 rotate_left
 ·cases hw
 rename_i ety hety
 split at hw
 rotate_left
 ·cases hw
 rename_i hb
 simp only [zC,bleN_iff,xQ] at hb
 obtain ⟨⟨b1,b2⟩,b3⟩:=hb
 have hz:Nat.beq ety.size 0=false:=by
  cases hb:Nat.beq ety.size 0 with
  |true=>have:=zF hb;omega
  |false=>rfl
 have b1':Nat.ble (Nat.mul len ety.size) 4096=true:=bleT b1
 split at hw
 rotate_left
 ·cases hw
 rename_i l hl
 obtain ⟨x,f1,f2,f3,f4⟩:=fillA_ok hev ps.toList _ _ hl (CX.rep len ety.zero) (rep_rel hT hM (svL_ok _ b3) len) (rep_one hT hM b3 len)
 have hlen:l.length=len * ety.size:=by
  rw [f3,rep_length hT hM,<-(svL_ok (C:=C) (n:=Y.next) ety.zero b3).length,hT.zlen _ _ hety]
 have run:∀barv (hv:T O) (k:V->T O->Nat->R),opM E.E barv evc hv nx (.buildSlice t len ps) k=newRow hv nx x fun h nx'=>k (.slc nx ety.size 0 len (some len)) h nx':=by
  intro barv hv k
  simp only [opM,hk,hety,b1',hz,f4]
 have cellsCase:(l.all oneC=true)->Writes C Y.objs Y.next bar h nx [] (fun barv hv k=>opM E.E barv evc hv nx (.buildSlice t len ps) k) (.sc Y.next ety.size 0 len) ((Y.next,.cells l) :: Y.objs) (Y.next+1):=by
  intro ho
  obtain ⟨C',tt,h1,h2,h3,h4,h5⟩:=newRow_cells hM f1 ho .nilp
  refine ⟨.slc nx ety.size 0 len (some len),_,_,nx+1,h1,h2,?_,fun id _ hid=>?_,fun hv barv _ _=>⟨hv.up nx (some (.cells tt l.length)),fun k=>?_,fun id=>?_⟩⟩
  rotate_left 2
  ·simp only [run];exact h5 hv _
  ·exact upGet _ _ _ _ _
  ·simp only [RvS,h3]
   exact ⟨zM _,b2,some len,rfl,fun c hc=>by cases hc;exact zB _⟩
  show (if id=nx then _ else h id)=h id
  rw [if_neg (by omega)]
 split at hw
 next ks hks=>
  split at hw
  next ds hq hds=>
   simp only [beqN_iff] at hq
   simp only [zA] at hw
   subst hw
   rw [<-hq] at hds
   obtain ⟨r1,r2⟩:=chunks_ok hM len l ds hds f1
   obtain ⟨tt,w1,w2⟩:=wrt_eq x .e 0
   have hxl:x.length=len * ks.length:=by rw [f1.length,hlen,hq]
   obtain ⟨r1,r1'⟩:=r1
   obtain ⟨a,b⟩:=new_arr hM (ks:=ks) (by omega) (rows:=ds) ⟨r1',by rw [r1];have:=Nat.le_mul_of_pos_right len b2;omega⟩ (t:=tt) (m:=len * ks.length) (cap:=some len) (by rw [r1];exact zB _) (fun c hc=>by cases hc;exact ⟨by omega,zB _⟩) (fun i hi=>by
    rw [r1] at hi
    refine FzR.cells _ _ _ _ 0 0 (fun j hj=>?_) _ (fun _=>rfl) (r2 i hi)
    rw [w2,if_pos]
    ·simp
    have:(i+1) * ks.length<=len * ks.length:=zP _ hi
    rw [zR] at this
    refine ⟨by omega,by omega⟩)
   refine ⟨.slc nx ety.size 0 len (some len),_,_,nx+1,a,b,?_,fun id _ hid=>?_,fun hv barv _ _=>⟨hv.up nx (some (.cells tt (len * ks.length))),fun k=>?_,fun id=>?_⟩⟩
   rotate_left 2
   ·simp only [run]
    simp only [CX.newRow,one_all f1 f2,w1,fN_eq,len_eq,CX.new,T.set_eq,hxl]
   ·exact upGet _ _ _ _ _
   ·simp only [RvS,Cx.put,if_true,isHdr,r1,hq]
    exact ⟨zM _,trivial,.inr ⟨_,_,_,_,_,rfl⟩⟩
   show (if id=nx then _ else h id)=h id
   rw [if_neg (by omega)]
  split at hw
  next ho=>
   simp only [zA] at hw
   subst hw
   exact cellsCase ho
  cases hw
 split at hw
 next ho=>
  simp only [zA] at hw
  subst hw
  exact cellsCase ho
 cases hw
end
end HX

namespace HX
open Go CX
variable {ro:Addr->Option V}
def footV:V->List Nat
 |.ptr id _=>[id]
 |.slc id _ _ _ _=>[id]
 |.map id=>[id]
 |_=>[]
theorem foot1_eq {evc:Operand->Option V} {x:Operand} {v:V} (h:evc x=some v):foot1 evc x=some (footV v):=by
 simp only [foot1,h]
 cases v<;>rfl
theorem rep_get {x:List V}:∀(m i c:Nat),i < m->c < x.length->(CX.rep m x)[i * x.length+c]?=x[c]?
 |0,i,c,h,_=>by omega
 |m+1,0,c,_,hc=>by simp only [CX.rep,Nat.zero_mul,zO];rw [zW hc]
 |m+1,i+1,c,h,hc=>by
  simp only [CX.rep]
  rw [zU (by rw [zR];omega),show (i+1) * x.length+c - x.length=i * x.length+c by rw [zR];omega]
  exact rep_get m i c (by omega) hc
theorem over_get {α:Type}:∀(l:List α) (off:Nat) (s:List α) (i:Nat),off+s.length<=l.length->(over l off s)[i]?=if off<=i/\i < off+s.length then s[i - off]? else l[i]?
 |l,off,[],i,_=>by
  rw [if_neg (by simp)]
  cases l<;>simp [over]
 |[],off,_ :: _,i,h=>by simp at h
 |a :: l,0,b :: s,0,h=>by simp [over]
 |a :: l,0,b :: s,i+1,h=>by
  simp only [over,kQ]
  rw [over_get l 0 s i (by simp at h ⊢;omega)]
  simp only [xZ,true_and,zO,zY,kO,kQ,Nat.add_lt_add_iff_right]
 |a :: l,o+1,b :: s,0,h=>by simp [over]
 |a :: l,o+1,b :: s,i+1,h=>by
  simp only [over,kQ]
  rw [over_get l o (b :: s) i (by simp at h ⊢;omega)]
  have e:i+1 - (o+1)=i - o:=by omega
  rw [e]
  by_cases c:o<=i/\i < o+(b :: s).length
  ·rw [if_pos c,if_pos (by omega)]
  rw [if_neg c,if_neg (by omega)]
theorem RvSL.all_one {C:Cx ro} {n:Nat} {l:List SV} {x:List V} (h:RvSL C n l x) (ho:l.all oneC=true):∀(i:Nat) (v:V),x[i]?=some v->one1 v=true:=by
 have:=one_all h ho
 rw [oneAll_iff] at this
 exact fun i v hv=>this v (List.mem_of_getElem? hv)
section
variable {E:Env} (hA:E.A=Ar.std) (hT:TOk E.E) {C:Cx ro} {Y:St} {bar:Nat} {h:Nat->Option O} {nx:Nat} (hM:MSim C Y.objs Y.next bar h nx)
include hM hA
include hT in
theorem makeSlice_ok {t:Nat} {l c:Operand} {ev:Operand->SV} {evc:Operand->Option V} (hev:EvOk C Y.next ev evc) {w:WR} (hw:xmakeSlice E Y t (ev l) (ev c)=some w) (hp:∀p∈w.pre,p) :
  Writes C Y.objs Y.next bar h nx [] (fun barv hv k=>opM E.E barv evc hv nx (.makeSlice t l c) k) w.sv w.objs w.next:=by
 unfold xmakeSlice at hw
 split at hw
 rotate_left
 ·cases hw
 rename_i ks ety n m hks hl hc
 split at hw
 rotate_left
 ·cases hw
 rename_i z hz
 have main:∀(p1:E.A.pLe 0 n) (p2:E.A.pLe n m) (p3:E.A.pLe (E.A.mul m (ety.size:Int)) 4096) (p4:E.A.pLe (E.A.mul m (ety.bytes:Int)) 140737488355328),
   Writes C Y.objs Y.next bar h nx [] (fun barv hv k=>opM E.E barv evc hv nx (.makeSlice t l c) k) (.slc Y.next) ((Y.next,.arr Y.next ks (E.A.rep (E.A.toNat n) z)) :: Y.objs) (Y.next+1)/\
   ∀kk,matK ks=some kk->Writes C Y.objs Y.next bar h nx [] (fun barv hv k=>opM E.E barv evc hv nx (.makeSlice t l c) k) (.slc (Y.next+1)) ((Y.next+1,.mat (Y.next+1) kk (E.A.rep (E.A.toNat n) z) Y.next none) :: (Y.next,.gone) :: Y.objs) (Y.next+2):=by
  intro p1 p2 p3 p4
  rw [hA] at p1 p2 p3 p4
  have p1:0<=n:=p1
  have p2:n<=m:=p2
  obtain ⟨n',rfl,_⟩:=toNat_of hA p1
  obtain ⟨m',rfl,_⟩:=toNat_of hA (Int.le_trans p1 p2)
  have p2:n'<=m':=by have:((n':Nat):Int)<=m':=p2;omega
  have p3:m' * ety.size<=4096:=by have h3:((m':Nat):Int) * (ety.size:Int)<=4096:=p3;rw [<-Int.natCast_mul] at h3;omega
  have p4:m' * ety.bytes<=140737488355328:=by have h4:((m':Nat):Int) * (ety.bytes:Int)<=140737488355328:=p4;rw [<-Int.natCast_mul] at h4;omega
  obtain ⟨e,k1,k2,k3,k4,k5⟩:=eKs_ok hks
  obtain ⟨vl,e1,e2⟩:=hev.get hl (by intro e;cases e)
  obtain ⟨vc,e3,e4⟩:=hev.get hc (by intro e;cases e)
  simp only [RvS] at e2 e4
  subst e2 e4
  obtain ⟨⟨z1,z0⟩,z2⟩:=zD_ok (g:=C.g) (B:=nx) hz
  have hone:oneAll (CX.rep m' ety.zero)=true:=by
   rw [oneAll_iff]
   exact rep_mem (hT.zone _ _ k2) m'
  have hlen:(CX.rep m' ety.zero).length=m' * ks.length:=by rw [rep_len,hT.zlen _ _ k2,k3]
  obtain ⟨tt,w1,w2⟩:=wrt_eq (CX.rep m' ety.zero) .e 0
  have erep:E.A.rep (E.A.toNat (Int.ofNat n')) z=List.replicate n' z:=by rw [hA];rfl
  have hbound:n'<=9223372036854775807:=by
   have h0:0 < ety.size:=by omega
   have:=Nat.le_mul_of_pos_right m' h0
   omega
  have hrun:∀(hv:T O) (barv:Nat) (k:V->T O->Nat->R),opM E.E barv evc hv nx (.makeSlice t l c) k=k (.slc nx ety.size 0 n' (some m')) (hv.up nx (some (.cells tt (m' * ks.length)))) (nx+1):=fun hv barv k=>by
   have hz:Nat.beq ety.size 0=false:=by
    cases hb:Nat.beq ety.size 0 with
    |true=>have:=zF hb;omega
    |false=>rfl
   have c1:(Nat.ble n' m' && Nat.ble (Nat.mul m' ety.size) 4096 && Nat.ble (Nat.mul m' ety.bytes) 140737488355328)=true:=by
    rw [bleT p2,show Nat.ble (Nat.mul m' ety.size) 4096=true from bleT p3,show Nat.ble (Nat.mul m' ety.bytes) 140737488355328=true from bleT p4];rfl
   simp only [opM,k1,e1,e3,k2,c1,hz,fL_eq,CX.newRow,hone,w1,fN_eq,len_eq,hlen,CX.new,T.set_eq]
  refine ⟨?_,?_⟩
  ·obtain ⟨a,b⟩:=new_arr hM (ks:=ks) (by omega) (rows:=E.A.rep (E.A.toNat (Int.ofNat n')) z) ⟨by rw [erep];intro row hr;rw [(List.mem_replicate.1 hr).2,z0],by rw [erep,xC];exact hbound⟩ (t:=tt) (m:=m' * ks.length) (cap:=some m') (by rw [erep,xC];exact zP _ p2)
    (fun c hc=>by cases hc;exact ⟨by rw [erep,xC];exact p2,zB _⟩) (fun i hi=>by
     rw [erep,xC] at hi
     refine FzR.of _ _ _ _ fun j k hk=>?_
     obtain ⟨v,g1,g2⟩:=z2 j k hk
     have hj:j < ks.length:=(xB.1 hk).1
     refine ⟨v,?_,?_⟩
     ·have hle:(i+1) * ks.length<=m' * ks.length:=zP _ (by omega)
      rw [zR] at hle
      rw [w2,if_pos ⟨by omega,by rw [hlen];omega⟩,kO,zO,<-z1,rep_get m' i j (by omega) (by omega)]
      exact g1
     rw [erep]
     simp only [gt,zH,xX,hi,if_true,kK,zO]
     simpa [zH] using g2)
   refine ⟨.slc nx ety.size 0 n' (some m'),_,_,nx+1,a,b,?_,fun id _ hid=>?_,fun hv barv _ _=>⟨hv.up nx (some (.cells tt (m' * ks.length))),fun k=>?_,fun id=>?_⟩⟩
   ·simp only [RvS,Cx.put,if_true,isHdr,erep,xC,k3]
    exact ⟨zM _,trivial,.inr ⟨_,_,_,_,_,rfl⟩⟩
   ·show (if id=nx then _ else h id)=h id
    rw [if_neg (by omega)]
   ·exact hrun hv barv k
   exact upGet _ _ _ _ _
  intro kk hkk
  have ek:ks=[.sl kk]/\0 < kk.length:=by
   unfold matK at hkk
   split at hkk
   ·split at hkk
    next hp=>
     simp only [zA] at hkk
     subst hkk
     exact ⟨rfl,zV hp⟩
    cases hkk
   cases hkk
  obtain ⟨rfl,hkp⟩:=ek
  have ez:z=[.l []]/\ety.zero=[.nils]:=by
   match hq:ety.zero,hz with
   |[.nils],hz=>simp only [zD,zA] at hz;exact ⟨hz.symm,rfl⟩
   |[],hz=>simp [zD] at hz
   |.nils :: _ :: _,hz=>simp [zD] at hz
  obtain ⟨ez,ez2⟩:=ez
  have l1:([Kd.sl kk]:List Kd).length=1:=rfl
  have rl:(E.A.rep (E.A.toNat (Int.ofNat n')) z).length=n':=by rw [erep,xC]
  obtain ⟨a1,b1⟩:=hM.putN (dead:=none) (so:=.gone) (j:=0) (hd:=.tup (List.replicate n' .nils)) (fun _ e=>by cases e) trivial (fun _=>owns_gone)
  have hd1:(C.put Y.next 0 (.tup (List.replicate n' .nils)) nx).hdr Y.next=.tup (List.replicate n' .nils):=by simp [Cx.put]
  have noR:∀k id,¬RowId (List.replicate n' V.nils) k id:=fun k id ⟨_,_,_,_,e⟩=>by
   rw [xX] at e
   split at e<;>cases e
  have gz:∀k,gt (E.A.rep (E.A.toNat (Int.ofNat n')) z) k 0=.l []\/n'<=k:=fun k=>by
   by_cases c:k < n'
   ·left;rw [erep,ez];simp [gt,xX,c]
   right;omega
  obtain ⟨a,b⟩:=a1.put (dead:=none) (so:=.mat (Y.next+1) kk (E.A.rep (E.A.toNat (Int.ofNat n')) z) Y.next none) (j:=nx) (nx':=nx+1) (hd:=.slc nx 1 0 n' (some m')) (h':=fun id=>if id=nx then some (.cells tt (m' * 1)) else h id) (fun _ e=>by cases e) hM.barle (zM _) (zQ _)
   (by
    cases hg:(C.put Y.next 0 (.tup (List.replicate n' .nils)) nx).g nx with
    |none=>rfl
    |some o=>have:=(hM.fz _ _ hg).1;omega) (fun nm s hl id ho e=>by have:=(a1.own' _ _ hl _ ho).2.1;omega) (fun id hid _=>if_neg hid) (.inr (zB _)) (by
    have e1:((C.put Y.next 0 (.tup (List.replicate n' .nils)) nx).put (Y.next+1) nx (.slc nx 1 0 n' (some m')) (nx+1)).hdr Y.next=.tup (List.replicate n' .nils):=by simp [Cx.put]
    have e2:((C.put Y.next 0 (.tup (List.replicate n' .nils)) nx).put (Y.next+1) nx (.slc nx 1 0 n' (some m')) (nx+1)).hdr (Y.next+1)=.slc nx 1 0 n' (some m'):=by simp [Cx.put]
    have e3:((C.put Y.next 0 (.tup (List.replicate n' .nils)) nx).put (Y.next+1) nx (.slc nx 1 0 n' (some m')) (nx+1)).ids (Y.next+1)=nx:=by simp [Cx.put]
    simp only [ObS,e1,e2,e3,rl,if_true]
    refine ⟨by omega,⟨by rw [erep];intro row hr;rw [(List.mem_replicate.1 hr).2,ez];rfl,by rw [rl];exact hbound⟩,_,rfl,by simp,.inr ⟨tt,m' * 1,some m',rfl,rfl,by omega,fun c hc=>by cases hc;exact ⟨p2,by omega⟩,fun i hi _=>?_⟩,fun i v hv=>?_,fun i j id _ _ hi=>absurd hi (noR _ _),fun i _ hc=>noR _ _ hc.2⟩
    ·rw [w2,if_pos ⟨by omega,by rw [hlen,l1];omega⟩,kO,xX,if_pos hi]
     have:=rep_get (x:=ety.zero) m' i 0 (by omega) (by rw [ez2];decide)
     rw [ez2] at this ⊢
     simpa using this
    ·rw [xX] at hv
     split at hv
     next hi=>
      simp only [zA] at hv
      subst hv
      refine ⟨.inl rfl,⟨[],?_⟩,fun _=>?_⟩
      ·rcases gz i with h |h
       ·exact h
       omega
      rcases gz i with h |h
      ·rw [h];exact ⟨⟨hkp,fun _ h=>(by cases h),by simp [D.rows]⟩,.inl ⟨rfl,rfl⟩⟩
      omega
     cases hv) (fun id h=>by
    obtain ⟨l',i,e1,_,e3⟩:=h
    have e0:((C.put Y.next 0 (.tup (List.replicate n' .nils)) nx).put (Y.next+1) nx (.slc nx 1 0 n' (some m')) (nx+1)).hdr Y.next=.tup (List.replicate n' .nils):=by simp [Cx.put]
    rw [e0] at e1
    simp only [V.tup.injEq] at e1
    subst e1
    exact noR _ _ e3)
  refine ⟨.slc nx ety.size 0 n' (some m'),_,_,nx+1,a,b1.trans b,?_,fun id _ hid=>?_,fun hv barv _ _=>⟨hv.up nx (some (.cells tt (m' * 1))),fun k=>?_,fun id=>?_⟩⟩
  ·have:ety.size=1:=by omega
   simp only [RvS,Cx.put,if_true,isHdr,this]
   exact ⟨zM _,trivial,.inr ⟨_,_,_,_,_,rfl⟩⟩
  ·show (if id=nx then _ else h id)=h id
   rw [if_neg (by omega)]
  ·exact hrun hv barv k
  exact upGet _ _ _ _ _
 split at hw
 next kk hkk=>
  simp only [zA] at hw
  subst hw
  exact (main (hp _ (.head _)) (hp _ (.tail _ (.head _))) (hp _ (.tail _ (.tail _ (.head _)))) (hp _ (.tail _ (.tail _ (.tail _ (.head _)))))).2 kk hkk
 simp only [zA] at hw
 subst hw
 exact (main (hp _ (.head _)) (hp _ (.tail _ (.head _))) (hp _ (.tail _ (.tail _ (.head _)))) (hp _ (.tail _ (.tail _ (.tail _ (.head _)))))).1
theorem store_run {nm:Nat} {so0 so:SO} (hl:look Y.objs nm=some so0) (ho:ownS C nm so0) (ho':ownS C nm so) {t:T V} {m:Nat} (hob0:h (C.ids nm)=some (.cells t m)) {off:Nat} {x:List V} (hx:oneAll x=true) (hle:off+x.length<=m)
  (hob:∀t':T V,(∀j,t'.get j=if off<=j/\j < off+x.length then x[j - off]? else t.get j)->ObS C Y.next (fun id=>if id=C.ids nm then some (.cells t' m) else h id) nx nm so)
  {run:Nat->T O->(V->T O->Nat->R)->R} (hrun:∀barv hv k,run barv hv k=CX.store barv hv (C.ids nm) off x fun h=>k (.tup []) h nx) (hns:∀id,¬subS C so id:=by exact fun _ h=>h) :
  Writes C Y.objs Y.next bar h nx [C.ids nm] run (.tup []) ((nm,so) :: Y.objs) Y.next:=by
 obtain ⟨t',w1,w2⟩:=wrt_eq x t off
 obtain ⟨a,b⟩:=hM.upd hl ho ho' (o:=.cells t' m) (hob t' w2) hns
 refine ⟨.tup [],C,_,nx,a,b,by simp only [RvS];exact ⟨[],trivial,rfl⟩,fun id hid _=>?_,fun hv barv h1 h2=>⟨hv.up (C.ids nm) (some (.cells t' m)),fun k=>?_,fun id=>?_⟩⟩
 ·show (if id=C.ids nm then _ else h id)=h id
  rw [if_neg (by simpa using hid)]
 ·rw [hrun]
  have e1:hv.get (C.ids nm)=some (.cells t m):=by rw [h1 _ (by simp)];exact hob0
  have e2:geB barv (C.ids nm)=true:=bleT (h2 _ (by simp) (hM.own _ _ hl ho).1)
  have e3:Nat.ble (Nat.add off (CX.len x)) m=true:=bleT (by rw [len_eq];exact hle)
  simp only [CX.store,e1,e2,hx,e3,w1,T.set_eq]
 rw [T.get_up]
 by_cases e:id=C.ids nm
 ·subst e;rw [if_pos rfl,if_pos (.inl (by simp)),if_pos rfl]
 rw [if_neg e,if_neg]
 rintro (h |h)
 ·exact e (by simpa using h)
 omega
theorem store_ok {t:Nat} {x v:Operand} {ev:Operand->SV} {evc:Operand->Option V} (hev:EvOk C Y.next ev evc) {w:WR} (hw:xstore E Y t (ev x) (ev v)=some w) (hp:∀p∈w.pre,p) :
  ∃F,foot evc (.store t x v)=some F/\Writes C Y.objs Y.next bar h nx F (fun barv hv k=>opM E.E barv evc hv nx (.store t x v) k) w.sv w.objs w.next:=by
 unfold xstore at hw
 split at hw
 rotate_left
 ·cases hw
 rename_i ty hty
 split at hw
 rotate_left
 ·cases hw
 rename_i hb
 simp only [zC,beqN_iff] at hb
 obtain ⟨b1,b2⟩:=hb
 obtain ⟨u,e1,e2,e3,e4,e5⟩:=ev_flat hev b2
 have hul:(CX.flat u).length=(flat (ev v)).length:=e3.length
 have sz:Nat.beq (CX.len (CX.flat u)) ty.size=true:=by rw [e5,b1];exact xA _
 split at hw
 next nm off hx=>
  obtain ⟨vx,f1,f2⟩:=hev.get hx (by intro e;cases e)
  simp only [RvS] at f2
  obtain ⟨hnm,rfl⟩:=f2
  refine ⟨[C.ids nm],by simp only [foot,foot1_eq f1];rfl,?_⟩
  split at hw
  rotate_left
  ·cases hw
  rename_i l hl
  split at hw
  rotate_left
  ·cases hw
  rename_i hle
  simp only [bleN_iff] at hle
  simp only [zA] at hw
  subst hw
  have hob:=hM.ob _ _ hl
  simp only [ObS] at hob
  obtain ⟨t0,o1,o2⟩:=hob
  refine store_run hA hM (so:=.cells (over l off (flat (ev v)))) hl trivial trivial o1 e4 (by rw [hul];exact hle) (fun t' ht'=>?_) (fun barv hv k=>by simp only [opM,hty,f1,e1,sz])
  simp only [ObS,if_true]
  refine ⟨t',by rw [over_len'],fun i s hs=>?_⟩
  rw [over_get _ _ _ _ hle] at hs
  rw [ht',hul]
  split at hs
  next c=>
   rw [if_pos c]
   obtain ⟨v',g1,g2⟩:=e3.get _ _ hs
   exact ⟨v',g1,RvSL.all_one e3 b2 _ _ g1,g2⟩
  rename_i c
  rw [if_neg c]
  exact o2 i s hs
 next nm es i off hx=>
  obtain ⟨vx,f1,f2⟩:=hev.get hx (by intro e;cases e)
  simp only [RvS] at f2
  obtain ⟨hnm,rfl⟩:=f2
  refine ⟨[C.ids nm],by simp only [foot,foot1_eq f1];rfl,?_⟩
  split at hw
  rotate_left
  ·cases hw
  rename_i og ks rows hl
  split at hw
  rotate_left
  ·cases hw
  rename_i hb2
  simp only [zC,bleN_iff,beqN_iff] at hb2
  obtain ⟨rfl,c2⟩:=hb2
  split at hw
  rotate_left
  ·cases hw
  rename_i ds hds
  obtain ⟨d1,d2,d3,d4⟩:=dList_ok hM hds e3
  have hob:=hM.ob _ _ hl
  simp only [ObS] at hob
  have key:∀rows':Rows,i < rows.length->rows'.length=rows.length->LenR ks rows'->(∀r,r≠i->gt rows' r=gt rows r)->(∀c,c < ks.length->gt rows' i c=if off<=c/\c < off+ds.length then ds.getD (c - off) .nil else gt rows i c)->
    Writes C Y.objs Y.next bar h nx [C.ids nm] (fun barv hv k=>opM E.E barv evc hv nx (.store t x v) k) (.tup []) ((nm,.arr og ks rows') :: Y.objs) Y.next:=by
   intro rows' hi hlen hlr hother hsame
   obtain ⟨⟨hks,_⟩,⟨hr,_⟩ |⟨t0,m,cap,hh0,o1,o2,o3,o4⟩⟩:=hob
   ·rw [hr] at hi;simp at hi
   have hown:∀r:Rows,ownS C nm (.arr og ks r):=fun r=>by simp only [ownS,hh0];intro e;cases e
   have hle1:(i+1) * ks.length<=rows.length * ks.length:=zP _ hi
   rw [zR] at hle1
   have dsl:ds.length=ty.size:=by rw [d1,zZ,xG];omega
   refine store_run hA hM hl (hown _) (hown _) o1 (off:=i * ks.length+off) e4 (by rw [hul,b1];omega) (fun t' ht'=>?_) (fun barv hv k=>by simp only [opM,hty,f1,e1,sz])
   simp only [ObS,if_true]
   refine ⟨⟨hks,hlr⟩,.inr ⟨t',m,cap,by rw [hlen];exact hh0,rfl,by rw [hlen];exact o2,fun c hc=>by rw [hlen];exact o3 c hc,fun r hr=>?_⟩⟩
   rw [hlen] at hr
   refine FzR.of _ _ _ _ fun j k hk=>?_
   have hj:j < ks.length:=(xB.1 hk).1
   obtain ⟨v0,q1,q2⟩:=FzR.get _ _ _ _ (o4 r hr) j k hk
   rw [zO] at q1 q2 ⊢
   by_cases hri:r=i
   ·subst hri
    rw [hsame j hj]
    by_cases hc:off<=j/\j < off+ds.length
    ·rw [if_pos hc,ht',if_pos (by rw [hul,b1,<-dsl];omega)]
     have hk':((ks.drop off).take ty.size)[j - off]?=some k:=by
      rw [xJ,if_pos (by omega),xR,show off+(j - off)=j by omega];exact hk
     obtain ⟨v',r1,r2⟩:=d4 (j - off) k hk'
     exact ⟨v',by rw [<-r1];congr 1;omega,r2⟩
    rw [if_neg hc,ht',if_neg (by rw [hul,b1,<-dsl];omega)]
    exact ⟨v0,q1,q2⟩
   rw [hother r hri,ht',if_neg]
   ·exact ⟨v0,q1,q2⟩
   rw [hul,b1]
   rcases Nat.lt_or_gt_of_ne hri with hlt |hgt
   ·have:(r+1) * ks.length<=i * ks.length:=zP _ hlt
    rw [zR] at this
    omega
   have:(i+1) * ks.length<=r * ks.length:=zP _ hgt
   rw [zR] at this
   omega
  split at hw
  next hz=>
   simp only [zC,beqN_iff] at hz
   simp only [zA] at hw
   subst hw
   have p1:=hp _ (.head _)
   rw [hA] at p1
   have p1:((i:Nat):Int) < ((rows.length:Nat):Int):=p1
   have p1:i < rows.length:=by omega
   have dsl:ds.length=ty.size:=by rw [d1,zZ,xG];omega
   have eset:E.A.set rows i ds=rows.set i ds:=by rw [hA];rfl
   refine key _ p1 (by rw [eset,xN]) (by
    rw [eset];refine ⟨fun row hr=>?_,by rw [xN];exact hob.1.2.2⟩
    rcases List.mem_or_eq_of_mem_set hr with hr |rfl
    ·exact hob.1.2.1 row hr
    omega) (fun r hr=>?_) (fun c hc=>?_)
   ·funext c
    rw [eset]
    simp only [gt,zH,xY,if_neg (Ne.symm hr)]
   rw [eset,if_pos (by omega),hz.1,kO]
   simp only [gt,zH,xY,if_true,p1,kK]
  simp only [zA] at hw
  subst hw
  have p1:=hp _ (.head _)
  rw [hA] at p1
  have p1:((i:Nat):Int) < ((rows.length:Nat):Int):=p1
  have p1:i < rows.length:=by omega
  have eset:E.A.setP rows i ks.length off ds=rows.set i ((List.range ks.length).map fun c=>if off<=c/\c < off+ds.length then ds.getD (c - off) .nil else gt rows i c):=by rw [hA];rfl
  refine key _ p1 (by rw [eset,xN]) (by
   rw [eset];refine ⟨fun row hr=>?_,by rw [xN];exact hob.1.2.2⟩
   rcases List.mem_or_eq_of_mem_set hr with hr |rfl
   ·exact hob.1.2.1 row hr
   simp) (fun r hr=>?_) (fun c hc=>?_)
  ·funext c
   rw [eset]
   simp only [gt,zH,xY,if_neg (Ne.symm hr)]
  rw [eset]
  simp only [gt,zH,xY,if_true,p1,kK,qD,List.getElem?_range hc,zX]
 next nm i hx=>
  obtain ⟨vx,f1,f2⟩:=hev.get hx (by intro e;cases e)
  simp only [RvS] at f2
  obtain ⟨hnm,rfl⟩:=f2
  refine ⟨[C.ids nm],by simp only [foot,foot1_eq f1];rfl,?_⟩
  split at hw
  rotate_left
  ·cases hw
  rename_i og ks rows rn j hl
  split at hw
  rotate_left
  ·cases hw
  rename_i m hv
  split at hw
  rotate_left
  ·cases hw
  rename_i og2 ks' r2 hm
  split at hw
  rotate_left
  ·cases hw
  rename_i hb2
  simp only [zC,kR,beqN_not] at hb2
  obtain ⟨hks,hne⟩:=hb2
  have hks:=kds_eq hks
  subst hks
  simp only [zA] at hw
  subst hw
  have p1:=hp _ (.head _)
  have p2:=hp _ (.tail _ (.head _))
  have p3:=hp _ (.tail _ (.tail _ (.head _)))
  rw [hA] at p1 p2 p3
  have p1:i<=j:=p1
  have p2:j<=i:=p2
  have p3:((i:Nat):Int) < ((rows.length:Nat):Int):=p3
  have p3:i < rows.length:=by omega
  obtain rfl:j=i:=by omega
  have hu:u=C.hdr m/\CX.flat u=[u]:=by
   rw [hv] at e2
   simp only [RvS] at e2
   obtain ⟨_,rfl,hh⟩:=e2
   exact ⟨rfl,by rcases hh with hh |⟨_,_,_,_,_,hh⟩<;>rw [hh]<;>rfl⟩
  have hob:=hM.ob _ _ hl
  simp only [ObS] at hob
  obtain ⟨h0,hlr,l,h1,h2,h3,h4,h5,h6⟩:=hob
  rcases h3 with ⟨e,_⟩ |⟨t0,m0,cap,a1,a2,a3,a4,a5⟩
  ·rw [e] at p3;simp at p3
  have hown:ownS C nm (.mat og ks rows rn (some j)):=by simp only [ownS,a1];intro e;cases e
  obtain ⟨t',w1,w2⟩:=wrt_eq (CX.flat u) t0 j
  obtain ⟨a,b⟩:=hM.updG hl hown (so:=.mat og ks rows rn (some j)) (fun _ h=>h) (o:=.cells t' m0) (by
   simp only [ObS,if_true]
   refine ⟨h0,hlr,l,h1,h2,.inr ⟨t',m0,cap,a1,rfl,a3,a4,fun k hk hkj=>?_⟩,fun k w hw=>⟨(h4 k w hw).1,(h4 k w hw).2.1,fun hk=>?_⟩,h5,h6⟩
   ·rw [w2,hu.2,if_neg,a5 k hk hkj]
    simp only [zY,xI]
    intro c
    exact hkj (by rw [show j=k by omega])
   obtain ⟨r0,r1⟩:=(h4 k w hw).2.2 hk
   refine ⟨r0,r1.imp id fun ⟨id,t,mm,cap',b1,b2,b3⟩=>⟨id,t,mm,cap',b1,?_,b3⟩⟩
   show (if id=C.ids nm then some (O.cells t' m0) else h id)=_
   rw [if_neg]
   ·exact b2
   intro e
   exact h6 k hk ⟨(by rw [a1];intro c;cases c),(by rw [<-e];exact ⟨_,_,_,_,by rw [hw,b1]⟩)⟩)
  obtain ⟨C',c,d⟩:=a.absorb (by rw [look_cons,if_pos rfl]) (m:=m) (og2:=og2) (r2:=r2) (by rw [look_cons,if_neg (Ne.symm hne)];exact hm) hne p3 (fun t mm hh=>by
   simp only [if_true,zA,O.cells.injEq] at hh
   obtain ⟨rfl,rfl⟩:=hh
   rw [w2,hu.2,if_pos (by simp),kX,hu.1];rfl)
  have lk:∀t,look ((nm,.mat og ks (E.A.set rows j [.l r2]) Y.next none) :: (m,.gone) :: Y.objs) t=look ((nm,.mat og ks (rows.set j [.l r2]) Y.next none) :: (m,.gone) :: (nm,.mat og ks rows rn (some j)) :: Y.objs) t:=fun t=>by
   have:E.A.set rows j [.l r2]=rows.set j [.l r2]:=by rw [hA];rfl
   rw [this]
   simp only [look_cons]
   split
   ·rfl
   rfl
  refine ⟨.tup [],C',_,nx,c.lk lk,b.trans (d.trans ((MExt.lk lk).less (zB _))),by simp only [RvS];exact ⟨[],trivial,rfl⟩,fun id hid _=>?_,fun hv' barv h1 h2=>⟨hv'.up (C.ids nm) (some (.cells t' m0)),fun k=>?_,fun id=>?_⟩⟩
  ·show (if id=C.ids nm then _ else h id)=h id
   rw [if_neg (by simpa using hid)]
  ·have q1:hv'.get (C.ids nm)=some (.cells t0 m0):=by rw [h1 _ (by simp)];exact a2
   have q2:geB barv (C.ids nm)=true:=bleT (h2 _ (by simp) (hM.own _ _ hl hown).1)
   have q3:Nat.ble (Nat.add j (CX.len (CX.flat u))) m0=true:=bleT (by rw [len_eq,hu.2];show j+1<=m0;omega)
   simp only [opM,hty,f1,e1,sz,CX.store,q1,q2,e4,q3,w1,T.set_eq]
  rw [T.get_up]
  by_cases e:id=C.ids nm
  ·subst e;rw [if_pos rfl,if_pos (.inl (by simp)),if_pos rfl]
  rw [if_neg e,if_neg]
  rintro (h |h)
  ·exact e (by simpa using h)
  omega
 cases hw
end
end HX

namespace HX
open Go CX
variable {ro:Addr->Option V}
section
variable {E:Env} (hA:E.A=Ar.std) (hT:TOk E.E) {C:Cx E.E.ro} {Y:St} {bar:Nat} {h:Nat->Option O} {nx:Nat} (hM:MSim C Y.objs Y.next bar h nx)
include hM
theorem row_bound {i n es:Nat} (hi:i < n) {m:Nat} (hm:n * es<=m) {j:Nat} (hj:j < es):i * es+j < m:=by
 have:(i+1) * es<=n * es:=zP _ hi
 rw [zR] at this
 omega
theorem cells_list' {u:Nat->Option V} {off m:Nat} (hc:∀j,j < m->∃v,u (off+j)=some v):∃x:List V,x.length=m/\∀j,j < m->u (off+j)=x[j]?:=by
 induction m generalizing off with
 |zero=>exact ⟨[],rfl,fun j hj=>by omega⟩
 |succ m ih=>
  obtain ⟨v,hv⟩:=hc 0 (by omega)
  obtain ⟨x,h1,h2⟩:=ih (off:=off+1) (fun j hj=>by have:=hc (j+1) (by omega);rw [show off+1+j=off+(j+1) by omega];exact this)
  refine ⟨v :: x,by simp [h1],fun j hj=>?_⟩
  cases j with
  |zero=>simpa using hv
  |succ j=>rw [show off+(j+1)=off+1+j by omega,h2 j (by omega)];simp
theorem rows_cells {g:Nat->Option O} {B:Nat} {ks:List Kd} {rows:Rows} {u:Nat->Option V} {off:Nat} (hks:0 < ks.length) (hr:∀i,i < rows.length->FzR ro g B ks (gt rows i) (fun c=>u (off+i * ks.length+c)) 0) :
  ∃x:List V,x.length=rows.length * ks.length/\(∀j,j < rows.length * ks.length->u (off+j)=x[j]?)/\oneAll x=true/\∀i,i < rows.length->FzR ro g B ks (gt rows i) (fun c=>x[i * ks.length+c]?) 0:=by
 have cell:∀j,j < rows.length * ks.length->∃v,u (off+j)=some v/\one1 v=true:=by
  intro j hj
  have hi:j / ks.length < rows.length:=Nat.div_lt_of_lt_mul (by rw [Nat.mul_comm];exact hj)
  have hc:j % ks.length < ks.length:=Nat.mod_lt _ hks
  obtain ⟨v,h1,h2⟩:=FzR.get _ _ _ _ (hr _ hi) (j % ks.length) ks[j % ks.length] (zJ hc)
  refine ⟨v,?_,FzC.one h2⟩
  rw [<-h1]
  congr 1
  have:=Nat.div_add_mod j ks.length
  rw [Nat.mul_comm] at this
  omega
 obtain ⟨x,h1,h2⟩:=cells_list' hM (u:=u) (off:=off) (m:=rows.length * ks.length) (fun j hj=>let ⟨v,a,_⟩:=cell j hj;⟨v,a⟩)
 refine ⟨x,h1,h2,?_,fun i hi=>?_⟩
 ·rw [oneAll_iff]
  intro v hv
  obtain ⟨j,hj⟩:=List.getElem?_of_mem hv
  have hlt:j < x.length:=(xB.1 hj).1
  obtain ⟨w,a,b⟩:=cell j (by omega)
  rw [h2 j (by omega),hj] at a
  cases a
  exact b
 refine FzR.cells _ _ _ _ 0 0 (fun j hj=>?_) _ (fun _=>rfl) (hr i hi)
 have:=row_bound hM hi (zB (rows.length * ks.length)) hj
 rw [zO,<-h2 _ this]
 congr 1;omega
include hA
theorem src_okq {ks:List Kd} (hks:0 < ks.length) {y:SV} {p:List Prop} {rows:Rows} (hs:srcOf E Y ks y=some (p,rows)) (hp:∀q∈p,q) {vy:V} (hy:RvS C Y.next y vy) :
  LenR ks rows/\∃x,lenV vy=some rows.length/\x.length=rows.length * ks.length/\oneAll x=true/\(∀i,i < rows.length->FzR E.E.ro C.g nx ks (gt rows i) (fun c=>x[i * ks.length+c]?) 0)/\
   ∀hv:T O,(∀id∈footV vy,hv.get id=h id)->∀q,q<=rows.length->∀k,cellsOf E.E.ro hv ks.length q vy k=k (x.take (q * ks.length)):=by
 have hy':=norm_ok hM hy
 have nilC:∀{v:V} {rows:Rows},v=.nils->rows=[]->∃x:List V,lenV v=some rows.length/\x.length=rows.length * ks.length/\oneAll x=true/\(∀i,i < rows.length->FzR E.E.ro C.g nx ks (gt rows i) (fun c=>x[i * ks.length+c]?) 0)/\
   ∀hv:T O,(∀id∈footV v,hv.get id=h id)->∀q,q<=rows.length->∀k,cellsOf E.E.ro hv ks.length q v k=k (x.take (q * ks.length)):=by
  rintro v rows rfl rfl
  exact ⟨[],rfl,by simp,rfl,fun i hi=>by simp at hi,fun hv _ q hq k=>by obtain rfl:=Nat.le_zero.1 hq;simp [cellsOf]⟩
 have slcC:∀{rows:Rows} {id off:Nat} {cap:Option Nat} {t:T V} {m:Nat},(rows=[]\/h id=some (.cells t m)/\off+rows.length * ks.length<=m/\∀i,i < rows.length->FzR E.E.ro C.g nx ks (gt rows i) (fun c=>t.get (off+i * ks.length+c)) 0)->
   ∃x:List V,lenV (.slc id ks.length off rows.length cap)=some rows.length/\x.length=rows.length * ks.length/\oneAll x=true/\(∀i,i < rows.length->FzR E.E.ro C.g nx ks (gt rows i) (fun c=>x[i * ks.length+c]?) 0)/\
   ∀hv:T O,(∀i∈footV (.slc id ks.length off rows.length cap),hv.get i=h i)->∀q,q<=rows.length->∀k,cellsOf E.E.ro hv ks.length q (.slc id ks.length off rows.length cap) k=k (x.take (q * ks.length)):=by
  intro rows id off cap t m hc
  rcases hc with rfl |⟨h1,h2,h3⟩
  ·exact ⟨[],rfl,by simp,rfl,fun i hi=>by simp at hi,fun hv _ q hq k=>by obtain rfl:=Nat.le_zero.1 hq;simp [cellsOf]⟩
  obtain ⟨x,a1,a2,a3,a4⟩:=rows_cells hM (u:=t.get) hks h3
  refine ⟨x,rfl,a1,a3,a4,fun hv hag q hq k=>?_⟩
  have hg:hv.get id=some (.cells t m):=by rw [hag id (by simp [footV])];exact h1
  have hqn:q * ks.length<=rows.length * ks.length:=zP _ hq
  cases q with
  |zero=>simp [cellsOf]
  |succ q=>
   have e1:Nat.ble (Nat.add off (Nat.mul (q+1) ks.length)) m=true:=bleT (by show off+(q+1) * ks.length<=m;omega)
   simp only [cellsOf,xA,hg,e1]
   have tl:(x.take ((q+1) * ks.length)).length=(q+1) * ks.length:=by rw [zZ];omega
   have:=rd_eq (t:=t) (x.take ((q+1) * ks.length)) off k (fun j hj=>by rw [tl] at hj;rw [xJ,if_pos hj];exact a2 j (by omega))
   rw [tl] at this
   exact this
 unfold srcOf at hs
 split at hs
 next nm hn=>
  split at hs
  rotate_left
  ·cases hs
  rename_i og ks' rows' hl
  split at hs
  next hk=>
   have hk:=kds_eq hk
   subst hk
   simp only [zA,zI] at hs
   obtain ⟨rfl,rfl⟩:=hs
   rw [hn] at hy'
   simp only [RvS] at hy'
   obtain ⟨_,rfl,_⟩:=hy'
   have hob:=hM.ob _ _ hl
   simp only [ObS] at hob
   obtain ⟨⟨_,hlr⟩,⟨hr,hh⟩ |⟨t,m,cap,hh,o1,o2,o3,o4⟩⟩:=hob
   ·exact ⟨hlr,nilC hh hr⟩
   rw [hh]
   exact ⟨hlr,slcC (.inr ⟨o1,by simpa using o2,fun i hi=>FzR.cells _ _ _ _ 0 0 (fun j _=>by simp) _ (fun _=>rfl) (o4 i hi)⟩)⟩
  cases hs
 next nm lo n hn=>
  split at hs
  rotate_left
  ·cases hs
  rename_i og ks' rows' hl
  split at hs
  rotate_left
  ·cases hs
  rename_i hk
  have hk:=kds_eq hk
  subst hk
  simp only [zA,zI] at hs
  obtain ⟨rfl,rfl⟩:=hs
  have p1:=hp _ (.head _)
  rw [hA] at p1
  have p1:lo+n<=rows'.length:=p1
  have esub:E.A.sub' rows' lo n=(rows'.drop lo).take n:=by rw [hA];rfl
  have elen:((rows'.drop lo).take n).length=n:=by rw [zZ,xG];omega
  rw [hn] at hy'
  simp only [RvS,VwR] at hy'
  have hob:=hM.ob _ _ hl
  simp only [ObS] at hob
  rw [esub]
  refine ⟨⟨fun row h=>hob.1.2.1 row (kE (xT h)),by rw [elen];have:=hob.1.2.2;omega⟩,?_⟩
  obtain ⟨_,⟨_,hv0,hn0⟩ |⟨es,len,cap0,off,cap,hh0,rfl,hoff,hcap⟩⟩:=hy'
  ·exact nilC hv0 (by rw [hn0];simp)
  obtain ⟨_,⟨hr,hh⟩ |⟨t,m,cap1,hh,o1,o2,o3,o4⟩⟩:=hob
  ·rw [hh0] at hh;cases hh
  rw [hh0] at hh
  simp only [V.slc.injEq,true_and] at hh
  obtain ⟨rfl,rfl,rfl⟩:=hh
  have:=slcC (rows:=(rows'.drop lo).take n) (id:=C.ids nm) (off:=off) (cap:=cap) (t:=t) (m:=m) (by
   by_cases hn0:n=0
   ·exact .inl (by rw [hn0];simp)
   have hoff:off=lo * ks.length:=by rcases hoff with ⟨h,_⟩ |h;exact absurd h hn0;exact h
   refine .inr ⟨o1,?_,fun i hi=>?_⟩
   ·rw [elen,hoff,<-zR]
    exact zT (zP _ p1) o2
   rw [elen] at hi
   rw [gt_sub hA hi]
   refine FzR.cells _ _ _ _ 0 0 (fun j _=>?_) _ (fun _=>rfl) (o4 (lo+i) (by omega))
   rw [hoff,zR])
  rw [elen] at this ⊢
  exact this
 next b ks' rows' hn=>
  split at hs
  rotate_left
  ·cases hs
  rename_i hk
  have hk:=kds_eq hk
  subst hk
  simp only [zA,zI] at hs
  obtain ⟨rfl,rfl⟩:=hs
  rw [hn] at hy'
  simp only [RvS,FzC,D.rows] at hy'
  obtain ⟨hb,⟨_,hrows,hlr⟩,hy'⟩:=hy'
  simp only [D.l.injEq] at hrows
  subst hrows
  refine ⟨hlr,?_⟩
  obtain ⟨hr,hh⟩ |⟨id,off,cap,rfl,g2,g3,g4,t,m,g5,g6,g7⟩ |⟨a,cap,rfl,g2,g3,g7⟩:=hy'
  ·exact nilC hh hr
  rotate_left
  ·obtain ⟨x,a1,a2,a3,a4⟩:=rows_cells hM (u:=fun j=>E.E.ro (a.add j)) (off:=0) hks (fun i hi=>FzR.cells _ _ _ _ 0 0 (fun j _=>by simp) _ (fun _=>rfl) (g7 i hi))
   refine ⟨x,rfl,a1,a3,fun i hi=>FzR.mono (fun _ _ _ h=>h) (hM.bd _ hb) _ _ _ _ (a4 i hi),fun hv _ q hq k=>?_⟩
   have hqn:=zP ks.length hq
   have tl:(x.take (q * ks.length)).length=q * ks.length:=by rw [zZ];omega
   simp only [cellsOf]
   have:=rdA_eq (ro:=E.E.ro) (a:=a) (x.take (q * ks.length)) 0 k (fun j hj=>by rw [tl] at hj;rw [xJ,if_pos hj];exact a2 j (by omega))
   rw [tl] at this
   exact this
  skip
  exact slcC (.inr ⟨(hM.fz _ _ g5).2,g6,fun i hi=>FzR.mono (fun _ _ _ h=>h) (hM.bd _ hb) _ _ _ _ (g7 i hi)⟩)
 next nm es off n hn=>
  split at hs
  rotate_left
  ·cases hs
  rename_i l hl
  split at hs
  rotate_left
  ·cases hs
  rename_i hb
  simp only [zC,beqN_iff,bleN_iff] at hb
  obtain ⟨⟨rfl,b2⟩,b3⟩:=hb
  split at hs
  rotate_left
  ·cases hs
  rename_i ds hds
  simp only [zA,zI] at hs
  obtain ⟨rfl,rfl⟩:=hs
  rw [hn] at hy'
  simp only [RvS] at hy'
  obtain ⟨_,_,cap,rfl,_⟩:=hy'
  have hob:=hM.ob _ _ hl
  simp only [ObS] at hob
  obtain ⟨t,o1,o2⟩:=hob
  obtain ⟨x,x1,x2⟩:∃x,RvSL C Y.next (l.drop off) x/\∀j,j < (l.drop off).length->t.get (off+j)=x[j]?:=by
   have key:∀(l':List SV) (o:Nat),(∀i s,l'[i]?=some s->∃v,t.get (o+i)=some v/\one1 v=true/\RvS C Y.next s v)->∃x,RvSL C Y.next l' x/\∀j,j < l'.length->t.get (o+j)=x[j]?:=by
    intro l'
    induction l' with
    |nil=>intro o _;exact ⟨[],trivial,fun j hj=>by simp at hj⟩
    |cons s l' ih=>
     intro o ho
     obtain ⟨v,h1,_,h3⟩:=ho 0 s (by simp)
     obtain ⟨x,h4,h5⟩:=ih (o+1) (fun i s' hs'=>by
      have:=ho (i+1) s' (by simpa using hs')
      rw [show o+1+i=o+(i+1) by omega];exact this)
     refine ⟨v :: x,⟨h3,h4⟩,fun j hj=>?_⟩
     cases j with
     |zero=>simpa using h1
     |succ j=>rw [show o+(j+1)=o+1+j by omega,h5 j (by simpa using hj)];simp
   exact key _ _ fun i s hs=>o2 (off+i) s (by rw [xR] at hs;exact hs)
  obtain ⟨⟨r1,r1'⟩,r2⟩:=chunks_ok hM n _ _ hds x1
  refine ⟨⟨r1',by rw [r1];omega⟩,?_⟩
  have:=slcC (rows:=ds) (id:=C.ids nm) (off:=off) (cap:=cap) (t:=t) (m:=l.length) (.inr ⟨o1,by rw [r1];exact b2,fun i hi=>by
   rw [r1] at hi
   refine FzR.cells _ _ _ _ 0 0 (fun j hj=>?_) _ (fun _=>rfl) (r2 i hi)
   have:=row_bound hM hi (zB (n * ks.length)) hj
   rw [zO,<-x2 (i * ks.length+j) (by rw [xG];omega)]
   congr 1;omega⟩)
  rw [r1] at this ⊢
  exact this
 next hn=>
  simp only [zA,zI] at hs
  obtain ⟨rfl,rfl⟩:=hs
  rw [hn] at hy'
  simp only [RvS] at hy'
  exact ⟨⟨fun _ h=>(by cases h),by simp⟩,nilC hy' rfl⟩
 cases hs
theorem src_ok {ks:List Kd} (hks:0 < ks.length) {y:SV} {p:List Prop} {rows:Rows} (hs:srcOf E Y ks y=some (p,rows)) (hp:∀q∈p,q) {vy:V} (hy:RvS C Y.next y vy) :
  LenR ks rows/\∃x,lenV vy=some rows.length/\x.length=rows.length * ks.length/\oneAll x=true/\(∀i,i < rows.length->FzR E.E.ro C.g nx ks (gt rows i) (fun c=>x[i * ks.length+c]?) 0)/\
   ∀hv:T O,(∀id∈footV vy,hv.get id=h id)->∀k,cellsOf E.E.ro hv ks.length rows.length vy k=k x:=by
 obtain ⟨h1,x,h2,h3,h4,h5,h6⟩:=src_okq hA hM hks hs hp hy
 exact ⟨h1,x,h2,h3,h4,h5,fun hv hag k=>by rw [h6 hv hag _ (zB _) k,<-h3,List.take_length]⟩
theorem copy_ok {c:Call} {t:Nat} {ts:List Nat} {x y:Operand} (hc:c.callee=.builtin .copy) (ha:c.args.toList=[x,y]) (hat:c.argTypes.toList=t :: ts) {ev:Operand->SV} {evc:Operand->Option V} (hev:EvOk C Y.next ev evc) {w:WR} (hw:xcopy E Y t (ev x) (ev y)=some w) (hp:∀p∈w.pre,p) :
  ∃F,foot evc (.call c)=some F/\Writes C Y.objs Y.next bar h nx F (fun barv hv k=>opM E.E barv evc hv nx (.call c) k) w.sv w.objs w.next:=by
 unfold xcopy at hw
 split at hw
 rotate_left
 ·cases hw
 rename_i ks ety hks
 obtain ⟨e,k1,k2,k3,k4,k5⟩:=eKs_ok hks
 have hksp:0 < ks.length:=by omega
 split at hw
 rotate_left
 ·cases hw
 rename_i p rows2 hsrc
 have hyk:ev y≠.unk:=fun e=>by rw [e] at hsrc;simp [srcOf,norm] at hsrc
 obtain ⟨vy,y1,y2⟩:=hev.get rfl hyk
 have footE:∀{vx:V},evc x=some vx->foot evc (.call c)=some (footV vx++footV vy):=by
  intro vx ex
  simp only [foot,ha,foot1_eq ex,foot1_eq y1]
 have run0:∀{vx:V},evc x=some vx->∀barv (hv:T O) k,opM E.E barv evc hv nx (.call c) k=copyX E.E.ro barv hv nx ks.length vx vy k:=by
  intro vx ex barv hv k
  simp only [opM,hc,ha,hat,evL,ex,y1,biX,k5,k3]
 have elen:E.A.len rows2=rows2.length:=by rw [hA];rfl
 have none0:∀{vx:V} {objs':List (Nat×SO)} {z:Int},evc x=some vx->(∀t,look objs' t=look Y.objs t)->z=0->(∀barv (hv:T O) k,copyX E.E.ro barv hv nx ks.length vx vy k=k (.int .i64 (.ofNat 0)) hv nx)->
   Writes C Y.objs Y.next bar h nx (footV vx++footV vy) (fun barv hv k=>opM E.E barv evc hv nx (.call c) k) (.int .i64 z) objs' Y.next:=by
  intro vx objs' z ex hlo hz hrun
  subst hz
  refine ⟨.int .i64 (.ofNat 0),C,h,nx,hM.lk hlo,MExt.lk hlo,by simp [RvS],fun _ _ _=>rfl,fun hv barv h1 h2=>⟨hv,fun k=>?_,fun id=>?_⟩⟩
  ·simp only [run0 ex];exact hrun barv hv k
  split
  next hid=>
   rcases hid with hid |hid
   ·exact h1 id hid
   omega
  rfl
 have onArr:∀{nm og lo n:Nat} {rows:Rows} {vx:V} {es off:Nat} {cap:Option Nat},look Y.objs nm=some (.arr og ks rows)->evc x=some vx->vx=.slc (C.ids nm) es off n cap->C.hdr nm≠.nils->(n=0\/off=lo * ks.length)->lo+n<=rows.length->(∀q∈p,q)->
   Writes C Y.objs Y.next bar h nx (footV vx++footV vy) (fun barv hv k=>opM E.E barv evc hv nx (.call c) k) (.int .i64 (E.A.min (E.A.nat (E.A.len rows2)) (E.A.nat n))) ((nm,.arr og ks (cpyA E.A rows lo n rows2)) :: Y.objs) Y.next:=by
  intro nm og lo n rows vx es off cap hl ex hvx hnil hoff hln hpp
  obtain ⟨hlr2,x2,s1,s2,s3,s4,s5⟩:=src_okq hA hM hksp hsrc hpp y2
  have emin:E.A.min (E.A.nat (E.A.len rows2)) (E.A.nat n)=((Nat.min rows2.length n:Nat):Int):=by
   rw [hA]
   show (if (n:Int) < (rows2.length:Int) then (n:Int) else (rows2.length:Int))=_
   split
   ·rw [show Nat.min rows2.length n=n from Nat.min_eq_right (by omega)]
   rw [show Nat.min rows2.length n=rows2.length from Nat.min_eq_left (by omega)]
  have ecp:cpyA E.A rows lo n rows2=rows.take lo++(rows2.take (Nat.min rows2.length n)++(rows.drop (lo+Nat.min rows2.length n)).take (rows.length - (lo+Nat.min rows2.length n))):=by
   have e1:E.A.toNat (E.A.min (E.A.nat (E.A.len rows2)) (E.A.nat n))=Nat.min rows2.length n:=by rw [emin,hA];rfl
   simp only [cpyA,e1]
   rw [hA]
   rfl
  have hob:=hM.ob _ _ hl
  simp only [ObS] at hob
  obtain ⟨⟨_,hlr⟩,⟨_,hh0⟩ |⟨t0,m0,cap1,hh0,o1,o2,o3,o4⟩⟩:=hob
  ·exact absurd hh0 hnil
  have hown:∀r:Rows,ownS C nm (.arr og ks r):=fun r=>by simp only [ownS];exact hnil
  obtain ⟨q,hq⟩:∃q,q=Nat.min rows2.length n:=⟨_,rfl⟩
  have hq1:q<=rows2.length:=by rw [hq];exact Nat.min_le_left _ _
  have hq2:q<=n:=by rw [hq];exact Nat.min_le_right _ _
  rw [<-hq] at ecp emin
  rw [emin]
  rw [List.take_of_length_le (l:=rows.drop (lo+q)) (by rw [xG];exact zB _)] at ecp
  have qq:Nat.min rows2.length n=q:=hq.symm
  by_cases hz:q=0
  ·have esame:cpyA E.A rows lo n rows2=rows:=by rw [ecp,hz];simp
   rw [esame]
   refine none0 ex (fun t=>?_) (by rw [hz];rfl) fun barv hv k=>?_
   ·rw [look_cons];split
    next e=>subst e;exact hl.symm
    rfl
   subst hvx
   simp only [copyX,s1,fN_eq,qq,hz]
  have hoff:off=lo * ks.length:=by rcases hoff with h |h;omega;exact h
  subst hoff
  have len':(cpyA E.A rows lo n rows2).length=rows.length:=by rw [ecp];simp only [xK,zZ,xG];omega
  have hqn:q * ks.length<=rows2.length * ks.length:=zP _ hq1
  have tl:(x2.take (q * ks.length)).length=q * ks.length:=by rw [zZ];omega
  have hone:oneAll (x2.take (q * ks.length))=true:=by
   rw [oneAll_iff] at s3 ⊢
   exact fun v hv=>s3 v (xT hv)
  have hle:lo * ks.length+q * ks.length<=rows.length * ks.length:=by rw [<-zR];exact zP _ (by omega)
  obtain ⟨t',w1,w2⟩:=wrt_eq (x2.take (q * ks.length)) t0 (lo * ks.length)
  obtain ⟨a,b⟩:=hM.upd (so:=.arr og ks (cpyA E.A rows lo n rows2)) hl (hown _) (hown _) (o:=.cells t' m0) (by
   simp only [ObS,if_true]
   refine ⟨⟨hksp,fun row hr=>?_,by rw [len'];exact hlr.2⟩,.inr ⟨t',m0,cap1,by rw [len'];exact hh0,rfl,by rw [len'];exact o2,fun c hc=>by rw [len'];exact o3 c hc,fun i hi=>?_⟩⟩
   ·rw [ecp] at hr
    simp only [xU] at hr
    rcases hr with hr |hr |hr
    ·exact hlr.1 row (xT hr)
    ·exact hlr2.1 row (xT hr)
    exact hlr.1 row (kE hr)
   rw [len'] at hi
   have gE:gt (cpyA E.A rows lo n rows2) i=if lo<=i/\i < lo+q then gt rows2 (i - lo) else gt rows i:=by
    funext c
    rw [ecp]
    have e0:(rows.take lo).length=lo:=by rw [zZ];omega
    have e1:(rows2.take q).length=q:=by rw [zZ];omega
    by_cases h1:i < lo
    ·rw [if_neg (by omega)]
     simp only [gt,zH]
     rw [zW (by omega),xJ,if_pos h1]
    by_cases h2:i < lo+q
    ·rw [if_pos ⟨by omega,h2⟩]
     simp only [gt,zH]
     rw [zU (by omega),e0,zW (by omega),xJ,if_pos (by omega)]
    rw [if_neg (by omega)]
    simp only [gt,zH]
    rw [zU (by omega),e0,zU (by omega),e1,xR]
    rw [show lo+q+(i - lo - q)=i by omega]
   rw [gE]
   by_cases hc:lo<=i/\i < lo+q
   ·rw [if_pos hc]
    refine FzR.cells _ _ _ _ 0 0 (fun j hj=>?_) _ (fun _=>rfl) (s4 (i - lo) (by omega))
    have h1:(i - lo) * ks.length+j < q * ks.length:=row_bound hM (show i - lo < q by omega) (zB _) hj
    have h2:i * ks.length=lo * ks.length+(i - lo) * ks.length:=by rw [<-zR];congr 1;omega
    rw [w2,if_pos ⟨by omega,by rw [tl];omega⟩,xJ,if_pos (by omega),zO]
    congr 1;omega
   rw [if_neg hc]
   refine FzR.cells _ _ _ _ 0 0 (fun j hj=>?_) _ (fun _=>rfl) (o4 i hi)
   rw [w2,tl,if_neg,zO]
   rintro ⟨c1,c2⟩
   by_cases h1:i < lo
   ·have h3:(i+1) * ks.length<=lo * ks.length:=zP _ h1
    rw [zR] at h3
    omega
   have h3:(lo+q) * ks.length<=i * ks.length:=zP _ (by omega)
   rw [zR] at h3
   omega)
  have hidx:C.ids nm∈footV vx++footV vy:=by rw [hvx];simp [footV]
  refine ⟨.int .i64 (.ofNat q),C,_,nx,a,b,by simp [RvS],fun id hid _=>?_,fun hv barv h1 h2=>⟨hv.up (C.ids nm) (some (.cells t' m0)),fun k=>?_,fun id=>?_⟩⟩
  ·show (if id=C.ids nm then _ else h id)=h id
   rw [if_neg (fun e=>hid (by rw [e];exact hidx))]
  ·simp only [run0 ex]
   have e1:hv.get (C.ids nm)=some (.cells t0 m0):=by rw [h1 _ hidx];exact o1
   have e2:geB barv (C.ids nm)=true:=bleT (h2 _ hidx (hM.own _ _ hl (hown _)).1)
   have e3:Nat.ble (Nat.add (lo * ks.length) (CX.len (x2.take (q * ks.length)))) m0=true:=bleT (by rw [len_eq,tl];show lo * ks.length+q * ks.length<=m0;omega)
   obtain ⟨q',hq'⟩:∃q',q=q'+1:=⟨q - 1,by omega⟩
   have hs5:=s5 hv (fun id hid=>h1 id (xF _ hid)) q hq1
   rw [hvx]
   simp only [copyX,s1,fN_eq,qq]
   rw [hq'] at hs5 hone w1 e3 ⊢
   simp only [hs5,CX.store,e1,e2,hone,e3,w1,T.set_eq]
  rw [T.get_up]
  by_cases e:id=C.ids nm
  ·subst e;rw [if_pos rfl,if_pos (.inl hidx),if_pos rfl]
  rw [if_neg e]
  split
  next hid=>
   rcases hid with hid |hid
   ·first |exact h1 id hid |(rw [if_neg e];exact h1 id hid)
   omega
  rfl
 split at hw
 next hx=>
  simp only [zA] at hw
  subst hw
  obtain ⟨vx,x1,x2⟩:=hev.get hx (by intro e;cases e)
  simp only [RvS] at x2
  refine ⟨_,footE x1,none0 x1 (fun _=>rfl) rfl fun barv hv k=>?_⟩
  obtain ⟨_,_,s1,_⟩:=src_ok hA hM hksp hsrc hp y2
  subst x2
  simp only [copyX,s1]
 next nm hx=>
  split at hw
  rotate_left
  ·cases hw
  rename_i og ks' rows hl
  split at hw
  rotate_left
  ·cases hw
  rename_i hb
  have hk:=kds_eq hb
  subst hk
  simp only [zA] at hw
  subst hw
  obtain ⟨vx,ex,x2⟩:=hev.get hx (by intro e;cases e)
  simp only [RvS] at x2
  obtain ⟨hnm,hvx,_⟩:=x2
  refine ⟨_,footE ex,?_⟩
  have erl:E.A.len rows=rows.length:=by rw [hA];rfl
  have hob:=hM.ob _ _ hl
  simp only [ObS] at hob
  obtain ⟨_,⟨hr0,hh0⟩ |⟨t0,m0,cap0,hh0,_⟩⟩:=hob
  ·refine none0 ex (fun t=>?_) ?_ fun barv hv k=>?_
   ·rw [look_cons];split
    next e=>
     subst e;rw [hl]
     have:cpyA E.A rows 0 (E.A.len rows) rows2=rows:=by
      rw [erl,hr0];simp only [cpyA];rw [hA]
      show List.take 0 (List.drop 0 ([]:Rows))++(List.take (Int.toNat (if ((0:Nat):Int) < (rows2.length:Int) then ((0:Nat):Int) else (rows2.length:Int))) (List.drop 0 rows2)++List.take _ (List.drop _ []))=[]
      by_cases h:((0:Nat):Int) < (rows2.length:Int)
      ·rw [if_pos h];simp
      have:rows2.length=0:=by omega
      rw [zS.1 this];simp
     rw [this]
    rfl
   ·rw [erl,hr0,hA]
    show (if ((0:Nat):Int) < (rows2.length:Int) then ((0:Nat):Int) else (rows2.length:Int))=0
    split
    ·rfl
    omega
   rw [hvx,hh0]
   obtain ⟨_,_,s1,_⟩:=src_ok hA hM hksp hsrc hp y2
   simp only [copyX,s1]
  rw [erl]
  exact onArr hl ex (by rw [hvx];exact hh0) (by rw [hh0];intro e;cases e) (.inr (by simp)) (by omega) hp
 rotate_left
 ·cases hw
 rename_i nm lo n hx
 split at hw
 rotate_left
 ·cases hw
 rename_i og ks' rows hl
 split at hw
 rotate_left
 ·cases hw
 rename_i hb
 have hk:=kds_eq hb
 subst hk
 simp only [zA] at hw
 subst hw
 obtain ⟨vx,ex,x2⟩:=hev.get hx (by intro e;cases e)
 simp only [RvS,VwR] at x2
 have p1:=hp _ (.head _)
 rw [hA] at p1
 have p1:lo+n<=rows.length:=p1
 have hpp:∀q∈p,q:=fun q hq=>hp q (.tail _ hq)
 refine ⟨_,footE ex,?_⟩
 obtain ⟨hnm,⟨hh0,hv0,hn0⟩ |⟨es,len,cap0,off,cap,hh0,hvx,hoff,hcap,hln⟩⟩:=x2
 ·subst hn0
  obtain ⟨_,_,s1,_⟩:=src_ok hA hM hksp hsrc hpp y2
  have emin:E.A.min (E.A.nat (E.A.len rows2)) (E.A.nat 0)=0:=by
   rw [hA]
   show (if ((0:Nat):Int) < (rows2.length:Int) then ((0:Nat):Int) else (rows2.length:Int))=0
   split
   ·rfl
   omega
  refine none0 ex (fun t=>?_) emin fun barv hv k=>?_
  ·rw [look_cons];split
   next e=>
    subst e;rw [hl]
    have:cpyA E.A rows lo 0 rows2=rows:=by
     simp only [cpyA,emin];rw [hA]
     show List.take lo (List.drop 0 rows)++(List.take 0 (List.drop 0 rows2)++List.take (rows.length - (lo+0)) (List.drop (lo+0) rows))=rows
     rw [qO,List.take_zero,qI,kF,List.take_of_length_le (l:=List.drop lo rows) (by rw [xG];exact zB _),List.take_append_drop]
    rw [this]
   rfl
  rw [hv0]
  simp only [copyX,s1]
 exact onArr hl ex hvx (by rw [hh0];intro e;cases e) (by rcases hoff with h |h;exact .inl h.1;exact .inr (by
  have hob:=hM.ob _ _ hl
  simp only [ObS] at hob
  obtain ⟨_,⟨_,hh1⟩ |⟨t0,m0,cap1,hh1,_⟩⟩:=hob
  ·rw [hh0] at hh1;cases hh1
  rw [hh0] at hh1
  simp only [V.slc.injEq,true_and] at hh1
  rw [h,hh1.1])) p1 hpp
end
end HX

namespace HX
open Go CX
variable {ro:Addr->Option V}
section
variable {E:Env} (hA:E.A=Ar.std) (hT:TOk E.E) {C:Cx E.E.ro} {Y:St} {bar:Nat} {h:Nat->Option O} {nx:Nat} (hM:MSim C Y.objs Y.next bar h nx)
include hA hT hM
theorem clear_ok {c:Call} {t:Nat} {x:Operand} (hc:c.callee=.builtin .clear) (ha:c.args.toList=[x]) (hat:c.argTypes.toList=[t]) {ev:Operand->SV} {evc:Operand->Option V} (hev:EvOk C Y.next ev evc) {w:WR} (hw:xclear E Y t (ev x)=some w) (hp:∀p∈w.pre,p) :
  ∃F,foot evc (.call c)=some F/\Writes C Y.objs Y.next bar h nx F (fun barv hv k=>opM E.E barv evc hv nx (.call c) k) w.sv w.objs w.next:=by
 unfold xclear at hw
 split at hw
 rotate_left
 ·cases hw
 rename_i ks ety hks
 obtain ⟨e,k1,k2,k3,k4,k5⟩:=eKs_ok hks
 have footE:∀{vx:V},evc x=some vx->foot evc (.call c)=some (footV vx++[]):=by
  intro vx ex
  simp only [foot,ha,foot1_eq ex,qL]
 have none0:∀{vx:V} {objs':List (Nat×SO)},evc x=some vx->(∀t,look objs' t=look Y.objs t)->(∀barv (hv:T O) k,opM E.E barv evc hv nx (.call c) k=k (.tup []) hv nx)->
   Writes C Y.objs Y.next bar h nx (footV vx++[]) (fun barv hv k=>opM E.E barv evc hv nx (.call c) k) (.tup []) objs' Y.next:=by
  intro vx objs' ex hlo hrun
  refine ⟨.tup [],C,h,nx,hM.lk hlo,MExt.lk hlo,by simp [RvS,RvSL],fun _ _ _=>rfl,fun hv barv h1 h2=>⟨hv,fun k=>hrun barv hv k,fun id=>?_⟩⟩
  split
  next hid=>
   rcases hid with hid |hid
   ·exact h1 id hid
   omega
  rfl
 split at hw
 next hx=>
  simp only [zA] at hw
  subst hw
  obtain ⟨vx,x1,x2⟩:=hev.get hx (by intro e;cases e)
  simp only [RvS] at x2
  subst x2
  refine ⟨_,footE x1,none0 x1 (fun _=>rfl) fun barv hv k=>?_⟩
  simp only [opM,hc,ha,hat,evL,x1,biX,k1]
 rotate_left
 ·cases hw
 rename_i nm lo n hx
 split at hw
 rotate_left
 ·cases hw
 rename_i z hz
 split at hw
 rotate_left
 ·cases hw
 rename_i og ks' rows hl
 split at hw
 rotate_left
 ·cases hw
 rename_i hb
 have hk:=kds_eq hb
 subst hk
 simp only [zA] at hw
 subst hw
 obtain ⟨vx,ex,x2⟩:=hev.get hx (by intro e;cases e)
 simp only [RvS,VwR] at x2
 have p1:=hp _ (.head _)
 rw [hA] at p1
 have p1:lo+n<=rows.length:=p1
 have hksp:0 < ks.length:=by omega
 have ecl:clrA E.A rows lo n z=rows.take lo++(List.replicate n z++rows.drop (lo+n)):=by
  simp only [clrA]
  rw [hA]
  show List.take lo (List.drop 0 rows)++(List.replicate n z++List.take (rows.length - (lo+n)) (List.drop (lo+n) rows))=_
  rw [qO,List.take_of_length_le (l:=List.drop (lo+n) rows) (by rw [xG];exact zB _)]
 refine ⟨_,footE ex,?_⟩
 have same0:n=0->∀t,look ((nm,SO.arr og ks (clrA E.A rows lo n z)) :: Y.objs) t=look Y.objs t:=fun h0 t=>by
  rw [look_cons];split
  next e=>subst e;rw [hl,ecl,h0];simp
  rfl
 obtain ⟨hnm,⟨hh0,hv0,hn0⟩ |⟨es,len,cap0,off,cap,hh0,hvx,hoff,hcap,hln⟩⟩:=x2
 ·refine none0 ex (same0 hn0) fun barv hv k=>?_
  subst hv0
  simp only [opM,hc,ha,hat,evL,ex,biX,k1]
 cases n with
 |zero=>
  refine none0 ex (same0 rfl) fun barv hv k=>?_
  subst hvx
  simp only [opM,hc,ha,hat,evL,ex,biX,k1]
 |succ n=>
 have hob:=hM.ob _ _ hl
 simp only [ObS] at hob
 obtain ⟨⟨_,hlr⟩,⟨_,hh1⟩ |⟨t0,m0,cap1,hh1,o1,o2,o3,o4⟩⟩:=hob
 ·rw [hh0] at hh1;cases hh1
 have hes:es=ks.length:=by rw [hh0] at hh1;simp only [V.slc.injEq,true_and] at hh1;exact hh1.1
 subst hes
 have hoff:off=lo * ks.length:=by rcases hoff with h |h;omega;exact h
 subst hoff
 have hown:∀r:Rows,ownS C nm (.arr og ks r):=fun r=>by simp only [ownS];rw [hh0];intro e;cases e
 obtain ⟨⟨z1,z0⟩,z2⟩:=zD_ok (ro:=E.E.ro) (g:=C.g) (B:=nx) hz
 have hone:oneAll (CX.rep (n+1) ety.zero)=true:=by
  rw [oneAll_iff]
  exact rep_mem (hT.zone _ _ k2) (n+1)
 have hlen:(CX.rep (n+1) ety.zero).length=(n+1) * ks.length:=by rw [rep_len,hT.zlen _ _ k2,k3]
 have len':(clrA E.A rows lo (n+1) z).length=rows.length:=by rw [ecl];simp only [xK,zZ,xG,xC];omega
 have hle:lo * ks.length+(n+1) * ks.length<=rows.length * ks.length:=by rw [<-zR];exact zP _ (by omega)
 obtain ⟨t',w1,w2⟩:=wrt_eq (CX.rep (n+1) ety.zero) t0 (lo * ks.length)
 obtain ⟨a,b⟩:=hM.upd (so:=.arr og ks (clrA E.A rows lo (n+1) z)) hl (hown _) (hown _) (o:=.cells t' m0) (by
  simp only [ObS,if_true]
  refine ⟨⟨hksp,fun row hr=>?_,by rw [len'];exact hlr.2⟩,.inr ⟨t',m0,cap1,by rw [len'];exact hh1,rfl,by rw [len'];exact o2,fun c hc=>by rw [len'];exact o3 c hc,fun i hi=>?_⟩⟩
  ·rw [ecl] at hr
   simp only [xU] at hr
   rcases hr with hr |hr |hr
   ·exact hlr.1 row (xT hr)
   ·rw [(List.mem_replicate.1 hr).2,z0]
   exact hlr.1 row (kE hr)
  rw [len'] at hi
  have e0:(rows.take lo).length=lo:=by rw [zZ];omega
  by_cases hc:lo<=i/\i < lo+(n+1)
  ·have gE:(clrA E.A rows lo (n+1) z)[i]?=some z:=by
    rw [ecl,zU (by omega),e0,zW (by rw [xC];omega),xX,if_pos (by omega)]
   refine FzR.of _ _ _ _ fun j k hk=>?_
   obtain ⟨v,g1,g2⟩:=z2 j k hk
   have hj:j < ks.length:=(xB.1 hk).1
   refine ⟨v,?_,?_⟩
   ·have h1:(i - lo) * ks.length+j < (n+1) * ks.length:=row_bound hM (show i - lo < n+1 by omega) (zB _) hj
    have h2:i * ks.length=lo * ks.length+(i - lo) * ks.length:=by rw [<-zR];congr 1;omega
    rw [w2,if_pos ⟨by omega,by rw [hlen];omega⟩,show i * ks.length+(0+j) - lo * ks.length=(i - lo) * ks.length+j by omega,<-z1,rep_get (n+1) (i - lo) j (by omega) (by omega)]
    exact g1
   simp only [gt,zH,gE,kK,zO]
   simpa [zH] using g2
  have gE:gt (clrA E.A rows lo (n+1) z) i=gt rows i:=by
   funext c
   simp only [gt,zH]
   rw [ecl]
   by_cases h1:i < lo
   ·rw [zW (by omega),xJ,if_pos h1]
   rw [zU (by omega),e0,zU (by rw [xC];omega),xC,xR]
   rw [show lo+(n+1)+(i - lo - (n+1))=i by omega]
  rw [gE]
  refine FzR.cells _ _ _ _ 0 0 (fun j hj=>?_) _ (fun _=>rfl) (o4 i hi)
  rw [w2,hlen,if_neg,zO]
  rintro ⟨c1,c2⟩
  by_cases h1:i < lo
  ·have h3:(i+1) * ks.length<=lo * ks.length:=zP _ h1
   rw [zR] at h3
   omega
  have h3:(lo+(n+1)) * ks.length<=i * ks.length:=zP _ (by omega)
  rw [zR] at h3
  omega)
 have hidx:C.ids nm∈footV vx++[]:=by rw [hvx];simp [footV]
 refine ⟨.tup [],C,_,nx,a,b,by simp [RvS,RvSL],fun id hid _=>?_,fun hv barv h1 h2=>⟨hv.up (C.ids nm) (some (.cells t' m0)),fun k=>?_,fun id=>?_⟩⟩
 ·show (if id=C.ids nm then _ else h id)=h id
  rw [if_neg (fun e=>hid (by rw [e];exact hidx))]
 ·have e1:hv.get (C.ids nm)=some (.cells t0 m0):=by rw [h1 _ hidx];exact o1
  have e2:geB barv (C.ids nm)=true:=bleT (h2 _ hidx (hM.own _ _ hl (hown _)).1)
  have e3:Nat.ble (Nat.add (lo * ks.length) (CX.len (CX.rep (n+1) ety.zero))) m0=true:=bleT (by rw [len_eq,hlen];show lo * ks.length+(n+1) * ks.length<=m0;omega)
  have e4:Nat.beq ks.length ety.size=true:=by rw [k3];exact xA _
  subst hvx
  simp only [opM,hc,ha,hat,evL,ex,biX,k1,k2,e4,fL_eq,CX.store,e1,e2,hone,e3,w1,T.set_eq]
 rw [T.get_up]
 by_cases e:id=C.ids nm
 ·subst e;rw [if_pos rfl,if_pos (.inl hidx),if_pos rfl]
 rw [if_neg e]
 split
 next hid=>
  rcases hid with hid |hid
  ·first |exact h1 id hid |(rw [if_neg e];exact h1 id hid)
  omega
 rfl
end
end HX

namespace HX
open Go CX
variable {ro:Addr->Option V}
section
variable {E:Env} (hA:E.A=Ar.std) {C:Cx E.E.ro} {Y:St} {bar:Nat} {h:Nat->Option O} {nx:Nat} (hM:MSim C Y.objs Y.next bar h nx)
include hA hM
theorem appendV_ok {c:Call} {t t':Nat} {x y:Operand} (hc:c.callee=.builtin .append) (ha:c.args.toList=[x,y]) (hat:c.argTypes.toList=[t,t']) (htt:t=t') {ev:Operand->SV} {evc:Operand->Option V} (hev:EvOk C Y.next ev evc) {w:WR} (hw:xappV E Y t (ev x) (ev y)=some w) (hp:∀p∈w.pre,p) :
  ∃F,foot evc (.call c)=some F/\Writes C Y.objs Y.next bar h nx F (fun barv hv k=>opM E.E barv evc hv nx (.call c) k) w.sv w.objs w.next:=by
 subst htt
 unfold xappV at hw
 split at hw
 rotate_left
 ·cases hw
 rename_i nm i nm' lo n hx hy
 split at hw
 rotate_left
 ·cases hw
 rename_i ks ety og ks' rows hnn hks hl
 simp only [beqN_iff] at hnn
 subst hnn
 split at hw
 rotate_left
 ·cases hw
 rename_i hb
 have hk:=kds_eq hb
 subst hk
 simp only [zA] at hw
 subst hw
 obtain ⟨e,k1,k2,k3,k4,k5⟩:=eKs_ok hks
 have p1:=hp _ (.head _)
 have p2:=hp _ (.tail _ (.head _))
 have p3:=hp _ (.tail _ (.tail _ (.head _)))
 rw [hA] at p1 p2 p3
 have p1:(i+n) * ety.bytes<=4294967296/\i+n<=4294967296:=p1
 have p2:lo+n<=rows.length:=p2
 have p3:i+n<=rows.length:=p3
 have hksp:0 < ks.length:=by omega
 obtain ⟨vx,ex,x2⟩:=hev.get hx (by intro e;cases e)
 obtain ⟨vy,ey,y2⟩:=hev.get hy (by intro e;cases e)
 have footE:foot evc (.call c)=some (footV vx++footV vy):=by
  simp only [foot,ha,foot1_eq ex,foot1_eq ey]
 obtain ⟨hlr2,xs,s1,s2,s3,s4,s5⟩:=src_ok hA hM (ks:=ks) (y:=.vw nm lo n) (p:=[E.A.pNle (E.A.nadd lo n) (E.A.len rows)]) (rows:=E.A.sub' rows lo n) hksp (by
  simp only [srcOf,norm,hl,hb]) (fun q hq=>by
  simp only [xS] at hq
  subst hq
  rw [hA];exact p2) y2
 have esub:E.A.sub' rows lo n=(rows.drop lo).take n:=by rw [hA];rfl
 have elen:(E.A.sub' rows lo n).length=n:=by rw [esub,zZ,xG];omega
 rw [elen] at s1 s2 s4 s5
 have enew:E.A.app (E.A.sub' rows 0 i) (E.A.app (E.A.sub' rows lo n) (E.A.sub' rows (E.A.nadd i n) (E.A.nsub (E.A.len rows) (E.A.nadd i n))))=rows.take i++(E.A.sub' rows lo n++rows.drop (i+n)):=by
  rw [hA]
  show List.take i (List.drop 0 rows)++(List.take n (List.drop lo rows)++List.take (rows.length - (i+n)) (List.drop (i+n) rows))=_
  rw [qO,List.take_of_length_le (l:=List.drop (i+n) rows) (by rw [xG];exact zB _)]
  rfl
 have eadd:E.A.nadd i n=i+n:=by rw [hA];rfl
 obtain ⟨Q,hR⟩:∃Q,Q=rows.take i++(E.A.sub' rows lo n++rows.drop (i+n)):=⟨_,rfl⟩
 refine ⟨_,footE,?_⟩
 show Writes _ _ _ _ _ _ _ _ (.vw nm 0 (E.A.nadd i n)) ((nm,SO.arr og ks (E.A.app (E.A.sub' rows 0 i) (E.A.app (E.A.sub' rows lo n) (E.A.sub' rows (E.A.nadd i n) (E.A.nsub (E.A.len rows) (E.A.nadd i n)))))) :: Y.objs) Y.next
 rw [enew,eadd,<-hR]
 simp only [RvS] at x2
 have x2':=x2
 simp only [VwR] at x2
 have none0:n=0->(∀barv (hv:T O),(∀id∈footV vy,hv.get id=h id)->∀k,opM E.E barv evc hv nx (.call c) k=k vx hv nx)->
   Writes C Y.objs Y.next bar h nx (footV vx++footV vy) (fun barv hv k=>opM E.E barv evc hv nx (.call c) k) (.vw nm 0 (i+n)) ((nm,SO.arr og ks Q) :: Y.objs) Y.next:=by
  intro h0 hrun
  have hlo:∀t,look ((nm,SO.arr og ks Q) :: Y.objs) t=look Y.objs t:=fun t=>by
   rw [look_cons];split
   next e=>
    subst e
    have e0:E.A.sub' rows lo n=[]:=zS.1 (by rw [elen,h0])
    rw [hl,hR,e0,h0,kF,qI,List.take_append_drop]
   rfl
  refine ⟨vx,C,h,nx,hM.lk hlo,MExt.lk hlo,by simp only [RvS];rw [h0];exact x2',fun _ _ _=>rfl,fun hv barv h1 h2=>⟨hv,fun k=>hrun barv hv (fun id hid=>h1 id (xF _ hid)) k,fun id=>?_⟩⟩
  split
  next hid=>
   rcases hid with hid |hid
   ·exact h1 id hid
   omega
  rfl
 obtain ⟨hnm,⟨hh0,hv0,hn0⟩ |⟨es,len,cap0,off,cap,hh0,hvx,hoff,hcap,hln,hcc⟩⟩:=x2
 ·have hn:n=0:=by
   have y3:=y2
   simp only [RvS,VwR] at y3
   obtain ⟨_,⟨_,_,h0⟩ |⟨_,_,_,_,_,hh1,_⟩⟩:=y3
   ·exact h0
   rw [hh0] at hh1;cases hh1
  refine none0 hn fun barv hv hag k=>?_
  subst hv0 hn
  simp only [opM,hc,ha,hat,evL,ex,ey,biX,k5,k1,k2,xA,fN_eq,<-k3]
  rw [s1]
  simp only [fN_eq]
  rw [s5 hv hag]
  simp only [appendX]
 have hob:=hM.ob _ _ hl
 simp only [ObS] at hob
 obtain ⟨⟨_,hlr⟩,⟨_,hh1⟩ |⟨t0,m0,cap1,hh1,o1,o2,o3,o4⟩⟩:=hob
 ·rw [hh0] at hh1;cases hh1
 have hown:∀r:Rows,ownS C nm (.arr og ks r):=fun r=>by simp only [ownS];rw [hh0];intro e;cases e
 have hcap0:cap=cap0:=by simpa using hcc
 rw [hh0] at hh1
 simp only [V.slc.injEq,true_and] at hh1
 obtain ⟨rfl,rfl,rfl⟩:=hh1
 subst hcap0
 have hoff:off=0:=by
  rcases hoff with ⟨_,h⟩ |h
  ·exact h
  rw [h];exact Nat.zero_mul _
 subst hoff
 cases n with
 |zero=>
  refine none0 rfl fun barv hv hag k=>?_
  subst hvx
  simp only [opM,hc,ha,hat,evL,ex,ey,biX,k5,k1,k2,xA,s1,fN_eq,<-k3]
  rw [s5 hv hag]
  simp only [appendX,xA]
 |succ n=>
 have hQ':Q=rows.take i++(E.A.sub' rows lo (n+1)++rows.drop (i+(n+1))):=hR
 have len':Q.length=rows.length:=by rw [hQ'];simp only [xK,zZ,xG,elen];omega
 have hle:i * ks.length+(n+1) * ks.length<=rows.length * ks.length:=by rw [<-zR];exact zP _ (by omega)
 obtain ⟨t',w1,w2⟩:=wrt_eq xs t0 (0+i * ks.length)
 obtain ⟨a,b⟩:=hM.upd (so:=.arr og ks Q) hl (hown _) (hown _) (o:=.cells t' m0) (by
  simp only [ObS,if_true]
  refine ⟨⟨hksp,fun row hr=>?_,by rw [len'];exact hlr.2⟩,.inr ⟨t',m0,cap,by rw [len'];exact hh0,rfl,by rw [len'];exact o2,fun c hc=>by rw [len'];exact o3 c hc,fun j hj=>?_⟩⟩
  ·rw [hQ'] at hr
   simp only [xU] at hr
   rcases hr with hr |hr |hr
   ·exact hlr.1 row (xT hr)
   ·exact hlr2.1 row hr
   exact hlr.1 row (kE hr)
  rw [len'] at hj
  have gE:gt Q j=if i<=j/\j < i+(n+1) then gt (E.A.sub' rows lo (n+1)) (j - i) else gt rows j:=by
   funext c
   rw [hQ']
   have e0:(rows.take i).length=i:=by rw [zZ];omega
   by_cases h1:j < i
   ·rw [if_neg (by omega)]
    simp only [gt,zH]
    rw [zW (by omega),xJ,if_pos h1]
   by_cases h2:j < i+(n+1)
   ·rw [if_pos ⟨by omega,h2⟩]
    simp only [gt,zH]
    rw [zU (by omega),e0,zW (by omega)]
   rw [if_neg (by omega)]
   simp only [gt,zH]
   rw [zU (by omega),e0,zU (by omega),elen,xR]
   rw [show i+(n+1)+(j - i - (n+1))=j by omega]
  rw [gE]
  by_cases hc:i<=j/\j < i+(n+1)
  ·rw [if_pos hc]
   refine FzR.cells _ _ _ _ 0 0 (fun q hq=>?_) _ (fun _=>rfl) (s4 (j - i) (by omega))
   have h1:(j - i) * ks.length+q < (n+1) * ks.length:=row_bound hM (show j - i < n+1 by omega) (zB _) hq
   have h2:j * ks.length=i * ks.length+(j - i) * ks.length:=by rw [<-zR];congr 1;omega
   rw [w2,if_pos ⟨by omega,by rw [s2];omega⟩,zO]
   congr 1;omega
  rw [if_neg hc]
  refine FzR.cells _ _ _ _ 0 0 (fun q hq=>?_) _ (fun _=>rfl) (o4 j hj)
  rw [w2,s2,if_neg,zO]
  rintro ⟨c1,c2⟩
  by_cases h1:j < i
  ·have h3:(j+1) * ks.length<=i * ks.length:=zP _ h1
   rw [zR] at h3
   omega
  have h3:(i+(n+1)) * ks.length<=j * ks.length:=zP _ (by omega)
  rw [zR] at h3
  omega)
 have hidx:C.ids nm∈footV vx++footV vy:=by rw [hvx];simp [footV]
 refine ⟨.slc (C.ids nm) ks.length 0 (i+(n+1)) cap,C,_,nx,a,b,?_,fun id hid _=>?_,fun hv barv h1 h2=>⟨hv.up (C.ids nm) (some (.cells t' m0)),fun k=>?_,fun id=>?_⟩⟩
 ·simp only [RvS,VwR]
  exact ⟨hnm,.inr ⟨_,_,_,_,_,hh0,rfl,.inr (Nat.zero_mul _).symm,fun c hc=>⟨by have:=(o3 c hc).1;omega,c,hc,zB _⟩,by omega,fun _=>rfl⟩⟩
 ·show (if id=C.ids nm then _ else h id)=h id
  rw [if_neg (fun e=>hid (by rw [e];exact hidx))]
 ·have e1:hv.get (C.ids nm)=some (.cells t0 m0):=by rw [h1 _ hidx];exact o1
  have e2:geB barv (C.ids nm)=true:=bleT (h2 _ hidx (hM.own _ _ hl (hown _)).1)
  have e3:Nat.ble (Nat.add (Nat.add 0 (Nat.mul i ks.length)) (CX.len xs)) m0=true:=bleT (by rw [len_eq,s2];show 0+i * ks.length+(n+1) * ks.length<=m0;omega)
  have e4:Nat.beq ks.length ety.size=true:=by rw [k3];exact xA _
  have e5:roomOk ety.bytes (Nat.add i (n+1))=true:=by
   simp only [roomOk,zC]
   exact ⟨bleT p1.1,bleT p1.2⟩
  have e6:Nat.ble (Nat.add 0 (Nat.mul (Nat.add i (n+1)) ks.length)) m0=true:=bleT (by show 0+(i+(n+1)) * ks.length<=m0;rw [zR];omega)
  have w1':∀f:T V->R,wrt t0 (Nat.add 0 (Nat.mul i ks.length)) xs f=f t':=w1
  have s5':=s5 hv (fun id hid=>h1 id (xF _ hid))
  subst hvx
  simp only [opM,hc,ha,hat,evL,ex,ey,biX,k5,k1,k2,xA,s1,fN_eq,<-k3]
  simp only [s5',appendX,xA,e5,kL]
  cases cap with
  |none=>simp only [e1,e2,s3,e6,CX.store,e3,w1',T.set_eq,fN_eq];rfl
  |some c0=>
   have e7:Nat.ble (Nat.add i (n+1)) c0=true:=bleT (by have:=(o3 c0 rfl).1;show i+(n+1)<=c0;omega)
   simp only [e7,CX.store,e1,e2,s3,e3,w1',T.set_eq,fN_eq];rfl
 rw [T.get_up]
 by_cases e:id=C.ids nm
 ·subst e;rw [if_pos rfl,if_pos (.inl hidx),if_pos rfl]
 rw [if_neg e]
 split
 next hid=>
  rcases hid with hid |hid
  ·first |exact h1 id hid |(rw [if_neg e];exact h1 id hid)
  omega
 rfl
end
end HX

namespace HX
open Go CX
variable {ro:Addr->Option V}
theorem gt_app {r r2:Rows} {i:Nat}:gt (r++r2) i=if i < r.length then gt r i else gt r2 (i - r.length):=by
 funext c
 split
 next h=>simp only [gt,zH,zW h]
 rename_i h;simp only [gt,zH,zU (Nat.le_of_not_lt h)]
section
variable {E:Env} (hA:E.A=Ar.std) {C:Cx E.E.ro} {Y:St} {bar:Nat} {h:Nat->Option O} {nx:Nat} (hM:MSim C Y.objs Y.next bar h nx)
include hM
theorem rows_app {g:Nat->Option O} {B:Nat} {ks:List Kd} {rows rows2:Rows} {u:Nat->Option V} {x2:List V}
  (h1:∀i,i < rows.length->FzR E.E.ro g B ks (gt rows i) (fun c=>u (i * ks.length+c)) 0) (h2:∀i,i < rows2.length->FzR E.E.ro g B ks (gt rows2 i) (fun c=>x2[i * ks.length+c]?) 0) (u':Nat->Option V)
  (hu1:∀j,j < rows.length * ks.length->u' j=u j) (hu2:∀j,j < rows2.length * ks.length->u' (rows.length * ks.length+j)=x2[j]?) :
  ∀i,i < (rows++rows2).length->FzR E.E.ro g B ks (gt (rows++rows2) i) (fun c=>u' (i * ks.length+c)) 0:=by
 intro i hi
 rw [xK] at hi
 rw [gt_app]
 by_cases hlt:i < rows.length
 ·rw [if_pos hlt]
  refine FzR.cells _ _ _ _ 0 0 (fun j hj=>?_) _ (fun _=>rfl) (h1 i hlt)
  rw [zO,hu1 _ (row_bound hM hlt (zB _) hj)]
 rw [if_neg hlt]
 refine FzR.cells _ _ _ _ 0 0 (fun j hj=>?_) _ (fun _=>rfl) (h2 (i - rows.length) (by omega))
 rw [zO,<-hu2 _ (row_bound hM (show i - rows.length < rows2.length by omega) (zB _) hj)]
 congr 1
 have:i * ks.length=rows.length * ks.length+(i - rows.length) * ks.length:=by rw [<-zR];congr 1;omega
 omega
theorem put_arr {dead:Option Nat} {og:Nat} {ks:List Kd} (hks:0 < ks.length) {rows:Rows} (hlr:LenR ks rows) {j nx':Nat} {cap:Option Nat} {t:T V} {m:Nat} {h':Nat->Option O} (hdead:∀nm,dead=some nm->∃so0,look Y.objs nm=some so0)
  (hbar:bar<=j) (hj:j < nx') (hnx:nx<=nx') (hg:C.g j=none) (hjn:∀nm s,look (kill dead Y.objs) nm=some s->∀id,owns C nm s id->id≠j)
  (hh:∀id,id≠j->(∀nm,dead=some nm->∀s,look Y.objs nm=some s->ownS C nm s->id≠C.ids nm)->h' id=h id) (hjo:OwnId C Y.objs j\/nx<=j)
  (hc:h' j=some (.cells t m)) (hm:rows.length * ks.length<=m) (hcap:∀c,cap=some c->rows.length<=c/\c * ks.length<=m) (hr:∀i,i < rows.length->FzR E.E.ro C.g nx ks (gt rows i) (fun c=>t.get (i * ks.length+c)) 0) :
  ∃C',MSim C' ((Y.next,.arr og ks rows) :: kill dead Y.objs) (Y.next+1) bar h' nx'/\MExt C Y.objs Y.next h nx C' ((Y.next,.arr og ks rows) :: kill dead Y.objs) (Y.next+1) h' nx'/\RvS C' (Y.next+1) (.slc Y.next) (.slc j ks.length 0 rows.length cap):=by
 obtain ⟨a,b⟩:=hM.put (so:=.arr og ks rows) (hd:=.slc j ks.length 0 rows.length cap) hdead hbar hj hnx hg hjn hh hjo (by
  simp only [ObS,Cx.put,if_true]
  exact ⟨⟨hks,hlr⟩,.inr ⟨t,m,cap,rfl,hc,hm,hcap,fun i hi=>FzR.mono (fun _ _ _ h=>h) hnx _ _ _ _ (hr i hi)⟩⟩)
 exact ⟨_,a,b,by simp only [RvS,Cx.put,if_true,isHdr];exact ⟨zM _,trivial,.inr ⟨_,_,_,_,_,rfl⟩⟩⟩
include hA
theorem appendS_ok {c:Call} {t t':Nat} {x y:Operand} (hc:c.callee=.builtin .append) (ha:c.args.toList=[x,y]) (hat:c.argTypes.toList=[t,t']) (htt:t=t') {ev:Operand->SV} {evc:Operand->Option V} (hev:EvOk C Y.next ev evc) {w:WR} (hw:xappendS E Y t (ev x) (ev y)=some w) (hp:∀p∈w.pre,p) :
  ∃F,foot evc (.call c)=some F/\Writes C Y.objs Y.next bar h nx F (fun barv hv k=>opM E.E barv evc hv nx (.call c) k) w.sv w.objs w.next:=by
 subst htt
 unfold xappendS at hw
 split at hw
 rotate_left
 ·cases hw
 rename_i ks ety hks
 obtain ⟨e,k1,k2,k3,k4,k5⟩:=eKs_ok hks
 have hksp:0 < ks.length:=by omega
 split at hw
 rotate_left
 ·cases hw
 rename_i p rows2 hsrc
 have hyk:ev y≠.unk:=fun e=>by rw [e] at hsrc;simp [srcOf,norm] at hsrc
 obtain ⟨vy,y1,y2⟩:=hev.get rfl hyk
 have run0:∀{vx:V} {x2:List V},evc x=some vx->lenV vy=some rows2.length->(∀(hv:T O),(∀id∈footV vy,hv.get id=h id)->∀k,cellsOf E.E.ro hv ks.length rows2.length vy k=k x2)->
   ∀barv (hv:T O),(∀id∈footV vx++footV vy,hv.get id=h id)->∀k,opM E.E barv evc hv nx (.call c) k=appendX barv hv nx ks.length ety.bytes vx rows2.length x2 k:=by
  intro vx x2 ex hl hcells barv hv hag k
  simp only [opM,hc,ha,hat,evL,ex,y1,biX,k5,k1,k2,xA,hl,fN_eq]
  rw [<-k3,hcells hv (fun id hid=>hag id (xF _ hid))]
 have footE:∀{vx:V},evc x=some vx->foot evc (.call c)=some (footV vx++footV vy):=by
  intro vx ex
  simp only [foot,ha,foot1_eq ex,foot1_eq y1]
 have room:∀{a:Nat},(a * ety.bytes<=4294967296/\a<=4294967296)->roomOk ety.bytes a=true:=by
  intro a h
  simp only [roomOk,zC]
  exact ⟨bleT h.1,bleT h.2⟩
 have elen:E.A.len rows2=rows2.length:=by rw [hA];rfl
 have onNil:∀{dead:Option Nat} {og:Nat} {vx:V},vx=.nils->evc x=some vx->(∀nm,dead=some nm->∃so0,look Y.objs nm=some so0/\¬ownS C nm so0)->(rows2.length * ety.bytes<=4294967296/\rows2.length<=4294967296)->(∀q∈p,q)->
   Writes C Y.objs Y.next bar h nx (footV vx++footV vy) (fun barv hv k=>opM E.E barv evc hv nx (.call c) k) (.slc Y.next) ((Y.next,.arr og ks rows2) :: kill dead Y.objs) (Y.next+1):=by
  intro dead og vx hvx ex hdead hroom hp
  subst hvx
  obtain ⟨hlr2,x2,s1,s2,s3,s4,s5⟩:=src_ok hA hM hksp hsrc hp y2
  have hdead':∀nm,dead=some nm->∃so0,look Y.objs nm=some so0:=fun nm e=>let ⟨a,b,_⟩:=hdead nm e;⟨a,b⟩
  by_cases hz:rows2.length=0
  ·have hz':rows2=[]:=zS.1 hz
   subst hz'
   obtain ⟨a,b⟩:=hM.put0 (dead:=dead) (og:=og) hksp hdead'
   refine ⟨.nils,_,h,nx,a,b,by simp only [RvS,Cx.put,if_true,isHdr];exact ⟨zM _,trivial,.inl trivial⟩,fun _ _ _=>rfl,fun hv barv h1 h2=>⟨hv,fun k=>?_,fun id=>?_⟩⟩
   ·simp only [run0 ex s1 s5 barv hv h1];rfl
   split
   next hid=>
    rcases hid with hid |hid
    ·exact h1 id hid
    omega
   rfl
  obtain ⟨tt,w1,w2⟩:=wrt_eq x2 .e 0
  obtain ⟨C',a,b,d⟩:=put_arr hM (dead:=dead) (og:=og) hksp (rows:=rows2) hlr2 (j:=nx) (nx':=nx+1) (cap:=none) (t:=tt) (m:=x2.length) (h':=fun id=>if id=nx then some (.cells tt x2.length) else h id) hdead' hM.barle (zM _) (zQ _)
   (by
    cases hg:C.g nx with
    |none=>rfl
    |some o=>have:=(hM.fz _ _ hg).1;omega)
   (fun nm s hl id ho e=>by
    rcases look_kill hl with ⟨rfl,_⟩ |⟨hl,_⟩
    ·exact owns_gone ho
    have:=(hM.own' _ _ hl _ ho).2.1;omega)
   (fun id hid _=>if_neg hid) (.inr (zB _)) (if_pos rfl) (by rw [s2];exact zB _) (fun c hc=>by cases hc) (fun i hi=>by
    refine FzR.cells _ _ _ _ 0 0 (fun j hj=>?_) _ (fun _=>rfl) (s4 i hi)
    have:=row_bound hM hi (zB _) hj
    rw [w2,if_pos ⟨by omega,by omega⟩,kO])
  refine ⟨_,C',_,nx+1,a,b,d,fun id _ hid=>if_neg (by omega),fun hv barv h1 h2=>⟨hv.up nx (some (.cells tt x2.length)),fun k=>?_,fun id=>?_⟩⟩
  ·simp only [run0 ex s1 s5 barv hv h1]
   obtain ⟨n,hn⟩:∃n,rows2.length=n+1:=⟨rows2.length - 1,by omega⟩
   have hr:=room hroom
   rw [hn] at hr
   simp only [hn,appendX,hr,grown,CX.newRow,s3,w1,fN_eq,len_eq,CX.new,T.set_eq]
  rw [T.get_up]
  by_cases e:id=nx
  ·subst e;rw [if_pos rfl,if_pos (.inr ⟨zB _,zM _⟩),if_pos rfl]
  rw [if_neg e]
  split
  next hid=>
   rcases hid with hid |hid
   ·first |exact h1 id hid |(rw [if_neg e];exact h1 id hid)
   omega
  rfl
 have onArr:∀{nm og:Nat} {rows0 rows:Rows} {vx:V} {t0:T V} {m0:Nat} {cap0:Option Nat},look Y.objs nm=some (.arr og ks rows0)->ownS C nm (.arr og ks rows0)->vx=.slc (C.ids nm) ks.length 0 rows.length cap0->evc x=some vx->LenR ks rows->h (C.ids nm)=some (.cells t0 m0)->rows.length * ks.length<=m0->
   (∀c,cap0=some c->rows.length<=c/\c * ks.length<=m0)->(∀i,i < rows.length->FzR E.E.ro C.g nx ks (gt rows i) (fun c=>t0.get (i * ks.length+c)) 0)->((rows.length+rows2.length) * ety.bytes<=4294967296/\rows.length+rows2.length<=4294967296)->(∀q∈p,q)->
   Writes C Y.objs Y.next bar h nx (footV vx++footV vy) (fun barv hv k=>opM E.E barv evc hv nx (.call c) k) (.slc Y.next) ((Y.next,.arr og ks (E.A.app rows rows2)) :: kill (some nm) Y.objs) (Y.next+1):=by
  intro nm og rows0 rows vx t0 m0 cap0 hl hown hh0 ex hlr o1 o2 o3 o4 p1 hpp
  have eapp:E.A.app rows rows2=rows++rows2:=by rw [hA];rfl
  obtain ⟨hlr2,x2,s1,s2,s3,s4,s5⟩:=src_ok hA hM hksp hsrc hpp y2
  obtain ⟨q1,q2,q3⟩:=hM.own _ _ hl hown
  have hdead:∀nm',(some nm:Option Nat)=some nm'->∃so0,look Y.objs nm'=some so0:=fun nm' e=>by cases e;exact ⟨_,hl⟩
  have hjn:∀nm' s,look (kill (some nm) Y.objs) nm'=some s->∀id,owns C nm' s id->id≠C.ids nm:=fun nm' s hl' id ho' e=>by
   rcases look_kill hl' with ⟨rfl,_⟩ |⟨hl',hne⟩
   ·exact owns_gone ho'
   exact hne (by rw [hM.inj' _ _ _ _ hl' hl id ho' (.inl ⟨hown,e.symm⟩)])
  have hnew:C.g nx=none:=by
   cases hg:C.g nx with
   |none=>rfl
   |some o=>have:=(hM.fz _ _ hg).1;omega
  have hnewn:∀nm' s,look (kill (some nm) Y.objs) nm'=some s->∀id,owns C nm' s id->id≠nx:=fun nm' s hl' id ho' e=>by
   rcases look_kill hl' with ⟨rfl,_⟩ |⟨hl',_⟩
   ·exact owns_gone ho'
   have:=(hM.own' _ _ hl' _ ho').2.1;omega
  have hlr12:LenR ks (rows++rows2):=⟨fun row h=>(xU.1 h).elim (hlr.1 row) (hlr2.1 row),by rw [xK];have:=p1.2;omega⟩
  have alen:(rows++rows2).length=rows.length+rows2.length:=xK
  have footx:footV (vx)=[C.ids nm]:=by rw [hh0];rfl
  show Writes _ _ _ _ _ _ _ _ _ ((Y.next,SO.arr og ks (E.A.app rows rows2)) :: kill (some nm) Y.objs) _
  rw [eapp]
  have run1:=@run0 _ x2 ex s1 s5
  by_cases hz:rows2.length=0
  ·have hz':rows2=[]:=zS.1 hz
   subst hz'
   rw [qL]
   obtain ⟨C',a,b,d⟩:=put_arr hM (dead:=some nm) (og:=og) hksp (rows:=rows) hlr (j:=C.ids nm) (nx':=nx) (cap:=cap0) (t:=t0) (m:=m0) (h':=h) hdead q1 q2 (zB _) q3 hjn (fun _ _ _=>rfl) (.inl ⟨nm,_,hl,.inl ⟨hown,rfl⟩⟩) o1 o2 o3 o4
   refine ⟨_,C',h,nx,a,b,d,fun _ _ _=>rfl,fun hv barv h1 h2=>⟨hv,fun k=>?_,fun id=>?_⟩⟩
   ·simp only [run1 barv hv h1,hh0]
    simp [appendX]
   split
   next hid=>
    rcases hid with hid |hid
    ·exact h1 id hid
    omega
   rfl
  obtain ⟨n2,hn2⟩:∃n,rows2.length=n+1:=⟨rows2.length - 1,by omega⟩
  have hr:=room p1
  have inPlace:∀(cap':Option Nat),(∀c,cap'=some c->rows.length+rows2.length<=c/\c * ks.length<=m0)->(rows.length+rows2.length) * ks.length<=m0->
    (∀barv (hv:T O),(∀id∈footV (vx)++footV vy,hv.get id=h id)->geB barv (C.ids nm)=true->∀k,appendX barv hv nx ks.length ety.bytes (vx) rows2.length x2 k=CX.store barv hv (C.ids nm) (rows.length * ks.length) x2 fun h=>k (.slc (C.ids nm) ks.length 0 (rows.length+rows2.length) cap') h nx)->
    Writes C Y.objs Y.next bar h nx (footV (vx)++footV vy) (fun barv hv k=>opM E.E barv evc hv nx (.call c) k) (.slc Y.next) ((Y.next,.arr og ks (rows++rows2)) :: kill (some nm) Y.objs) (Y.next+1):=by
   intro cap' hcap' hfit hrun
   obtain ⟨tt,w1,w2⟩:=wrt_eq x2 t0 (rows.length * ks.length)
   obtain ⟨C',a,b,d⟩:=put_arr hM (dead:=some nm) (og:=og) hksp (rows:=rows++rows2) hlr12 (j:=C.ids nm) (nx':=nx) (cap:=cap') (t:=tt) (m:=m0) (h':=fun id=>if id=C.ids nm then some (.cells tt m0) else h id) hdead q1 q2 (zB _) q3 hjn
    (fun id hid _=>if_neg hid) (.inl ⟨nm,_,hl,.inl ⟨hown,rfl⟩⟩) (if_pos rfl) (by rw [alen];exact hfit) (by rw [alen];exact hcap')
    (rows_app hM o4 s4 tt.get (fun j hj=>by rw [w2,if_neg (by omega)]) (fun j hj=>by rw [w2,if_pos (by omega)];congr 1;omega))
   rw [alen] at d
   refine ⟨_,C',_,nx,a,b,d,fun id hid _=>if_neg (fun e=>hid (by rw [footx,e];simp)),fun hv barv h1 h2=>⟨hv.up (C.ids nm) (some (.cells tt m0)),fun k=>?_,fun id=>?_⟩⟩
   ·have hge:geB barv (C.ids nm)=true:=bleT (h2 _ (by rw [footx];simp) q1)
    simp only [run1 barv hv h1]
    rw [hrun barv hv h1 hge]
    have e1:hv.get (C.ids nm)=some (.cells t0 m0):=by rw [h1 _ (by rw [footx];simp)];exact o1
    have e3:Nat.ble (Nat.add (rows.length * ks.length) (CX.len x2)) m0=true:=bleT (by rw [len_eq,s2];show rows.length * ks.length+rows2.length * ks.length<=m0;rw [<-zR];exact hfit)
    simp only [CX.store,e1,hge,s3,e3,w1,T.set_eq]
   rw [T.get_up]
   by_cases e:id=C.ids nm
   ·subst e;rw [if_pos rfl,if_pos (.inl (by rw [footx];simp)),if_pos rfl]
   rw [if_neg e]
   split
   next hid=>
    rcases hid with hid |hid
    ·first |exact h1 id hid |(rw [if_neg e];exact h1 id hid)
    omega
   rfl
  obtain ⟨xo,a1,a2,a3,a4⟩:=rows_cells hM (u:=t0.get) (off:=0) hksp (fun i hi=>FzR.cells _ _ _ _ 0 0 (fun j _=>by simp) _ (fun _=>rfl) (o4 i hi))
  cases cap0 with
  |some c0=>
   have o3':=o3 c0 rfl
   by_cases hfit:rows.length+rows2.length<=c0
   ·refine inPlace (some c0) (fun c hc=>by cases hc;exact ⟨hfit,o3'.2⟩) (zT (zP _ hfit) o3'.2) fun barv hv h1 hge k=>?_
    have hfit':Nat.ble (Nat.add rows.length (n2+1)) c0=true:=bleT (by rw [hn2] at hfit;exact hfit)
    rw [hn2] at hr
    have hr':roomOk ety.bytes (Nat.add rows.length (n2+1))=true:=hr
    simp only [hn2,hh0,appendX,xA,hr',kL,hfit',fN_eq]
    rw [show Nat.add 0 (Nat.mul rows.length ks.length)=rows.length * ks.length from zO _]
    rfl
   obtain ⟨tt,w1,w2⟩:=wrt_eq (xo++x2) .e 0
   have xl:(xo++x2).length=(rows.length+rows2.length) * ks.length:=by rw [xK,a1,s2,<-zR]
   obtain ⟨C',a,b,d⟩:=put_arr hM (dead:=some nm) (og:=og) hksp (rows:=rows++rows2) hlr12 (j:=nx) (nx':=nx+1) (cap:=none) (t:=tt) (m:=(xo++x2).length) (h':=fun id=>if id=nx then some (.cells tt (xo++x2).length) else h id) hdead hM.barle (zM _) (zQ _) hnew hnewn
    (fun id hid _=>if_neg hid) (.inr (zB _)) (if_pos rfl) (by rw [alen,xl];exact zB _) (fun c hc=>by cases hc)
    (rows_app hM (u:=fun j=>xo[j]?) a4 s4 tt.get (fun j hj=>by rw [w2,if_pos (by rw [xl,zR];omega),kO,zW (by omega)])
     (fun j hj=>by rw [w2,if_pos (by rw [xl,zR];omega),kO,zU (by omega)];congr 1;omega))
   rw [alen] at d
   refine ⟨_,C',_,nx+1,a,b,d,fun id _ hid=>if_neg (by omega),fun hv barv h1 h2=>⟨hv.up nx (some (.cells tt (xo++x2).length)),fun k=>?_,fun id=>?_⟩⟩
   ·simp only [run1 barv hv h1]
    have hfit':Nat.ble (Nat.add rows.length (n2+1)) c0=false:=by
     cases hb:Nat.ble (Nat.add rows.length (n2+1)) c0 with
     |false=>rfl
     |true=>have:=Nat.le_of_ble_eq_true hb;rw [hn2] at hfit;exact absurd this hfit
    rw [hn2] at hr
    have hr':roomOk ety.bytes (Nat.add rows.length (n2+1))=true:=hr
    have hcells:∀k,cellsOf (fun _=>none) hv ks.length rows.length (.slc (C.ids nm) ks.length 0 rows.length (some c0)) k=k xo:=by
     intro k
     have e1:hv.get (C.ids nm)=some (.cells t0 m0):=by rw [h1 _ (by rw [footx];simp)];exact o1
     cases hl0:rows.length with
     |zero=>
      have:xo=[]:=zS.1 (by rw [a1,hl0];simp)
      subst this
      simp [cellsOf]
     |succ n=>
      have e2:Nat.ble (Nat.add 0 (Nat.mul (n+1) ks.length)) m0=true:=bleT (by rw [hl0] at o2;show 0+(n+1) * ks.length<=m0;omega)
      simp only [cellsOf,xA,e1,e2]
      have:=rd_eq (t:=t0) xo 0 k (fun j hj=>a2 j (by omega))
      rw [a1,hl0] at this
      exact this
    have hone:oneAll (xo++x2)=true:=by
     rw [oneAll_iff] at a3 s3 ⊢
     intro v hv
     rcases xU.1 hv with hv |hv
     ·exact a3 v hv
     exact s3 v hv
    simp only [hn2,hh0,appendX,xA,hr',kL,hfit',fN_eq,hcells,fL_eq,grown,CX.newRow,hone,w1,len_eq,CX.new,T.set_eq]
    rfl
   rw [T.get_up]
   by_cases e:id=nx
   ·subst e;rw [if_pos rfl,if_pos (.inr ⟨zB _,zM _⟩),if_pos rfl]
   rw [if_neg e]
   split
   next hid=>
    rcases hid with hid |hid
    ·first |exact h1 id hid |(rw [if_neg e];exact h1 id hid)
    omega
   rfl
  |none=>
   by_cases hfit:(rows.length+rows2.length) * ks.length<=m0
   ·refine inPlace none (fun c hc=>by cases hc) hfit fun barv hv h1 hge k=>?_
    have e1:hv.get (C.ids nm)=some (.cells t0 m0):=by rw [h1 _ (by rw [footx];simp)];exact o1
    have hfit':Nat.ble (Nat.add 0 (Nat.mul (Nat.add rows.length (n2+1)) ks.length)) m0=true:=bleT (by rw [hn2] at hfit;show 0+(rows.length+(n2+1)) * ks.length<=m0;omega)
    rw [hn2] at hr
    have hr':roomOk ety.bytes (Nat.add rows.length (n2+1))=true:=hr
    simp only [hn2,hh0,appendX,xA,hr',kL,e1,hge,s3,hfit',fN_eq]
    rw [show Nat.add 0 (Nat.mul rows.length ks.length)=rows.length * ks.length from zO _]
    rfl
   obtain ⟨tt,w1,w2⟩:=wrt_eq x2 t0 (rows.length * ks.length)
   obtain ⟨C',a,b,d⟩:=put_arr hM (dead:=some nm) (og:=og) hksp (rows:=rows++rows2) hlr12 (j:=nx) (nx':=nx+1) (cap:=none) (t:=tt) (m:=(rows.length+rows2.length) * ks.length)
    (h':=fun id=>if id=nx then some (.cells tt ((rows.length+rows2.length) * ks.length)) else if id=C.ids nm then none else h id) hdead hM.barle (zM _) (zQ _) hnew hnewn
    (fun id hid hd=>by
     show (if id=nx then _ else if id=C.ids nm then none else h id)=h id
     rw [if_neg hid,if_neg (hd nm rfl _ hl hown)]) (.inr (zB _)) (if_pos rfl) (by rw [alen];exact zB _) (fun c hc=>by cases hc)
    (rows_app hM o4 s4 tt.get (fun j hj=>by rw [w2,if_neg (by omega)]) (fun j hj=>by rw [w2,if_pos (by omega)];congr 1;omega))
   rw [alen] at d
   refine ⟨_,C',_,nx+1,a,b,d,fun id hid hn=>?_,fun hv barv h1 h2=>⟨(hv.up (C.ids nm) none).up nx (some (.cells tt ((rows.length+rows2.length) * ks.length))),fun k=>?_,fun id=>?_⟩⟩
   ·show (if id=nx then _ else if id=C.ids nm then none else h id)=h id
    rw [if_neg (by omega),if_neg (fun e=>hid (by rw [footx,e];simp))]
   ·simp only [run1 barv hv h1]
    have e1:hv.get (C.ids nm)=some (.cells t0 m0):=by rw [h1 _ (by rw [footx];simp)];exact o1
    have hge:geB barv (C.ids nm)=true:=bleT (h2 _ (by rw [footx];simp) q1)
    have hfit':Nat.ble (Nat.add 0 (Nat.mul (Nat.add rows.length (n2+1)) ks.length)) m0=false:=by
     cases hb:Nat.ble (Nat.add 0 (Nat.mul (Nat.add rows.length (n2+1)) ks.length)) m0 with
     |false=>rfl
     |true=>
      have h3:=Nat.le_of_ble_eq_true hb
      rw [hn2] at hfit
      have h3:0+(rows.length+(n2+1)) * ks.length<=m0:=h3
      exact absurd (by omega) hfit
    have hold:Nat.ble (Nat.add 0 (Nat.mul rows.length ks.length)) m0=true:=bleT (by show 0+rows.length * ks.length<=m0;omega)
    rw [hn2] at hr
    have hr':roomOk ety.bytes (Nat.add rows.length (n2+1))=true:=hr
    simp only [hn2,hh0,appendX,xA,hr',kL,e1,hge,s3,hfit',hold,fN_eq,T.set_eq]
    rw [show Nat.mul rows.length ks.length=rows.length * ks.length from rfl,w1]
    rfl
   rw [T.get_up,T.get_up]
   by_cases e:id=nx
   ·subst e;rw [if_pos rfl,if_pos (.inr ⟨zB _,zM _⟩),if_pos rfl]
   rw [if_neg e]
   by_cases e2:id=C.ids nm
   ·rw [if_pos e2,if_pos (.inl (by rw [footx,e2];simp)),if_neg e,if_pos e2]
   rw [if_neg e2]
   split
   next hid=>
    rcases hid with hid |hid
    ·first |exact h1 id hid |(rw [if_neg e2];exact h1 id hid) |(rw [if_neg e,if_neg e2];exact h1 id hid)
    omega
   rfl
 split at hw
 next hx=>
  simp only [zA] at hw
  subst hw
  obtain ⟨vx,x1,x2⟩:=hev.get hx (by intro e;cases e)
  simp only [RvS] at x2
  have p1:=hp _ (.head _)
  rw [hA] at p1
  exact ⟨_,footE x1,onNil (dead:=none) x2 x1 (fun nm e=>by cases e) p1 (fun q hq=>hp q (.tail _ hq))⟩
 next nm hx=>
  split at hw
  rotate_left
  ·cases hw
  rename_i og ks' rows hl
  split at hw
  rotate_left
  ·cases hw
  rename_i hb
  rw [zC] at hb
  have hk:=kds_eq hb.1
  subst hk
  simp only [zA] at hw
  subst hw
  obtain ⟨vx,ex,x2⟩:=hev.get hx (by intro e;cases e)
  simp only [RvS] at x2
  obtain ⟨hnm,rfl,_⟩:=x2
  refine ⟨_,footE ex,?_⟩
  have p1:=hp _ (.head _)
  rw [hA] at p1
  have p1:(rows.length+rows2.length) * ety.bytes<=4294967296/\rows.length+rows2.length<=4294967296:=p1
  have hpp:∀q∈p,q:=fun q hq=>hp q (.tail _ hq)
  have eapp:E.A.app rows rows2=rows++rows2:=by rw [hA];rfl
  have hob:=hM.ob _ _ hl
  simp only [ObS] at hob
  obtain ⟨⟨_,hlr⟩,⟨hr0,hh0⟩ |⟨t0,m0,cap0,hh0,o1,o2,o3,o4⟩⟩:=hob
  ·have:=onNil (dead:=some nm) (og:=og) hh0 ex (fun nm' e=>by cases e;exact ⟨_,hl,by simp only [ownS,hh0];simp⟩) (by subst hr0;simpa using p1) hpp
   show Writes _ _ _ _ _ _ _ _ _ ((Y.next,SO.arr og ks (E.A.app rows rows2)) :: (nm,SO.gone) :: Y.objs) _
   rw [eapp,hr0]
   exact this
  have hown:ownS C nm (.arr og ks rows):=by simp only [ownS,hh0];intro e;cases e
  exact onArr hl hown hh0 ex hlr o1 o2 o3 o4 p1 hpp
 rotate_left
 ·cases hw
 rename_i nm n hx
 split at hw
 rotate_left
 ·cases hw
 rename_i og ks' rows hl
 split at hw
 rotate_left
 ·cases hw
 rename_i hb
 rw [zC] at hb
 have hk:=kds_eq hb.1
 subst hk
 simp only [zA] at hw
 subst hw
 obtain ⟨vx,ex,x2⟩:=hev.get hx (by intro e;cases e)
 simp only [RvS,VwR] at x2
 have p1:=hp _ (.head _)
 have p2:=hp _ (.tail _ (.head _))
 rw [hA] at p1 p2
 have p1:(n+rows2.length) * ety.bytes<=4294967296/\n+rows2.length<=4294967296:=p1
 have p2:n<=rows.length:=p2
 have hpp:∀q∈p,q:=fun q hq=>hp q (.tail _ (.tail _ hq))
 have esub:E.A.sub' rows 0 n=rows.take n:=by rw [hA];show (rows.drop 0).take n=_;rw [qO]
 have tl:(rows.take n).length=n:=by rw [zZ];omega
 have hob:=hM.ob _ _ hl
 simp only [ObS] at hob
 refine ⟨_,footE ex,?_⟩
 obtain ⟨hnm,⟨hh0,hv0,hn0⟩ |⟨es,len,cap0,off,cap,hh0,rfl,hoff,hcap,hln⟩⟩:=x2
 ·have:=onNil (dead:=some nm) (og:=og) hv0 ex (fun nm' e=>by cases e;exact ⟨_,hl,by simp only [ownS,hh0];simp⟩) (by subst hn0;simpa using p1) hpp
  show Writes _ _ _ _ _ _ _ _ _ ((Y.next,SO.arr og ks (E.A.app (E.A.sub' rows 0 n) rows2)) :: (nm,SO.gone) :: Y.objs) _
  have e0:E.A.app (E.A.sub' rows 0 n) rows2=rows2:=by rw [esub,hA,hn0];rfl
  rw [e0]
  exact this
 obtain ⟨⟨_,hlr⟩,⟨_,hh1⟩ |⟨t0,m0,cap1,hh1,o1,o2,o3,o4⟩⟩:=hob
 ·rw [hh0] at hh1;cases hh1
 have hown:ownS C nm (.arr og ks rows):=by simp only [ownS,hh0];intro e;cases e
 rw [hh0] at hh1
 simp only [V.slc.injEq,true_and] at hh1
 obtain ⟨rfl,rfl,rfl⟩:=hh1
 have hoff:off=0:=by
  rcases hoff with ⟨_,h⟩ |h
  ·exact h
  rw [h];exact Nat.zero_mul _
 subst hoff
 show Writes _ _ _ _ _ _ _ _ _ ((Y.next,SO.arr og ks (E.A.app (E.A.sub' rows 0 n) rows2)) :: kill (some nm) Y.objs) _
 rw [esub]
 refine onArr (rows:=rows.take n) hl hown (by rw [tl]) ex ⟨fun row h=>hlr.1 row (xT h),by rw [tl];have:=hlr.2;omega⟩ o1 (by rw [tl];exact zT (zP _ p2) o2) (fun c hc=>?_) (fun i hi=>?_) (by rw [tl];exact p1) hpp
 ·obtain ⟨h1,c0,h2,h3⟩:=hcap c hc
  exact ⟨by rw [tl];exact h1,zT (zP _ h3) (o3 c0 h2).2⟩
 rw [tl] at hi
 have e:∀c,gt (rows.take n) i c=gt rows i c:=fun c=>by simp only [gt,zH,xJ,if_pos hi]
 rw [show gt (rows.take n) i=gt rows i from funext e]
 exact o4 i (by omega)
theorem zeros_ok (hT:TOk E.E) {c:Call} {t t':Nat} {x y:Operand} (hc:c.callee=.builtin .append) (ha:c.args.toList=[x,y]) (hat:c.argTypes.toList=[t,t']) (htt:t≠t') {ev:Operand->SV} {evc:Operand->Option V} (hev:EvOk C Y.next ev evc) {w:WR} (hw:xzeros E Y t t' (ev x) (ev y)=some w) (hp:∀p∈w.pre,p) :
  ∃F,foot evc (.call c)=some F/\Writes C Y.objs Y.next bar h nx F (fun barv hv k=>opM E.E barv evc hv nx (.call c) k) w.sv w.objs w.next:=by
 unfold xzeros at hw
 split at hw
 rotate_left
 ·cases hw
 rename_i ks ety kk n hks hk' hx hy
 split at hw
 rotate_left
 ·cases hw
 rename_i z hz
 simp only [zA] at hw
 subst hw
 have p1:=hp _ (.head _)
 have p2:=hp _ (.tail _ (.head _))
 have p3:=hp _ (.tail _ (.tail _ (.head _)))
 rw [hA] at p1 p2 p3
 have p1:0<=n:=p1
 obtain ⟨n',rfl,hn'⟩:=toNat_of hA p1
 have p2:n' * ety.size<=4096:=by have h3:((n':Nat):Int) * (ety.size:Int)<=4096:=p2;rw [<-Int.natCast_mul] at h3;omega
 have p3:n' * ety.bytes<=4294967296/\n'<=4294967296:=p3
 obtain ⟨e,k1,k2,k3,k4,k5⟩:=eKs_ok hks
 have hksp:0 < ks.length:=by omega
 obtain ⟨vx,e1,e2⟩:=hev.get hx (by intro e;cases e)
 obtain ⟨vy,e3,e4⟩:=hev.get hy (by intro e;cases e)
 simp only [RvS] at e2 e4
 subst e2 e4
 have hbt:Nat.beq t t'=false:=by
  cases hb:Nat.beq t t' with
  |true=>exact absurd (zF hb) htt
  |false=>rfl
 have erep:E.A.rep (E.A.toNat (Int.ofNat n')) z=List.replicate n' z:=by rw [hA];rfl
 refine ⟨[],by simp only [foot,ha,foot1_eq e1,foot1_eq e3];rfl,?_⟩
 cases n' with
 |zero=>
  obtain ⟨a,b⟩:=hM.put0 (dead:=none) (og:=Y.next) hksp (fun nm e=>by cases e)
  show Writes _ _ _ _ _ _ _ _ _ ((Y.next,SO.arr Y.next ks (E.A.rep (E.A.toNat (Int.ofNat 0)) z)) :: kill none Y.objs) _
  rw [erep]
  refine ⟨.nils,_,h,nx,a,b,?_,fun _ _ _=>rfl,fun hv barv h1 h2=>⟨hv,fun k=>?_,fun id=>?_⟩⟩
  ·simp only [RvS,Cx.put,if_true,isHdr]
   exact ⟨zM _,trivial,.inl trivial⟩
  ·simp only [opM,hc,ha,hat,evL,e1,e3,biX,k5,k1,k2,hbt,hk']
  split
  next hid=>
   rcases hid with hid |hid
   ·simp at hid
   omega
  rfl
 |succ n'=>
  obtain ⟨⟨z1,z0⟩,z2⟩:=zD_ok (g:=C.g) (B:=nx) hz
  have hone:oneAll (CX.rep (n'+1) ety.zero)=true:=by
   rw [oneAll_iff]
   exact rep_mem (hT.zone _ _ k2) (n'+1)
  have hlen:(CX.rep (n'+1) ety.zero).length=(n'+1) * ks.length:=by rw [rep_len,hT.zlen _ _ k2,k3]
  obtain ⟨tt,w1,w2⟩:=wrt_eq (CX.rep (n'+1) ety.zero) .e 0
  have hbound:n'+1<=9223372036854775807:=by omega
  obtain ⟨a,b⟩:=new_arr hM (ks:=ks) (by omega) (rows:=E.A.rep (E.A.toNat (Int.ofNat (n'+1))) z) ⟨by rw [erep];intro row hr;rw [(List.mem_replicate.1 hr).2,z0],by rw [erep,xC];exact hbound⟩ (t:=tt) (m:=(n'+1) * ks.length) (cap:=none) (by rw [erep,xC];exact zB _)
   (fun c hc=>by cases hc) (fun i hi=>by
    rw [erep,xC] at hi
    refine FzR.of _ _ _ _ fun j k hk=>?_
    obtain ⟨v,g1,g2⟩:=z2 j k hk
    have hj:j < ks.length:=(xB.1 hk).1
    refine ⟨v,?_,?_⟩
    ·have hle:(i+1) * ks.length<=(n'+1) * ks.length:=zP _ (by omega)
     rw [zR] at hle
     rw [w2,if_pos ⟨by omega,by rw [hlen];omega⟩,kO,zO,<-z1,rep_get (n'+1) i j (by omega) (by omega)]
     exact g1
    rw [erep]
    simp only [gt,zH,xX,hi,if_true,kK,zO]
    simpa [zH] using g2)
  refine ⟨.slc nx ks.length 0 (n'+1) none,_,_,nx+1,a,b,?_,fun id _ hid=>?_,fun hv barv _ _=>⟨hv.up nx (some (.cells tt ((n'+1) * ks.length))),fun k=>?_,fun id=>?_⟩⟩
  ·simp only [RvS,Cx.put,if_true,isHdr,erep,xC]
   exact ⟨zM _,trivial,.inr ⟨_,_,_,_,_,rfl⟩⟩
  ·show (if id=nx then _ else h id)=h id
   rw [if_neg (by omega)]
  ·have c1:(Nat.ble (Nat.mul (n'+1) ety.size) 4096 && roomOk ety.bytes (n'+1))=true:=by
    rw [show Nat.ble (Nat.mul (n'+1) ety.size) 4096=true from bleT p2]
    simp only [roomOk,Bool.true_and,zC]
    exact ⟨bleT p3.1,bleT p3.2⟩
   simp only [opM,hc,ha,hat,evL,e1,e3,biX,k5,k1,k2,hbt,hk',Int.ofNat_eq_natCast]
   show (match Nat.ble (Nat.mul (n'+1) ety.size) 4096 && roomOk ety.bytes (n'+1) with
    |true=>fL (CX.rep (n'+1) ety.zero) fun new=>grown hv nx ety.size (n'+1) new k
    |false=>none)=_
   simp only [c1,fL_eq,grown,CX.newRow,hone,w1,fN_eq,len_eq,hlen,CX.new,T.set_eq,k3]
  exact upGet _ _ _ _ _
omit hA hM in
theorem appendS_row {t:Nat} {x:SV} {nm rn i:Nat}:xappendS E Y t x (.mrow nm rn i)=none:=by
 unfold xappendS
 split
 ·have:∀ks,srcOf E Y ks (.mrow nm rn i)=none:=fun ks=>by simp [srcOf,norm]
  rw [this]
 rfl
open Classical in
theorem appendM_ok {c:Call} {t t':Nat} {x y:Operand} (hc:c.callee=.builtin .append) (ha:c.args.toList=[x,y]) (hat:c.argTypes.toList=[t,t']) (htt:t=t') {ev:Operand->SV} {evc:Operand->Option V} (hev:EvOk C Y.next ev evc) {w:WR} (hw:xappendM E Y t (ev x) (ev y)=some w) (hp:∀p∈w.pre,p) :
  ∃F,foot evc (.call c)=some F/\Writes C Y.objs Y.next bar h nx F (fun barv hv k=>opM E.E barv evc hv nx (.call c) k) w.sv w.objs w.next:=by
 unfold xappendM at hw
 split at hw
 rotate_left
 ·exact appendS_ok hA hM hc ha hat htt hev hw hp
 rename_i nm rn i hx
 split at hw
 rotate_left
 ·cases hw
 rename_i og ks rows rn' hl
 split at hw
 rotate_left
 ·cases hw
 rename_i hr
 simp only [beqN_iff] at hr
 subst hr
 split at hw
 rotate_left
 ·cases hw
 rename_i w' hw'
 simp only [zA] at hw
 subst hw
 have p1:=hp _ (.head _)
 rw [hA] at p1
 have p1:((i:Nat):Int) < ((rows.length:Nat):Int):=p1
 have p1:i < rows.length:=by omega
 obtain ⟨j,l,v,h1,h2,h3,m1,m2⟩:=hM.out hl p1
 have eget:E.A.dl (E.A.get rows i 0)=(gt rows i 0).rows:=by rw [hA];rfl
 rw [eget] at hw'
 obtain ⟨vx,e1,e2⟩:=hev.get hx (by intro e;cases e)
 simp only [RvS] at e2
 obtain ⟨⟨hnm,hrn⟩,_,l',g1,g2⟩:=e2
 rw [h1] at g1
 simp only [V.tup.injEq] at g1
 subst g1
 rw [h2] at g2
 simp only [zA] at g2
 subst g2
 have hyx:y≠x:=fun e=>by
  subst e
  rw [hx,appendS_row] at hw'
  cases hw'
 have hev1:EvOk (C.put Y.next j v nx) (Y.next+1) (fun o=>if o=x then .slc Y.next else ev o) evc:=fun o=>by
  by_cases c:o=x
  ·subst c
   simp only [if_true]
   refine .inr ⟨v,e1,?_⟩
   simp only [RvS,Cx.put,if_true]
   exact ⟨zM _,trivial,h3⟩
  simp only [if_neg c]
  rcases hev o with h |⟨u,q1,q2⟩
  ·exact .inl h
  exact .inr ⟨u,q1,RvS.ag m2.ag (zQ _) _ _ q2⟩
 obtain ⟨F,f1,v',C',h',nx',w1,w2,w3,w4,w5⟩:=appendS_ok hA (Y:=⟨Y.nt,Y.regs,(Y.next,.arr Y.next ks (gt rows i 0).rows) :: (nm,.mat og ks rows rn (some i)) :: Y.objs,Y.next+1,Y.df⟩) m1 hc ha hat htt hev1 (w:=w') (by simp only [if_true,if_neg hyx];exact hw') (fun p hp'=>hp p (.tail _ hp'))
 exact ⟨F,f1,v',C',h',nx',w1,m2.trans w2,w3,w4,w5⟩
theorem append_ok {c:Call} {t t':Nat} {x y:Operand} (hc:c.callee=.builtin .append) (ha:c.args.toList=[x,y]) (hat:c.argTypes.toList=[t,t']) (htt:t=t') {ev:Operand->SV} {evc:Operand->Option V} (hev:EvOk C Y.next ev evc) {w:WR} (hw:xappend E Y t (ev x) (ev y)=some w) (hp:∀p∈w.pre,p) :
  ∃F,foot evc (.call c)=some F/\Writes C Y.objs Y.next bar h nx F (fun barv hv k=>opM E.E barv evc hv nx (.call c) k) w.sv w.objs w.next:=by
 unfold xappend at hw
 split at hw
 next w' hw'=>
  simp only [zA] at hw
  subst hw
  exact appendV_ok hA hM hc ha hat htt hev hw' hp
 exact appendM_ok hA hM hc ha hat htt hev hw hp
theorem xw_ok (hT:TOk E.E) {op:Op} {ev:Operand->SV} {evc:Operand->Option V} (hev:EvOk C Y.next ev evc) {w:WR} (hw:xw E Y ev op=some w) (hp:∀p∈w.pre,p) :
  ∃F,foot evc op=some F/\Writes C Y.objs Y.next bar h nx F (fun barv hv k=>opM E.E barv evc hv nx op k) w.sv w.objs w.next:=by
 unfold xw at hw
 split at hw
 next t=>
  split at hw
  next ty hty=>
   split at hw
   next ho=>
    simp only [zA] at hw
    subst hw
    exact ⟨[],rfl,alloc_ok hT hM hty ho⟩
   cases hw
  cases hw
 next t x=>
  split at hw
  next ho=>
   simp only [zA] at hw
   subst hw
   exact ⟨[],rfl,box_ok hT hM hev ho⟩
  cases hw
 next t n ps=>
  exact ⟨[],rfl,buildSlice_ok hT hM hev hw⟩
 next t x v=>
  exact store_ok hA hM hev hw hp
 next t l c=>
  exact ⟨[],rfl,makeSlice_ok hA hT hM hev hw hp⟩
 rotate_left
 ·cases hw
 rename_i c
 split at hw
 next hc=>
  split at hw
  next x y t t' ha hat=>
   split at hw
   next hb=>
    simp only [beqN_iff] at hb
    exact append_ok hA hM hc ha hat hb hev hw hp
   rename_i hb
   simp only [beqN_not] at hb
   exact zeros_ok hA hM hT hc ha hat hb hev hw hp
  cases hw
 next hc=>
  split at hw
  next x y t ts ha hat=>
   exact copy_ok hA hM hc ha hat hev hw hp
  cases hw
 next hc=>
  split at hw
  next x t ha hat=>
   exact clear_ok hA hT hM hc ha hat hev hw hp
  cases hw
 cases hw
end
end HX
