/-
  SensePacks: for all events, bytes and numbers, the function returns true, and its arguments read as they did.
-/
import Derived.Test.YtmnaiddobipclaaSensePacks12
import Derived.Test.YtmnaiddobipclaaRows
set_option linter.all false
noncomputable section
namespace HX
open Go Go.Proofs CX
set_option maxHeartbeats 4000000 in
set_option maxRecDepth 100000 in
set_option cbv.maxSteps 3000000 in
theorem walk30 {ro A pre fn} (hE:EnvOk ⟨A,(cxE ro),ksF,sigL [(28,⟨[(false,[.sl [.int .i64,.int .i64]])],[(false,[.sl [.int .u8]]),(false,[.int .i64])],false⟩),(53,⟨[(false,[.int .i64]),(false,[.int .i64]),(false,[.int .i64])],[(false,[.bool])],false⟩),(65,⟨[(true,[.int .i64,.int .i64]),(false,[.int .i64])],[(true,[.int .i64,.int .i64])],false⟩),(66,⟨[(false,[.sl [.int .u8]])],[(false,[.int .i64]),(false,[.int .i64])],false⟩),(89,⟨[(true,[.int .i64,.int .i64])],[(false,[.int .i64])],false⟩)],pre,fn⟩) {P:List (List D)->Prop} {res:List (List D)->Nat->Nat->D}
  (hv:∀(a0:Rows),ShR [.int .u8] a0->P [[.l a0]]->V30 pre fn a0 (res [[.l a0]])) :
  PureC (cxE ro) 30 ⟨[(false,[.sl [.int .u8]])],[(false,[.sl [.int .i64,.int .i64]]),(false,[.int .i64])],false⟩ P res:=by
 have h:=hE.A
 simp only [] at h
 have hinl:∀f fn,inlL [(73,Try.f73),(94,Try.f94),(95,Try.f95)] f=some fn->(cxE ro).fn f=some fn/\(cxE ro).ext f=none:=Inls.ok (by repeat (first |exact .nil |refine .cons rfl rfl ?_))
 refine PureC.of_vcJ hE [14,16] hinl 6 (f:=30) (fn:=Try.f30) ⟨rfl,rfl⟩ ?_
 intro a0 ha0 hP
 obtain ⟨R,hR⟩:∃R,res [[.l a0]]=R:=⟨_,rfl⟩
 rw [hR]
 have hV:=hv a0 ha0 hP
 rw [hR] at hV
 clear hR hP hv
 cbv
 repeat' first|(refine Br.mk (fun _=>?_) (fun _=>?_)<;>cbv)|(refine NilB.mk (fun _=>?_) ?_<;>cbv)|refine And.intro ?_ ?_|exact True.intro
 ·next a=>subst h;exact hV.g0 (dt a)
 ·next a=>subst h;exact hV.g1 (dt a)
 ·next a=>subst h;exact hV.g2 (df a)
 ·next a=>subst h;exact hV.g3 (df a)
 ·next a=>subst h;exact hV.g4 (df a)
 ·next a=>subst h;exact hV.g5 (df a)
 ·next a=>subst h;exact hV.g2 (df a)
 ·next a=>subst h;exact hV.g3 (df a)
 ·next a=>subst h;exact hV.g8 (df a)
 ·next a=>subst h;exact hV.g9 (df a)
 ·next a=>subst h;exact hV.g10 (df a)
 ·next a b=>subst h;exact hV.g11 (df a) (df (nt b))
 ·next a b=>subst h;exact hV.g12 (df a) (df (nt b))
 ·next a b=>subst h;exact hV.g13 (df a) (dt (nf b))
 ·next a b=>subst h;exact hV.g14 (df a) (dt (nf b))
 ·next a b=>subst h;exact hV.g15 (df a) (dt (nf b))
 ·next a b=>subst h;exact hV.g16 (df a) (dt (nf b))
 ·next a b=>subst h;exact hV.g17 (df a) (dt (nf b))
 ·next a b c=>subst h;exact hV.g18 (df a) (dt (nf b)) (df (nt c))
 ·next a b c=>subst h;exact hV.g19 (df a) (dt (nf b)) (df (nt c))
 ·next a b c=>subst h;exact hV.g20 (df a) (dt (nf b)) (dt (nf c))
 ·next a b c=>subst h;exact hV.g21 (df a) (dt (nf b)) (dt (nf c))
 ·next a b c=>subst h;exact hV.g22 (df a) (dt (nf b)) (dt (nf c))
 ·next a b c=>subst h;exact hV.g23 (df a) (dt (nf b)) (dt (nf c))
 ·next a b c=>subst h;exact hV.g24 (df a) (dt (nf b)) (dt (nf c))
 ·next a b c=>subst h;exact hV.g25 (df a) (dt (nf b)) (dt (nf c))
 ·next a b c=>subst h;exact hV.g26 (df a) (dt (nf b)) (dt (nf c))
 ·next a b c=>subst h;exact hV.g27 (df a) (dt (nf b)) (dt (nf c))
 ·next a b c=>subst h;exact hV.g28 (df a) (dt (nf b)) (dt (nf c))
 ·next a b c=>subst h;exact hV.g29 (df a) (dt (nf b)) (dt (nf c))
 ·next a b c=>subst h;exact hV.g30 (df a) (dt (nf b)) (dt (nf c))
 ·next a b c=>subst h;exact hV.g31 (df a) (dt (nf b)) (dt (nf c))
 ·next a b c=>subst h;exact hV.g32 (df a) (dt (nf b)) (dt (nf c))
 ·next a b c=>subst h;exact hV.g33 (df a) (dt (nf b)) (dt (nf c))
 ·next a b c=>subst h;exact hV.g34 (df a) (dt (nf b)) (dt (nf c))
 ·next a b c=>subst h;exact hV.g35 (df a) (dt (nf b)) (dt (nf c))
 ·next a b c=>subst h;exact hV.g36 (df a) (dt (nf b)) (dt (nf c))
 ·next a b c=>subst h;exact hV.g37 (df a) (dt (nf b)) (dt (nf c))
 ·next a b c=>subst h;exact hV.g38 (df a) (dt (nf b)) (dt (nf c))
 ·next a b c=>subst h;exact hV.g39 (df a) (dt (nf b)) (dt (nf c))
 rename_i p40a p40b p40c
 refine Leaf.gen fun σz hσz=>?_
 obtain ⟨I0,m0,i0,c0⟩:V30l0 pre fn a0 R:=by subst h;exact hV.l0 (df p40a) (dt (nf p40b)) (dt (nf p40c))
 refine loopBJ hE [14,16] hinl 6 [] [2,3] [(2,[0,0,0]),(3,[0,0]),(4,[0,0])] (fun x:Rows×Int×Rows×Int×Bool×Int×Int×Int×Int=>[.l x.1,.i x.2.1,D.l [[.l x.2.2.1,.i x.2.2.2.1,.b x.2.2.2.2.1]],D.l [[.i x.2.2.2.2.2.1,.i x.2.2.2.2.2.2.1]],D.l [[.i x.2.2.2.2.2.2.2.1,.i x.2.2.2.2.2.2.2.2]]]) (fun x=>I0 x.1 x.2.1 x.2.2.1 x.2.2.2.1 x.2.2.2.2.1 x.2.2.2.2.2.1 x.2.2.2.2.2.2.1 x.2.2.2.2.2.2.2.1 x.2.2.2.2.2.2.2.2) (fun x=>m0 x.1 x.2.1 x.2.2.1 x.2.2.2.1 x.2.2.2.2.1 x.2.2.2.2.2.1 x.2.2.2.2.2.2.1 x.2.2.2.2.2.2.2.1 x.2.2.2.2.2.2.2.2) ([],0,A.sub' a0 (A.toNat 5) (A.nsub (A.toNat (A.sub (A.nat (A.len a0)) 2)) (A.toNat 5)),0,false,4,1,4,1) (by subst h;exact i0) ?_ ?_<;>subst hσz
 ·clear hE hinl hV;cbv;(try repeat' first|rfl|assumption|constructor)
 intro ⟨q0,q1,q2,q3,q4,q5,q6,q7,q8⟩ hI0 K0 hK0
 have h0:=c0 _ _ _ _ _ _ _ _ _ hI0
 cbv
 repeat' first|(refine Br.mk (fun _=>?_) (fun _=>?_)<;>cbv)|(refine NilB.mk (fun _=>?_) ?_<;>cbv)|refine And.intro ?_ ?_|exact True.intro
 next p41a p41b=>
  refine Leaf.gen fun σz hσz=>?_
  obtain ⟨I1,r1,c1⟩:V30j1 pre fn R q0 q1 q2 q3 q4 q5 q6 q7 q8 I0 m0:=by subst h;exact h0.l1 (dt p41a) (nt p41b)
  refine joinR hE hinl 6 [] [] [] [(13,SV.int .i64 0)] [(2,[0,0,0])] (fun x:Int×Rows×Int×Bool=>[.i x.1,D.l [[.l x.2.1,.i x.2.2.1,.b x.2.2.2]]]) (fun x=>I1 x.1 x.2.1 x.2.2.1 x.2.2.2) ?_ ?_<;>subst hσz
  ·intro K1 hK1
   cbv
   repeat' first|(refine Br.mk (fun _=>?_) (fun _=>?_)<;>cbv)|(refine NilB.mk (fun _=>?_) ?_<;>cbv)|refine And.intro ?_ ?_|exact True.intro
   refine Leaf.gen fun σz hσz=>?_
   obtain ⟨I2,m2,i2,c2⟩:V30l2 pre fn q2 q3 q4 q5 q6 I1:=by subst h;exact r1.l2
   refine loopBJ hE [14,16] hinl 6 [] [] [(2,[0,0,0])] (fun x:Int×Rows×Int×Bool=>[.i x.1,D.l [[.l x.2.1,.i x.2.2.1,.b x.2.2.2]]]) (fun x=>I2 x.1 x.2.1 x.2.2.1 x.2.2.2) (fun x=>m2 x.1 x.2.1 x.2.2.1 x.2.2.2) (0,q2,q3,q4) (by subst h;exact i2) ?_ ?_<;>subst hσz
   ·clear hE hinl hV;cbv;(try repeat' first|rfl|assumption|constructor)
   intro ⟨t0,t1,t2,t3⟩ hI2 K2 hK2
   have h2:=c2 _ _ _ _ hI2
   cbv
   repeat' first|(refine Br.mk (fun _=>?_) (fun _=>?_)<;>cbv)|(refine NilB.mk (fun _=>?_) ?_<;>cbv)|refine And.intro ?_ ?_|exact True.intro
   ·next a=>subst h;exact h2.g43 (dt a)
   next p44a p44b p44c=>
    exfalso;subst h;simp [Ar.std] at p44c
   next p45a p45b p45c=>
    exfalso;subst h;simp [Ar.std] at p45c
   next p46a p46b p46c p46d=>
    refine Leaf.gen fun σz hσz=>?_
    obtain ⟨I3,m3,i3,c3⟩:V30l3 t1 t2 I1:=by subst h;exact h2.l3 (dt p46a) (dt p46b) (dt p46d)
    refine loopBJ hE [14,16] hinl 6 [] [] [(2,[0,0,0])] (fun x:Int×Int×Rows×Int×Bool=>[.i x.1,.i x.2.1,D.l [[.l x.2.2.1,.i x.2.2.2.1,.b x.2.2.2.2]]]) (fun x=>I3 x.1 x.2.1 x.2.2.1 x.2.2.2.1 x.2.2.2.2) (fun x=>m3 x.1 x.2.1 x.2.2.1 x.2.2.2.1 x.2.2.2.2) (0,0,t1,t2,true) (by subst h;exact i3) ?_ ?_<;>subst hσz
    ·clear hE hinl hV;cbv;(try repeat' first|rfl|assumption|constructor)
    intro ⟨u0,u1,u2,u3,u4⟩ hI3 K3 hK3
    have h3:=c3 _ _ _ _ _ hI3
    cbv
    repeat' first|(refine Br.mk (fun _=>?_) (fun _=>?_)<;>cbv)|(refine NilB.mk (fun _=>?_) ?_<;>cbv)|refine And.intro ?_ ?_|exact True.intro
    ·next a=>subst h;exact h3.g47 (dt a)
    ·next a=>subst h;exact h3.g48 (dt a)
    ·next a b=>subst h;exact h3.g49 (dt a) (dt b)
    ·next a b=>subst h;exact h3.g50 (dt a) (dt b)
    next p51a p51b=>
     refine hK3 (A.add (A.mul 2 u0) 0,A.add u1 1,u2,u3,true) _ ?_ ?_ ?_
     ·subst h;exact (h3.n51 (dt p51a) (dt p51b)).1
     ·subst h;exact (h3.n51 (dt p51a) (dt p51b)).2
     clear hE hinl hV hK3;cbv;(try repeat' first|rfl|assumption|constructor)
    ·next a b=>subst h;exact h3.g52 (dt a) (df b)
    ·next a b=>subst h;exact h3.g53 (dt a) (df b)
    ·next a b=>subst h;exact h3.g54 (dt a) (df b)
    ·next a b=>subst h;exact h3.g55 (dt a) (df b)
    ·next a b=>subst h;exact h3.g56 (dt a) (df b)
    ·next a b=>subst h;exact h3.g57 (dt a) (df b)
    ·next a b=>subst h;exact h3.g52 (dt a) (df b)
    ·next a b=>subst h;exact h3.g59 (dt a) (df b)
    ·next a b=>subst h;exact h3.g60 (dt a) (df b)
    ·next a b=>subst h;exact h3.g61 (dt a) (df b)
    ·next a b=>subst h;exact h3.g62 (dt a) (df b)
    ·next a b=>subst h;exact h3.g63 (dt a) (df b)
    ·next a b=>subst h;exact h3.g64 (dt a) (df b)
    next p65a p65b=>
     refine hK3 (A.add (A.mul 2 u0) (A.tmod (A.shr .i64 (A.di (A.get u2 (A.toNat (A.tdiv u3 8)) 0)) (A.sub 7 (A.tmod u3 8))) 2),A.add u1 1,u2,A.add u3 1,u4) _ ?_ ?_ ?_
     ·subst h;exact (h3.n65 (dt p65a) (df p65b)).1
     ·subst h;exact (h3.n65 (dt p65a) (df p65b)).2
     clear hE hinl hV hK3;cbv;(try repeat' first|rfl|assumption|constructor)
    rename_i p66a
    refine hK1 (u0,u2,u3,u4) _ ?_ ?_
    ·subst h;exact h3.n66 (df p66a)
    clear hE hinl hV hK1;cbv;(try repeat' first|rfl|assumption|constructor)
   ·next a b _ d=>subst h;exact h2.g67 (dt a) (dt b) (df d)
   ·next a b _ d=>subst h;exact h2.g68 (dt a) (dt b) (df d)
   next p69a p69b p69c p69d=>
    refine Leaf.gen fun σz hσz=>?_
    obtain ⟨I4,m4,i4,c4⟩:V30l4 fn q5 q6 t0 t1 t2 I1:=by subst h;exact h2.l4 (dt p69a) (dt p69b) (df p69d)
    refine loopBJ hE [14,16] hinl 6 [] [] [(2,[0,0,0])] (fun x:Int×Int×Rows×Int×Bool=>[.i x.1,.i x.2.1,D.l [[.l x.2.2.1,.i x.2.2.2.1,.b x.2.2.2.2]]]) (fun x=>I4 x.1 x.2.1 x.2.2.1 x.2.2.2.1 x.2.2.2.2) (fun x=>m4 x.1 x.2.1 x.2.2.1 x.2.2.2.1 x.2.2.2.2) (0,0,t1,t2,true) (by subst h;exact i4) ?_ ?_<;>subst hσz
    ·clear hE hinl hV;cbv;(try repeat' first|rfl|assumption|constructor)
    intro ⟨v0,v1,v2,v3,v4⟩ hI4 K4 hK4
    have h4:=c4 _ _ _ _ _ hI4
    cbv
    repeat' first|(refine Br.mk (fun _=>?_) (fun _=>?_)<;>cbv)|(refine NilB.mk (fun _=>?_) ?_<;>cbv)|refine And.intro ?_ ?_|exact True.intro
    ·next a=>subst h;exact h4.g70 (dt a)
    ·next a=>subst h;exact h4.g71 (dt a)
    ·next a b=>subst h;exact h4.g72 (dt a) (dt b)
    ·next a b=>subst h;exact h4.g73 (dt a) (dt b)
    next p74a p74b=>
     refine hK4 (A.add (A.mul 2 v0) 0,A.add v1 1,v2,v3,true) _ ?_ ?_ ?_
     ·subst h;exact (h4.n74 (dt p74a) (dt p74b)).1
     ·subst h;exact (h4.n74 (dt p74a) (dt p74b)).2
     clear hE hinl hV hK4;cbv;(try repeat' first|rfl|assumption|constructor)
    ·next a b=>subst h;exact h4.g75 (dt a) (df b)
    ·next a b=>subst h;exact h4.g76 (dt a) (df b)
    ·next a b=>subst h;exact h4.g77 (dt a) (df b)
    ·next a b=>subst h;exact h4.g78 (dt a) (df b)
    ·next a b=>subst h;exact h4.g79 (dt a) (df b)
    ·next a b=>subst h;exact h4.g80 (dt a) (df b)
    ·next a b=>subst h;exact h4.g75 (dt a) (df b)
    ·next a b=>subst h;exact h4.g82 (dt a) (df b)
    ·next a b=>subst h;exact h4.g83 (dt a) (df b)
    ·next a b=>subst h;exact h4.g84 (dt a) (df b)
    ·next a b=>subst h;exact h4.g85 (dt a) (df b)
    ·next a b=>subst h;exact h4.g86 (dt a) (df b)
    ·next a b=>subst h;exact h4.g87 (dt a) (df b)
    next p88a p88b=>
     refine hK4 (A.add (A.mul 2 v0) (A.tmod (A.shr .i64 (A.di (A.get v2 (A.toNat (A.tdiv v3 8)) 0)) (A.sub 7 (A.tmod v3 8))) 2),A.add v1 1,v2,A.add v3 1,v4) _ ?_ ?_ ?_
     ·subst h;exact (h4.n88 (dt p88a) (df p88b)).1
     ·subst h;exact (h4.n88 (dt p88a) (df p88b)).2
     clear hE hinl hV hK4;cbv;(try repeat' first|rfl|assumption|constructor)
    ·next a=>subst h;exact h4.g89 (df a)
    rename_i p90a
    refine hK1 (A.add (A.shl .i64 t0 (A.di (fn 89 [[D.i q5,D.i q6]] 0 0))) v0,v2,v3,v4) _ ?_ ?_
    ·subst h;exact h4.n90 (df p90a)
    clear hE hinl hV hK1;cbv;(try repeat' first|rfl|assumption|constructor)
   ·next a b=>subst h;exact h2.g91 (dt a) (df b)
   ·next a b=>subst h;exact h2.g92 (dt a) (df b)
   ·next a b=>subst h;exact h2.g93 (dt a) (df b)
   ·next a b=>subst h;exact h2.g94 (dt a) (df b)
   ·next a b=>subst h;exact h2.g95 (dt a) (df b)
   ·next a b=>subst h;exact h2.g96 (dt a) (df b)
   ·next a b=>subst h;exact h2.g91 (dt a) (df b)
   ·next a b=>subst h;exact h2.g98 (dt a) (df b)
   ·next a b=>subst h;exact h2.g99 (dt a) (df b)
   ·next a b=>subst h;exact h2.g100 (dt a) (df b)
   ·next a b=>subst h;exact h2.g101 (dt a) (df b)
   ·next a b c=>subst h;exact h2.g102 (dt a) (df b) (dt c)
   next p103a p103b p103c=>
    refine hK2 (A.add t0 1,t1,A.add t2 1,t3) _ ?_ ?_ ?_
    ·subst h;exact (h2.n103 (dt p103a) (df p103b) (dt p103c)).1
    ·subst h;exact (h2.n103 (dt p103a) (df p103b) (dt p103c)).2
    clear hE hinl hV hK2;cbv;(try repeat' first|rfl|assumption|constructor)
   next p104a p104b p104c p104d=>
    refine Leaf.gen fun σz hσz=>?_
    obtain ⟨I5,m5,i5,c5⟩:V30l5 t1 t2 t3 I1:=by subst h;exact h2.l5 (dt p104a) (df p104b) (df p104c) (dt p104d)
    refine loopBJ hE [14,16] hinl 6 [] [] [(2,[0,0,0])] (fun x:Int×Int×Rows×Int×Bool=>[.i x.1,.i x.2.1,D.l [[.l x.2.2.1,.i x.2.2.2.1,.b x.2.2.2.2]]]) (fun x=>I5 x.1 x.2.1 x.2.2.1 x.2.2.2.1 x.2.2.2.2) (fun x=>m5 x.1 x.2.1 x.2.2.1 x.2.2.2.1 x.2.2.2.2) (0,0,t1,A.add t2 1,t3) (by subst h;exact i5) ?_ ?_<;>subst hσz
    ·clear hE hinl hV;cbv;(try repeat' first|rfl|assumption|constructor)
    intro ⟨w0,w1,w2,w3,w4⟩ hI5 K5 hK5
    have h5:=c5 _ _ _ _ _ hI5
    cbv
    repeat' first|(refine Br.mk (fun _=>?_) (fun _=>?_)<;>cbv)|(refine NilB.mk (fun _=>?_) ?_<;>cbv)|refine And.intro ?_ ?_|exact True.intro
    ·next a=>subst h;exact h5.g47 (dt a)
    ·next a=>subst h;exact h5.g48 (dt a)
    ·next a b=>subst h;exact h5.g49 (dt a) (dt b)
    ·next a b=>subst h;exact h5.g50 (dt a) (dt b)
    next p109a p109b=>
     refine hK5 (A.add (A.mul 2 w0) 0,A.add w1 1,w2,w3,true) _ ?_ ?_ ?_
     ·subst h;exact (h5.n51 (dt p109a) (dt p109b)).1
     ·subst h;exact (h5.n51 (dt p109a) (dt p109b)).2
     clear hE hinl hV hK5;cbv;(try repeat' first|rfl|assumption|constructor)
    ·next a b=>subst h;exact h5.g52 (dt a) (df b)
    ·next a b=>subst h;exact h5.g53 (dt a) (df b)
    ·next a b=>subst h;exact h5.g54 (dt a) (df b)
    ·next a b=>subst h;exact h5.g55 (dt a) (df b)
    ·next a b=>subst h;exact h5.g56 (dt a) (df b)
    ·next a b=>subst h;exact h5.g57 (dt a) (df b)
    ·next a b=>subst h;exact h5.g52 (dt a) (df b)
    ·next a b=>subst h;exact h5.g59 (dt a) (df b)
    ·next a b=>subst h;exact h5.g60 (dt a) (df b)
    ·next a b=>subst h;exact h5.g61 (dt a) (df b)
    ·next a b=>subst h;exact h5.g62 (dt a) (df b)
    ·next a b=>subst h;exact h5.g63 (dt a) (df b)
    ·next a b=>subst h;exact h5.g64 (dt a) (df b)
    next p123a p123b=>
     refine hK5 (A.add (A.mul 2 w0) (A.tmod (A.shr .i64 (A.di (A.get w2 (A.toNat (A.tdiv w3 8)) 0)) (A.sub 7 (A.tmod w3 8))) 2),A.add w1 1,w2,A.add w3 1,w4) _ ?_ ?_ ?_
     ·subst h;exact (h5.n65 (dt p123a) (df p123b)).1
     ·subst h;exact (h5.n65 (dt p123a) (df p123b)).2
     clear hE hinl hV hK5;cbv;(try repeat' first|rfl|assumption|constructor)
    rename_i p124a
    refine hK1 (w0,w2,w3,w4) _ ?_ ?_
    ·subst h;exact h5.n66 (df p124a)
    clear hE hinl hV hK1;cbv;(try repeat' first|rfl|assumption|constructor)
   ·next a b c d=>subst h;exact h2.g125 (dt a) (df b) (df c) (df d)
   ·next a b c d=>subst h;exact h2.g126 (dt a) (df b) (df c) (df d)
   next p127a p127b p127c p127d=>
    refine Leaf.gen fun σz hσz=>?_
    obtain ⟨I6,m6,i6,c6⟩:V30l6 fn q5 q6 t0 t1 t2 t3 I1:=by subst h;exact h2.l6 (dt p127a) (df p127b) (df p127c) (df p127d)
    refine loopBJ hE [14,16] hinl 6 [] [] [(2,[0,0,0])] (fun x:Int×Int×Rows×Int×Bool=>[.i x.1,.i x.2.1,D.l [[.l x.2.2.1,.i x.2.2.2.1,.b x.2.2.2.2]]]) (fun x=>I6 x.1 x.2.1 x.2.2.1 x.2.2.2.1 x.2.2.2.2) (fun x=>m6 x.1 x.2.1 x.2.2.1 x.2.2.2.1 x.2.2.2.2) (0,0,t1,A.add t2 1,t3) (by subst h;exact i6) ?_ ?_<;>subst hσz
    ·clear hE hinl hV;cbv;(try repeat' first|rfl|assumption|constructor)
    intro ⟨y0,y1,y2,y3,y4⟩ hI6 K6 hK6
    have h6:=c6 _ _ _ _ _ hI6
    cbv
    repeat' first|(refine Br.mk (fun _=>?_) (fun _=>?_)<;>cbv)|(refine NilB.mk (fun _=>?_) ?_<;>cbv)|refine And.intro ?_ ?_|exact True.intro
    ·next a=>subst h;exact h6.g70 (dt a)
    ·next a=>subst h;exact h6.g71 (dt a)
    ·next a b=>subst h;exact h6.g72 (dt a) (dt b)
    ·next a b=>subst h;exact h6.g73 (dt a) (dt b)
    next p132a p132b=>
     refine hK6 (A.add (A.mul 2 y0) 0,A.add y1 1,y2,y3,true) _ ?_ ?_ ?_
     ·subst h;exact (h6.n74 (dt p132a) (dt p132b)).1
     ·subst h;exact (h6.n74 (dt p132a) (dt p132b)).2
     clear hE hinl hV hK6;cbv;(try repeat' first|rfl|assumption|constructor)
    ·next a b=>subst h;exact h6.g75 (dt a) (df b)
    ·next a b=>subst h;exact h6.g76 (dt a) (df b)
    ·next a b=>subst h;exact h6.g77 (dt a) (df b)
    ·next a b=>subst h;exact h6.g78 (dt a) (df b)
    ·next a b=>subst h;exact h6.g79 (dt a) (df b)
    ·next a b=>subst h;exact h6.g80 (dt a) (df b)
    ·next a b=>subst h;exact h6.g75 (dt a) (df b)
    ·next a b=>subst h;exact h6.g82 (dt a) (df b)
    ·next a b=>subst h;exact h6.g83 (dt a) (df b)
    ·next a b=>subst h;exact h6.g84 (dt a) (df b)
    ·next a b=>subst h;exact h6.g85 (dt a) (df b)
    ·next a b=>subst h;exact h6.g86 (dt a) (df b)
    ·next a b=>subst h;exact h6.g87 (dt a) (df b)
    next p146a p146b=>
     refine hK6 (A.add (A.mul 2 y0) (A.tmod (A.shr .i64 (A.di (A.get y2 (A.toNat (A.tdiv y3 8)) 0)) (A.sub 7 (A.tmod y3 8))) 2),A.add y1 1,y2,A.add y3 1,y4) _ ?_ ?_ ?_
     ·subst h;exact (h6.n88 (dt p146a) (df p146b)).1
     ·subst h;exact (h6.n88 (dt p146a) (df p146b)).2
     clear hE hinl hV hK6;cbv;(try repeat' first|rfl|assumption|constructor)
    ·next a=>subst h;exact h6.g89 (df a)
    rename_i p148a
    refine hK1 (A.add (A.shl .i64 t0 (A.di (fn 89 [[D.i q5,D.i q6]] 0 0))) y0,y2,y3,y4) _ ?_ ?_
    ·subst h;exact h6.n90 (df p148a)
    clear hE hinl hV hK1;cbv;(try repeat' first|rfl|assumption|constructor)
   next p149a p149b=>
    refine Leaf.gen fun σz hσz=>?_
    obtain ⟨I7,m7,i7,c7⟩:V30l7 t1 t2 t3 I1:=by subst h;exact h2.l7 (df p149a) (dt p149b)
    refine loopBJ hE [14,16] hinl 6 [] [] [(2,[0,0,0])] (fun x:Int×Int×Rows×Int×Bool=>[.i x.1,.i x.2.1,D.l [[.l x.2.2.1,.i x.2.2.2.1,.b x.2.2.2.2]]]) (fun x=>I7 x.1 x.2.1 x.2.2.1 x.2.2.2.1 x.2.2.2.2) (fun x=>m7 x.1 x.2.1 x.2.2.1 x.2.2.2.1 x.2.2.2.2) (0,0,t1,t2,t3) (by subst h;exact i7) ?_ ?_<;>subst hσz
    ·clear hE hinl hV;cbv;(try repeat' first|rfl|assumption|constructor)
    intro ⟨z0,z1,z2,z3,z4⟩ hI7 K7 hK7
    have h7:=c7 _ _ _ _ _ hI7
    cbv
    repeat' first|(refine Br.mk (fun _=>?_) (fun _=>?_)<;>cbv)|(refine NilB.mk (fun _=>?_) ?_<;>cbv)|refine And.intro ?_ ?_|exact True.intro
    ·next a=>subst h;exact h7.g47 (dt a)
    ·next a=>subst h;exact h7.g48 (dt a)
    ·next a b=>subst h;exact h7.g49 (dt a) (dt b)
    ·next a b=>subst h;exact h7.g50 (dt a) (dt b)
    next p154a p154b=>
     refine hK7 (A.add (A.mul 2 z0) 0,A.add z1 1,z2,z3,true) _ ?_ ?_ ?_
     ·subst h;exact (h7.n51 (dt p154a) (dt p154b)).1
     ·subst h;exact (h7.n51 (dt p154a) (dt p154b)).2
     clear hE hinl hV hK7;cbv;(try repeat' first|rfl|assumption|constructor)
    ·next a b=>subst h;exact h7.g52 (dt a) (df b)
    ·next a b=>subst h;exact h7.g53 (dt a) (df b)
    ·next a b=>subst h;exact h7.g54 (dt a) (df b)
    ·next a b=>subst h;exact h7.g55 (dt a) (df b)
    ·next a b=>subst h;exact h7.g56 (dt a) (df b)
    ·next a b=>subst h;exact h7.g57 (dt a) (df b)
    ·next a b=>subst h;exact h7.g52 (dt a) (df b)
    ·next a b=>subst h;exact h7.g59 (dt a) (df b)
    ·next a b=>subst h;exact h7.g60 (dt a) (df b)
    ·next a b=>subst h;exact h7.g61 (dt a) (df b)
    ·next a b=>subst h;exact h7.g62 (dt a) (df b)
    ·next a b=>subst h;exact h7.g63 (dt a) (df b)
    ·next a b=>subst h;exact h7.g64 (dt a) (df b)
    next p168a p168b=>
     refine hK7 (A.add (A.mul 2 z0) (A.tmod (A.shr .i64 (A.di (A.get z2 (A.toNat (A.tdiv z3 8)) 0)) (A.sub 7 (A.tmod z3 8))) 2),A.add z1 1,z2,A.add z3 1,z4) _ ?_ ?_ ?_
     ·subst h;exact (h7.n65 (dt p168a) (df p168b)).1
     ·subst h;exact (h7.n65 (dt p168a) (df p168b)).2
     clear hE hinl hV hK7;cbv;(try repeat' first|rfl|assumption|constructor)
    rename_i p169a
    refine hK1 (z0,z2,z3,z4) _ ?_ ?_
    ·subst h;exact h7.n66 (df p169a)
    clear hE hinl hV hK1;cbv;(try repeat' first|rfl|assumption|constructor)
   ·next a b=>subst h;exact h2.g170 (df a) (df b)
   ·next a b=>subst h;exact h2.g171 (df a) (df b)
   rename_i p172a p172b
   refine Leaf.gen fun σz hσz=>?_
   obtain ⟨I8,m8,i8,c8⟩:V30l8 fn q5 q6 t0 t1 t2 t3 I1:=by subst h;exact h2.l8 (df p172a) (df p172b)
   refine loopBJ hE [14,16] hinl 6 [] [] [(2,[0,0,0])] (fun x:Int×Int×Rows×Int×Bool=>[.i x.1,.i x.2.1,D.l [[.l x.2.2.1,.i x.2.2.2.1,.b x.2.2.2.2]]]) (fun x=>I8 x.1 x.2.1 x.2.2.1 x.2.2.2.1 x.2.2.2.2) (fun x=>m8 x.1 x.2.1 x.2.2.1 x.2.2.2.1 x.2.2.2.2) (0,0,t1,t2,t3) (by subst h;exact i8) ?_ ?_<;>subst hσz
   ·clear hE hinl hV;cbv;(try repeat' first|rfl|assumption|constructor)
   intro ⟨o0,o1,o2,o3,o4⟩ hI8 K8 hK8
   have h8:=c8 _ _ _ _ _ hI8
   cbv
   repeat' first|(refine Br.mk (fun _=>?_) (fun _=>?_)<;>cbv)|(refine NilB.mk (fun _=>?_) ?_<;>cbv)|refine And.intro ?_ ?_|exact True.intro
   ·next a=>subst h;exact h8.g70 (dt a)
   ·next a=>subst h;exact h8.g71 (dt a)
   ·next a b=>subst h;exact h8.g72 (dt a) (dt b)
   ·next a b=>subst h;exact h8.g73 (dt a) (dt b)
   next p177a p177b=>
    refine hK8 (A.add (A.mul 2 o0) 0,A.add o1 1,o2,o3,true) _ ?_ ?_ ?_
    ·subst h;exact (h8.n74 (dt p177a) (dt p177b)).1
    ·subst h;exact (h8.n74 (dt p177a) (dt p177b)).2
    clear hE hinl hV hK8;cbv;(try repeat' first|rfl|assumption|constructor)
   ·next a b=>subst h;exact h8.g75 (dt a) (df b)
   ·next a b=>subst h;exact h8.g76 (dt a) (df b)
   ·next a b=>subst h;exact h8.g77 (dt a) (df b)
   ·next a b=>subst h;exact h8.g78 (dt a) (df b)
   ·next a b=>subst h;exact h8.g79 (dt a) (df b)
   ·next a b=>subst h;exact h8.g80 (dt a) (df b)
   ·next a b=>subst h;exact h8.g75 (dt a) (df b)
   ·next a b=>subst h;exact h8.g82 (dt a) (df b)
   ·next a b=>subst h;exact h8.g83 (dt a) (df b)
   ·next a b=>subst h;exact h8.g84 (dt a) (df b)
   ·next a b=>subst h;exact h8.g85 (dt a) (df b)
   ·next a b=>subst h;exact h8.g86 (dt a) (df b)
   ·next a b=>subst h;exact h8.g87 (dt a) (df b)
   next p191a p191b=>
    refine hK8 (A.add (A.mul 2 o0) (A.tmod (A.shr .i64 (A.di (A.get o2 (A.toNat (A.tdiv o3 8)) 0)) (A.sub 7 (A.tmod o3 8))) 2),A.add o1 1,o2,A.add o3 1,o4) _ ?_ ?_ ?_
    ·subst h;exact (h8.n88 (dt p191a) (df p191b)).1
    ·subst h;exact (h8.n88 (dt p191a) (df p191b)).2
    clear hE hinl hV hK8;cbv;(try repeat' first|rfl|assumption|constructor)
   ·next a=>subst h;exact h8.g89 (df a)
   rename_i p193a
   refine hK1 (A.add (A.shl .i64 t0 (A.di (fn 89 [[D.i q5,D.i q6]] 0 0))) o0,o2,o3,o4) _ ?_ ?_
   ·subst h;exact h8.n90 (df p193a)
   clear hE hinl hV hK1;cbv;(try repeat' first|rfl|assumption|constructor)
  intro ⟨s0,s1,s2,s3⟩ hI1
  have h1:=c1 _ _ _ _ hI1
  cbv
  repeat' first|(refine Br.mk (fun _=>?_) (fun _=>?_)<;>cbv)|(refine NilB.mk (fun _=>?_) ?_<;>cbv)|refine And.intro ?_ ?_|exact True.intro
  ·subst h;exact h1.g194
  refine Leaf.gen fun σz hσz=>?_
  obtain ⟨I9,r9,c9⟩:V30j9 pre fn R q0 q1 q2 q3 q4 q5 q6 q7 q8 s0 s1 s2 s3 I0 m0:=by subst h;exact h1.l9
  refine joinR hE hinl 6 [] [] [] [(14,SV.int .i64 0)] [(2,[0,0,0])] (fun x:Int×Rows×Int×Bool=>[.i x.1,D.l [[.l x.2.1,.i x.2.2.1,.b x.2.2.2]]]) (fun x=>I9 x.1 x.2.1 x.2.2.1 x.2.2.2) ?_ ?_<;>subst hσz
  ·intro K9 hK9
   cbv
   repeat' first|(refine Br.mk (fun _=>?_) (fun _=>?_)<;>cbv)|(refine NilB.mk (fun _=>?_) ?_<;>cbv)|refine And.intro ?_ ?_|exact True.intro
   refine Leaf.gen fun σz hσz=>?_
   obtain ⟨I10,m10,i10,c10⟩:V30l2 pre fn s1 s2 s3 q7 q8 I9:=by subst h;exact r9.l2
   refine loopBJ hE [14,16] hinl 6 [] [] [(2,[0,0,0])] (fun x:Int×Rows×Int×Bool=>[.i x.1,D.l [[.l x.2.1,.i x.2.2.1,.b x.2.2.2]]]) (fun x=>I10 x.1 x.2.1 x.2.2.1 x.2.2.2) (fun x=>m10 x.1 x.2.1 x.2.2.1 x.2.2.2) (0,s1,s2,s3) (by subst h;exact i10) ?_ ?_<;>subst hσz
   ·clear hE hinl hV;cbv;(try repeat' first|rfl|assumption|constructor)
   intro ⟨f0,f1,f2,f3⟩ hI10 K10 hK10
   have h10:=c10 _ _ _ _ hI10
   cbv
   repeat' first|(refine Br.mk (fun _=>?_) (fun _=>?_)<;>cbv)|(refine NilB.mk (fun _=>?_) ?_<;>cbv)|refine And.intro ?_ ?_|exact True.intro
   ·next a=>subst h;exact h10.g43 (dt a)
   next p198a p198b p198c=>
    exfalso;subst h;simp [Ar.std] at p198c
   next p199a p199b p199c=>
    exfalso;subst h;simp [Ar.std] at p199c
   next p200a p200b p200c p200d=>
    refine Leaf.gen fun σz hσz=>?_
    obtain ⟨I11,m11,i11,c11⟩:V30l3 f1 f2 I9:=by subst h;exact h10.l3 (dt p200a) (dt p200b) (dt p200d)
    refine loopBJ hE [14,16] hinl 6 [] [] [(2,[0,0,0])] (fun x:Int×Int×Rows×Int×Bool=>[.i x.1,.i x.2.1,D.l [[.l x.2.2.1,.i x.2.2.2.1,.b x.2.2.2.2]]]) (fun x=>I11 x.1 x.2.1 x.2.2.1 x.2.2.2.1 x.2.2.2.2) (fun x=>m11 x.1 x.2.1 x.2.2.1 x.2.2.2.1 x.2.2.2.2) (0,0,f1,f2,true) (by subst h;exact i11) ?_ ?_<;>subst hσz
    ·clear hE hinl hV;cbv;(try repeat' first|rfl|assumption|constructor)
    intro ⟨j0,j1,j2,j3,j4⟩ hI11 K11 hK11
    have h11:=c11 _ _ _ _ _ hI11
    cbv
    repeat' first|(refine Br.mk (fun _=>?_) (fun _=>?_)<;>cbv)|(refine NilB.mk (fun _=>?_) ?_<;>cbv)|refine And.intro ?_ ?_|exact True.intro
    ·next a=>subst h;exact h11.g47 (dt a)
    ·next a=>subst h;exact h11.g48 (dt a)
    ·next a b=>subst h;exact h11.g49 (dt a) (dt b)
    ·next a b=>subst h;exact h11.g50 (dt a) (dt b)
    next p205a p205b=>
     refine hK11 (A.add (A.mul 2 j0) 0,A.add j1 1,j2,j3,true) _ ?_ ?_ ?_
     ·subst h;exact (h11.n51 (dt p205a) (dt p205b)).1
     ·subst h;exact (h11.n51 (dt p205a) (dt p205b)).2
     clear hE hinl hV hK11;cbv;(try repeat' first|rfl|assumption|constructor)
    ·next a b=>subst h;exact h11.g52 (dt a) (df b)
    ·next a b=>subst h;exact h11.g53 (dt a) (df b)
    ·next a b=>subst h;exact h11.g54 (dt a) (df b)
    ·next a b=>subst h;exact h11.g55 (dt a) (df b)
    ·next a b=>subst h;exact h11.g56 (dt a) (df b)
    ·next a b=>subst h;exact h11.g57 (dt a) (df b)
    ·next a b=>subst h;exact h11.g52 (dt a) (df b)
    ·next a b=>subst h;exact h11.g59 (dt a) (df b)
    ·next a b=>subst h;exact h11.g60 (dt a) (df b)
    ·next a b=>subst h;exact h11.g61 (dt a) (df b)
    ·next a b=>subst h;exact h11.g62 (dt a) (df b)
    ·next a b=>subst h;exact h11.g63 (dt a) (df b)
    ·next a b=>subst h;exact h11.g64 (dt a) (df b)
    next p219a p219b=>
     refine hK11 (A.add (A.mul 2 j0) (A.tmod (A.shr .i64 (A.di (A.get j2 (A.toNat (A.tdiv j3 8)) 0)) (A.sub 7 (A.tmod j3 8))) 2),A.add j1 1,j2,A.add j3 1,j4) _ ?_ ?_ ?_
     ·subst h;exact (h11.n65 (dt p219a) (df p219b)).1
     ·subst h;exact (h11.n65 (dt p219a) (df p219b)).2
     clear hE hinl hV hK11;cbv;(try repeat' first|rfl|assumption|constructor)
    rename_i p220a
    refine hK9 (j0,j2,j3,j4) _ ?_ ?_
    ·subst h;exact h11.n66 (df p220a)
    clear hE hinl hV hK9;cbv;(try repeat' first|rfl|assumption|constructor)
   ·next a b _ d=>subst h;exact h10.g67 (dt a) (dt b) (df d)
   ·next a b _ d=>subst h;exact h10.g68 (dt a) (dt b) (df d)
   next p223a p223b p223c p223d=>
    refine Leaf.gen fun σz hσz=>?_
    obtain ⟨I12,m12,i12,c12⟩:V30l4 fn q7 q8 f0 f1 f2 I9:=by subst h;exact h10.l4 (dt p223a) (dt p223b) (df p223d)
    refine loopBJ hE [14,16] hinl 6 [] [] [(2,[0,0,0])] (fun x:Int×Int×Rows×Int×Bool=>[.i x.1,.i x.2.1,D.l [[.l x.2.2.1,.i x.2.2.2.1,.b x.2.2.2.2]]]) (fun x=>I12 x.1 x.2.1 x.2.2.1 x.2.2.2.1 x.2.2.2.2) (fun x=>m12 x.1 x.2.1 x.2.2.1 x.2.2.2.1 x.2.2.2.2) (0,0,f1,f2,true) (by subst h;exact i12) ?_ ?_<;>subst hσz
    ·clear hE hinl hV;cbv;(try repeat' first|rfl|assumption|constructor)
    intro ⟨X0,X1,X2,X3,X4⟩ hI12 K12 hK12
    have h12:=c12 _ _ _ _ _ hI12
    cbv
    repeat' first|(refine Br.mk (fun _=>?_) (fun _=>?_)<;>cbv)|(refine NilB.mk (fun _=>?_) ?_<;>cbv)|refine And.intro ?_ ?_|exact True.intro
    ·next a=>subst h;exact h12.g70 (dt a)
    ·next a=>subst h;exact h12.g71 (dt a)
    ·next a b=>subst h;exact h12.g72 (dt a) (dt b)
    ·next a b=>subst h;exact h12.g73 (dt a) (dt b)
    next p228a p228b=>
     refine hK12 (A.add (A.mul 2 X0) 0,A.add X1 1,X2,X3,true) _ ?_ ?_ ?_
     ·subst h;exact (h12.n74 (dt p228a) (dt p228b)).1
     ·subst h;exact (h12.n74 (dt p228a) (dt p228b)).2
     clear hE hinl hV hK12;cbv;(try repeat' first|rfl|assumption|constructor)
    ·next a b=>subst h;exact h12.g75 (dt a) (df b)
    ·next a b=>subst h;exact h12.g76 (dt a) (df b)
    ·next a b=>subst h;exact h12.g77 (dt a) (df b)
    ·next a b=>subst h;exact h12.g78 (dt a) (df b)
    ·next a b=>subst h;exact h12.g79 (dt a) (df b)
    ·next a b=>subst h;exact h12.g80 (dt a) (df b)
    ·next a b=>subst h;exact h12.g75 (dt a) (df b)
    ·next a b=>subst h;exact h12.g82 (dt a) (df b)
    ·next a b=>subst h;exact h12.g83 (dt a) (df b)
    ·next a b=>subst h;exact h12.g84 (dt a) (df b)
    ·next a b=>subst h;exact h12.g85 (dt a) (df b)
    ·next a b=>subst h;exact h12.g86 (dt a) (df b)
    ·next a b=>subst h;exact h12.g87 (dt a) (df b)
    next p242a p242b=>
     refine hK12 (A.add (A.mul 2 X0) (A.tmod (A.shr .i64 (A.di (A.get X2 (A.toNat (A.tdiv X3 8)) 0)) (A.sub 7 (A.tmod X3 8))) 2),A.add X1 1,X2,A.add X3 1,X4) _ ?_ ?_ ?_
     ·subst h;exact (h12.n88 (dt p242a) (df p242b)).1
     ·subst h;exact (h12.n88 (dt p242a) (df p242b)).2
     clear hE hinl hV hK12;cbv;(try repeat' first|rfl|assumption|constructor)
    ·next a=>subst h;exact h12.g89 (df a)
    rename_i p244a
    refine hK9 (A.add (A.shl .i64 f0 (A.di (fn 89 [[D.i q7,D.i q8]] 0 0))) X0,X2,X3,X4) _ ?_ ?_
    ·subst h;exact h12.n90 (df p244a)
    clear hE hinl hV hK9;cbv;(try repeat' first|rfl|assumption|constructor)
   ·next a b=>subst h;exact h10.g91 (dt a) (df b)
   ·next a b=>subst h;exact h10.g92 (dt a) (df b)
   ·next a b=>subst h;exact h10.g93 (dt a) (df b)
   ·next a b=>subst h;exact h10.g94 (dt a) (df b)
   ·next a b=>subst h;exact h10.g95 (dt a) (df b)
   ·next a b=>subst h;exact h10.g96 (dt a) (df b)
   ·next a b=>subst h;exact h10.g91 (dt a) (df b)
   ·next a b=>subst h;exact h10.g98 (dt a) (df b)
   ·next a b=>subst h;exact h10.g99 (dt a) (df b)
   ·next a b=>subst h;exact h10.g100 (dt a) (df b)
   ·next a b=>subst h;exact h10.g101 (dt a) (df b)
   ·next a b c=>subst h;exact h10.g102 (dt a) (df b) (dt c)
   next p257a p257b p257c=>
    refine hK10 (A.add f0 1,f1,A.add f2 1,f3) _ ?_ ?_ ?_
    ·subst h;exact (h10.n103 (dt p257a) (df p257b) (dt p257c)).1
    ·subst h;exact (h10.n103 (dt p257a) (df p257b) (dt p257c)).2
    clear hE hinl hV hK10;cbv;(try repeat' first|rfl|assumption|constructor)
   next p258a p258b p258c p258d=>
    refine Leaf.gen fun σz hσz=>?_
    obtain ⟨I13,m13,i13,c13⟩:V30l5 f1 f2 f3 I9:=by subst h;exact h10.l5 (dt p258a) (df p258b) (df p258c) (dt p258d)
    refine loopBJ hE [14,16] hinl 6 [] [] [(2,[0,0,0])] (fun x:Int×Int×Rows×Int×Bool=>[.i x.1,.i x.2.1,D.l [[.l x.2.2.1,.i x.2.2.2.1,.b x.2.2.2.2]]]) (fun x=>I13 x.1 x.2.1 x.2.2.1 x.2.2.2.1 x.2.2.2.2) (fun x=>m13 x.1 x.2.1 x.2.2.1 x.2.2.2.1 x.2.2.2.2) (0,0,f1,A.add f2 1,f3) (by subst h;exact i13) ?_ ?_<;>subst hσz
    ·clear hE hinl hV;cbv;(try repeat' first|rfl|assumption|constructor)
    intro ⟨Y0,Y1,Y2,Y3,Y4⟩ hI13 K13 hK13
    have h13:=c13 _ _ _ _ _ hI13
    cbv
    repeat' first|(refine Br.mk (fun _=>?_) (fun _=>?_)<;>cbv)|(refine NilB.mk (fun _=>?_) ?_<;>cbv)|refine And.intro ?_ ?_|exact True.intro
    ·next a=>subst h;exact h13.g47 (dt a)
    ·next a=>subst h;exact h13.g48 (dt a)
    ·next a b=>subst h;exact h13.g49 (dt a) (dt b)
    ·next a b=>subst h;exact h13.g50 (dt a) (dt b)
    next p263a p263b=>
     refine hK13 (A.add (A.mul 2 Y0) 0,A.add Y1 1,Y2,Y3,true) _ ?_ ?_ ?_
     ·subst h;exact (h13.n51 (dt p263a) (dt p263b)).1
     ·subst h;exact (h13.n51 (dt p263a) (dt p263b)).2
     clear hE hinl hV hK13;cbv;(try repeat' first|rfl|assumption|constructor)
    ·next a b=>subst h;exact h13.g52 (dt a) (df b)
    ·next a b=>subst h;exact h13.g53 (dt a) (df b)
    ·next a b=>subst h;exact h13.g54 (dt a) (df b)
    ·next a b=>subst h;exact h13.g55 (dt a) (df b)
    ·next a b=>subst h;exact h13.g56 (dt a) (df b)
    ·next a b=>subst h;exact h13.g57 (dt a) (df b)
    ·next a b=>subst h;exact h13.g52 (dt a) (df b)
    ·next a b=>subst h;exact h13.g59 (dt a) (df b)
    ·next a b=>subst h;exact h13.g60 (dt a) (df b)
    ·next a b=>subst h;exact h13.g61 (dt a) (df b)
    ·next a b=>subst h;exact h13.g62 (dt a) (df b)
    ·next a b=>subst h;exact h13.g63 (dt a) (df b)
    ·next a b=>subst h;exact h13.g64 (dt a) (df b)
    next p277a p277b=>
     refine hK13 (A.add (A.mul 2 Y0) (A.tmod (A.shr .i64 (A.di (A.get Y2 (A.toNat (A.tdiv Y3 8)) 0)) (A.sub 7 (A.tmod Y3 8))) 2),A.add Y1 1,Y2,A.add Y3 1,Y4) _ ?_ ?_ ?_
     ·subst h;exact (h13.n65 (dt p277a) (df p277b)).1
     ·subst h;exact (h13.n65 (dt p277a) (df p277b)).2
     clear hE hinl hV hK13;cbv;(try repeat' first|rfl|assumption|constructor)
    rename_i p278a
    refine hK9 (Y0,Y2,Y3,Y4) _ ?_ ?_
    ·subst h;exact h13.n66 (df p278a)
    clear hE hinl hV hK9;cbv;(try repeat' first|rfl|assumption|constructor)
   ·next a b c d=>subst h;exact h10.g125 (dt a) (df b) (df c) (df d)
   ·next a b c d=>subst h;exact h10.g126 (dt a) (df b) (df c) (df d)
   next p281a p281b p281c p281d=>
    refine Leaf.gen fun σz hσz=>?_
    obtain ⟨I14,m14,i14,c14⟩:V30l6 fn q7 q8 f0 f1 f2 f3 I9:=by subst h;exact h10.l6 (dt p281a) (df p281b) (df p281c) (df p281d)
    refine loopBJ hE [14,16] hinl 6 [] [] [(2,[0,0,0])] (fun x:Int×Int×Rows×Int×Bool=>[.i x.1,.i x.2.1,D.l [[.l x.2.2.1,.i x.2.2.2.1,.b x.2.2.2.2]]]) (fun x=>I14 x.1 x.2.1 x.2.2.1 x.2.2.2.1 x.2.2.2.2) (fun x=>m14 x.1 x.2.1 x.2.2.1 x.2.2.2.1 x.2.2.2.2) (0,0,f1,A.add f2 1,f3) (by subst h;exact i14) ?_ ?_<;>subst hσz
    ·clear hE hinl hV;cbv;(try repeat' first|rfl|assumption|constructor)
    intro ⟨Z0,Z1,Z2,Z3,Z4⟩ hI14 K14 hK14
    have h14:=c14 _ _ _ _ _ hI14
    cbv
    repeat' first|(refine Br.mk (fun _=>?_) (fun _=>?_)<;>cbv)|(refine NilB.mk (fun _=>?_) ?_<;>cbv)|refine And.intro ?_ ?_|exact True.intro
    ·next a=>subst h;exact h14.g70 (dt a)
    ·next a=>subst h;exact h14.g71 (dt a)
    ·next a b=>subst h;exact h14.g72 (dt a) (dt b)
    ·next a b=>subst h;exact h14.g73 (dt a) (dt b)
    next p286a p286b=>
     refine hK14 (A.add (A.mul 2 Z0) 0,A.add Z1 1,Z2,Z3,true) _ ?_ ?_ ?_
     ·subst h;exact (h14.n74 (dt p286a) (dt p286b)).1
     ·subst h;exact (h14.n74 (dt p286a) (dt p286b)).2
     clear hE hinl hV hK14;cbv;(try repeat' first|rfl|assumption|constructor)
    ·next a b=>subst h;exact h14.g75 (dt a) (df b)
    ·next a b=>subst h;exact h14.g76 (dt a) (df b)
    ·next a b=>subst h;exact h14.g77 (dt a) (df b)
    ·next a b=>subst h;exact h14.g78 (dt a) (df b)
    ·next a b=>subst h;exact h14.g79 (dt a) (df b)
    ·next a b=>subst h;exact h14.g80 (dt a) (df b)
    ·next a b=>subst h;exact h14.g75 (dt a) (df b)
    ·next a b=>subst h;exact h14.g82 (dt a) (df b)
    ·next a b=>subst h;exact h14.g83 (dt a) (df b)
    ·next a b=>subst h;exact h14.g84 (dt a) (df b)
    ·next a b=>subst h;exact h14.g85 (dt a) (df b)
    ·next a b=>subst h;exact h14.g86 (dt a) (df b)
    ·next a b=>subst h;exact h14.g87 (dt a) (df b)
    next p300a p300b=>
     refine hK14 (A.add (A.mul 2 Z0) (A.tmod (A.shr .i64 (A.di (A.get Z2 (A.toNat (A.tdiv Z3 8)) 0)) (A.sub 7 (A.tmod Z3 8))) 2),A.add Z1 1,Z2,A.add Z3 1,Z4) _ ?_ ?_ ?_
     ·subst h;exact (h14.n88 (dt p300a) (df p300b)).1
     ·subst h;exact (h14.n88 (dt p300a) (df p300b)).2
     clear hE hinl hV hK14;cbv;(try repeat' first|rfl|assumption|constructor)
    ·next a=>subst h;exact h14.g89 (df a)
    rename_i p302a
    refine hK9 (A.add (A.shl .i64 f0 (A.di (fn 89 [[D.i q7,D.i q8]] 0 0))) Z0,Z2,Z3,Z4) _ ?_ ?_
    ·subst h;exact h14.n90 (df p302a)
    clear hE hinl hV hK9;cbv;(try repeat' first|rfl|assumption|constructor)
   next p303a p303b=>
    refine Leaf.gen fun σz hσz=>?_
    obtain ⟨I15,m15,i15,c15⟩:V30l7 f1 f2 f3 I9:=by subst h;exact h10.l7 (df p303a) (dt p303b)
    refine loopBJ hE [14,16] hinl 6 [] [] [(2,[0,0,0])] (fun x:Int×Int×Rows×Int×Bool=>[.i x.1,.i x.2.1,D.l [[.l x.2.2.1,.i x.2.2.2.1,.b x.2.2.2.2]]]) (fun x=>I15 x.1 x.2.1 x.2.2.1 x.2.2.2.1 x.2.2.2.2) (fun x=>m15 x.1 x.2.1 x.2.2.1 x.2.2.2.1 x.2.2.2.2) (0,0,f1,f2,f3) (by subst h;exact i15) ?_ ?_<;>subst hσz
    ·clear hE hinl hV;cbv;(try repeat' first|rfl|assumption|constructor)
    intro ⟨U0,U1,U2,U3,U4⟩ hI15 K15 hK15
    have h15:=c15 _ _ _ _ _ hI15
    cbv
    repeat' first|(refine Br.mk (fun _=>?_) (fun _=>?_)<;>cbv)|(refine NilB.mk (fun _=>?_) ?_<;>cbv)|refine And.intro ?_ ?_|exact True.intro
    ·next a=>subst h;exact h15.g47 (dt a)
    ·next a=>subst h;exact h15.g48 (dt a)
    ·next a b=>subst h;exact h15.g49 (dt a) (dt b)
    ·next a b=>subst h;exact h15.g50 (dt a) (dt b)
    next p308a p308b=>
     refine hK15 (A.add (A.mul 2 U0) 0,A.add U1 1,U2,U3,true) _ ?_ ?_ ?_
     ·subst h;exact (h15.n51 (dt p308a) (dt p308b)).1
     ·subst h;exact (h15.n51 (dt p308a) (dt p308b)).2
     clear hE hinl hV hK15;cbv;(try repeat' first|rfl|assumption|constructor)
    ·next a b=>subst h;exact h15.g52 (dt a) (df b)
    ·next a b=>subst h;exact h15.g53 (dt a) (df b)
    ·next a b=>subst h;exact h15.g54 (dt a) (df b)
    ·next a b=>subst h;exact h15.g55 (dt a) (df b)
    ·next a b=>subst h;exact h15.g56 (dt a) (df b)
    ·next a b=>subst h;exact h15.g57 (dt a) (df b)
    ·next a b=>subst h;exact h15.g52 (dt a) (df b)
    ·next a b=>subst h;exact h15.g59 (dt a) (df b)
    ·next a b=>subst h;exact h15.g60 (dt a) (df b)
    ·next a b=>subst h;exact h15.g61 (dt a) (df b)
    ·next a b=>subst h;exact h15.g62 (dt a) (df b)
    ·next a b=>subst h;exact h15.g63 (dt a) (df b)
    ·next a b=>subst h;exact h15.g64 (dt a) (df b)
    next p322a p322b=>
     refine hK15 (A.add (A.mul 2 U0) (A.tmod (A.shr .i64 (A.di (A.get U2 (A.toNat (A.tdiv U3 8)) 0)) (A.sub 7 (A.tmod U3 8))) 2),A.add U1 1,U2,A.add U3 1,U4) _ ?_ ?_ ?_
     ·subst h;exact (h15.n65 (dt p322a) (df p322b)).1
     ·subst h;exact (h15.n65 (dt p322a) (df p322b)).2
     clear hE hinl hV hK15;cbv;(try repeat' first|rfl|assumption|constructor)
    rename_i p323a
    refine hK9 (U0,U2,U3,U4) _ ?_ ?_
    ·subst h;exact h15.n66 (df p323a)
    clear hE hinl hV hK9;cbv;(try repeat' first|rfl|assumption|constructor)
   ·next a b=>subst h;exact h10.g170 (df a) (df b)
   ·next a b=>subst h;exact h10.g171 (df a) (df b)
   rename_i p326a p326b
   refine Leaf.gen fun σz hσz=>?_
   obtain ⟨I16,m16,i16,c16⟩:V30l8 fn q7 q8 f0 f1 f2 f3 I9:=by subst h;exact h10.l8 (df p326a) (df p326b)
   refine loopBJ hE [14,16] hinl 6 [] [] [(2,[0,0,0])] (fun x:Int×Int×Rows×Int×Bool=>[.i x.1,.i x.2.1,D.l [[.l x.2.2.1,.i x.2.2.2.1,.b x.2.2.2.2]]]) (fun x=>I16 x.1 x.2.1 x.2.2.1 x.2.2.2.1 x.2.2.2.2) (fun x=>m16 x.1 x.2.1 x.2.2.1 x.2.2.2.1 x.2.2.2.2) (0,0,f1,f2,f3) (by subst h;exact i16) ?_ ?_<;>subst hσz
   ·clear hE hinl hV;cbv;(try repeat' first|rfl|assumption|constructor)
   intro ⟨W0,W1,W2,W3,W4⟩ hI16 K16 hK16
   have h16:=c16 _ _ _ _ _ hI16
   cbv
   repeat' first|(refine Br.mk (fun _=>?_) (fun _=>?_)<;>cbv)|(refine NilB.mk (fun _=>?_) ?_<;>cbv)|refine And.intro ?_ ?_|exact True.intro
   ·next a=>subst h;exact h16.g70 (dt a)
   ·next a=>subst h;exact h16.g71 (dt a)
   ·next a b=>subst h;exact h16.g72 (dt a) (dt b)
   ·next a b=>subst h;exact h16.g73 (dt a) (dt b)
   next p331a p331b=>
    refine hK16 (A.add (A.mul 2 W0) 0,A.add W1 1,W2,W3,true) _ ?_ ?_ ?_
    ·subst h;exact (h16.n74 (dt p331a) (dt p331b)).1
    ·subst h;exact (h16.n74 (dt p331a) (dt p331b)).2
    clear hE hinl hV hK16;cbv;(try repeat' first|rfl|assumption|constructor)
   ·next a b=>subst h;exact h16.g75 (dt a) (df b)
   ·next a b=>subst h;exact h16.g76 (dt a) (df b)
   ·next a b=>subst h;exact h16.g77 (dt a) (df b)
   ·next a b=>subst h;exact h16.g78 (dt a) (df b)
   ·next a b=>subst h;exact h16.g79 (dt a) (df b)
   ·next a b=>subst h;exact h16.g80 (dt a) (df b)
   ·next a b=>subst h;exact h16.g75 (dt a) (df b)
   ·next a b=>subst h;exact h16.g82 (dt a) (df b)
   ·next a b=>subst h;exact h16.g83 (dt a) (df b)
   ·next a b=>subst h;exact h16.g84 (dt a) (df b)
   ·next a b=>subst h;exact h16.g85 (dt a) (df b)
   ·next a b=>subst h;exact h16.g86 (dt a) (df b)
   ·next a b=>subst h;exact h16.g87 (dt a) (df b)
   next p345a p345b=>
    refine hK16 (A.add (A.mul 2 W0) (A.tmod (A.shr .i64 (A.di (A.get W2 (A.toNat (A.tdiv W3 8)) 0)) (A.sub 7 (A.tmod W3 8))) 2),A.add W1 1,W2,A.add W3 1,W4) _ ?_ ?_ ?_
    ·subst h;exact (h16.n88 (dt p345a) (df p345b)).1
    ·subst h;exact (h16.n88 (dt p345a) (df p345b)).2
    clear hE hinl hV hK16;cbv;(try repeat' first|rfl|assumption|constructor)
   ·next a=>subst h;exact h16.g89 (df a)
   rename_i p347a
   refine hK9 (A.add (A.shl .i64 f0 (A.di (fn 89 [[D.i q7,D.i q8]] 0 0))) W0,W2,W3,W4) _ ?_ ?_
   ·subst h;exact h16.n90 (df p347a)
   clear hE hinl hV hK9;cbv;(try repeat' first|rfl|assumption|constructor)
  intro ⟨e0,e1,e2,e3⟩ hI9
  have h9:=c9 _ _ _ _ hI9
  cbv
  repeat' first|(refine Br.mk (fun _=>?_) (fun _=>?_)<;>cbv)|(refine NilB.mk (fun _=>?_) ?_<;>cbv)|refine And.intro ?_ ?_|exact True.intro
  ·subst h;exact h9.g348
  ·next a=>subst h;exact h9.g349 (dt a)
  ·next a=>subst h;exact h9.g350 (dt a)
  ·next a=>subst h;exact h9.g351 (dt a)
  ·next a=>subst h;exact h9.g352 (dt a)
  ·next a=>subst h;exact h9.g352 (dt a)
  ·next a=>subst h;exact h9.g354 (dt a)
  ·next a b=>subst h;exact h9.g355 (dt a) (dt b)
  ·next a b=>subst h;exact h9.g356 (dt a) (dt b)
  ·next a b=>subst h;exact h9.g357 (dt a) (dt b)
  ·next a b=>subst h;exact h9.g358 (dt a) (dt b)
  ·next a b=>subst h;exact h9.g358 (dt a) (dt b)
  ·next a b=>subst h;exact h9.g360 (dt a) (dt b)
  ·next a b=>subst h;exact h9.g361 (dt a) (dt b)
  ·next a b=>subst h;exact h9.g362 (dt a) (dt b)
  ·next a b c=>subst h;exact h9.g363 (dt a) (dt b) (nt c)
  ·next a b c=>subst h;exact h9.g364 (dt a) (dt b) (nt c)
  ·next a b c=>subst h;exact h9.g365 (dt a) (dt b) (nf c)
  ·next a b c d=>subst h;exact h9.g366 (dt a) (dt b) (nf c) (nt d)
  ·next a b c d=>subst h;exact h9.g367 (dt a) (dt b) (nf c) (nt d)
  ·next a b c d=>subst h;exact h9.g368 (dt a) (dt b) (nf c) (nf d)
  ·next a b c d=>subst h;exact h9.g369 (dt a) (dt b) (nf c) (nf d)
  next p370a p370b p370c p370d=>
   refine hK0 (A.app q0 [[D.i (A.add s0 (A.di (A.get q0 (A.toNat (A.sub q1 1)) 0))),D.i (A.add e0 (A.add (A.di (A.get q0 (A.toNat (A.sub q1 1)) 1)) 1))]],A.add q1 1,e1,e2,e3,A.di (fn 65 [[D.i q5,D.i q6],[D.i s0]] 0 0),A.di (fn 65 [[D.i q5,D.i q6],[D.i s0]] 0 1),A.di (fn 65 [[D.i q7,D.i q8],[D.i e0]] 0 0),A.di (fn 65 [[D.i q7,D.i q8],[D.i e0]] 0 1)) _ ?_ ?_ ?_
   ·subst h;exact (h9.n370 (dt p370a) (dt p370b) (nf p370c) (nf p370d)).1
   ·subst h;exact (h9.n370 (dt p370a) (dt p370b) (nf p370c) (nf p370d)).2
   clear hE hinl hV hK0;cbv;(try repeat' first|rfl|assumption|constructor)
  ·next a b=>subst h;exact h9.g371 (dt a) (df b)
  ·next a b c=>subst h;exact h9.g372 (dt a) (df b) (nt c)
  ·next a b c=>subst h;exact h9.g373 (dt a) (df b) (nt c)
  ·next a b c=>subst h;exact h9.g374 (dt a) (df b) (nf c)
  ·next a b c d=>subst h;exact h9.g375 (dt a) (df b) (nf c) (nt d)
  ·next a b c d=>subst h;exact h9.g376 (dt a) (df b) (nf c) (nt d)
  ·next a b c d=>subst h;exact h9.g377 (dt a) (df b) (nf c) (nf d)
  ·next a b c d=>subst h;exact h9.g378 (dt a) (df b) (nf c) (nf d)
  next p379a p379b p379c p379d=>
   refine hK0 (A.app q0 [[D.i (A.add s0 (A.di (A.get q0 (A.toNat (A.sub q1 1)) 0))),D.i e0]],A.add q1 1,e1,e2,e3,A.di (fn 65 [[D.i q5,D.i q6],[D.i s0]] 0 0),A.di (fn 65 [[D.i q5,D.i q6],[D.i s0]] 0 1),A.di (fn 65 [[D.i q7,D.i q8],[D.i e0]] 0 0),A.di (fn 65 [[D.i q7,D.i q8],[D.i e0]] 0 1)) _ ?_ ?_ ?_
   ·subst h;exact (h9.n379 (dt p379a) (df p379b) (nf p379c) (nf p379d)).1
   ·subst h;exact (h9.n379 (dt p379a) (df p379b) (nf p379c) (nf p379d)).2
   clear hE hinl hV hK0;cbv;(try repeat' first|rfl|assumption|constructor)
  ·next a=>subst h;exact h9.g380 (df a)
  ·next a b=>subst h;exact h9.g381 (df a) (nt b)
  ·next a b=>subst h;exact h9.g382 (df a) (nt b)
  ·next a b=>subst h;exact h9.g383 (df a) (nf b)
  ·next a b c=>subst h;exact h9.g384 (df a) (nf b) (nt c)
  ·next a b c=>subst h;exact h9.g385 (df a) (nf b) (nt c)
  ·next a b c=>subst h;exact h9.g386 (df a) (nf b) (nf c)
  ·next a b c=>subst h;exact h9.g387 (df a) (nf b) (nf c)
  rename_i p388a p388b p388c
  refine hK0 (A.app q0 [[D.i s0,D.i e0]],A.add q1 1,e1,e2,e3,A.di (fn 65 [[D.i q5,D.i q6],[D.i s0]] 0 0),A.di (fn 65 [[D.i q5,D.i q6],[D.i s0]] 0 1),A.di (fn 65 [[D.i q7,D.i q8],[D.i e0]] 0 0),A.di (fn 65 [[D.i q7,D.i q8],[D.i e0]] 0 1)) _ ?_ ?_ ?_
  ·subst h;exact (h9.n388 (df p388a) (nf p388b) (nf p388c)).1
  ·subst h;exact (h9.n388 (df p388a) (nf p388b) (nf p388c)).2
  clear hE hinl hV hK0;cbv;(try repeat' first|rfl|assumption|constructor)
 ·next a b=>subst h;exact h0.g389 (dt a) (nf b)
 ·next a b c=>subst h;exact h0.g390 (dt a) (nf b) (df (nt c))
 ·next a b c=>subst h;exact h0.g391 (dt a) (nf b) (df (nt c))
 ·next a b c d=>subst h;exact h0.g392 (dt a) (nf b) (dt (nf c)) d
 ·next a b c d=>subst h;exact h0.g393 (dt a) (nf b) (dt (nf c)) d
 ·next a b c d=>subst h;exact h0.g394 (dt a) (nf b) (dt (nf c)) d
 ·next a b c d=>subst h;exact h0.g395 (dt a) (nf b) (dt (nf c)) d
 ·next a b c d e=>subst h;exact h0.g396 (dt a) (nf b) (dt (nf c)) d (df (nt e))
 ·next a b c d e=>subst h;exact h0.g397 (dt a) (nf b) (dt (nf c)) d (df (nt e))
 ·next a b c d e=>subst h;exact h0.g398 (dt a) (nf b) (dt (nf c)) d (dt (nf e))
 ·next a b c d e=>subst h;exact h0.g399 (dt a) (nf b) (dt (nf c)) d (dt (nf e))
 ·next a=>subst h;exact h0.g400 (df a)
 ·next a b=>subst h;exact h0.g401 (df a) (df (nt b))
 ·next a b=>subst h;exact h0.g402 (df a) (df (nt b))
 ·next a b c=>subst h;exact h0.g403 (df a) (dt (nf b)) c
 ·next a b c=>subst h;exact h0.g404 (df a) (dt (nf b)) c
 ·next a b c=>subst h;exact h0.g405 (df a) (dt (nf b)) c
 ·next a b c=>subst h;exact h0.g406 (df a) (dt (nf b)) c
 ·next a b c d=>subst h;exact h0.g407 (df a) (dt (nf b)) c (df (nt d))
 ·next a b c d=>subst h;exact h0.g408 (df a) (dt (nf b)) c (df (nt d))
 ·next a b c d=>subst h;exact h0.g409 (df a) (dt (nf b)) c (dt (nf d))
 next a b c d=>subst h;exact h0.g410 (df a) (dt (nf b)) c (dt (nf d))
end HX

namespace HX
open Go Go.Proofs CX
abbrev tru:List (List D)->Prop:=fun _=>True
def r92:List (List D)->Nat->Nat->D
 |[[.i a,.i n]],_,_=>.i (lowK (a,n))
 |_,_,_=>.nil
def p67:List (List D)->Prop
 |[[.l l]]=>byL l/\l.length<=4000000000
 |_=>False
def r67:List (List D)->Nat->Nat->D
 |[[.l l]],_,0=>.i (sum0 l)
 |[[.l l]],_,_=>.i (sum1 l)
 |_,_,_=>.nil
def r72:List (List D)->Nat->Nat->D
 |[[.l a],[.l b]],_,_=>.b (eqL a b)
 |_,_,_=>.nil
def p17:List (List D)->Prop
 |[[.l a],[.l b]]=>b=a
 |_=>False
def r50:List (List D)->Nat->Nat->D
 |[[.i a],[.i b],[.i c]],_,_=>.b (inB a b c)
 |_,_,_=>.nil
def r100:List (List D)->Nat->Nat->D
 |[[.i a],[.i b]],_,_=>.i (cmpI a b)
 |_,_,_=>.nil
def r76:List (List D)->Nat->Nat->D
 |[[.i a,.i b],[.i c,.i d]],_,_=>.i (cmpE a b c d)
 |_,_,_=>.nil
def r71:List (List D)->Nat->Nat->D
 |[[.l l],[.i a,.i b]],_,_=>.i (folE l a b)
 |_,_,_=>.nil
def r51:List (List D)->Nat->Nat->D
 |[[.l l]],_,_=>.i (chkE l)
 |_,_,_=>.nil
def p63:List (List D)->Prop
 |[[.l l]]=>l.length<=65536/\EvOk' l
 |_=>False
def r63:List (List D)->Nat->Nat->D
 |[[.l l]],_,_=>.l (packP l)
 |_,_,_=>.nil
def r27:List (List D)->Nat->Nat->D
 |[[.l l]],0,_=>.l (pacL l)
 |[[.l l]],_,_=>.i (chkE l)
 |_,_,_=>.nil
def p29:List (List D)->Prop
 |[[.l l]]=>byL l/\l.length<=3000000
 |_=>False
def r29:List (List D)->Nat->Nat->D
 |[[.l l]],0,_=>.l (unpR l).2
 |[[.l l]],_,_=>.i (unpR l).1
 |_,_,_=>.nil
def r40:List (List D)->Nat->Nat->D
 |[[.i t,.i i],[.i t2,.i i2],[.b f]],_,_=>.i (folF t i t2 i2 f)
 |_,_,_=>.nil
def p65:List (List D)->Prop
 |[[.i a,.i n],[.i v]]=>MOk (a,n)/\0<=v/\v<=8589934592
 |_=>False
def r65:List (List D)->Nat->Nat->D
 |[[.i a,.i n],[.i v]],_,0=>.i (lrn (a,n) v).1
 |[[.i a,.i n],[.i v]],_,_=>.i (lrn (a,n) v).2
 |_,_,_=>.nil
def r66:List (List D)->Nat->Nat->D
 |[[.l l]],0,_=>.i (sumS l l.length).1
 |[[.l l]],_,_=>.i (sumS l l.length).2
 |_,_,_=>.nil
def r54:List (List D)->Nat->Nat->D
 |[[.l l]],_,_=>.i (chkE l)
 |_,_,_=>.nil
def r28:List (List D)->Nat->Nat->D
 |[[.l l]],0,_=>.l (pacL l)
 |[[.l l]],_,_=>.i (chkE l)
 |_,_,_=>.nil
def p31:List (List D)->Prop
 |[[.l a],[.l b]]=>a.length+b.length<=2048
 |_=>False
def r31:List (List D)->Nat->Nat->D
 |[[.l a],[.l b]],0,_=>.l (mrgL a b)
 |[[.l a],[.l b]],_,_=>.i (mrgE a b)
 |_,_,_=>.nil
def r33:List (List D)->Nat->Nat->D
 |[[.l a],[.i f],[.i t]],0,_=>.l (cutL a f t)
 |[[.l a],[.i f],[.i t]],_,_=>.i (cutE a f t)
 |_,_,_=>.nil
def r78:List (List D)->Nat->Nat->D
 |[[.i a,.i b],[.i c,.i d]],_,_=>.b (CX.ltP (a,b) (c,d))
 |_,_,_=>.nil
def c92:Ctr:=⟨92,⟨[(true,[.int .i64,.int .i64])],[(false,[.int .i64])],false⟩,tru,r92⟩
def c67:Ctr:=⟨67,⟨[(false,[.sl [.int .u8]])],[(true,[.int .u8,.int .u8])],false⟩,p67,r67⟩
def c72:Ctr:=⟨72,⟨[(false,[.sl [.int .u8]]),(false,[.sl [.int .u8]])],[(false,[.bool])],false⟩,tru,r72⟩
def c17:Ctr:=⟨17,⟨[(false,[.sl [.int .i64,.int .i64]]),(false,[.sl [.int .i64,.int .i64]])],[(false,[.bool])],false⟩,p17,(fun _ _ _=>.b true)⟩
def c50:Ctr:=⟨50,⟨[(false,[.int .i64]),(false,[.int .i64]),(false,[.int .i64])],[(false,[.bool])],false⟩,tru,r50⟩
def c100:Ctr:=⟨100,⟨[(false,[.int .i64]),(false,[.int .i64])],[(false,[.int .i64])],false⟩,tru,r100⟩
def c76:Ctr:=⟨76,⟨[(true,[.int .i64,.int .i64]),(true,[.int .i64,.int .i64])],[(false,[.int .i64])],false⟩,tru,r76⟩
def c71:Ctr:=⟨71,⟨[(false,[.sl [.int .i64,.int .i64]]),(true,[.int .i64,.int .i64])],[(false,[.int .i64])],false⟩,tru,r71⟩
def c51:Ctr:=⟨51,⟨[(false,[.sl [.int .i64,.int .i64]])],[(false,[.int .i64])],false⟩,tru,r51⟩
def c63:Ctr:=⟨63,⟨[(false,[.sl [.int .i64,.int .i64]])],[(false,[.sl [.int .u8]])],false⟩,p63,r63⟩
def c27:Ctr:=⟨27,⟨[(false,[.sl [.int .i64,.int .i64]])],[(false,[.sl [.int .u8]]),(false,[.int .i64])],false⟩,tru,r27⟩
def c29:Ctr:=⟨29,⟨[(false,[.sl [.int .u8]])],[(false,[.sl [.int .i64,.int .i64]]),(false,[.int .i64])],false⟩,p29,r29⟩
def c53:Ctr:=⟨53,⟨[(false,[.int .i64]),(false,[.int .i64]),(false,[.int .i64])],[(false,[.bool])],false⟩,tru,r50⟩
def c40:Ctr:=⟨40,⟨[(true,[.int .i64,.int .i64]),(true,[.int .i64,.int .i64]),(false,[.bool])],[(false,[.int .i64])],false⟩,tru,r40⟩
def c89:Ctr:=⟨89,⟨[(true,[.int .i64,.int .i64])],[(false,[.int .i64])],false⟩,tru,r92⟩
def c65:Ctr:=⟨65,⟨[(true,[.int .i64,.int .i64]),(false,[.int .i64])],[(true,[.int .i64,.int .i64])],false⟩,p65,r65⟩
def c66:Ctr:=⟨66,⟨[(false,[.sl [.int .u8]])],[(false,[.int .i64]),(false,[.int .i64])],false⟩,p67,r66⟩
def c54:Ctr:=⟨54,⟨[(false,[.sl [.int .i64,.int .i64]])],[(false,[.int .i64])],false⟩,tru,r54⟩
def c28:Ctr:=⟨28,⟨[(false,[.sl [.int .i64,.int .i64]])],[(false,[.sl [.int .u8]]),(false,[.int .i64])],false⟩,tru,r28⟩
def c31:Ctr:=⟨31,⟨[(false,[.sl [.int .i64,.int .i64]]),(false,[.sl [.int .i64,.int .i64]])],[(false,[.sl [.int .i64,.int .i64]]),(false,[.int .i64])],false⟩,p31,r31⟩
def c33:Ctr:=⟨33,⟨[(false,[.sl [.int .i64,.int .i64]]),(false,[.int .i64]),(false,[.int .i64])],[(false,[.sl [.int .i64,.int .i64]]),(false,[.int .i64])],false⟩,tru,r33⟩
def c78:Ctr:=⟨78,⟨[(true,[.int .i64,.int .i64]),(true,[.int .i64,.int .i64])],[(false,[.bool])],false⟩,tru,r78⟩
def c32:Ctr:=⟨32,⟨[(false,[.sl [.int .i64,.int .i64]]),(false,[.sl [.int .i64,.int .i64]])],[(false,[.sl [.int .i64,.int .i64]]),(false,[.int .i64])],false⟩,p31,r31⟩
def c34:Ctr:=⟨34,⟨[(false,[.sl [.int .i64,.int .i64]]),(false,[.int .i64]),(false,[.int .i64])],[(false,[.sl [.int .i64,.int .i64]]),(false,[.int .i64])],false⟩,tru,r33⟩
def c30:Ctr:=⟨30,⟨[(false,[.sl [.int .u8]])],[(false,[.sl [.int .i64,.int .i64]]),(false,[.int .i64])],false⟩,p29,r29⟩
def c13:Ctr:=⟨13,⟨[],[(false,[.bool])],false⟩,tru,(fun _ _ _=>.b true)⟩
section
variable (ro:Addr->Option V)
theorem k92:PureC (cxE ro) c92.f c92.sg c92.pre c92.res:=walk92 (envL (l:=[]) .nil) fun _ _ _=>⟨_,_,law92 rfl⟩
theorem k67:PureC (cxE ro) c67.f c67.sg c67.pre c67.res:=walk67 (envL (l:=[]) .nil) fun _ _ h=>⟨_,_,law67 h.1 h.2 rfl rfl⟩
theorem k72:PureC (cxE ro) c72.f c72.sg c72.pre c72.res:=walk72 (envL (l:=[]) .nil) fun _ _ ha _ _=>⟨_,_,law72 (by have:=ha.2;omega) rfl⟩
theorem k17:PureC (cxE ro) c17.f c17.sg c17.pre c17.res:=walk17 (envL (l:=[]) .nil) fun _ _ ha _ h=>⟨_,_,law17 h (by have:=ha.2;omega) rfl⟩
theorem k50:PureC (cxE ro) c50.f c50.sg c50.pre c50.res:=walk50 (envL (l:=[]) .nil) fun _ _ _ _=>law50 rfl
theorem k100:PureC (cxE ro) c100.f c100.sg c100.pre c100.res:=walk100 (envL (l:=[]) .nil) fun _ _ _=>law100 rfl
theorem k76:PureC (cxE ro) c76.f c76.sg c76.pre c76.res:=walk76 (envL (l:=[c100]) (.cons (k100 ro) .nil)) fun _ _ _ _ _=>⟨_,_,law76 (fun _=>trivial) (fun _ _=>rfl) rfl⟩
theorem k71:PureC (cxE ro) c71.f c71.sg c71.pre c71.res:=walk71 (envL (l:=[c50,c76]) (.cons (k50 ro) (.cons (k76 ro) .nil))) fun _ _ _ ha _=>law71 (fun _=>trivial) (fun _ _ _=>rfl) (fun _=>trivial) (fun _ _ _ _=>rfl) (by have:=ha.2;omega) rfl
theorem k51:PureC (cxE ro) c51.f c51.sg c51.pre c51.res:=walk51 (envL (l:=[c71]) (.cons (k71 ro) .nil)) fun _ _ _=>⟨_,_,law51 (fun _=>trivial) (fun _ _ _=>rfl) rfl⟩
theorem k63:PureC (cxE ro) c63.f c63.sg c63.pre c63.res:=walk63 (envL (l:=[c67,c92]) (.cons (k67 ro) (.cons (k92 ro) .nil))) fun _ _ h=>law63 (fun _=>trivial) (fun _ _=>rfl) (fun _ h1 h2=>⟨h1,h2⟩) (fun _=>⟨rfl,rfl⟩) h.1 h.2 (fun q hq=>(pk_step h.2 q hq).1.by_) rfl
theorem k27:PureC (cxE ro) c27.f c27.sg c27.pre c27.res:=walk27 (envL (l:=[c51,c63]) (.cons (k51 ro) (.cons (k63 ro) .nil))) fun _ _ _=>law27 (fun _=>trivial) (fun _=>rfl) (fun _ h=>chk_ev h) (fun _=>rfl) rfl rfl
theorem k29:PureC (cxE ro) c29.f c29.sg c29.pre c29.res:=walk29 (envL (l:=[c63,c67,c71,c72,c92]) (.cons (k63 ro) (.cons (k67 ro) (.cons (k71 ro) (.cons (k72 ro) (.cons (k92 ro) .nil)))))) fun _ _ h=>law29 (fun _=>trivial) (fun _ _=>rfl) (fun _ h1 h2=>⟨h1,h2⟩) (fun _=>⟨rfl,rfl⟩) (fun _=>trivial) (fun _ _ _=>rfl) (fun _ h1 h2=>⟨h1,h2⟩) (fun _=>rfl) (fun _=>trivial) (fun _ _=>rfl) h.1 h.2 rfl rfl
theorem k53:PureC (cxE ro) c53.f c53.sg c53.pre c53.res:=walk53 (envL (l:=[]) .nil) fun _ _ _ _=>law53 rfl
theorem k40:PureC (cxE ro) c40.f c40.sg c40.pre c40.res:=walk40 (envL (l:=[c53]) (.cons (k53 ro) .nil)) fun _ _ _ _ _ _=>law40 (fun _=>trivial) (fun _ _ _=>rfl) rfl
theorem k89:PureC (cxE ro) c89.f c89.sg c89.pre c89.res:=walk89 (envL (l:=[]) .nil) fun _ _ _=>⟨_,_,law89 rfl⟩
theorem k65:PureC (cxE ro) c65.f c65.sg c65.pre c65.res:=walk65 (envL (l:=[]) .nil) fun _ _ _ h=>law65 h.1 h.2.1 h.2.2 rfl rfl
theorem k66:PureC (cxE ro) c66.f c66.sg c66.pre c66.res:=walk66 (envL (l:=[]) .nil) fun _ _ h=>⟨_,_,law66 h.1 h.2 rfl rfl⟩
theorem k54:PureC (cxE ro) c54.f c54.sg c54.pre c54.res:=walk54 (envL (l:=[c40]) (.cons (k40 ro) .nil)) fun _ _ _=>⟨_,_,law54 (fun _=>trivial) (fun _ _ _ _ _=>rfl) rfl⟩
theorem k28:PureC (cxE ro) c28.f c28.sg c28.pre c28.res:=walk28 (envL (l:=[c54,c65,c66,c89]) (.cons (k54 ro) (.cons (k65 ro) (.cons (k66 ro) (.cons (k89 ro) .nil))))) fun _ _ _=>law28 (fun _=>trivial) (fun _ _=>rfl) (fun _=>trivial) (fun _=>rfl) (fun _ _ _ h1 h2 h3=>⟨h1,h2,h3⟩) (fun _ _ _=>⟨rfl,rfl⟩) (fun _ h1 h2=>⟨h1,h2⟩) (fun _=>⟨rfl,rfl⟩) rfl rfl
theorem k31:PureC (cxE ro) c31.f c31.sg c31.pre c31.res:=walk31 (envL (l:=[c51]) (.cons (k51 ro) .nil)) fun _ _ _ _ h=>law31 (fun _=>trivial) (fun _=>rfl) h rfl rfl
theorem k33:PureC (cxE ro) c33.f c33.sg c33.pre c33.res:=walk33 (envL (l:=[c51]) (.cons (k51 ro) .nil)) fun _ _ _ ha _=>law33 (fun _=>trivial) (fun _=>rfl) (shr_can ha) rfl rfl
theorem k78:PureC (cxE ro) c78.f c78.sg c78.pre c78.res:=walk78 (envL (l:=[]) .nil) fun _ _ _ _ _=>law78 rfl
theorem k32:PureC (cxE ro) c32.f c32.sg c32.pre c32.res:=walk32 (envL (l:=[c54,c78]) (.cons (k54 ro) (.cons (k78 ro) .nil))) fun _ _ ha hb h=>law32 (fun _=>trivial) (fun _=>rfl) (fun _=>trivial) (fun _ _ _ _=>rfl) (shr_can ha) (shr_can hb) h rfl rfl
theorem k34:PureC (cxE ro) c34.f c34.sg c34.pre c34.res:=walk34 (envL (l:=[c54]) (.cons (k54 ro) .nil)) fun _ _ _ ha _=>law34 (fun _=>trivial) (fun _=>rfl) (shr_can ha) rfl rfl
theorem k30:PureC (cxE ro) c30.f c30.sg c30.pre c30.res:=walk30 (envL (l:=[c28,c53,c65,c66,c89]) (.cons (k28 ro) (.cons (k53 ro) (.cons (k65 ro) (.cons (k66 ro) (.cons (k89 ro) .nil)))))) fun _ ha h=>law30 (fun _=>trivial) (fun _ _=>rfl) (fun _=>trivial) (fun _ _ _=>rfl) (fun _ _ _ h1 h2 h3=>⟨h1,h2,h3⟩) (fun _ _ _=>⟨rfl,rfl⟩) (fun _ h1 h2=>⟨h1,h2⟩) (fun _=>⟨rfl,rfl⟩) (fun _=>trivial) (fun _=>⟨rfl,rfl⟩) (shr_canb ha) h.1 h.2 rfl rfl
theorem k13:PureC (cxE ro) c13.f c13.sg c13.pre c13.res:=works_pure
end
def l5:List Ctr:=[c13,c17,c27,c28,c29,c30,c31,c32,c33,c34]
theorem k_l5 (ro:Addr->Option V):Ctrs (cxE ro) l5:=(.cons (k13 ro) (.cons (k17 ro) (.cons (k27 ro) (.cons (k28 ro) (.cons (k29 ro) (.cons (k30 ro) (.cons (k31 ro) (.cons (k32 ro) (.cons (k33 ro) (.cons (k34 ro) .nil))))))))))
end HX

namespace HX
open Go Go.Proofs CX
theorem rng_u8:∀{row:List D},RngL [.int .u8] row->0<=(row.getD 0 .nil).int/\(row.getD 0 .nil).int<=255
 |[],_=>⟨by decide,by decide⟩
 |[_],h=>h.1
 |_ :: _ :: _,h=>h.1
theorem law5' {a0 a1 a2:Rows} {a3 a4:Int} (h:RngAll [(false,[.sl [.int .i64,.int .i64]]),(false,[.sl [.int .i64,.int .i64]]),(false,[.sl [.int .u8]]),(false,[.int .i64]),(false,[.int .i64])] [[.l a0],[.l a1],[.l a2],[.i a3],[.i a4]]) :
  V5 (preOf l5) (resOf l5) a0 a1 a2 a3 a4 (fun _ _=>.b true):=by
 obtain ⟨_,_,⟨h2,_⟩,_⟩:=h
 have hb:byL a2:=fun i hi=>by
  have m:a2.getD i []∈a2:=by rw [zI,zE hi];exact kD hi
  exact rng_u8 (h2 _ m)
 exact law5 trivial rfl (fun _ _ h=>h) (fun _=>rfl) (fun _=>trivial) (fun _=>⟨rfl,rfl⟩) (fun _=>trivial) (fun _=>⟨rfl,rfl⟩) (fun _ h1 h2=>⟨h1,by omega⟩) (fun _=>⟨rfl,rfl⟩) (fun _ h1 h2=>⟨h1,by omega⟩) (fun _=>⟨rfl,rfl⟩) (fun _ _ h=>h) (fun _ _=>⟨rfl,rfl⟩) (fun _ _ h=>h) (fun _ _=>⟨rfl,rfl⟩) (fun _=>trivial) (fun _ _ _=>⟨rfl,rfl⟩) (fun _=>trivial) (fun _ _ _=>⟨rfl,rfl⟩) hb rfl
end HX

namespace Go.Proofs.Ytmnaiddobipclaa.sensePacks
open Go.ChangeShapes Go.WideShapes Go.ChangeAt Go.RowKit HX
def ps:List (Bool×List Kd):=[(false,[.sl [.int .i64,.int .i64]]),(false,[.sl [.int .i64,.int .i64]]),(false,[.sl [.int .u8]]),(false,[.int .i64]),(false,[.int .i64])]
theorem law (ro:Addr->Option CX.V):PureC0 (cxE ro) 5 ⟨ps,[(false,[.bool])],false⟩ (RngAll ps) trueRes:=walk5 (envL (l:=l5) (k_l5 ro)) fun _ _ _ _ _ _ _ _ h=>law5' h
theorem lenN {α β:Type} {F:List α->β} {G:List α->β} (h:∀a b c d e,F [a,b,c,d,e]=G [a,b,c,d,e]):∀ds:List α,ds.length=5->F ds=G ds
 |[a,b,c,d,e],_=>h a b c d e
set_option maxRecDepth 100000 in
set_option maxHeartbeats 400000 in
theorem lifted (os:Os) (started:os.Started) (H:Type) (enc:TypeId×Value->H) :
  ReturnsInHanded {} Try.checked os 5 .any (Rows.sensePacksSpec.pre6 enc Try.prog Try.f5 Rows.sensePacksRow.domain false) (Rows.sensePacksSpec.post enc Try.prog Try.f5 false true false false):=by
 refine returnsInHanded_of_change (C:=Try.checked) own started (by kernel_rfl) Try.func5
  (ChangeSpec.witness6 (enc:=enc) (C:=Try.checked) false ⟨#[],#[.slice none 0 0,.slice none 0 0,.slice none 0 0,.int .i64 0,.int .i64 0],[]⟩ 8 (by kernel_rfl) (by kernel_rfl) (by kernel_rfl) (by kernel_rfl)) ?_
 intro W base args ds gs before hval hW _ _
 exact said (f:=Try.f5) (s:=Rows.sensePacksSpec) (n:=8) (tb:=4) cxE_ok law (by kernel_rfl) laid (by kernel_rfl) rfl Try.underlying4
  (lenN (F:=Rows.sensePacksSpec.fn H) (G:=fun ds=>⟨[.lit (.bool true)],ds,[]⟩) fun _ _ _ _ _=>rfl) rfl W base args ds gs before hval hW
theorem holds:Rows.SensePacksSaid:=
 OpenClaim.holds_of_wide 5 Try.f5 rfl rfl rfl rfl rfl rfl rfl ⟨rfl,rfl,rfl,rfl,rfl⟩ rfl rfl rfl rfl rfl (by kernel_rfl) Try.func5 (by kernel_rfl)
  (of_decide_eq_true (by kernel_rfl)) (by unfold Func.isWrapper;first |(rw [if_pos (by decide +kernel)];kernel_rfl) |(rw [if_neg (by decide +kernel)];exact ⟨rfl,rfl⟩))
  (fun os started H enc _=>lifted os started H enc)
end Go.Proofs.Ytmnaiddobipclaa.sensePacks
