/-
  Texts of the executors: W28, W31, W33, W78, W32, W34.
-/
import Derived.Test.YtmnaiddobipclaaSensePacks11
set_option linter.all false
noncomputable section
namespace HX
open Go Go.Proofs CX
set_option maxHeartbeats 4000000 in
set_option maxRecDepth 100000 in
set_option cbv.maxSteps 3000000 in
theorem walk28 {ro A pre fn} (hE:EnvOk ⟨A,(cxE ro),ksF,sigL [(54,⟨[(false,[.sl [.int .i64,.int .i64]])],[(false,[.int .i64])],false⟩),(65,⟨[(true,[.int .i64,.int .i64]),(false,[.int .i64])],[(true,[.int .i64,.int .i64])],false⟩),(66,⟨[(false,[.sl [.int .u8]])],[(false,[.int .i64]),(false,[.int .i64])],false⟩),(89,⟨[(true,[.int .i64,.int .i64])],[(false,[.int .i64])],false⟩)],pre,fn⟩) {P:List (List D)->Prop} {res:List (List D)->Nat->Nat->D}
  (hv:∀(a0:Rows),ShR [.int .i64,.int .i64] a0->P [[.l a0]]->V28 pre fn a0 (res [[.l a0]])) :
  PureC (cxE ro) 28 ⟨[(false,[.sl [.int .i64,.int .i64]])],[(false,[.sl [.int .u8]]),(false,[.int .i64])],false⟩ P res:=by
 have h:=hE.A
 simp only [] at h
 have hinl:∀f fn,inlL [(64,Try.f64),(90,Try.f90)] f=some fn->(cxE ro).fn f=some fn/\(cxE ro).ext f=none:=Inls.ok (by repeat (first |exact .nil |refine .cons rfl rfl ?_))
 refine PureC.of_vcJ hE [11,14,16] hinl 6 (f:=28) (fn:=Try.f28) ⟨rfl,rfl⟩ ?_
 intro a0 ha0 hP
 obtain ⟨R,hR⟩:∃R,res [[.l a0]]=R:=⟨_,rfl⟩
 rw [hR]
 have hV:=hv a0 ha0 hP
 rw [hR] at hV
 clear hR hP hv
 cbv
 repeat' first|(refine Br.mk (fun _=>?_) (fun _=>?_)<;>cbv)|(refine NilB.mk (fun _=>?_) ?_<;>cbv)|refine And.intro ?_ ?_|exact True.intro
 ·subst h;exact hV.g0
 ·next a=>subst h;exact hV.g1 (df (nt a))
 ·next a=>subst h;exact hV.g2 (df (nt a))
 rename_i p3a
 refine Leaf.gen fun σz hσz=>?_
 obtain ⟨I0,m0,i0,c0⟩:V28l0 pre fn a0 R:=by subst h;exact hV.l0 (dt (nf p3a))
 refine loopBJ hE [11,14,16] hinl 6 [] [] [(2,[0,0]),(3,[0,0])] (fun x:Rows×Int×Int×Int×Int×Int=>[.l x.1,.i x.2.1,D.l [[.i x.2.2.1,.i x.2.2.2.1]],D.l [[.i x.2.2.2.2.1,.i x.2.2.2.2.2]]]) (fun x=>I0 x.1 x.2.1 x.2.2.1 x.2.2.2.1 x.2.2.2.2.1 x.2.2.2.2.2) (fun x=>m0 x.1 x.2.1 x.2.2.1 x.2.2.2.1 x.2.2.2.2.1 x.2.2.2.2.2) ([],0,4,1,4,1) (by subst h;exact i0) ?_ ?_<;>subst hσz
 ·clear hE hinl hV;cbv;(try repeat' first|rfl|assumption|constructor)
 intro ⟨x0_0,x0_1,x0_2,x0_3,x0_4,x0_5⟩ hI0 K0 hK0
 have h0:=c0 _ _ _ _ _ _ hI0
 cbv
 repeat' first|(refine Br.mk (fun _=>?_) (fun _=>?_)<;>cbv)|(refine NilB.mk (fun _=>?_) ?_<;>cbv)|refine And.intro ?_ ?_|exact True.intro
 ·next a=>subst h;exact h0.g4 (dt a)
 ·next a=>subst h;exact h0.g5 (dt a)
 ·next a=>subst h;exact h0.g6 (dt a)
 ·next a=>subst h;exact h0.g4 (dt a)
 ·next a=>subst h;exact h0.g5 (dt a)
 ·next a=>subst h;exact h0.g6 (dt a)
 next p10a=>
  refine Leaf.gen fun σz hσz=>?_
  obtain ⟨I1,r1,c1⟩:V28j1 pre fn a0 x0_0 x0_1 x0_2 x0_3 x0_4 x0_5 I0 m0:=by subst h;exact h0.l1 (dt p10a)
  refine joinB hE hinl 6 [41] [] [] [] (fun x:Int×Int=>[.i x.1,.i x.2]) (fun x=>I1 x.1 x.2) ?_ ?_<;>subst hσz
  ·intro K1 hK1
   cbv
   repeat' first|(refine Br.mk (fun _=>?_) (fun _=>?_)<;>cbv)|(refine NilB.mk (fun _=>?_) ?_<;>cbv)|refine And.intro ?_ ?_|exact True.intro
   ·next a=>subst h;exact r1.g11 (dt a)
   ·next a=>subst h;exact r1.g12 (dt a)
   ·next a=>subst h;exact r1.g13 (dt a)
   ·next a=>subst h;exact r1.g14 (dt a)
   ·next a=>subst h;exact r1.g15 (dt a)
   ·next a b=>subst h;exact r1.g16 (dt a) (dt b)
   ·next a b=>subst h;exact r1.g17 (dt a) (dt b)
   ·next a b=>subst h;exact r1.g18 (dt a) (dt b)
   ·next a b=>subst h;exact r1.g19 (dt a) (dt b)
   ·next a b=>subst h;exact r1.g20 (dt a) (dt b)
   ·next a b=>subst h;exact r1.g21 (dt a) (dt b)
   next p22a p22b=>
    refine hK1 (A.sub (A.di (A.get a0 (A.toNat x0_1) 0)) (A.di (A.get a0 (A.toNat (A.sub x0_1 1)) 0)),A.sub (A.di (A.get a0 (A.toNat x0_1) 1)) (A.add (A.di (A.get a0 (A.toNat (A.sub x0_1 1)) 1)) 1)) _ ?_ ?_
    ·subst h;exact r1.n22 (dt p22a) (dt p22b)
    clear hE hinl hV hK1;cbv;(try repeat' first|rfl|assumption|constructor)
   next p23a p23b=>
    refine hK1 (A.sub (A.di (A.get a0 (A.toNat x0_1) 0)) (A.di (A.get a0 (A.toNat (A.sub x0_1 1)) 0)),A.di (A.get a0 (A.toNat x0_1) 1)) _ ?_ ?_
    ·subst h;exact r1.n23 (dt p23a) (df p23b)
    clear hE hinl hV hK1;cbv;(try repeat' first|rfl|assumption|constructor)
   rename_i p24a
   refine hK1 (A.di (A.get a0 (A.toNat x0_1) 0),A.di (A.get a0 (A.toNat x0_1) 1)) _ ?_ ?_
   ·subst h;exact r1.n24 (df p24a)
   clear hE hinl hV hK1;cbv;(try repeat' first|rfl|assumption|constructor)
  intro ⟨x1_0,x1_1⟩ hI1
  have h1:=c1 _ _ hI1
  cbv
  repeat' first|(refine Br.mk (fun _=>?_) (fun _=>?_)<;>cbv)|(refine NilB.mk (fun _=>?_) ?_<;>cbv)|refine And.intro ?_ ?_|exact True.intro
  refine Leaf.gen fun σz hσz=>?_
  obtain ⟨I2,r2,c2⟩:V28j2 pre fn x0_0 x0_1 x0_2 x0_3 x0_4 x0_5 x1_0 x1_1 I0 m0:=by subst h;exact h1.l2
  refine joinB hE hinl 6 [] [] [] [] (fun x:Rows=>[.l x]) (fun x=>I2 x) ?_ ?_<;>subst hσz
  ·intro K2 hK2
   cbv
   repeat' first|(refine Br.mk (fun _=>?_) (fun _=>?_)<;>cbv)|(refine NilB.mk (fun _=>?_) ?_<;>cbv)|refine And.intro ?_ ?_|exact True.intro
   ·subst h;exact r2.g26
   ·subst h;exact r2.g27
   refine Leaf.gen fun σz hσz=>?_
   obtain ⟨I3,m3,i3,c3⟩:V28l3 fn x0_0 x0_2 x0_3 x1_0 I2:=by subst h;exact r2.l3
   refine loopBJ hE [11,14,16] hinl 6 [] [] [] (fun x:Rows×Int=>[.l x.1,.i x.2]) (fun x=>I3 x.1 x.2) (fun x=>m3 x.1 x.2) (x0_0,0) (by subst h;exact i3) ?_ ?_<;>subst hσz
   ·clear hE hinl hV;cbv;(try repeat' first|rfl|assumption|constructor)
   intro ⟨x3_0,x3_1⟩ hI3 K3 hK3
   have h3:=c3 _ _ hI3
   cbv
   repeat' first|(refine Br.mk (fun _=>?_) (fun _=>?_)<;>cbv)|(refine NilB.mk (fun _=>?_) ?_<;>cbv)|refine And.intro ?_ ?_|exact True.intro
   ·next a b=>subst h;exact h3.g29 (dt a) (dt b)
   ·next a b=>subst h;exact h3.g30 (dt a) (dt b)
   next p31a p31b=>
    refine hK3 (A.app x3_0 [[D.i 1]],A.add x3_1 1) _ ?_ ?_ ?_
    ·subst h;exact (h3.n31 (dt p31a) (dt p31b)).1
    ·subst h;exact (h3.n31 (dt p31a) (dt p31b)).2
    clear hE hinl hV hK3;cbv;(try repeat' first|rfl|assumption|constructor)
   ·next a b c=>subst h;exact h3.g32 (dt a) (df b) (dt c)
   next p33a p33b p33c=>
    refine Leaf.gen fun σz hσz=>?_
    obtain ⟨I4,m4,i4,c4⟩:V28l4 x1_0 x3_0 I2:=by subst h;exact h3.l4 (dt p33a) (df p33b) (dt p33c)
    refine loopBJ hE [11,14,16] hinl 6 [] [] [] (fun x:Rows×Int=>[.l x.1,.i x.2]) (fun x=>I4 x.1 x.2) (fun x=>m4 x.1 x.2) (x3_0,A.sub 31 1) (by subst h;exact i4) ?_ ?_<;>subst hσz
    ·clear hE hinl hV;cbv;(try repeat' first|rfl|assumption|constructor)
    intro ⟨x4_0,x4_1⟩ hI4 K4 hK4
    have h4:=c4 _ _ hI4
    cbv
    repeat' first|(refine Br.mk (fun _=>?_) (fun _=>?_)<;>cbv)|(refine NilB.mk (fun _=>?_) ?_<;>cbv)|refine And.intro ?_ ?_|exact True.intro
    ·next a=>subst h;exact h4.g34 (dt a)
    ·next a=>subst h;exact h4.g35 (dt a)
    ·next a=>subst h;exact h4.g36 (dt a)
    ·next a=>subst h;exact h4.g37 (dt a)
    next p38a=>
     refine hK4 (A.app x4_0 [[D.i (A.tmod (A.shr .i64 x1_0 x4_1) 2)]],A.sub x4_1 1) _ ?_ ?_ ?_
     ·subst h;exact (h4.n38 (dt p38a)).1
     ·subst h;exact (h4.n38 (dt p38a)).2
     clear hE hinl hV hK4;cbv;(try repeat' first|rfl|assumption|constructor)
    rename_i p39a
    refine hK2 (x4_0) _ ?_ ?_
    ·subst h;exact h4.n39 (df p39a)
    clear hE hinl hV hK2;cbv;(try repeat' first|rfl|assumption|constructor)
   ·next a b c=>subst h;exact h3.g40 (dt a) (df b) (df c)
   ·next a b c=>subst h;exact h3.g41 (dt a) (df b) (df c)
   next p42a p42b p42c=>
    refine Leaf.gen fun σz hσz=>?_
    obtain ⟨I5,m5,i5,c5⟩:V28l5 fn x0_2 x0_3 x1_0 x3_0 I2:=by subst h;exact h3.l5 (dt p42a) (df p42b) (df p42c)
    refine loopBJ hE [11,14,16] hinl 6 [] [] [] (fun x:Rows×Int=>[.l x.1,.i x.2]) (fun x=>I5 x.1 x.2) (fun x=>m5 x.1 x.2) (A.app x3_0 [[D.i 0]],A.sub (A.di (fn 89 [[D.i x0_2,D.i x0_3]] 0 0)) 1) (by subst h;exact i5) ?_ ?_<;>subst hσz
    ·clear hE hinl hV;cbv;(try repeat' first|rfl|assumption|constructor)
    intro ⟨x5_0,x5_1⟩ hI5 K5 hK5
    have h5:=c5 _ _ hI5
    cbv
    repeat' first|(refine Br.mk (fun _=>?_) (fun _=>?_)<;>cbv)|(refine NilB.mk (fun _=>?_) ?_<;>cbv)|refine And.intro ?_ ?_|exact True.intro
    ·next a=>subst h;exact h5.g34 (dt a)
    ·next a=>subst h;exact h5.g35 (dt a)
    ·next a=>subst h;exact h5.g36 (dt a)
    ·next a=>subst h;exact h5.g37 (dt a)
    next p47a=>
     refine hK5 (A.app x5_0 [[D.i (A.tmod (A.shr .i64 x1_0 x5_1) 2)]],A.sub x5_1 1) _ ?_ ?_ ?_
     ·subst h;exact (h5.n38 (dt p47a)).1
     ·subst h;exact (h5.n38 (dt p47a)).2
     clear hE hinl hV hK5;cbv;(try repeat' first|rfl|assumption|constructor)
    rename_i p48a
    refine hK2 (x5_0) _ ?_ ?_
    ·subst h;exact h5.n39 (df p48a)
    clear hE hinl hV hK2;cbv;(try repeat' first|rfl|assumption|constructor)
   ·next a b=>subst h;exact h3.g49 (df a) (dt b)
   next p50a p50b=>
    refine Leaf.gen fun σz hσz=>?_
    obtain ⟨I6,m6,i6,c6⟩:V28l4 x1_0 x3_0 I2:=by subst h;exact h3.l6 (df p50a) (dt p50b)
    refine loopBJ hE [11,14,16] hinl 6 [] [] [] (fun x:Rows×Int=>[.l x.1,.i x.2]) (fun x=>I6 x.1 x.2) (fun x=>m6 x.1 x.2) (x3_0,A.sub 31 1) (by subst h;exact i6) ?_ ?_<;>subst hσz
    ·clear hE hinl hV;cbv;(try repeat' first|rfl|assumption|constructor)
    intro ⟨x6_0,x6_1⟩ hI6 K6 hK6
    have h6:=c6 _ _ hI6
    cbv
    repeat' first|(refine Br.mk (fun _=>?_) (fun _=>?_)<;>cbv)|(refine NilB.mk (fun _=>?_) ?_<;>cbv)|refine And.intro ?_ ?_|exact True.intro
    ·next a=>subst h;exact h6.g34 (dt a)
    ·next a=>subst h;exact h6.g35 (dt a)
    ·next a=>subst h;exact h6.g36 (dt a)
    ·next a=>subst h;exact h6.g37 (dt a)
    next p55a=>
     refine hK6 (A.app x6_0 [[D.i (A.tmod (A.shr .i64 x1_0 x6_1) 2)]],A.sub x6_1 1) _ ?_ ?_ ?_
     ·subst h;exact (h6.n38 (dt p55a)).1
     ·subst h;exact (h6.n38 (dt p55a)).2
     clear hE hinl hV hK6;cbv;(try repeat' first|rfl|assumption|constructor)
    rename_i p56a
    refine hK2 (x6_0) _ ?_ ?_
    ·subst h;exact h6.n39 (df p56a)
    clear hE hinl hV hK2;cbv;(try repeat' first|rfl|assumption|constructor)
   ·next a b=>subst h;exact h3.g57 (df a) (df b)
   ·next a b=>subst h;exact h3.g58 (df a) (df b)
   rename_i p59a p59b
   refine Leaf.gen fun σz hσz=>?_
   obtain ⟨I7,m7,i7,c7⟩:V28l5 fn x0_2 x0_3 x1_0 x3_0 I2:=by subst h;exact h3.l7 (df p59a) (df p59b)
   refine loopBJ hE [11,14,16] hinl 6 [] [] [] (fun x:Rows×Int=>[.l x.1,.i x.2]) (fun x=>I7 x.1 x.2) (fun x=>m7 x.1 x.2) (A.app x3_0 [[D.i 0]],A.sub (A.di (fn 89 [[D.i x0_2,D.i x0_3]] 0 0)) 1) (by subst h;exact i7) ?_ ?_<;>subst hσz
   ·clear hE hinl hV;cbv;(try repeat' first|rfl|assumption|constructor)
   intro ⟨x7_0,x7_1⟩ hI7 K7 hK7
   have h7:=c7 _ _ hI7
   cbv
   repeat' first|(refine Br.mk (fun _=>?_) (fun _=>?_)<;>cbv)|(refine NilB.mk (fun _=>?_) ?_<;>cbv)|refine And.intro ?_ ?_|exact True.intro
   ·next a=>subst h;exact h7.g34 (dt a)
   ·next a=>subst h;exact h7.g35 (dt a)
   ·next a=>subst h;exact h7.g36 (dt a)
   ·next a=>subst h;exact h7.g37 (dt a)
   next p64a=>
    refine hK7 (A.app x7_0 [[D.i (A.tmod (A.shr .i64 x1_0 x7_1) 2)]],A.sub x7_1 1) _ ?_ ?_ ?_
    ·subst h;exact (h7.n38 (dt p64a)).1
    ·subst h;exact (h7.n38 (dt p64a)).2
    clear hE hinl hV hK7;cbv;(try repeat' first|rfl|assumption|constructor)
   rename_i p65a
   refine hK2 (x7_0) _ ?_ ?_
   ·subst h;exact h7.n39 (df p65a)
   clear hE hinl hV hK2;cbv;(try repeat' first|rfl|assumption|constructor)
  intro x2_0 hI2
  have h2:=c2 _ hI2
  cbv
  repeat' first|(refine Br.mk (fun _=>?_) (fun _=>?_)<;>cbv)|(refine NilB.mk (fun _=>?_) ?_<;>cbv)|refine And.intro ?_ ?_|exact True.intro
  ·subst h;exact h2.g66
  refine Leaf.gen fun σz hσz=>?_
  obtain ⟨I8,r8,c8⟩:V28j8 pre fn x0_0 x0_1 x0_2 x0_3 x0_4 x0_5 x1_0 x1_1 x2_0 I0 m0:=by subst h;exact h2.l8
  refine joinB hE hinl 6 [] [] [] [] (fun x:Rows=>[.l x]) (fun x=>I8 x) ?_ ?_<;>subst hσz
  ·intro K8 hK8
   cbv
   repeat' first|(refine Br.mk (fun _=>?_) (fun _=>?_)<;>cbv)|(refine NilB.mk (fun _=>?_) ?_<;>cbv)|refine And.intro ?_ ?_|exact True.intro
   ·subst h;exact r8.g26
   ·subst h;exact r8.g27
   refine Leaf.gen fun σz hσz=>?_
   obtain ⟨I9,m9,i9,c9⟩:V28l3 fn x2_0 x0_4 x0_5 x1_1 I8:=by subst h;exact r8.l3
   refine loopBJ hE [11,14,16] hinl 6 [] [] [] (fun x:Rows×Int=>[.l x.1,.i x.2]) (fun x=>I9 x.1 x.2) (fun x=>m9 x.1 x.2) (x2_0,0) (by subst h;exact i9) ?_ ?_<;>subst hσz
   ·clear hE hinl hV;cbv;(try repeat' first|rfl|assumption|constructor)
   intro ⟨x9_0,x9_1⟩ hI9 K9 hK9
   have h9:=c9 _ _ hI9
   cbv
   repeat' first|(refine Br.mk (fun _=>?_) (fun _=>?_)<;>cbv)|(refine NilB.mk (fun _=>?_) ?_<;>cbv)|refine And.intro ?_ ?_|exact True.intro
   ·next a b=>subst h;exact h9.g29 (dt a) (dt b)
   ·next a b=>subst h;exact h9.g30 (dt a) (dt b)
   next p73a p73b=>
    refine hK9 (A.app x9_0 [[D.i 1]],A.add x9_1 1) _ ?_ ?_ ?_
    ·subst h;exact (h9.n31 (dt p73a) (dt p73b)).1
    ·subst h;exact (h9.n31 (dt p73a) (dt p73b)).2
    clear hE hinl hV hK9;cbv;(try repeat' first|rfl|assumption|constructor)
   ·next a b c=>subst h;exact h9.g32 (dt a) (df b) (dt c)
   next p75a p75b p75c=>
    refine Leaf.gen fun σz hσz=>?_
    obtain ⟨I10,m10,i10,c10⟩:V28l4 x1_1 x9_0 I8:=by subst h;exact h9.l4 (dt p75a) (df p75b) (dt p75c)
    refine loopBJ hE [11,14,16] hinl 6 [] [] [] (fun x:Rows×Int=>[.l x.1,.i x.2]) (fun x=>I10 x.1 x.2) (fun x=>m10 x.1 x.2) (x9_0,A.sub 31 1) (by subst h;exact i10) ?_ ?_<;>subst hσz
    ·clear hE hinl hV;cbv;(try repeat' first|rfl|assumption|constructor)
    intro ⟨x10_0,x10_1⟩ hI10 K10 hK10
    have h10:=c10 _ _ hI10
    cbv
    repeat' first|(refine Br.mk (fun _=>?_) (fun _=>?_)<;>cbv)|(refine NilB.mk (fun _=>?_) ?_<;>cbv)|refine And.intro ?_ ?_|exact True.intro
    ·next a=>subst h;exact h10.g34 (dt a)
    ·next a=>subst h;exact h10.g35 (dt a)
    ·next a=>subst h;exact h10.g36 (dt a)
    ·next a=>subst h;exact h10.g37 (dt a)
    next p80a=>
     refine hK10 (A.app x10_0 [[D.i (A.tmod (A.shr .i64 x1_1 x10_1) 2)]],A.sub x10_1 1) _ ?_ ?_ ?_
     ·subst h;exact (h10.n38 (dt p80a)).1
     ·subst h;exact (h10.n38 (dt p80a)).2
     clear hE hinl hV hK10;cbv;(try repeat' first|rfl|assumption|constructor)
    rename_i p81a
    refine hK8 (x10_0) _ ?_ ?_
    ·subst h;exact h10.n39 (df p81a)
    clear hE hinl hV hK8;cbv;(try repeat' first|rfl|assumption|constructor)
   ·next a b c=>subst h;exact h9.g40 (dt a) (df b) (df c)
   ·next a b c=>subst h;exact h9.g41 (dt a) (df b) (df c)
   next p84a p84b p84c=>
    refine Leaf.gen fun σz hσz=>?_
    obtain ⟨I11,m11,i11,c11⟩:V28l5 fn x0_4 x0_5 x1_1 x9_0 I8:=by subst h;exact h9.l5 (dt p84a) (df p84b) (df p84c)
    refine loopBJ hE [11,14,16] hinl 6 [] [] [] (fun x:Rows×Int=>[.l x.1,.i x.2]) (fun x=>I11 x.1 x.2) (fun x=>m11 x.1 x.2) (A.app x9_0 [[D.i 0]],A.sub (A.di (fn 89 [[D.i x0_4,D.i x0_5]] 0 0)) 1) (by subst h;exact i11) ?_ ?_<;>subst hσz
    ·clear hE hinl hV;cbv;(try repeat' first|rfl|assumption|constructor)
    intro ⟨x11_0,x11_1⟩ hI11 K11 hK11
    have h11:=c11 _ _ hI11
    cbv
    repeat' first|(refine Br.mk (fun _=>?_) (fun _=>?_)<;>cbv)|(refine NilB.mk (fun _=>?_) ?_<;>cbv)|refine And.intro ?_ ?_|exact True.intro
    ·next a=>subst h;exact h11.g34 (dt a)
    ·next a=>subst h;exact h11.g35 (dt a)
    ·next a=>subst h;exact h11.g36 (dt a)
    ·next a=>subst h;exact h11.g37 (dt a)
    next p89a=>
     refine hK11 (A.app x11_0 [[D.i (A.tmod (A.shr .i64 x1_1 x11_1) 2)]],A.sub x11_1 1) _ ?_ ?_ ?_
     ·subst h;exact (h11.n38 (dt p89a)).1
     ·subst h;exact (h11.n38 (dt p89a)).2
     clear hE hinl hV hK11;cbv;(try repeat' first|rfl|assumption|constructor)
    rename_i p90a
    refine hK8 (x11_0) _ ?_ ?_
    ·subst h;exact h11.n39 (df p90a)
    clear hE hinl hV hK8;cbv;(try repeat' first|rfl|assumption|constructor)
   ·next a b=>subst h;exact h9.g49 (df a) (dt b)
   next p92a p92b=>
    refine Leaf.gen fun σz hσz=>?_
    obtain ⟨I12,m12,i12,c12⟩:V28l4 x1_1 x9_0 I8:=by subst h;exact h9.l6 (df p92a) (dt p92b)
    refine loopBJ hE [11,14,16] hinl 6 [] [] [] (fun x:Rows×Int=>[.l x.1,.i x.2]) (fun x=>I12 x.1 x.2) (fun x=>m12 x.1 x.2) (x9_0,A.sub 31 1) (by subst h;exact i12) ?_ ?_<;>subst hσz
    ·clear hE hinl hV;cbv;(try repeat' first|rfl|assumption|constructor)
    intro ⟨x12_0,x12_1⟩ hI12 K12 hK12
    have h12:=c12 _ _ hI12
    cbv
    repeat' first|(refine Br.mk (fun _=>?_) (fun _=>?_)<;>cbv)|(refine NilB.mk (fun _=>?_) ?_<;>cbv)|refine And.intro ?_ ?_|exact True.intro
    ·next a=>subst h;exact h12.g34 (dt a)
    ·next a=>subst h;exact h12.g35 (dt a)
    ·next a=>subst h;exact h12.g36 (dt a)
    ·next a=>subst h;exact h12.g37 (dt a)
    next p97a=>
     refine hK12 (A.app x12_0 [[D.i (A.tmod (A.shr .i64 x1_1 x12_1) 2)]],A.sub x12_1 1) _ ?_ ?_ ?_
     ·subst h;exact (h12.n38 (dt p97a)).1
     ·subst h;exact (h12.n38 (dt p97a)).2
     clear hE hinl hV hK12;cbv;(try repeat' first|rfl|assumption|constructor)
    rename_i p98a
    refine hK8 (x12_0) _ ?_ ?_
    ·subst h;exact h12.n39 (df p98a)
    clear hE hinl hV hK8;cbv;(try repeat' first|rfl|assumption|constructor)
   ·next a b=>subst h;exact h9.g57 (df a) (df b)
   ·next a b=>subst h;exact h9.g58 (df a) (df b)
   rename_i p101a p101b
   refine Leaf.gen fun σz hσz=>?_
   obtain ⟨I13,m13,i13,c13⟩:V28l5 fn x0_4 x0_5 x1_1 x9_0 I8:=by subst h;exact h9.l7 (df p101a) (df p101b)
   refine loopBJ hE [11,14,16] hinl 6 [] [] [] (fun x:Rows×Int=>[.l x.1,.i x.2]) (fun x=>I13 x.1 x.2) (fun x=>m13 x.1 x.2) (A.app x9_0 [[D.i 0]],A.sub (A.di (fn 89 [[D.i x0_4,D.i x0_5]] 0 0)) 1) (by subst h;exact i13) ?_ ?_<;>subst hσz
   ·clear hE hinl hV;cbv;(try repeat' first|rfl|assumption|constructor)
   intro ⟨x13_0,x13_1⟩ hI13 K13 hK13
   have h13:=c13 _ _ hI13
   cbv
   repeat' first|(refine Br.mk (fun _=>?_) (fun _=>?_)<;>cbv)|(refine NilB.mk (fun _=>?_) ?_<;>cbv)|refine And.intro ?_ ?_|exact True.intro
   ·next a=>subst h;exact h13.g34 (dt a)
   ·next a=>subst h;exact h13.g35 (dt a)
   ·next a=>subst h;exact h13.g36 (dt a)
   ·next a=>subst h;exact h13.g37 (dt a)
   next p106a=>
    refine hK13 (A.app x13_0 [[D.i (A.tmod (A.shr .i64 x1_1 x13_1) 2)]],A.sub x13_1 1) _ ?_ ?_ ?_
    ·subst h;exact (h13.n38 (dt p106a)).1
    ·subst h;exact (h13.n38 (dt p106a)).2
    clear hE hinl hV hK13;cbv;(try repeat' first|rfl|assumption|constructor)
   rename_i p107a
   refine hK8 (x13_0) _ ?_ ?_
   ·subst h;exact h13.n39 (df p107a)
   clear hE hinl hV hK8;cbv;(try repeat' first|rfl|assumption|constructor)
  intro x8_0 hI8
  have h8:=c8 _ hI8
  cbv
  repeat' first|(refine Br.mk (fun _=>?_) (fun _=>?_)<;>cbv)|(refine NilB.mk (fun _=>?_) ?_<;>cbv)|refine And.intro ?_ ?_|exact True.intro
  ·subst h;exact h8.g108
  ·subst h;exact h8.g109
  refine hK0 (x8_0,A.add x0_1 1,A.di (fn 65 [[D.i x0_2,D.i x0_3],[D.i x1_0]] 0 0),A.di (fn 65 [[D.i x0_2,D.i x0_3],[D.i x1_0]] 0 1),A.di (fn 65 [[D.i x0_4,D.i x0_5],[D.i x1_1]] 0 0),A.di (fn 65 [[D.i x0_4,D.i x0_5],[D.i x1_1]] 0 1)) _ ?_ ?_ ?_
  ·subst h;exact (h8.n110).1
  ·subst h;exact (h8.n110).2
  clear hE hinl hV hK0;cbv;(try repeat' first|rfl|assumption|constructor)
 ·next a=>subst h;exact h0.g111 (df a)
 ·next a=>subst h;exact h0.g112 (df a)
 rename_i p113a
 refine Leaf.gen fun σz hσz=>?_
 obtain ⟨I14,m14,i14,c14⟩:V28l14 pre fn a0 R x0_0:=by subst h;exact h0.l14 (df p113a)
 refine loopBJ hE [11,14,16] hinl 6 [] [] [] (fun x:Rows=>[.l x]) (fun x=>I14 x) (fun x=>m14 x) (x0_0) (by subst h;exact i14) ?_ ?_<;>subst hσz
 ·clear hE hinl hV;cbv;(try repeat' first|rfl|assumption|constructor)
 intro x14_0 hI14 K14 hK14
 have h14:=c14 _ hI14
 cbv
 repeat' first|(refine Br.mk (fun _=>?_) (fun _=>?_)<;>cbv)|(refine NilB.mk (fun _=>?_) ?_<;>cbv)|refine And.intro ?_ ?_|exact True.intro
 ·subst h;exact h14.g114
 ·next a=>subst h;exact h14.g115 (df (nt a))
 next p116a=>
  refine hK14 (A.app x14_0 [[D.i 0]]) _ ?_ ?_ ?_
  ·subst h;exact (h14.n116 (df (nt p116a))).1
  ·subst h;exact (h14.n116 (df (nt p116a))).2
  clear hE hinl hV hK14;cbv;(try repeat' first|rfl|assumption|constructor)
 rename_i p117a
 refine Leaf.gen fun σz hσz=>?_
 obtain ⟨I15,m15,i15,c15⟩:V28l15 pre fn a0 R x14_0:=by subst h;exact h14.l15 (dt (nf p117a))
 refine loopBJ hE [11,14,16] hinl 6 [] [] [] (fun x:Rows×Int=>[.l x.1,.i x.2]) (fun x=>I15 x.1 x.2) (fun x=>m15 x.1 x.2) ([[D.i 71],[D.i 83],[D.i (A.wrap IntKind.u8 (A.shr IntKind.i64 (A.nat (A.len a0)) 16))],[D.i (A.wrap IntKind.u8 (A.shr IntKind.i64 (A.nat (A.len a0)) 8))],[D.i (A.wrap IntKind.u8 (A.nat (A.len a0)))]],0) (by subst h;exact i15) ?_ ?_<;>subst hσz
 ·clear hE hinl hV;cbv;(try repeat' first|rfl|assumption|constructor)
 intro ⟨x15_0,x15_1⟩ hI15 K15 hK15
 have h15:=c15 _ _ hI15
 cbv
 repeat' first|(refine Br.mk (fun _=>?_) (fun _=>?_)<;>cbv)|(refine NilB.mk (fun _=>?_) ?_<;>cbv)|refine And.intro ?_ ?_|exact True.intro
 next p118a=>
  refine Leaf.gen fun σz hσz=>?_
  obtain ⟨I16,m16,i16,c16⟩:V28l16 x14_0 x15_0 x15_1 I15 m15:=by subst h;exact h15.l16 (dt p118a)
  refine loopBJ hE [11,14,16] hinl 6 [] [] [] (fun x:Int×Int=>[.i x.1,.i x.2]) (fun x=>I16 x.1 x.2) (fun x=>m16 x.1 x.2) (0,0) (by subst h;exact i16) ?_ ?_<;>subst hσz
  ·clear hE hinl hV;cbv;(try repeat' first|rfl|assumption|constructor)
  intro ⟨x16_0,x16_1⟩ hI16 K16 hK16
  have h16:=c16 _ _ hI16
  cbv
  repeat' first|(refine Br.mk (fun _=>?_) (fun _=>?_)<;>cbv)|(refine NilB.mk (fun _=>?_) ?_<;>cbv)|refine And.intro ?_ ?_|exact True.intro
  ·next a=>subst h;exact h16.g119 (dt a)
  ·next a=>subst h;exact h16.g120 (dt a)
  ·next a=>subst h;exact h16.g121 (dt a)
  ·next a=>subst h;exact h16.g122 (dt a)
  ·next a=>subst h;exact h16.g123 (dt a)
  ·next a=>subst h;exact h16.g124 (dt a)
  ·next a=>subst h;exact h16.g125 (dt a)
  next p126a=>
   refine hK16 (A.add (A.mul 2 x16_0) (A.di (A.get x14_0 (A.toNat (A.add x15_1 x16_1)) 0)),A.add x16_1 1) _ ?_ ?_ ?_
   ·subst h;exact (h16.n126 (dt p126a)).1
   ·subst h;exact (h16.n126 (dt p126a)).2
   clear hE hinl hV hK16;cbv;(try repeat' first|rfl|assumption|constructor)
  ·next a=>subst h;exact h16.g127 (df a)
  ·next a=>subst h;exact h16.g128 (df a)
  rename_i p129a
  refine hK15 (A.app x15_0 [[D.i (A.wrap .u8 x16_0)]],A.add x15_1 8) _ ?_ ?_ ?_
  ·subst h;exact (h16.n129 (df p129a)).1
  ·subst h;exact (h16.n129 (df p129a)).2
  clear hE hinl hV hK15;cbv;(try repeat' first|rfl|assumption|constructor)
 ·next a=>subst h;exact h15.g130 (df a)
 ·next a=>subst h;exact h15.g131 (df a)
 ·next a=>subst h;exact h15.g132 (df a)
 next a=>subst h;exact h15.g133 (df a)
end HX

namespace HX
open Go Go.Proofs CX
set_option maxHeartbeats 4000000 in
set_option maxRecDepth 100000 in
set_option cbv.maxSteps 3000000 in
theorem walk31 {ro A pre fn} (hE:EnvOk ⟨A,(cxE ro),ksF,sigL [(51,⟨[(false,[.sl [.int .i64,.int .i64]])],[(false,[.int .i64])],false⟩)],pre,fn⟩) {P:List (List D)->Prop} {res:List (List D)->Nat->Nat->D}
  (hv:∀(a0:Rows) (a1:Rows),ShR [.int .i64,.int .i64] a0->ShR [.int .i64,.int .i64] a1->P [[.l a0],[.l a1]]->V31 pre fn a0 a1 (res [[.l a0],[.l a1]])) :
  PureC (cxE ro) 31 ⟨[(false,[.sl [.int .i64,.int .i64]]),(false,[.sl [.int .i64,.int .i64]])],[(false,[.sl [.int .i64,.int .i64]]),(false,[.int .i64])],false⟩ P res:=by
 have h:=hE.A
 simp only [] at h
 have hinl:∀f fn,inlL [(74,Try.f74),(77,Try.f77),(96,Try.f96)] f=some fn->(cxE ro).fn f=some fn/\(cxE ro).ext f=none:=Inls.ok (by repeat (first |exact .nil |refine .cons rfl rfl ?_))
 refine PureC.of_vc hE hinl 6 (f:=31) (fn:=Try.f31) ⟨rfl,rfl⟩ ?_
 intro a0 ha0 a1 ha1 hP
 obtain ⟨R,hR⟩:∃R,res [[.l a0],[.l a1]]=R:=⟨_,rfl⟩
 rw [hR]
 have hV:=hv a0 a1 ha0 ha1 hP
 rw [hR] at hV
 clear hR hP hv
 cbv
 repeat' first|(refine Br.mk (fun _=>?_) (fun _=>?_)<;>cbv)|(refine NilB.mk (fun _=>?_) ?_<;>cbv)|refine And.intro ?_ ?_|exact True.intro
 refine Leaf.gen fun σz hσz=>?_
 obtain ⟨I0,m0,i0,c0⟩:V31l0 pre fn a0 a1 R:=by subst h;exact hV.l0
 refine loopB hE hinl 6 [] [] [] (fun x:Rows×Int×Int=>[.l x.1,.i x.2.1,.i x.2.2]) (fun x=>I0 x.1 x.2.1 x.2.2) (fun x=>m0 x.1 x.2.1 x.2.2) ([],0,0) (by subst h;exact i0) ?_ ?_<;>subst hσz
 ·clear hE hinl hV;cbv;(try repeat' first|rfl|assumption|constructor)
 intro ⟨b0,b1,b2⟩ hI0 K0 hK0
 have h0:=c0 _ _ _ hI0
 cbv
 repeat' first|(refine Br.mk (fun _=>?_) (fun _=>?_)<;>cbv)|(refine NilB.mk (fun _=>?_) ?_<;>cbv)|refine And.intro ?_ ?_|exact True.intro
 ·next a=>subst h;exact h0.g1 (dt a)
 ·next a=>subst h;exact h0.g2 (dt a)
 ·next a=>subst h;exact h0.g3 (dt a)
 ·next a=>subst h;exact h0.g4 (dt a)
 ·next a b=>subst h;exact h0.g5 (dt a) (df (nt b))
 ·next a b=>subst h;exact h0.g6 (dt a) (df (nt b))
 ·next a b=>subst h;exact h0.g7 (dt a) (dt (nf b))
 next p8a p8b=>
  refine hK0 (b0,b1,A.add b2 1) _ ?_ ?_ ?_
  ·subst h;exact (h0.n8 (dt p8a) (dt (nf p8b))).1
  ·subst h;exact (h0.n8 (dt p8a) (dt (nf p8b))).2
  clear hE hinl hV hK0;cbv;(try repeat' first|rfl|assumption|constructor)
 rename_i p9a
 refine Leaf.gen fun σz hσz=>?_
 obtain ⟨I1,m1,i1,c1⟩:V31l1 a0 a1 R:=by subst h;exact h0.l1 (df p9a)
 refine loopB hE hinl 6 [] [] [] (fun x:Int×Int=>[.i x.1,.i x.2]) (fun x=>I1 x.1 x.2) (fun x=>m1 x.1 x.2) (0,0) (by subst h;exact i1) ?_ ?_<;>subst hσz
 ·clear hE hinl hV;cbv;(try repeat' first|rfl|assumption|constructor)
 intro ⟨d0,d1⟩ hI1 K1 hK1
 have h1:=c1 _ _ hI1
 cbv
 repeat' first|(refine Br.mk (fun _=>?_) (fun _=>?_)<;>cbv)|(refine NilB.mk (fun _=>?_) ?_<;>cbv)|refine And.intro ?_ ?_|exact True.intro
 ·next a=>subst h;exact h1.g10 (dt a)
 ·next a=>subst h;exact h1.g11 (dt a)
 ·next a=>subst h;exact h1.g12 (dt a)
 ·next a=>subst h;exact h1.g13 (dt a)
 ·next a b=>subst h;exact (h1.g14 (dt a) (dt b)).elim
 ·next a b=>subst h;exact h1.g15 (dt a) (df b)
 next p16a p16b=>
  refine hK1 (A.add d0 (A.nat (A.len (A.dl (A.get [[D.l a0],[D.l a1]] (A.toNat d1) 0)))),A.add d1 1) _ ?_ ?_ ?_
  ·subst h;exact (h1.n16 (dt p16a) (df p16b)).1
  ·subst h;exact (h1.n16 (dt p16a) (df p16b)).2
  clear hE hinl hV hK1;cbv;(try repeat' first|rfl|assumption|constructor)
 ·next a b=>subst h;exact (h1.g17 (df a) (dt b)).elim
 ·next a b=>subst h;exact h1.g18 (df a) (df b)
 ·next a b=>subst h;exact h1.g19 (df a) (df b)
 ·next a b c=>subst h;exact h1.g20 (df a) (df b) (dt c)
 ·next a b c=>subst h;exact h1.g21 (df a) (df b) (dt c)
 ·next a b c=>subst h;exact h1.g22 (df a) (df b) (dt c)
 ·next a b c=>subst h;exact h1.g23 (df a) (df b) (dt c)
 ·next a b c=>subst h;exact h1.g24 (df a) (df b) (dt c)
 ·next a b c=>subst h;exact h1.g20 (df a) (df b) (dt c)
 ·next a b c=>subst h;exact h1.g26 (df a) (df b) (dt c)
 next p27a p27b p27c=>
  refine Leaf.gen fun σz hσz=>?_
  obtain ⟨I2,m2,i2,c2⟩:V31l2 a0 a1 R d0:=by subst h;exact h1.l2 (df p27a) (df p27b) (dt p27c)
  refine loopC hE hinl 6 [6] [] [] [] (fun x:Rows×Int=>[.l x.1,.i x.2]) (fun x=>I2 x.1 x.2) (fun x=>m2 x.1 x.2) (A.sub' (A.rep (A.toNat (A.sub d0 (A.sub 0 0))) [D.i 0,D.i 0]) 0 (A.toNat 0),0) (by subst h;exact i2) ?_ ?_<;>subst hσz
  ·clear hE hinl hV;cbv;(try repeat' first|rfl|assumption|constructor)
  intro ⟨e0,e1⟩ hI2 K2 hK2
  have h2:=c2 _ _ hI2
  cbv
  repeat' first|(refine Br.mk (fun _=>?_) (fun _=>?_)<;>cbv)|(refine NilB.mk (fun _=>?_) ?_<;>cbv)|refine And.intro ?_ ?_|exact True.intro
  ·next a=>subst h;exact h2.g28 (dt a)
  ·next a=>subst h;exact h2.g29 (dt a)
  ·next a=>subst h;exact h2.g30 (dt a)
  ·next a=>subst h;exact h2.g31 (dt a)
  ·next a=>subst h;exact h2.g32 (dt a)
  next p33a=>
   refine hK2 (A.app e0 (A.dl (A.get [[D.l a0],[D.l a1]] (A.toNat e1) 0)),A.add e1 1) _ ?_ ?_ ?_
   ·subst h;exact (h2.n33 (dt p33a)).1
   ·subst h;exact (h2.n33 (dt p33a)).2
   clear hE hinl hV hK2;cbv;(try repeat' first|rfl|assumption|constructor)
  ·next a=>subst h;exact h2.g34 (df a)
  ·next a b c=>subst h;exact h2.g35 (df a) (dt b) (dt c)
  ·next a b c=>subst h;exact h2.g36 (df a) (dt b) (dt c)
  ·next a b c=>subst h;exact h2.g37 (df a) (dt b) (df c)
  ·next a b c=>subst h;exact h2.g38 (df a) (dt b) (df c)
  rename_i p39a p39b
  refine Leaf.gen fun σz hσz=>?_
  obtain ⟨I3,m3,i3,c3⟩:V31l3 R e0:=by subst h;exact h2.l3 (df p39a) (df p39b)
  refine loopB hE hinl 6 [] [2] [] (fun x:Int=>[.i x]) (fun x=>I3 x) (fun x=>m3 x) (1) (by subst h;exact i3) ?_ ?_<;>subst hσz
  ·clear hE hinl hV;cbv;(try repeat' first|rfl|assumption|constructor)
  intro f0 hI3 K3 hK3
  have h3:=c3 _ hI3
  cbv
  repeat' first|(refine Br.mk (fun _=>?_) (fun _=>?_)<;>cbv)|(refine NilB.mk (fun _=>?_) ?_<;>cbv)|refine And.intro ?_ ?_|exact True.intro
  ·next a=>subst h;exact h3.g40 (dt a)
  ·next a=>subst h;exact h3.g41 (dt a)
  ·next a=>subst h;exact h3.g42 (dt a)
  ·next a=>subst h;exact h3.g42 (dt a)
  ·next a=>subst h;exact h3.g44 (dt a)
  ·next a=>subst h;exact h3.g45 (dt a)
  ·next a=>subst h;exact h3.g46 (dt a)
  ·next a=>subst h;exact h3.g47 (dt a)
  ·next a=>subst h;exact h3.g47 (dt a)
  ·next a b=>subst h;exact h3.g49 (dt a) ⟨(dt (and_t b).1),(dt (and_t b).2)⟩
  ·next a b=>subst h;exact h3.g50 (dt a) ⟨(dt (and_t b).1),(dt (and_t b).2)⟩
  next p51a p51b=>
   refine Leaf.gen fun σz hσz=>?_
   obtain ⟨I4,m4,i4,c4⟩:V31l4 R e0 f0:=by subst h;exact h3.l4 (dt p51a) ⟨(dt (and_t p51b).1),(dt (and_t p51b).2)⟩
   refine loopB hE hinl 6 [] [] [(9,[])] (fun x:Int×Int×Rows=>[.i x.1,.i x.2.1,.l x.2.2]) (fun x=>I4 x.1 x.2.1 x.2.2) (fun x=>m4 x.1 x.2.1 x.2.2) (f0,1,A.srt e0) (by subst h;exact i4) ?_ ?_<;>subst hσz
   ·clear hE hinl hV;cbv;(try repeat' first|rfl|assumption|constructor)
   intro ⟨j0,j1,j2⟩ hI4 K4 hK4
   have h4:=c4 _ _ _ hI4
   cbv
   repeat' first|(refine Br.mk (fun _=>?_) (fun _=>?_)<;>cbv)|(refine NilB.mk (fun _=>?_) ?_<;>cbv)|refine And.intro ?_ ?_|exact True.intro
   ·next a=>subst h;exact h4.g52 (dt a)
   ·next a=>subst h;exact h4.g53 (dt a)
   ·next a=>subst h;exact h4.g54 (dt a)
   ·next a=>subst h;exact h4.g55 (dt a)
   ·next a=>subst h;exact h4.g55 (dt a)
   ·next a=>subst h;exact h4.g57 (dt a)
   ·next a=>subst h;exact h4.g52 (dt a)
   ·next a=>subst h;exact h4.g59 (dt a)
   ·next a=>subst h;exact h4.g60 (dt a)
   ·next a=>subst h;exact h4.g61 (dt a)
   ·next a=>subst h;exact h4.g61 (dt a)
   ·next a b=>subst h;exact h4.g63 (dt a) ((and_f (nt b)).imp (fun h=>(df h)) (fun h=>(df h)))
   ·next a b=>subst h;exact h4.g64 (dt a) ((and_f (nt b)).imp (fun h=>(df h)) (fun h=>(df h)))
   ·next a b=>subst h;exact h4.g65 (dt a) ((and_f (nt b)).imp (fun h=>(df h)) (fun h=>(df h)))
   ·next a b=>subst h;exact h4.g66 (dt a) ((and_f (nt b)).imp (fun h=>(df h)) (fun h=>(df h)))
   ·next a b=>subst h;exact h4.g67 (dt a) ((and_f (nt b)).imp (fun h=>(df h)) (fun h=>(df h)))
   ·next a b=>subst h;exact h4.g68 (dt a) ((and_f (nt b)).imp (fun h=>(df h)) (fun h=>(df h)))
   ·next a b=>subst h;exact h4.g69 (dt a) ((and_f (nt b)).imp (fun h=>(df h)) (fun h=>(df h)))
   ·next a b=>subst h;exact h4.g70 (dt a) ((and_f (nt b)).imp (fun h=>(df h)) (fun h=>(df h)))
   ·next a b=>subst h;exact h4.g71 (dt a) ((and_f (nt b)).imp (fun h=>(df h)) (fun h=>(df h)))
   next p72a p72b=>
    refine hK4 (A.add j0 1,A.add j1 1,A.set j2 (A.toNat j0) [D.i (A.di (A.get j2 (A.nadd (A.toNat f0) (A.toNat j1)) 0)),D.i (A.di (A.get j2 (A.nadd (A.toNat f0) (A.toNat j1)) 1))]) _ ?_ ?_ ?_
    ·subst h;exact (h4.n72 (dt p72a) ((and_f (nt p72b)).imp (fun h=>(df h)) (fun h=>(df h)))).1
    ·subst h;exact (h4.n72 (dt p72a) ((and_f (nt p72b)).imp (fun h=>(df h)) (fun h=>(df h)))).2
    clear hE hinl hV hK4;cbv;(try repeat' first|rfl|assumption|constructor)
   ·next a b=>subst h;exact h4.g73 (dt a) ⟨(dt (and_t (nf b)).1),(dt (and_t (nf b)).2)⟩
   next p74a p74b=>
    refine hK4 (j0,A.add j1 1,j2) _ ?_ ?_ ?_
    ·subst h;exact (h4.n74 (dt p74a) ⟨(dt (and_t (nf p74b)).1),(dt (and_t (nf p74b)).2)⟩).1
    ·subst h;exact (h4.n74 (dt p74a) ⟨(dt (and_t (nf p74b)).1),(dt (and_t (nf p74b)).2)⟩).2
    clear hE hinl hV hK4;cbv;(try repeat' first|rfl|assumption|constructor)
   ·next a=>subst h;exact h4.g75 (df a)
   ·next a=>subst h;exact h4.g76 (df a)
   ·next a=>subst h;exact h4.g77 (df a)
   ·next a=>subst h;exact h4.g75 (df a)
   ·next a=>subst h;exact h4.g79 (df a)
   ·next a b=>subst h;exact h4.g80 (df a) (dt b)
   ·next a b=>subst h;exact h4.g81 (df a) (dt b)
   ·next a b=>subst h;exact h4.g82 (df a) (df b)
   next a b=>subst h;exact h4.g83 (df a) (df b)
  ·next a b=>subst h;exact h3.g84 (dt a) ((and_f b).imp (fun h=>(df h)) (fun h=>(df h)))
  next p85a p85b=>
   refine hK3 (A.add f0 1) _ ?_ ?_ ?_
   ·subst h;exact (h3.n85 (dt p85a) ((and_f p85b).imp (fun h=>(df h)) (fun h=>(df h)))).1
   ·subst h;exact (h3.n85 (dt p85a) ((and_f p85b).imp (fun h=>(df h)) (fun h=>(df h)))).2
   clear hE hinl hV hK3;cbv;(try repeat' first|rfl|assumption|constructor)
  ·next a b=>subst h;exact h3.g86 (df a) (dt b)
  ·next a b=>subst h;exact h3.g87 (df a) (dt b)
  ·next a b=>subst h;exact h3.g88 (df a) (df b)
  next a b=>subst h;exact h3.g89 (df a) (df b)
 rename_i p90a p90b p90c
 refine Leaf.gen fun σz hσz=>?_
 obtain ⟨I5,m5,i5,c5⟩:V31l5 a0 a1 R:=by subst h;exact h1.l5 (df p90a) (df p90b) (df p90c)
 refine loopB hE hinl 6 [] [] [] (fun x:Rows×Int=>[.l x.1,.i x.2]) (fun x=>I5 x.1 x.2) (fun x=>m5 x.1 x.2) ([],0) (by subst h;exact i5) ?_ ?_<;>subst hσz
 ·clear hE hinl hV;cbv;(try repeat' first|rfl|assumption|constructor)
 intro ⟨k0,k1⟩ hI5 K5 hK5
 have h5:=c5 _ _ hI5
 cbv
 repeat' first|(refine Br.mk (fun _=>?_) (fun _=>?_)<;>cbv)|(refine NilB.mk (fun _=>?_) ?_<;>cbv)|refine And.intro ?_ ?_|exact True.intro
 ·next a=>subst h;exact h5.g28 (dt a)
 ·next a=>subst h;exact h5.g29 (dt a)
 ·next a=>subst h;exact h5.g30 (dt a)
 ·next a=>subst h;exact h5.g31 (dt a)
 ·next a=>subst h;exact h5.g32 (dt a)
 next p96a=>
  refine hK5 (A.app k0 (A.dl (A.get [[D.l a0],[D.l a1]] (A.toNat k1) 0)),A.add k1 1) _ ?_ ?_ ?_
  ·subst h;exact (h5.n33 (dt p96a)).1
  ·subst h;exact (h5.n33 (dt p96a)).2
  clear hE hinl hV hK5;cbv;(try repeat' first|rfl|assumption|constructor)
 ·next a=>subst h;exact h5.g34 (df a)
 ·next a b c=>subst h;exact h5.g35 (df a) (dt b) (dt c)
 ·next a b c=>subst h;exact h5.g36 (df a) (dt b) (dt c)
 ·next a b c=>subst h;exact h5.g37 (df a) (dt b) (df c)
 ·next a b c=>subst h;exact h5.g38 (df a) (dt b) (df c)
 rename_i p102a p102b
 refine Leaf.gen fun σz hσz=>?_
 obtain ⟨I6,m6,i6,c6⟩:V31l3 R k0:=by subst h;exact h5.l3 (df p102a) (df p102b)
 refine loopB hE hinl 6 [] [2] [] (fun x:Int=>[.i x]) (fun x=>I6 x) (fun x=>m6 x) (1) (by subst h;exact i6) ?_ ?_<;>subst hσz
 ·clear hE hinl hV;cbv;(try repeat' first|rfl|assumption|constructor)
 intro o0 hI6 K6 hK6
 have h6:=c6 _ hI6
 cbv
 repeat' first|(refine Br.mk (fun _=>?_) (fun _=>?_)<;>cbv)|(refine NilB.mk (fun _=>?_) ?_<;>cbv)|refine And.intro ?_ ?_|exact True.intro
 ·next a=>subst h;exact h6.g40 (dt a)
 ·next a=>subst h;exact h6.g41 (dt a)
 ·next a=>subst h;exact h6.g42 (dt a)
 ·next a=>subst h;exact h6.g42 (dt a)
 ·next a=>subst h;exact h6.g44 (dt a)
 ·next a=>subst h;exact h6.g45 (dt a)
 ·next a=>subst h;exact h6.g46 (dt a)
 ·next a=>subst h;exact h6.g47 (dt a)
 ·next a=>subst h;exact h6.g47 (dt a)
 ·next a b=>subst h;exact h6.g49 (dt a) ⟨(dt (and_t b).1),(dt (and_t b).2)⟩
 ·next a b=>subst h;exact h6.g50 (dt a) ⟨(dt (and_t b).1),(dt (and_t b).2)⟩
 next p114a p114b=>
  refine Leaf.gen fun σz hσz=>?_
  obtain ⟨I7,m7,i7,c7⟩:V31l4 R k0 o0:=by subst h;exact h6.l4 (dt p114a) ⟨(dt (and_t p114b).1),(dt (and_t p114b).2)⟩
  refine loopB hE hinl 6 [] [] [(7,[])] (fun x:Int×Int×Rows=>[.i x.1,.i x.2.1,.l x.2.2]) (fun x=>I7 x.1 x.2.1 x.2.2) (fun x=>m7 x.1 x.2.1 x.2.2) (o0,1,A.srt k0) (by subst h;exact i7) ?_ ?_<;>subst hσz
  ·clear hE hinl hV;cbv;(try repeat' first|rfl|assumption|constructor)
  intro ⟨q0,q1,q2⟩ hI7 K7 hK7
  have h7:=c7 _ _ _ hI7
  cbv
  repeat' first|(refine Br.mk (fun _=>?_) (fun _=>?_)<;>cbv)|(refine NilB.mk (fun _=>?_) ?_<;>cbv)|refine And.intro ?_ ?_|exact True.intro
  ·next a=>subst h;exact h7.g52 (dt a)
  ·next a=>subst h;exact h7.g53 (dt a)
  ·next a=>subst h;exact h7.g54 (dt a)
  ·next a=>subst h;exact h7.g55 (dt a)
  ·next a=>subst h;exact h7.g55 (dt a)
  ·next a=>subst h;exact h7.g57 (dt a)
  ·next a=>subst h;exact h7.g52 (dt a)
  ·next a=>subst h;exact h7.g59 (dt a)
  ·next a=>subst h;exact h7.g60 (dt a)
  ·next a=>subst h;exact h7.g61 (dt a)
  ·next a=>subst h;exact h7.g61 (dt a)
  ·next a b=>subst h;exact h7.g63 (dt a) ((and_f (nt b)).imp (fun h=>(df h)) (fun h=>(df h)))
  ·next a b=>subst h;exact h7.g64 (dt a) ((and_f (nt b)).imp (fun h=>(df h)) (fun h=>(df h)))
  ·next a b=>subst h;exact h7.g65 (dt a) ((and_f (nt b)).imp (fun h=>(df h)) (fun h=>(df h)))
  ·next a b=>subst h;exact h7.g66 (dt a) ((and_f (nt b)).imp (fun h=>(df h)) (fun h=>(df h)))
  ·next a b=>subst h;exact h7.g67 (dt a) ((and_f (nt b)).imp (fun h=>(df h)) (fun h=>(df h)))
  ·next a b=>subst h;exact h7.g68 (dt a) ((and_f (nt b)).imp (fun h=>(df h)) (fun h=>(df h)))
  ·next a b=>subst h;exact h7.g69 (dt a) ((and_f (nt b)).imp (fun h=>(df h)) (fun h=>(df h)))
  ·next a b=>subst h;exact h7.g70 (dt a) ((and_f (nt b)).imp (fun h=>(df h)) (fun h=>(df h)))
  ·next a b=>subst h;exact h7.g71 (dt a) ((and_f (nt b)).imp (fun h=>(df h)) (fun h=>(df h)))
  next p135a p135b=>
   refine hK7 (A.add q0 1,A.add q1 1,A.set q2 (A.toNat q0) [D.i (A.di (A.get q2 (A.nadd (A.toNat o0) (A.toNat q1)) 0)),D.i (A.di (A.get q2 (A.nadd (A.toNat o0) (A.toNat q1)) 1))]) _ ?_ ?_ ?_
   ·subst h;exact (h7.n72 (dt p135a) ((and_f (nt p135b)).imp (fun h=>(df h)) (fun h=>(df h)))).1
   ·subst h;exact (h7.n72 (dt p135a) ((and_f (nt p135b)).imp (fun h=>(df h)) (fun h=>(df h)))).2
   clear hE hinl hV hK7;cbv;(try repeat' first|rfl|assumption|constructor)
  ·next a b=>subst h;exact h7.g73 (dt a) ⟨(dt (and_t (nf b)).1),(dt (and_t (nf b)).2)⟩
  next p137a p137b=>
   refine hK7 (q0,A.add q1 1,q2) _ ?_ ?_ ?_
   ·subst h;exact (h7.n74 (dt p137a) ⟨(dt (and_t (nf p137b)).1),(dt (and_t (nf p137b)).2)⟩).1
   ·subst h;exact (h7.n74 (dt p137a) ⟨(dt (and_t (nf p137b)).1),(dt (and_t (nf p137b)).2)⟩).2
   clear hE hinl hV hK7;cbv;(try repeat' first|rfl|assumption|constructor)
  ·next a=>subst h;exact h7.g75 (df a)
  ·next a=>subst h;exact h7.g76 (df a)
  ·next a=>subst h;exact h7.g77 (df a)
  ·next a=>subst h;exact h7.g75 (df a)
  ·next a=>subst h;exact h7.g79 (df a)
  ·next a b=>subst h;exact h7.g80 (df a) (dt b)
  ·next a b=>subst h;exact h7.g81 (df a) (dt b)
  ·next a b=>subst h;exact h7.g82 (df a) (df b)
  next a b=>subst h;exact h7.g83 (df a) (df b)
 ·next a b=>subst h;exact h6.g84 (dt a) ((and_f b).imp (fun h=>(df h)) (fun h=>(df h)))
 next p148a p148b=>
  refine hK6 (A.add o0 1) _ ?_ ?_ ?_
  ·subst h;exact (h6.n85 (dt p148a) ((and_f p148b).imp (fun h=>(df h)) (fun h=>(df h)))).1
  ·subst h;exact (h6.n85 (dt p148a) ((and_f p148b).imp (fun h=>(df h)) (fun h=>(df h)))).2
  clear hE hinl hV hK6;cbv;(try repeat' first|rfl|assumption|constructor)
 ·next a b=>subst h;exact h6.g86 (df a) (dt b)
 ·next a b=>subst h;exact h6.g87 (df a) (dt b)
 ·next a b=>subst h;exact h6.g88 (df a) (df b)
 next a b=>subst h;exact h6.g89 (df a) (df b)
end HX

namespace HX
open Go Go.Proofs CX
set_option maxHeartbeats 4000000 in
set_option maxRecDepth 100000 in
set_option cbv.maxSteps 3000000 in
theorem walk33 {ro A pre fn} (hE:EnvOk ⟨A,(cxE ro),ksF,sigL [(51,⟨[(false,[.sl [.int .i64,.int .i64]])],[(false,[.int .i64])],false⟩)],pre,fn⟩) {P:List (List D)->Prop} {res:List (List D)->Nat->Nat->D}
  (hv:∀(a0:Rows) (a1:Int) (a2:Int),ShR [.int .i64,.int .i64] a0->P [[.l a0],[.i a1],[.i a2]]->V33 pre fn a0 a1 a2 (res [[.l a0],[.i a1],[.i a2]])) :
  PureC (cxE ro) 33 ⟨[(false,[.sl [.int .i64,.int .i64]]),(false,[.int .i64]),(false,[.int .i64])],[(false,[.sl [.int .i64,.int .i64]]),(false,[.int .i64])],false⟩ P res:=by
 have h:=hE.A
 simp only [] at h
 have hinl:∀f fn,inlL [(79,Try.f79),(80,Try.f80),(81,Try.f81),(83,Try.f83)] f=some fn->(cxE ro).fn f=some fn/\(cxE ro).ext f=none:=Inls.ok (by repeat (first |exact .nil |refine .cons rfl rfl ?_))
 refine PureC.of_vc hE hinl 6 (f:=33) (fn:=Try.f33) ⟨rfl,rfl⟩ ?_
 intro a0 ha0 a1 a2 hP
 obtain ⟨R,hR⟩:∃R,res [[.l a0],[.i a1],[.i a2]]=R:=⟨_,rfl⟩
 rw [hR]
 have hV:=hv a0 a1 a2 ha0 hP
 rw [hR] at hV
 clear hR hP hv
 cbv
 repeat' first|(refine Br.mk (fun _=>?_) (fun _=>?_)<;>cbv)|(refine NilB.mk (fun _=>?_) ?_<;>cbv)|refine And.intro ?_ ?_|exact True.intro
 ·subst h;exact hV.g0
 ·next a=>subst h;exact hV.g1 (df (nt a))
 ·next a=>subst h;exact hV.g2 (df (nt a))
 ·next a b=>subst h;exact hV.g3 (dt (nf a)) (dt b)
 ·next a b=>subst h;exact hV.g4 (dt (nf a)) (dt b)
 next p5a p5b p5c=>
  refine Leaf.gen fun σz hσz=>?_
  obtain ⟨I0,m0,i0,c0⟩:V33l0 R:=by subst h;exact hV.l0 (dt (nf p5a)) (df p5b) p5c
  refine loopB hE hinl 6 [] [] [] (fun x:Int×Int=>[.i x.1,.i x.2]) (fun x=>I0 x.1 x.2) (fun x=>m0 x.1 x.2) (0,0) (by subst h;exact i0) ?_ ?_<;>subst hσz
  ·clear hE hinl hV;cbv;(try repeat' first|rfl|assumption|constructor)
  intro ⟨b0,b1⟩ hI0 K0 hK0
  have h0:=c0 _ _ hI0
  cbv
  repeat' first|(refine Br.mk (fun _=>?_) (fun _=>?_)<;>cbv)|(refine NilB.mk (fun _=>?_) ?_<;>cbv)|refine And.intro ?_ ?_|exact True.intro
  ·next a=>subst h;exact (h0.g6 (dt a)).elim
  ·next a _=>subst h;exact h0.g7 (df a)
  ·next a _=>subst h;exact h0.g8 (df a)
  next p9a p9b=>
   exfalso;subst h;simp [Ar.std] at p9b
  rename_i p10a p10b
  exfalso;subst h;simp [Ar.std] at p10b
 ·next a b=>subst h;exact hV.g11 (dt (nf a)) (df b)
 rename_i p12a p12b
 refine Leaf.gen fun σz hσz=>?_
 obtain ⟨I1,m1,i1,c1⟩:V33l1 a0 a1 a2 R:=by subst h;exact hV.l1 (dt (nf p12a)) (df p12b)
 refine loopB hE hinl 6 [] [] [] (fun x:Int×Int=>[.i x.1,.i x.2]) (fun x=>I1 x.1 x.2) (fun x=>m1 x.1 x.2) (0,0) (by subst h;exact i1) ?_ ?_<;>subst hσz
 ·clear hE hinl hV;cbv;(try repeat' first|rfl|assumption|constructor)
 intro ⟨d0,d1⟩ hI1 K1 hK1
 have h1:=c1 _ _ hI1
 cbv
 repeat' first|(refine Br.mk (fun _=>?_) (fun _=>?_)<;>cbv)|(refine NilB.mk (fun _=>?_) ?_<;>cbv)|refine And.intro ?_ ?_|exact True.intro
 ·next a=>subst h;exact h1.g13 (dt a)
 ·next a=>subst h;exact h1.g14 (dt a)
 ·next a=>subst h;exact h1.g15 (dt a)
 ·next a b c=>subst h;exact h1.g16 (dt a) (dt b) (dt c)
 ·next a b c=>subst h;exact h1.g17 (dt a) (dt b) (dt c)
 ·next a b c=>subst h;exact h1.g18 (dt a) (dt b) (df c)
 next p19a p19b p19c=>
  refine Leaf.gen fun σz hσz=>?_
  obtain ⟨I2,m2,i2,c2⟩:V33l2 a0 a1 a2 R d1:=by subst h;exact h1.l2 (dt p19a) (dt p19b) (df p19c)
  refine loopB hE hinl 6 [] [] [(5,[])] (fun x:Int×Int×Rows=>[.i x.1,.i x.2.1,.l x.2.2]) (fun x=>I2 x.1 x.2.1 x.2.2) (fun x=>m2 x.1 x.2.1 x.2.2) (d1,A.add d1 1,A.app [] a0) (by subst h;exact i2) ?_ ?_<;>subst hσz
  ·clear hE hinl hV;cbv;(try repeat' first|rfl|assumption|constructor)
  intro ⟨e0,e1,e2⟩ hI2 K2 hK2
  have h2:=c2 _ _ _ hI2
  cbv
  repeat' first|(refine Br.mk (fun _=>?_) (fun _=>?_)<;>cbv)|(refine NilB.mk (fun _=>?_) ?_<;>cbv)|refine And.intro ?_ ?_|exact True.intro
  ·next a=>subst h;exact h2.g20 (dt a)
  ·next a=>subst h;exact h2.g21 (dt a)
  ·next a=>subst h;exact h2.g22 (dt a)
  ·next a b=>subst h;exact h2.g23 (dt a) (dt b)
  next p24a p24b=>
   refine hK2 (e0,A.add e1 1,e2) _ ?_ ?_ ?_
   ·subst h;exact (h2.n24 (dt p24a) (dt p24b)).1
   ·subst h;exact (h2.n24 (dt p24a) (dt p24b)).2
   clear hE hinl hV hK2;cbv;(try repeat' first|rfl|assumption|constructor)
  ·next a b c=>subst h;exact h2.g25 (dt a) (df b) (df (nt c))
  ·next a b c=>subst h;exact h2.g26 (dt a) (df b) (df (nt c))
  ·next a b c=>subst h;exact h2.g27 (dt a) (df b) (df (nt c))
  ·next a b c=>subst h;exact h2.g28 (dt a) (df b) (df (nt c))
  ·next a b c=>subst h;exact h2.g29 (dt a) (df b) (df (nt c))
  next p30a p30b p30c=>
   refine hK2 (A.add e0 1,A.add e1 1,A.set e2 (A.toNat e0) [D.i (A.di (A.get e2 (A.toNat e1) 0)),D.i (A.di (A.get e2 (A.toNat e1) 1))]) _ ?_ ?_ ?_
   ·subst h;exact (h2.n30 (dt p30a) (df p30b) (df (nt p30c))).1
   ·subst h;exact (h2.n30 (dt p30a) (df p30b) (df (nt p30c))).2
   clear hE hinl hV hK2;cbv;(try repeat' first|rfl|assumption|constructor)
  ·next a b c=>subst h;exact h2.g31 (dt a) (df b) (dt (nf c))
  next p32a p32b p32c=>
   refine hK2 (e0,A.add e1 1,e2) _ ?_ ?_ ?_
   ·subst h;exact (h2.n32 (dt p32a) (df p32b) (dt (nf p32c))).1
   ·subst h;exact (h2.n32 (dt p32a) (df p32b) (dt (nf p32c))).2
   clear hE hinl hV hK2;cbv;(try repeat' first|rfl|assumption|constructor)
  ·next a=>subst h;exact h2.g33 (df a)
  ·next a=>subst h;exact h2.g34 (df a)
  ·next a=>subst h;exact h2.g35 (df a)
  ·next a=>subst h;exact h2.g33 (df a)
  ·next a=>subst h;exact h2.g37 (df a)
  ·next a=>subst h;exact h2.g38 (df a)
  next a=>subst h;exact h2.g39 (df a)
 ·next a b c d=>subst h;exact h1.g40 (dt a) (df b) (dt c) (dt d)
 ·next a b c d=>subst h;exact h1.g41 (dt a) (df b) (dt c) (dt d)
 ·next a b c d=>subst h;exact h1.g42 (dt a) (df b) (dt c) (df d)
 next p43a p43b p43c p43d=>
  refine Leaf.gen fun σz hσz=>?_
  obtain ⟨I3,m3,i3,c3⟩:V33l2 a0 a1 a2 R d1:=by subst h;exact h1.l3 (dt p43a) (df p43b) (dt p43c) (df p43d)
  refine loopB hE hinl 6 [] [] [(5,[])] (fun x:Int×Int×Rows=>[.i x.1,.i x.2.1,.l x.2.2]) (fun x=>I3 x.1 x.2.1 x.2.2) (fun x=>m3 x.1 x.2.1 x.2.2) (d1,A.add d1 1,A.app [] a0) (by subst h;exact i3) ?_ ?_<;>subst hσz
  ·clear hE hinl hV;cbv;(try repeat' first|rfl|assumption|constructor)
  intro ⟨f0,f1,f2⟩ hI3 K3 hK3
  have h3:=c3 _ _ _ hI3
  cbv
  repeat' first|(refine Br.mk (fun _=>?_) (fun _=>?_)<;>cbv)|(refine NilB.mk (fun _=>?_) ?_<;>cbv)|refine And.intro ?_ ?_|exact True.intro
  ·next a=>subst h;exact h3.g20 (dt a)
  ·next a=>subst h;exact h3.g21 (dt a)
  ·next a=>subst h;exact h3.g22 (dt a)
  ·next a b=>subst h;exact h3.g23 (dt a) (dt b)
  next p48a p48b=>
   refine hK3 (f0,A.add f1 1,f2) _ ?_ ?_ ?_
   ·subst h;exact (h3.n24 (dt p48a) (dt p48b)).1
   ·subst h;exact (h3.n24 (dt p48a) (dt p48b)).2
   clear hE hinl hV hK3;cbv;(try repeat' first|rfl|assumption|constructor)
  ·next a b c=>subst h;exact h3.g25 (dt a) (df b) (df (nt c))
  ·next a b c=>subst h;exact h3.g26 (dt a) (df b) (df (nt c))
  ·next a b c=>subst h;exact h3.g27 (dt a) (df b) (df (nt c))
  ·next a b c=>subst h;exact h3.g28 (dt a) (df b) (df (nt c))
  ·next a b c=>subst h;exact h3.g29 (dt a) (df b) (df (nt c))
  next p54a p54b p54c=>
   refine hK3 (A.add f0 1,A.add f1 1,A.set f2 (A.toNat f0) [D.i (A.di (A.get f2 (A.toNat f1) 0)),D.i (A.di (A.get f2 (A.toNat f1) 1))]) _ ?_ ?_ ?_
   ·subst h;exact (h3.n30 (dt p54a) (df p54b) (df (nt p54c))).1
   ·subst h;exact (h3.n30 (dt p54a) (df p54b) (df (nt p54c))).2
   clear hE hinl hV hK3;cbv;(try repeat' first|rfl|assumption|constructor)
  ·next a b c=>subst h;exact h3.g31 (dt a) (df b) (dt (nf c))
  next p56a p56b p56c=>
   refine hK3 (f0,A.add f1 1,f2) _ ?_ ?_ ?_
   ·subst h;exact (h3.n32 (dt p56a) (df p56b) (dt (nf p56c))).1
   ·subst h;exact (h3.n32 (dt p56a) (df p56b) (dt (nf p56c))).2
   clear hE hinl hV hK3;cbv;(try repeat' first|rfl|assumption|constructor)
  ·next a=>subst h;exact h3.g33 (df a)
  ·next a=>subst h;exact h3.g34 (df a)
  ·next a=>subst h;exact h3.g35 (df a)
  ·next a=>subst h;exact h3.g33 (df a)
  ·next a=>subst h;exact h3.g37 (df a)
  ·next a=>subst h;exact h3.g38 (df a)
  next a=>subst h;exact h3.g39 (df a)
 ·next a b c=>subst h;exact h1.g64 (dt a) (df b) (df c)
 next p65a p65b p65c=>
  refine hK1 (d0,A.add d1 1) _ ?_ ?_ ?_
  ·subst h;exact (h1.n65 (dt p65a) (df p65b) (df p65c)).1
  ·subst h;exact (h1.n65 (dt p65a) (df p65b) (df p65c)).2
  clear hE hinl hV hK1;cbv;(try repeat' first|rfl|assumption|constructor)
 ·next a _=>subst h;exact h1.g66 (df a)
 ·next a _=>subst h;exact h1.g67 (df a)
 next p68a p68b=>
  exfalso;subst h;simp [Ar.std] at p68b
 rename_i p69a p69b
 exfalso;subst h;simp [Ar.std] at p69b
end HX

namespace HX
open Go Go.Proofs CX
set_option maxHeartbeats 4000000 in
set_option maxRecDepth 100000 in
theorem walk78 {ro A pre fn} (hE:EnvOk ⟨A,(cxE ro),ksF,sigL [],pre,fn⟩) {P:List (List D)->Prop} {res:List (List D)->Nat->Nat->D}
  (hv:∀(a0_0:Int) (a0_1:Int) (a1_0:Int) (a1_1:Int),P [[.i a0_0,.i a0_1],[.i a1_0,.i a1_1]]->V78 a0_0 a0_1 a1_0 a1_1 (res [[.i a0_0,.i a0_1],[.i a1_0,.i a1_1]]) ) :
  PureC (cxE ro) 78 ⟨[(true,[.int .i64,.int .i64]),(true,[.int .i64,.int .i64])],[(false,[.bool])],false⟩ P res:=by
 have h:=hE.A
 simp only [] at h
 have hinl:∀f fn,inlL [] f=some fn->(cxE ro).fn f=some fn/\(cxE ro).ext f=none:=Inls.ok (by repeat (first |exact .nil |refine .cons rfl rfl ?_))
 refine PureC.of_vc hE hinl 6 (f:=78) (fn:=Try.f78) ⟨rfl,rfl⟩ ?_
 intro a0_0 a0_1 a1_0 a1_1 hP
 obtain ⟨R,hR⟩:∃R,res [[.i a0_0,.i a0_1],[.i a1_0,.i a1_1]]=R:=⟨_,rfl⟩
 rw [hR]
 have hV:=hv a0_0 a0_1 a1_0 a1_1  hP
 rw [hR] at hV
 clear hR hP hv
 cbv
 repeat' first|(refine Br.mk (fun _=>?_) (fun _=>?_)<;>cbv)|(refine NilB.mk (fun _=>?_) ?_<;>cbv)|refine And.intro ?_ ?_|exact True.intro
 next hp0_0=>
  subst h;exact hV.g0 (dt hp0_0)
 next hp1_0 hp1_1=>
  subst h;exact hV.g1 (df hp1_0) (dt hp1_1)
 rename_i hp2_0 hp2_1
 subst h;exact hV.g2 (df hp2_0) (df hp2_1)
end HX

namespace HX
open Go Go.Proofs CX
set_option maxHeartbeats 4000000 in
set_option maxRecDepth 100000 in
set_option cbv.maxSteps 3000000 in
theorem walk32 {ro A pre fn} (hE:EnvOk ⟨A,(cxE ro),ksF,sigL [(54,⟨[(false,[.sl [.int .i64,.int .i64]])],[(false,[.int .i64])],false⟩),(78,⟨[(true,[.int .i64,.int .i64]),(true,[.int .i64,.int .i64])],[(false,[.bool])],false⟩)],pre,fn⟩) {P:List (List D)->Prop} {res:List (List D)->Nat->Nat->D}
  (hv:∀(a0:Rows) (a1:Rows),ShR [.int .i64,.int .i64] a0->ShR [.int .i64,.int .i64] a1->P [[.l a0],[.l a1]]->V32 pre fn a0 a1 (res [[.l a0],[.l a1]])) :
  PureC (cxE ro) 32 ⟨[(false,[.sl [.int .i64,.int .i64]]),(false,[.sl [.int .i64,.int .i64]])],[(false,[.sl [.int .i64,.int .i64]]),(false,[.int .i64])],false⟩ P res:=by
 have h:=hE.A
 simp only [] at h
 have hinl:∀f fn,inlL [] f=some fn->(cxE ro).fn f=some fn/\(cxE ro).ext f=none:=Inls.ok (by repeat (first |exact .nil |refine .cons rfl rfl ?_))
 refine PureC.of_vcJ hE [3,7,11,14] hinl 6 (f:=32) (fn:=Try.f32) ⟨rfl,rfl⟩ ?_
 intro a0 ha0 a1 ha1 hP
 obtain ⟨R,hR⟩:∃R,res [[.l a0],[.l a1]]=R:=⟨_,rfl⟩
 rw [hR]
 have hV:=hv a0 a1 ha0 ha1 hP
 rw [hR] at hV
 clear hR hP hv
 cbv
 repeat' first|(refine Br.mk (fun _=>?_) (fun _=>?_)<;>cbv)|(refine NilB.mk (fun _=>?_) ?_<;>cbv)|refine And.intro ?_ ?_|exact True.intro
 ·subst h;exact hV.g0
 refine Leaf.gen fun σz hσz=>?_
 obtain ⟨I0,r0,c0⟩:V32j0 pre fn a0 a1 R:=by subst h;exact hV.l0
 refine joinB hE hinl 6 [11] [] [] [] (fun x:Int=>[.i x]) (fun x=>I0 x) ?_ ?_<;>subst hσz
 ·intro K0 hK0
  cbv
  repeat' first|(refine Br.mk (fun _=>?_) (fun _=>?_)<;>cbv)|(refine NilB.mk (fun _=>?_) ?_<;>cbv)|refine And.intro ?_ ?_|exact True.intro
  ·next a=>subst h;exact r0.g2 (dt a)
  next p3a=>
   refine hK0 (A.di (fn 54 [[D.l a1]] 0 0)) _ ?_ ?_
   ·subst h;exact r0.n3 (dt p3a)
   clear hE hinl hV hK0;cbv;(try repeat' first|rfl|assumption|constructor)
  rename_i p4a
  refine hK0 (A.di (fn 54 [[D.l a0]] 0 0)) _ ?_ ?_
  ·subst h;exact r0.n4 (df p4a)
  clear hE hinl hV hK0;cbv;(try repeat' first|rfl|assumption|constructor)
 intro b0 hI0
 have h0:=c0 _ hI0
 cbv
 repeat' first|(refine Br.mk (fun _=>?_) (fun _=>?_)<;>cbv)|(refine NilB.mk (fun _=>?_) ?_<;>cbv)|refine And.intro ?_ ?_|exact True.intro
 ·next a=>subst h;exact h0.g5 (df (nt a))
 ·next a=>subst h;exact h0.g6 (df (nt a))
 rename_i p7a
 refine Leaf.gen fun σz hσz=>?_
 obtain ⟨I1,m1,i1,c1⟩:V32l1 pre fn a0 a1 R:=by subst h;exact h0.l1 (dt (nf p7a))
 refine loopBJ hE [3,7,11,14] hinl 6 [0,1] [] [] (fun x:Rows×Rows×Rows=>[.l x.1,.l x.2.1,.l x.2.2]) (fun x=>I1 x.1 x.2.1 x.2.2) (fun x=>m1 x.1 x.2.1 x.2.2) ([],a0,a1) (by subst h;exact i1) ?_ ?_<;>subst hσz
 ·clear hE hinl hV;cbv;(try repeat' first|rfl|assumption|constructor)
 intro ⟨d0,d1,d2⟩ hI1 K1 hK1
 have h1:=c1 _ _ _ hI1
 cbv
 repeat' first|(refine Br.mk (fun _=>?_) (fun _=>?_)<;>cbv)|(refine NilB.mk (fun _=>?_) ?_<;>cbv)|refine And.intro ?_ ?_|exact True.intro
 refine Leaf.gen fun σz hσz=>?_
 obtain ⟨I2,r2,c2⟩:V32j2 pre fn R d0 d1 d2 I1 m1:=by subst h;exact h1.l2
 refine joinR hE hinl 6 [] [] [] [(24,SV.bool false)] [] (fun x:Bool=>[.b x]) (fun x=>I2 x) ?_ ?_<;>subst hσz
 ·intro K2 hK2
  cbv
  repeat' first|(refine Br.mk (fun _=>?_) (fun _=>?_)<;>cbv)|(refine NilB.mk (fun _=>?_) ?_<;>cbv)|refine And.intro ?_ ?_|exact True.intro
  next p9a=>
   refine hK2 (true) _ ?_ ?_
   ·subst h;exact r2.n9 (dt p9a)
   clear hE hinl hV hK2;cbv;(try repeat' first|rfl|assumption|constructor)
  rename_i p10a
  refine hK2 (A.lt 0 (A.nat (A.len d2))) _ ?_ ?_
  ·subst h;exact r2.n10 (df p10a)
  clear hE hinl hV hK2;cbv;(try repeat' first|rfl|assumption|constructor)
 intro e0 hI2
 have h2:=c2 _ hI2
 cbv
 repeat' first|(refine Br.mk (fun _=>?_) (fun _=>?_)<;>cbv)|(refine NilB.mk (fun _=>?_) ?_<;>cbv)|refine And.intro ?_ ?_|exact True.intro
 next p11a=>
  refine Leaf.gen fun σz hσz=>?_
  obtain ⟨I3,r3,c3⟩:V32j3 pre fn d0 d1 d2 I1 m1:=by subst h;exact h2.l3 p11a
  refine joinR hE hinl 6 [] [] [] [(35,SV.bool false)] [] (fun x:Bool=>[.b x]) (fun x=>I3 x) ?_ ?_<;>subst hσz
  ·intro K3 hK3
   cbv
   repeat' first|(refine Br.mk (fun _=>?_) (fun _=>?_)<;>cbv)|(refine NilB.mk (fun _=>?_) ?_<;>cbv)|refine And.intro ?_ ?_|exact True.intro
   next p12a=>
    refine hK3 (true) _ ?_ ?_
    ·subst h;exact r3.n12 (dt p12a)
    clear hE hinl hV hK3;cbv;(try repeat' first|rfl|assumption|constructor)
   ·next a b=>subst h;exact r3.g13 (df a) (dt b)
   ·next a b=>subst h;exact r3.g14 (df a) (dt b)
   ·next a b=>subst h;exact r3.g15 (df a) (dt b)
   ·next a b=>subst h;exact r3.g13 (df a) (dt b)
   ·next a b=>subst h;exact r3.g17 (df a) (dt b)
   ·next a b=>subst h;exact r3.g18 (df a) (dt b)
   ·next a b=>subst h;exact r3.g19 (df a) (dt b)
   next p20a p20b=>
    refine hK3 (A.db (fn 78 [[D.i (A.di (A.get d1 (A.toNat 0) 0)),D.i (A.di (A.get d1 (A.toNat 0) 1))],[D.i (A.di (A.get d2 (A.toNat 0) 0)),D.i (A.di (A.get d2 (A.toNat 0) 1))]] 0 0)) _ ?_ ?_
    ·subst h;exact r3.n20 (df p20a) (dt p20b)
    clear hE hinl hV hK3;cbv;(try repeat' first|rfl|assumption|constructor)
   rename_i p21a p21b
   refine hK3 (false) _ ?_ ?_
   ·subst h;exact r3.n21 (df p21a) (df p21b)
   clear hE hinl hV hK3;cbv;(try repeat' first|rfl|assumption|constructor)
  intro f0 hI3
  have h3:=c3 _ hI3
  cbv
  repeat' first|(refine Br.mk (fun _=>?_) (fun _=>?_)<;>cbv)|(refine NilB.mk (fun _=>?_) ?_<;>cbv)|refine And.intro ?_ ?_|exact True.intro
  ·next a=>subst h;exact h3.g22 a
  ·next a=>subst h;exact h3.g23 a
  ·next a=>subst h;exact h3.g24 a
  ·next a=>subst h;exact h3.g25 a
  ·next a=>subst h;exact h3.g26 a
  ·next a=>subst h;exact h3.g27 a
  next p28a=>
   refine hK1 (A.app d0 [[D.i (A.di (A.get d1 (A.toNat 0) 0)),D.i (A.di (A.get d1 (A.toNat 0) 1))]],A.sub' d1 (A.toNat 1) (A.nsub (A.len d1) (A.toNat 1)),d2) _ ?_ ?_ ?_
   ·subst h;exact (h3.n28 p28a).1
   ·subst h;exact (h3.n28 p28a).2
   clear hE hinl hV hK1;cbv;(try repeat' first|rfl|assumption|constructor)
  rename_i p29a
  refine Leaf.gen fun σz hσz=>?_
  obtain ⟨I4,r4,c4⟩:V32j4 pre fn d0 d1 d2 I1 m1:=by subst h;exact h3.l4 p29a
  refine joinR hE hinl 6 [] [] [] [(61,SV.bool false)] [] (fun x:Bool=>[.b x]) (fun x=>I4 x) ?_ ?_<;>subst hσz
  ·intro K4 hK4
   cbv
   repeat' first|(refine Br.mk (fun _=>?_) (fun _=>?_)<;>cbv)|(refine NilB.mk (fun _=>?_) ?_<;>cbv)|refine And.intro ?_ ?_|exact True.intro
   next p30a=>
    refine hK4 (true) _ ?_ ?_
    ·subst h;exact r4.n30 (dt p30a)
    clear hE hinl hV hK4;cbv;(try repeat' first|rfl|assumption|constructor)
   ·next a=>subst h;exact r4.g31 (df a)
   ·next a=>subst h;exact r4.g32 (df a)
   ·next a=>subst h;exact r4.g33 (df a)
   ·next a=>subst h;exact r4.g31 (df a)
   ·next a=>subst h;exact r4.g35 (df a)
   ·next a=>subst h;exact r4.g36 (df a)
   ·next a=>subst h;exact r4.g37 (df a)
   rename_i p38a
   refine hK4 (A.db (fn 78 [[D.i (A.di (A.get d2 (A.toNat 0) 0)),D.i (A.di (A.get d2 (A.toNat 0) 1))],[D.i (A.di (A.get d1 (A.toNat 0) 0)),D.i (A.di (A.get d1 (A.toNat 0) 1))]] 0 0)) _ ?_ ?_
   ·subst h;exact r4.n38 (df p38a)
   clear hE hinl hV hK4;cbv;(try repeat' first|rfl|assumption|constructor)
  intro j0 hI4
  have h4:=c4 _ hI4
  cbv
  repeat' first|(refine Br.mk (fun _=>?_) (fun _=>?_)<;>cbv)|(refine NilB.mk (fun _=>?_) ?_<;>cbv)|refine And.intro ?_ ?_|exact True.intro
  ·next a=>subst h;exact h4.g39 a
  ·next a=>subst h;exact h4.g40 a
  ·next a=>subst h;exact h4.g41 a
  ·next a=>subst h;exact h4.g42 a
  ·next a=>subst h;exact h4.g43 a
  ·next a=>subst h;exact h4.g44 a
  next p45a=>
   refine hK1 (A.app d0 [[D.i (A.di (A.get d2 (A.toNat 0) 0)),D.i (A.di (A.get d2 (A.toNat 0) 1))]],d1,A.sub' d2 (A.toNat 1) (A.nsub (A.len d2) (A.toNat 1))) _ ?_ ?_ ?_
   ·subst h;exact (h4.n45 p45a).1
   ·subst h;exact (h4.n45 p45a).2
   clear hE hinl hV hK1;cbv;(try repeat' first|rfl|assumption|constructor)
  ·next a=>subst h;exact h4.g46 a
  ·next a=>subst h;exact h4.g47 a
  ·next a=>subst h;exact h4.g48 a
  ·next a=>subst h;exact h4.g49 a
  ·next a=>subst h;exact h4.g50 a
  ·next a=>subst h;exact h4.g51 a
  ·next a=>subst h;exact h4.g50 a
  ·next a=>subst h;exact h4.g53 a
  rename_i p54a
  refine hK1 (A.app d0 [[D.i (A.di (A.get d1 (A.toNat 0) 0)),D.i (A.di (A.get d1 (A.toNat 0) 1))]],A.sub' d1 (A.toNat 1) (A.nsub (A.len d1) (A.toNat 1)),A.sub' d2 (A.toNat 1) (A.nsub (A.len d2) (A.toNat 1))) _ ?_ ?_ ?_
  ·subst h;exact (h4.n54 p54a).1
  ·subst h;exact (h4.n54 p54a).2
  clear hE hinl hV hK1;cbv;(try repeat' first|rfl|assumption|constructor)
 ·next a b=>subst h;exact h2.g55 a (dt b)
 ·next a b=>subst h;exact h2.g56 a (dt b)
 ·next a b=>subst h;exact h2.g57 a (df b)
 next a b=>subst h;exact h2.g58 a (df b)
end HX

namespace HX
open Go Go.Proofs CX
set_option maxHeartbeats 4000000 in
set_option maxRecDepth 100000 in
theorem walk34 {ro A pre fn} (hE:EnvOk ⟨A,(cxE ro),ksF,sigL [(54,⟨[(false,[.sl [.int .i64,.int .i64]])],[(false,[.int .i64])],false⟩)],pre,fn⟩) {P:List (List D)->Prop} {res:List (List D)->Nat->Nat->D}
  (hv:∀(a0:Rows) (a1:Int) (a2:Int),ShR [.int .i64,.int .i64] a0->P [[.l a0],[.i a1],[.i a2]]->V34 pre fn a0 a1 a2 (res [[.l a0],[.i a1],[.i a2]])) :
  PureC (cxE ro) 34 ⟨[(false,[.sl [.int .i64,.int .i64]]),(false,[.int .i64]),(false,[.int .i64])],[(false,[.sl [.int .i64,.int .i64]]),(false,[.int .i64])],false⟩ P res:=by
 have h:=hE.A
 simp only [] at h
 have hinl:∀f fn,inlL [] f=some fn->(cxE ro).fn f=some fn/\(cxE ro).ext f=none:=Inls.ok (by repeat (first |exact .nil |refine .cons rfl rfl ?_))
 refine PureC.of_vc hE hinl 6 (f:=34) (fn:=Try.f34) ⟨rfl,rfl⟩ ?_
 intro a0 ha0 a1 a2 hP
 obtain ⟨R,hR⟩:∃R,res [[.l a0],[.i a1],[.i a2]]=R:=⟨_,rfl⟩
 rw [hR]
 have hV:=hv a0 a1 a2 ha0 hP
 rw [hR] at hV
 clear hR hP hv
 cbv
 repeat' first|(refine Br.mk (fun _=>?_) (fun _=>?_)<;>cbv)|(refine NilB.mk (fun _=>?_) ?_<;>cbv)|refine And.intro ?_ ?_|exact True.intro
 ·subst h;exact hV.g0
 ·next a=>subst h;exact hV.g1 (df (nt a))
 ·next a=>subst h;exact hV.g2 (df (nt a))
 ·next a b=>subst h;exact hV.g3 (dt (nf a)) (dt b)
 ·next a b=>subst h;exact hV.g4 (dt (nf a)) (dt b)
 rename_i p5a p5b
 refine Leaf.gen fun σz hσz=>?_
 obtain ⟨I0,m0,i0,c0⟩:V34l0 a0 a1 a2 R:=by subst h;exact hV.l0 (dt (nf p5a)) (df p5b)
 refine loopB hE hinl 6 [] [] [] (fun x:Rows×Int=>[.l x.1,.i x.2]) (fun x=>I0 x.1 x.2) (fun x=>m0 x.1 x.2) ([],0) (by subst h;exact i0) ?_ ?_<;>subst hσz
 ·clear hE hinl hV;cbv;(try repeat' first|rfl|assumption|constructor)
 intro ⟨b0,b1⟩ hI0 K0 hK0
 have h0:=c0 _ _ hI0
 cbv
 repeat' first|(refine Br.mk (fun _=>?_) (fun _=>?_)<;>cbv)|(refine NilB.mk (fun _=>?_) ?_<;>cbv)|refine And.intro ?_ ?_|exact True.intro
 ·next a=>subst h;exact h0.g6 (dt a)
 ·next a=>subst h;exact h0.g7 (dt a)
 ·next a=>subst h;exact h0.g8 (dt a)
 ·next a b=>subst h;exact h0.g9 (dt a) (dt b)
 ·next a b=>subst h;exact h0.g10 (dt a) (dt b)
 ·next a b=>subst h;exact h0.g11 (dt a) (dt b)
 ·next a b c=>subst h;exact h0.g12 (dt a) (dt b) (dt c)
 ·next a b c=>subst h;exact h0.g13 (dt a) (dt b) (dt c)
 ·next a b c=>subst h;exact h0.g14 (dt a) (dt b) (dt c)
 ·next a b c=>subst h;exact h0.g15 (dt a) (dt b) (dt c)
 ·next a b c=>subst h;exact h0.g16 (dt a) (dt b) (dt c)
 next p17a p17b p17c=>
  refine hK0 (A.app b0 [[D.i (A.di (A.get a0 (A.toNat b1) 0)),D.i (A.di (A.get a0 (A.toNat b1) 1))]],A.add b1 1) _ ?_ ?_ ?_
  ·subst h;exact (h0.n17 (dt p17a) (dt p17b) (dt p17c)).1
  ·subst h;exact (h0.n17 (dt p17a) (dt p17b) (dt p17c)).2
  clear hE hinl hV hK0;cbv;(try repeat' first|rfl|assumption|constructor)
 ·next a b c=>subst h;exact h0.g18 (dt a) (dt b) (df c)
 next p19a p19b p19c=>
  refine hK0 (b0,A.add b1 1) _ ?_ ?_ ?_
  ·subst h;exact (h0.n19 (dt p19a) (dt p19b) (df p19c)).1
  ·subst h;exact (h0.n19 (dt p19a) (dt p19b) (df p19c)).2
  clear hE hinl hV hK0;cbv;(try repeat' first|rfl|assumption|constructor)
 ·next a b=>subst h;exact h0.g20 (dt a) (df b)
 next p21a p21b=>
  refine hK0 (b0,A.add b1 1) _ ?_ ?_ ?_
  ·subst h;exact (h0.n21 (dt p21a) (df p21b)).1
  ·subst h;exact (h0.n21 (dt p21a) (df p21b)).2
  clear hE hinl hV hK0;cbv;(try repeat' first|rfl|assumption|constructor)
 ·next a=>subst h;exact h0.g22 (df a)
 next a=>subst h;exact h0.g23 (df a)
end HX
