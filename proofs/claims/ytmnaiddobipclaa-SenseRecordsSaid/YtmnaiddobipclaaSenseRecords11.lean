/-
  SenseRecords: for all events, the function returns true, and its argument reads as it did.
-/
import Derived.Test.YtmnaiddobipclaaSenseRecords10
import Derived.Test.YtmnaiddobipclaaRows
set_option linter.all false
namespace HX
open Go Go.Proofs CX
set_option maxHeartbeats 4000000 in
set_option maxRecDepth 100000 in
set_option cbv.maxSteps 3000000 in
theorem walk28 {ro A pre fn} (hE:EnvOk ⟨A,(cxE ro),ksF,sigL [(54,⟨[(false,[.sl [.int .i64,.int .i64]])],[(false,[.int .i64])],false⟩),(65,⟨[(true,[.int .i64,.int .i64]),(false,[.int .i64])],[(true,[.int .i64,.int .i64])],false⟩),(66,⟨[(false,[.sl [.int .u8]])],[(false,[.int .i64]),(false,[.int .i64])],false⟩),(89,⟨[(true,[.int .i64,.int .i64])],[(false,[.int .i64])],false⟩)],pre,fn⟩) {P:List (List D)→Prop} {res:List (List D)→Nat→Nat→D}
  (hv:∀(a0:Rows),ShR [.int .i64,.int .i64] a0→P [[.l a0]]→V28 pre fn a0 (res [[.l a0]])) :
  PureC (cxE ro) 28 ⟨[(false,[.sl [.int .i64,.int .i64]])],[(false,[.sl [.int .u8]]),(false,[.int .i64])],false⟩ P res:=by
 have h:=hE.A
 simp only [] at h
 have hinl:∀f fn,inlL [(64,Try.f64),(90,Try.f90)] f=some fn→(cxE ro).fn f=some fn∧(cxE ro).ext f=none:=Inls.ok (by repeat (first |exact .nil |refine .cons rfl rfl ?_))
 refine PureC.of_vcJ hE [11,14,16] hinl 6 (f:=28) (fn:=Try.f28) ⟨rfl,rfl⟩ ?_
 intro a0 ha0 hP
 obtain ⟨R,hR⟩:∃R,res [[.l a0]]=R:=⟨_,rfl⟩
 rw [hR]
 have hV:=hv a0 ha0 hP
 rw [hR] at hV
 clear hR hP hv
 cbv
 repeat' first|(refine Br.mk (fun _=>?_) (fun _=>?_)<;>cbv)|(refine NilB.mk (fun _=>?_) ?_<;>cbv)|refine And.intro ?_ ?_|exact True.intro
 ·subst h;exact hV.g0
 ·rename_i p1a
  subst h;exact hV.g1 (df (nt p1a))
 ·rename_i p2a
  subst h;exact hV.g2 (df (nt p2a))
 ·rename_i p3a
  refine Leaf.gen fun σz hσz=>?_
  obtain ⟨I0,m0,i0,c0⟩:V28l0 pre fn a0 R:=by subst h;exact hV.l0 (dt (nf p3a))
  refine loopBJ hE [11,14,16] hinl 6 [] [] [(2,[0,0]),(3,[0,0])] (fun x:Rows×Int×Int×Int×Int×Int=>[.l x.1,.i x.2.1,D.l [[.i x.2.2.1,.i x.2.2.2.1]],D.l [[.i x.2.2.2.2.1,.i x.2.2.2.2.2]]]) (fun x=>I0 x.1 x.2.1 x.2.2.1 x.2.2.2.1 x.2.2.2.2.1 x.2.2.2.2.2) (fun x=>m0 x.1 x.2.1 x.2.2.1 x.2.2.2.1 x.2.2.2.2.1 x.2.2.2.2.2) ([],0,4,1,4,1) (by subst h;exact i0) ?_ ?_<;>subst hσz
  ·clear hE hinl hV;cbv;(try repeat' first|rfl|assumption|constructor)
  ·intro ⟨x0_0,x0_1,x0_2,x0_3,x0_4,x0_5⟩ hI0 K0 hK0
   have h0:=c0 _ _ _ _ _ _ hI0
   cbv
   repeat' first|(refine Br.mk (fun _=>?_) (fun _=>?_)<;>cbv)|(refine NilB.mk (fun _=>?_) ?_<;>cbv)|refine And.intro ?_ ?_|exact True.intro
   ·rename_i p4a
    subst h;exact h0.g4 (dt p4a)
   ·rename_i p5a
    subst h;exact h0.g5 (dt p5a)
   ·rename_i p6a
    subst h;exact h0.g6 (dt p6a)
   ·rename_i p7a
    subst h;exact h0.g4 (dt p7a)
   ·rename_i p8a
    subst h;exact h0.g5 (dt p8a)
   ·rename_i p9a
    subst h;exact h0.g6 (dt p9a)
   ·rename_i p10a
    refine Leaf.gen fun σz hσz=>?_
    obtain ⟨I1,r1,c1⟩:V28j1 pre fn a0 x0_0 x0_1 x0_2 x0_3 x0_4 x0_5 I0 m0:=by subst h;exact h0.l1 (dt p10a)
    refine joinB hE hinl 6 [41] [] [] [] (fun x:Int×Int=>[.i x.1,.i x.2]) (fun x=>I1 x.1 x.2) ?_ ?_<;>subst hσz
    ·intro K1 hK1
     cbv
     repeat' first|(refine Br.mk (fun _=>?_) (fun _=>?_)<;>cbv)|(refine NilB.mk (fun _=>?_) ?_<;>cbv)|refine And.intro ?_ ?_|exact True.intro
     ·rename_i p11a
      subst h;exact r1.g11 (dt p11a)
     ·rename_i p12a
      subst h;exact r1.g12 (dt p12a)
     ·rename_i p13a
      subst h;exact r1.g13 (dt p13a)
     ·rename_i p14a
      subst h;exact r1.g14 (dt p14a)
     ·rename_i p15a
      subst h;exact r1.g15 (dt p15a)
     ·rename_i p16a p16b
      subst h;exact r1.g16 (dt p16a) (dt p16b)
     ·rename_i p17a p17b
      subst h;exact r1.g17 (dt p17a) (dt p17b)
     ·rename_i p18a p18b
      subst h;exact r1.g18 (dt p18a) (dt p18b)
     ·rename_i p19a p19b
      subst h;exact r1.g19 (dt p19a) (dt p19b)
     ·rename_i p20a p20b
      subst h;exact r1.g20 (dt p20a) (dt p20b)
     ·rename_i p21a p21b
      subst h;exact r1.g21 (dt p21a) (dt p21b)
     ·rename_i p22a p22b
      refine hK1 (A.sub (A.di (A.get a0 (A.toNat x0_1) 0)) (A.di (A.get a0 (A.toNat (A.sub x0_1 1)) 0)),A.sub (A.di (A.get a0 (A.toNat x0_1) 1)) (A.add (A.di (A.get a0 (A.toNat (A.sub x0_1 1)) 1)) 1)) _ ?_ ?_
      ·subst h;exact r1.n22 (dt p22a) (dt p22b)
      ·clear hE hinl hV hK1;cbv;(try repeat' first|rfl|assumption|constructor)
     ·rename_i p23a p23b
      refine hK1 (A.sub (A.di (A.get a0 (A.toNat x0_1) 0)) (A.di (A.get a0 (A.toNat (A.sub x0_1 1)) 0)),A.di (A.get a0 (A.toNat x0_1) 1)) _ ?_ ?_
      ·subst h;exact r1.n23 (dt p23a) (df p23b)
      ·clear hE hinl hV hK1;cbv;(try repeat' first|rfl|assumption|constructor)
     ·rename_i p24a
      refine hK1 (A.di (A.get a0 (A.toNat x0_1) 0),A.di (A.get a0 (A.toNat x0_1) 1)) _ ?_ ?_
      ·subst h;exact r1.n24 (df p24a)
      ·clear hE hinl hV hK1;cbv;(try repeat' first|rfl|assumption|constructor)
    ·intro ⟨x1_0,x1_1⟩ hI1
     have h1:=c1 _ _ hI1
     cbv
     repeat' first|(refine Br.mk (fun _=>?_) (fun _=>?_)<;>cbv)|(refine NilB.mk (fun _=>?_) ?_<;>cbv)|refine And.intro ?_ ?_|exact True.intro
     ·refine Leaf.gen fun σz hσz=>?_
      obtain ⟨I2,r2,c2⟩:V28j2 pre fn x0_0 x0_1 x0_2 x0_3 x0_4 x0_5 x1_0 x1_1 I0 m0:=by subst h;exact h1.l2
      refine joinB hE hinl 6 [] [] [] [] (fun x:Rows=>[.l x]) (fun x=>I2 x) ?_ ?_<;>subst hσz
      ·intro K2 hK2
       cbv
       repeat' first|(refine Br.mk (fun _=>?_) (fun _=>?_)<;>cbv)|(refine NilB.mk (fun _=>?_) ?_<;>cbv)|refine And.intro ?_ ?_|exact True.intro
       ·subst h;exact r2.g26
       ·subst h;exact r2.g27
       ·refine Leaf.gen fun σz hσz=>?_
        obtain ⟨I3,m3,i3,c3⟩:V28l3 fn x0_0 x0_2 x0_3 x1_0 I2:=by subst h;exact r2.l3
        refine loopBJ hE [11,14,16] hinl 6 [] [] [] (fun x:Rows×Int=>[.l x.1,.i x.2]) (fun x=>I3 x.1 x.2) (fun x=>m3 x.1 x.2) (x0_0,0) (by subst h;exact i3) ?_ ?_<;>subst hσz
        ·clear hE hinl hV;cbv;(try repeat' first|rfl|assumption|constructor)
        ·intro ⟨x3_0,x3_1⟩ hI3 K3 hK3
         have h3:=c3 _ _ hI3
         cbv
         repeat' first|(refine Br.mk (fun _=>?_) (fun _=>?_)<;>cbv)|(refine NilB.mk (fun _=>?_) ?_<;>cbv)|refine And.intro ?_ ?_|exact True.intro
         ·rename_i p29a p29b
          subst h;exact h3.g29 (dt p29a) (dt p29b)
         ·rename_i p30a p30b
          subst h;exact h3.g30 (dt p30a) (dt p30b)
         ·rename_i p31a p31b
          refine hK3 (A.app x3_0 [[D.i 1]],A.add x3_1 1) _ ?_ ?_ ?_
          ·subst h;exact (h3.n31 (dt p31a) (dt p31b)).1
          ·subst h;exact (h3.n31 (dt p31a) (dt p31b)).2
          ·clear hE hinl hV hK3;cbv;(try repeat' first|rfl|assumption|constructor)
         ·rename_i p32a p32b p32c
          subst h;exact h3.g32 (dt p32a) (df p32b) (dt p32c)
         ·rename_i p33a p33b p33c
          refine Leaf.gen fun σz hσz=>?_
          obtain ⟨I4,m4,i4,c4⟩:V28l4 x1_0 x3_0 I2:=by subst h;exact h3.l4 (dt p33a) (df p33b) (dt p33c)
          refine loopBJ hE [11,14,16] hinl 6 [] [] [] (fun x:Rows×Int=>[.l x.1,.i x.2]) (fun x=>I4 x.1 x.2) (fun x=>m4 x.1 x.2) (x3_0,A.sub 31 1) (by subst h;exact i4) ?_ ?_<;>subst hσz
          ·clear hE hinl hV;cbv;(try repeat' first|rfl|assumption|constructor)
          ·intro ⟨x4_0,x4_1⟩ hI4 K4 hK4
           have h4:=c4 _ _ hI4
           cbv
           repeat' first|(refine Br.mk (fun _=>?_) (fun _=>?_)<;>cbv)|(refine NilB.mk (fun _=>?_) ?_<;>cbv)|refine And.intro ?_ ?_|exact True.intro
           ·rename_i p34a
            subst h;exact h4.g34 (dt p34a)
           ·rename_i p35a
            subst h;exact h4.g35 (dt p35a)
           ·rename_i p36a
            subst h;exact h4.g36 (dt p36a)
           ·rename_i p37a
            subst h;exact h4.g37 (dt p37a)
           ·rename_i p38a
            refine hK4 (A.app x4_0 [[D.i (A.tmod (A.shr .i64 x1_0 x4_1) 2)]],A.sub x4_1 1) _ ?_ ?_ ?_
            ·subst h;exact (h4.n38 (dt p38a)).1
            ·subst h;exact (h4.n38 (dt p38a)).2
            ·clear hE hinl hV hK4;cbv;(try repeat' first|rfl|assumption|constructor)
           ·rename_i p39a
            refine hK2 (x4_0) _ ?_ ?_
            ·subst h;exact h4.n39 (df p39a)
            ·clear hE hinl hV hK2;cbv;(try repeat' first|rfl|assumption|constructor)
         ·rename_i p40a p40b p40c
          subst h;exact h3.g40 (dt p40a) (df p40b) (df p40c)
         ·rename_i p41a p41b p41c
          subst h;exact h3.g41 (dt p41a) (df p41b) (df p41c)
         ·rename_i p42a p42b p42c
          refine Leaf.gen fun σz hσz=>?_
          obtain ⟨I5,m5,i5,c5⟩:V28l5 fn x0_2 x0_3 x1_0 x3_0 I2:=by subst h;exact h3.l5 (dt p42a) (df p42b) (df p42c)
          refine loopBJ hE [11,14,16] hinl 6 [] [] [] (fun x:Rows×Int=>[.l x.1,.i x.2]) (fun x=>I5 x.1 x.2) (fun x=>m5 x.1 x.2) (A.app x3_0 [[D.i 0]],A.sub (A.di (fn 89 [[D.i x0_2,D.i x0_3]] 0 0)) 1) (by subst h;exact i5) ?_ ?_<;>subst hσz
          ·clear hE hinl hV;cbv;(try repeat' first|rfl|assumption|constructor)
          ·intro ⟨x5_0,x5_1⟩ hI5 K5 hK5
           have h5:=c5 _ _ hI5
           cbv
           repeat' first|(refine Br.mk (fun _=>?_) (fun _=>?_)<;>cbv)|(refine NilB.mk (fun _=>?_) ?_<;>cbv)|refine And.intro ?_ ?_|exact True.intro
           ·rename_i p43a
            subst h;exact h5.g34 (dt p43a)
           ·rename_i p44a
            subst h;exact h5.g35 (dt p44a)
           ·rename_i p45a
            subst h;exact h5.g36 (dt p45a)
           ·rename_i p46a
            subst h;exact h5.g37 (dt p46a)
           ·rename_i p47a
            refine hK5 (A.app x5_0 [[D.i (A.tmod (A.shr .i64 x1_0 x5_1) 2)]],A.sub x5_1 1) _ ?_ ?_ ?_
            ·subst h;exact (h5.n38 (dt p47a)).1
            ·subst h;exact (h5.n38 (dt p47a)).2
            ·clear hE hinl hV hK5;cbv;(try repeat' first|rfl|assumption|constructor)
           ·rename_i p48a
            refine hK2 (x5_0) _ ?_ ?_
            ·subst h;exact h5.n39 (df p48a)
            ·clear hE hinl hV hK2;cbv;(try repeat' first|rfl|assumption|constructor)
         ·rename_i p49a p49b
          subst h;exact h3.g49 (df p49a) (dt p49b)
         ·rename_i p50a p50b
          refine Leaf.gen fun σz hσz=>?_
          obtain ⟨I6,m6,i6,c6⟩:V28l4 x1_0 x3_0 I2:=by subst h;exact h3.l6 (df p50a) (dt p50b)
          refine loopBJ hE [11,14,16] hinl 6 [] [] [] (fun x:Rows×Int=>[.l x.1,.i x.2]) (fun x=>I6 x.1 x.2) (fun x=>m6 x.1 x.2) (x3_0,A.sub 31 1) (by subst h;exact i6) ?_ ?_<;>subst hσz
          ·clear hE hinl hV;cbv;(try repeat' first|rfl|assumption|constructor)
          ·intro ⟨x6_0,x6_1⟩ hI6 K6 hK6
           have h6:=c6 _ _ hI6
           cbv
           repeat' first|(refine Br.mk (fun _=>?_) (fun _=>?_)<;>cbv)|(refine NilB.mk (fun _=>?_) ?_<;>cbv)|refine And.intro ?_ ?_|exact True.intro
           ·rename_i p51a
            subst h;exact h6.g34 (dt p51a)
           ·rename_i p52a
            subst h;exact h6.g35 (dt p52a)
           ·rename_i p53a
            subst h;exact h6.g36 (dt p53a)
           ·rename_i p54a
            subst h;exact h6.g37 (dt p54a)
           ·rename_i p55a
            refine hK6 (A.app x6_0 [[D.i (A.tmod (A.shr .i64 x1_0 x6_1) 2)]],A.sub x6_1 1) _ ?_ ?_ ?_
            ·subst h;exact (h6.n38 (dt p55a)).1
            ·subst h;exact (h6.n38 (dt p55a)).2
            ·clear hE hinl hV hK6;cbv;(try repeat' first|rfl|assumption|constructor)
           ·rename_i p56a
            refine hK2 (x6_0) _ ?_ ?_
            ·subst h;exact h6.n39 (df p56a)
            ·clear hE hinl hV hK2;cbv;(try repeat' first|rfl|assumption|constructor)
         ·rename_i p57a p57b
          subst h;exact h3.g57 (df p57a) (df p57b)
         ·rename_i p58a p58b
          subst h;exact h3.g58 (df p58a) (df p58b)
         ·rename_i p59a p59b
          refine Leaf.gen fun σz hσz=>?_
          obtain ⟨I7,m7,i7,c7⟩:V28l5 fn x0_2 x0_3 x1_0 x3_0 I2:=by subst h;exact h3.l7 (df p59a) (df p59b)
          refine loopBJ hE [11,14,16] hinl 6 [] [] [] (fun x:Rows×Int=>[.l x.1,.i x.2]) (fun x=>I7 x.1 x.2) (fun x=>m7 x.1 x.2) (A.app x3_0 [[D.i 0]],A.sub (A.di (fn 89 [[D.i x0_2,D.i x0_3]] 0 0)) 1) (by subst h;exact i7) ?_ ?_<;>subst hσz
          ·clear hE hinl hV;cbv;(try repeat' first|rfl|assumption|constructor)
          ·intro ⟨x7_0,x7_1⟩ hI7 K7 hK7
           have h7:=c7 _ _ hI7
           cbv
           repeat' first|(refine Br.mk (fun _=>?_) (fun _=>?_)<;>cbv)|(refine NilB.mk (fun _=>?_) ?_<;>cbv)|refine And.intro ?_ ?_|exact True.intro
           ·rename_i p60a
            subst h;exact h7.g34 (dt p60a)
           ·rename_i p61a
            subst h;exact h7.g35 (dt p61a)
           ·rename_i p62a
            subst h;exact h7.g36 (dt p62a)
           ·rename_i p63a
            subst h;exact h7.g37 (dt p63a)
           ·rename_i p64a
            refine hK7 (A.app x7_0 [[D.i (A.tmod (A.shr .i64 x1_0 x7_1) 2)]],A.sub x7_1 1) _ ?_ ?_ ?_
            ·subst h;exact (h7.n38 (dt p64a)).1
            ·subst h;exact (h7.n38 (dt p64a)).2
            ·clear hE hinl hV hK7;cbv;(try repeat' first|rfl|assumption|constructor)
           ·rename_i p65a
            refine hK2 (x7_0) _ ?_ ?_
            ·subst h;exact h7.n39 (df p65a)
            ·clear hE hinl hV hK2;cbv;(try repeat' first|rfl|assumption|constructor)
      ·intro x2_0 hI2
       have h2:=c2 _ hI2
       cbv
       repeat' first|(refine Br.mk (fun _=>?_) (fun _=>?_)<;>cbv)|(refine NilB.mk (fun _=>?_) ?_<;>cbv)|refine And.intro ?_ ?_|exact True.intro
       ·subst h;exact h2.g66
       ·refine Leaf.gen fun σz hσz=>?_
        obtain ⟨I8,r8,c8⟩:V28j8 pre fn x0_0 x0_1 x0_2 x0_3 x0_4 x0_5 x1_0 x1_1 x2_0 I0 m0:=by subst h;exact h2.l8
        refine joinB hE hinl 6 [] [] [] [] (fun x:Rows=>[.l x]) (fun x=>I8 x) ?_ ?_<;>subst hσz
        ·intro K8 hK8
         cbv
         repeat' first|(refine Br.mk (fun _=>?_) (fun _=>?_)<;>cbv)|(refine NilB.mk (fun _=>?_) ?_<;>cbv)|refine And.intro ?_ ?_|exact True.intro
         ·subst h;exact r8.g26
         ·subst h;exact r8.g27
         ·refine Leaf.gen fun σz hσz=>?_
          obtain ⟨I9,m9,i9,c9⟩:V28l3 fn x2_0 x0_4 x0_5 x1_1 I8:=by subst h;exact r8.l3
          refine loopBJ hE [11,14,16] hinl 6 [] [] [] (fun x:Rows×Int=>[.l x.1,.i x.2]) (fun x=>I9 x.1 x.2) (fun x=>m9 x.1 x.2) (x2_0,0) (by subst h;exact i9) ?_ ?_<;>subst hσz
          ·clear hE hinl hV;cbv;(try repeat' first|rfl|assumption|constructor)
          ·intro ⟨x9_0,x9_1⟩ hI9 K9 hK9
           have h9:=c9 _ _ hI9
           cbv
           repeat' first|(refine Br.mk (fun _=>?_) (fun _=>?_)<;>cbv)|(refine NilB.mk (fun _=>?_) ?_<;>cbv)|refine And.intro ?_ ?_|exact True.intro
           ·rename_i p71a p71b
            subst h;exact h9.g29 (dt p71a) (dt p71b)
           ·rename_i p72a p72b
            subst h;exact h9.g30 (dt p72a) (dt p72b)
           ·rename_i p73a p73b
            refine hK9 (A.app x9_0 [[D.i 1]],A.add x9_1 1) _ ?_ ?_ ?_
            ·subst h;exact (h9.n31 (dt p73a) (dt p73b)).1
            ·subst h;exact (h9.n31 (dt p73a) (dt p73b)).2
            ·clear hE hinl hV hK9;cbv;(try repeat' first|rfl|assumption|constructor)
           ·rename_i p74a p74b p74c
            subst h;exact h9.g32 (dt p74a) (df p74b) (dt p74c)
           ·rename_i p75a p75b p75c
            refine Leaf.gen fun σz hσz=>?_
            obtain ⟨I10,m10,i10,c10⟩:V28l4 x1_1 x9_0 I8:=by subst h;exact h9.l4 (dt p75a) (df p75b) (dt p75c)
            refine loopBJ hE [11,14,16] hinl 6 [] [] [] (fun x:Rows×Int=>[.l x.1,.i x.2]) (fun x=>I10 x.1 x.2) (fun x=>m10 x.1 x.2) (x9_0,A.sub 31 1) (by subst h;exact i10) ?_ ?_<;>subst hσz
            ·clear hE hinl hV;cbv;(try repeat' first|rfl|assumption|constructor)
            ·intro ⟨x10_0,x10_1⟩ hI10 K10 hK10
             have h10:=c10 _ _ hI10
             cbv
             repeat' first|(refine Br.mk (fun _=>?_) (fun _=>?_)<;>cbv)|(refine NilB.mk (fun _=>?_) ?_<;>cbv)|refine And.intro ?_ ?_|exact True.intro
             ·rename_i p76a
              subst h;exact h10.g34 (dt p76a)
             ·rename_i p77a
              subst h;exact h10.g35 (dt p77a)
             ·rename_i p78a
              subst h;exact h10.g36 (dt p78a)
             ·rename_i p79a
              subst h;exact h10.g37 (dt p79a)
             ·rename_i p80a
              refine hK10 (A.app x10_0 [[D.i (A.tmod (A.shr .i64 x1_1 x10_1) 2)]],A.sub x10_1 1) _ ?_ ?_ ?_
              ·subst h;exact (h10.n38 (dt p80a)).1
              ·subst h;exact (h10.n38 (dt p80a)).2
              ·clear hE hinl hV hK10;cbv;(try repeat' first|rfl|assumption|constructor)
             ·rename_i p81a
              refine hK8 (x10_0) _ ?_ ?_
              ·subst h;exact h10.n39 (df p81a)
              ·clear hE hinl hV hK8;cbv;(try repeat' first|rfl|assumption|constructor)
           ·rename_i p82a p82b p82c
            subst h;exact h9.g40 (dt p82a) (df p82b) (df p82c)
           ·rename_i p83a p83b p83c
            subst h;exact h9.g41 (dt p83a) (df p83b) (df p83c)
           ·rename_i p84a p84b p84c
            refine Leaf.gen fun σz hσz=>?_
            obtain ⟨I11,m11,i11,c11⟩:V28l5 fn x0_4 x0_5 x1_1 x9_0 I8:=by subst h;exact h9.l5 (dt p84a) (df p84b) (df p84c)
            refine loopBJ hE [11,14,16] hinl 6 [] [] [] (fun x:Rows×Int=>[.l x.1,.i x.2]) (fun x=>I11 x.1 x.2) (fun x=>m11 x.1 x.2) (A.app x9_0 [[D.i 0]],A.sub (A.di (fn 89 [[D.i x0_4,D.i x0_5]] 0 0)) 1) (by subst h;exact i11) ?_ ?_<;>subst hσz
            ·clear hE hinl hV;cbv;(try repeat' first|rfl|assumption|constructor)
            ·intro ⟨x11_0,x11_1⟩ hI11 K11 hK11
             have h11:=c11 _ _ hI11
             cbv
             repeat' first|(refine Br.mk (fun _=>?_) (fun _=>?_)<;>cbv)|(refine NilB.mk (fun _=>?_) ?_<;>cbv)|refine And.intro ?_ ?_|exact True.intro
             ·rename_i p85a
              subst h;exact h11.g34 (dt p85a)
             ·rename_i p86a
              subst h;exact h11.g35 (dt p86a)
             ·rename_i p87a
              subst h;exact h11.g36 (dt p87a)
             ·rename_i p88a
              subst h;exact h11.g37 (dt p88a)
             ·rename_i p89a
              refine hK11 (A.app x11_0 [[D.i (A.tmod (A.shr .i64 x1_1 x11_1) 2)]],A.sub x11_1 1) _ ?_ ?_ ?_
              ·subst h;exact (h11.n38 (dt p89a)).1
              ·subst h;exact (h11.n38 (dt p89a)).2
              ·clear hE hinl hV hK11;cbv;(try repeat' first|rfl|assumption|constructor)
             ·rename_i p90a
              refine hK8 (x11_0) _ ?_ ?_
              ·subst h;exact h11.n39 (df p90a)
              ·clear hE hinl hV hK8;cbv;(try repeat' first|rfl|assumption|constructor)
           ·rename_i p91a p91b
            subst h;exact h9.g49 (df p91a) (dt p91b)
           ·rename_i p92a p92b
            refine Leaf.gen fun σz hσz=>?_
            obtain ⟨I12,m12,i12,c12⟩:V28l4 x1_1 x9_0 I8:=by subst h;exact h9.l6 (df p92a) (dt p92b)
            refine loopBJ hE [11,14,16] hinl 6 [] [] [] (fun x:Rows×Int=>[.l x.1,.i x.2]) (fun x=>I12 x.1 x.2) (fun x=>m12 x.1 x.2) (x9_0,A.sub 31 1) (by subst h;exact i12) ?_ ?_<;>subst hσz
            ·clear hE hinl hV;cbv;(try repeat' first|rfl|assumption|constructor)
            ·intro ⟨x12_0,x12_1⟩ hI12 K12 hK12
             have h12:=c12 _ _ hI12
             cbv
             repeat' first|(refine Br.mk (fun _=>?_) (fun _=>?_)<;>cbv)|(refine NilB.mk (fun _=>?_) ?_<;>cbv)|refine And.intro ?_ ?_|exact True.intro
             ·rename_i p93a
              subst h;exact h12.g34 (dt p93a)
             ·rename_i p94a
              subst h;exact h12.g35 (dt p94a)
             ·rename_i p95a
              subst h;exact h12.g36 (dt p95a)
             ·rename_i p96a
              subst h;exact h12.g37 (dt p96a)
             ·rename_i p97a
              refine hK12 (A.app x12_0 [[D.i (A.tmod (A.shr .i64 x1_1 x12_1) 2)]],A.sub x12_1 1) _ ?_ ?_ ?_
              ·subst h;exact (h12.n38 (dt p97a)).1
              ·subst h;exact (h12.n38 (dt p97a)).2
              ·clear hE hinl hV hK12;cbv;(try repeat' first|rfl|assumption|constructor)
             ·rename_i p98a
              refine hK8 (x12_0) _ ?_ ?_
              ·subst h;exact h12.n39 (df p98a)
              ·clear hE hinl hV hK8;cbv;(try repeat' first|rfl|assumption|constructor)
           ·rename_i p99a p99b
            subst h;exact h9.g57 (df p99a) (df p99b)
           ·rename_i p100a p100b
            subst h;exact h9.g58 (df p100a) (df p100b)
           ·rename_i p101a p101b
            refine Leaf.gen fun σz hσz=>?_
            obtain ⟨I13,m13,i13,c13⟩:V28l5 fn x0_4 x0_5 x1_1 x9_0 I8:=by subst h;exact h9.l7 (df p101a) (df p101b)
            refine loopBJ hE [11,14,16] hinl 6 [] [] [] (fun x:Rows×Int=>[.l x.1,.i x.2]) (fun x=>I13 x.1 x.2) (fun x=>m13 x.1 x.2) (A.app x9_0 [[D.i 0]],A.sub (A.di (fn 89 [[D.i x0_4,D.i x0_5]] 0 0)) 1) (by subst h;exact i13) ?_ ?_<;>subst hσz
            ·clear hE hinl hV;cbv;(try repeat' first|rfl|assumption|constructor)
            ·intro ⟨x13_0,x13_1⟩ hI13 K13 hK13
             have h13:=c13 _ _ hI13
             cbv
             repeat' first|(refine Br.mk (fun _=>?_) (fun _=>?_)<;>cbv)|(refine NilB.mk (fun _=>?_) ?_<;>cbv)|refine And.intro ?_ ?_|exact True.intro
             ·rename_i p102a
              subst h;exact h13.g34 (dt p102a)
             ·rename_i p103a
              subst h;exact h13.g35 (dt p103a)
             ·rename_i p104a
              subst h;exact h13.g36 (dt p104a)
             ·rename_i p105a
              subst h;exact h13.g37 (dt p105a)
             ·rename_i p106a
              refine hK13 (A.app x13_0 [[D.i (A.tmod (A.shr .i64 x1_1 x13_1) 2)]],A.sub x13_1 1) _ ?_ ?_ ?_
              ·subst h;exact (h13.n38 (dt p106a)).1
              ·subst h;exact (h13.n38 (dt p106a)).2
              ·clear hE hinl hV hK13;cbv;(try repeat' first|rfl|assumption|constructor)
             ·rename_i p107a
              refine hK8 (x13_0) _ ?_ ?_
              ·subst h;exact h13.n39 (df p107a)
              ·clear hE hinl hV hK8;cbv;(try repeat' first|rfl|assumption|constructor)
        ·intro x8_0 hI8
         have h8:=c8 _ hI8
         cbv
         repeat' first|(refine Br.mk (fun _=>?_) (fun _=>?_)<;>cbv)|(refine NilB.mk (fun _=>?_) ?_<;>cbv)|refine And.intro ?_ ?_|exact True.intro
         ·subst h;exact h8.g108
         ·subst h;exact h8.g109
         ·refine hK0 (x8_0,A.add x0_1 1,A.di (fn 65 [[D.i x0_2,D.i x0_3],[D.i x1_0]] 0 0),A.di (fn 65 [[D.i x0_2,D.i x0_3],[D.i x1_0]] 0 1),A.di (fn 65 [[D.i x0_4,D.i x0_5],[D.i x1_1]] 0 0),A.di (fn 65 [[D.i x0_4,D.i x0_5],[D.i x1_1]] 0 1)) _ ?_ ?_ ?_
          ·subst h;exact (h8.n110).1
          ·subst h;exact (h8.n110).2
          ·clear hE hinl hV hK0;cbv;(try repeat' first|rfl|assumption|constructor)
   ·rename_i p111a
    subst h;exact h0.g111 (df p111a)
   ·rename_i p112a
    subst h;exact h0.g112 (df p112a)
   ·rename_i p113a
    refine Leaf.gen fun σz hσz=>?_
    obtain ⟨I14,m14,i14,c14⟩:V28l14 pre fn a0 R x0_0:=by subst h;exact h0.l14 (df p113a)
    refine loopBJ hE [11,14,16] hinl 6 [] [] [] (fun x:Rows=>[.l x]) (fun x=>I14 x) (fun x=>m14 x) (x0_0) (by subst h;exact i14) ?_ ?_<;>subst hσz
    ·clear hE hinl hV;cbv;(try repeat' first|rfl|assumption|constructor)
    ·intro x14_0 hI14 K14 hK14
     have h14:=c14 _ hI14
     cbv
     repeat' first|(refine Br.mk (fun _=>?_) (fun _=>?_)<;>cbv)|(refine NilB.mk (fun _=>?_) ?_<;>cbv)|refine And.intro ?_ ?_|exact True.intro
     ·subst h;exact h14.g114
     ·rename_i p115a
      subst h;exact h14.g115 (df (nt p115a))
     ·rename_i p116a
      refine hK14 (A.app x14_0 [[D.i 0]]) _ ?_ ?_ ?_
      ·subst h;exact (h14.n116 (df (nt p116a))).1
      ·subst h;exact (h14.n116 (df (nt p116a))).2
      ·clear hE hinl hV hK14;cbv;(try repeat' first|rfl|assumption|constructor)
     ·rename_i p117a
      refine Leaf.gen fun σz hσz=>?_
      obtain ⟨I15,m15,i15,c15⟩:V28l15 pre fn a0 R x14_0:=by subst h;exact h14.l15 (dt (nf p117a))
      refine loopBJ hE [11,14,16] hinl 6 [] [] [] (fun x:Rows×Int=>[.l x.1,.i x.2]) (fun x=>I15 x.1 x.2) (fun x=>m15 x.1 x.2) ([[D.i 71],[D.i 83],[D.i (A.wrap IntKind.u8 (A.shr IntKind.i64 (A.nat (A.len a0)) 16))],[D.i (A.wrap IntKind.u8 (A.shr IntKind.i64 (A.nat (A.len a0)) 8))],[D.i (A.wrap IntKind.u8 (A.nat (A.len a0)))]],0) (by subst h;exact i15) ?_ ?_<;>subst hσz
      ·clear hE hinl hV;cbv;(try repeat' first|rfl|assumption|constructor)
      ·intro ⟨x15_0,x15_1⟩ hI15 K15 hK15
       have h15:=c15 _ _ hI15
       cbv
       repeat' first|(refine Br.mk (fun _=>?_) (fun _=>?_)<;>cbv)|(refine NilB.mk (fun _=>?_) ?_<;>cbv)|refine And.intro ?_ ?_|exact True.intro
       ·rename_i p118a
        refine Leaf.gen fun σz hσz=>?_
        obtain ⟨I16,m16,i16,c16⟩:V28l16 x14_0 x15_0 x15_1 I15 m15:=by subst h;exact h15.l16 (dt p118a)
        refine loopBJ hE [11,14,16] hinl 6 [] [] [] (fun x:Int×Int=>[.i x.1,.i x.2]) (fun x=>I16 x.1 x.2) (fun x=>m16 x.1 x.2) (0,0) (by subst h;exact i16) ?_ ?_<;>subst hσz
        ·clear hE hinl hV;cbv;(try repeat' first|rfl|assumption|constructor)
        ·intro ⟨x16_0,x16_1⟩ hI16 K16 hK16
         have h16:=c16 _ _ hI16
         cbv
         repeat' first|(refine Br.mk (fun _=>?_) (fun _=>?_)<;>cbv)|(refine NilB.mk (fun _=>?_) ?_<;>cbv)|refine And.intro ?_ ?_|exact True.intro
         ·rename_i p119a
          subst h;exact h16.g119 (dt p119a)
         ·rename_i p120a
          subst h;exact h16.g120 (dt p120a)
         ·rename_i p121a
          subst h;exact h16.g121 (dt p121a)
         ·rename_i p122a
          subst h;exact h16.g122 (dt p122a)
         ·rename_i p123a
          subst h;exact h16.g123 (dt p123a)
         ·rename_i p124a
          subst h;exact h16.g124 (dt p124a)
         ·rename_i p125a
          subst h;exact h16.g125 (dt p125a)
         ·rename_i p126a
          refine hK16 (A.add (A.mul 2 x16_0) (A.di (A.get x14_0 (A.toNat (A.add x15_1 x16_1)) 0)),A.add x16_1 1) _ ?_ ?_ ?_
          ·subst h;exact (h16.n126 (dt p126a)).1
          ·subst h;exact (h16.n126 (dt p126a)).2
          ·clear hE hinl hV hK16;cbv;(try repeat' first|rfl|assumption|constructor)
         ·rename_i p127a
          subst h;exact h16.g127 (df p127a)
         ·rename_i p128a
          subst h;exact h16.g128 (df p128a)
         ·rename_i p129a
          refine hK15 (A.app x15_0 [[D.i (A.wrap .u8 x16_0)]],A.add x15_1 8) _ ?_ ?_ ?_
          ·subst h;exact (h16.n129 (df p129a)).1
          ·subst h;exact (h16.n129 (df p129a)).2
          ·clear hE hinl hV hK15;cbv;(try repeat' first|rfl|assumption|constructor)
       ·rename_i p130a
        subst h;exact h15.g130 (df p130a)
       ·rename_i p131a
        subst h;exact h15.g131 (df p131a)
       ·rename_i p132a
        subst h;exact h15.g132 (df p132a)
       ·rename_i p133a
        subst h;exact h15.g133 (df p133a)
end HX

namespace HX
open Go Go.Proofs CX
abbrev tru:List (List D)→Prop:=fun _=>True
noncomputable def r92:List (List D)→Nat→Nat→D
 |[[.i a,.i n]],_,_=>.i (lowK (a,n))
 |_,_,_=>.nil
def p67:List (List D)→Prop
 |[[.l l]]=>byL l∧l.length≤4000000000
 |_=>False
noncomputable def r67:List (List D)→Nat→Nat→D
 |[[.l l]],_,0=>.i (sum0 l)
 |[[.l l]],_,_=>.i (sum1 l)
 |_,_,_=>.nil
def r50:List (List D)→Nat→Nat→D
 |[[.i a],[.i b],[.i c]],_,_=>.b (inB a b c)
 |_,_,_=>.nil
def r100:List (List D)→Nat→Nat→D
 |[[.i a],[.i b]],_,_=>.i (cmpI a b)
 |_,_,_=>.nil
def r76:List (List D)→Nat→Nat→D
 |[[.i a,.i b],[.i c,.i d]],_,_=>.i (cmpE a b c d)
 |_,_,_=>.nil
def r71:List (List D)→Nat→Nat→D
 |[[.l l],[.i a,.i b]],_,_=>.i (folE l a b)
 |_,_,_=>.nil
def p63:List (List D)→Prop
 |[[.l l]]=>l.length≤65536∧EvOk' l
 |_=>False
noncomputable def r63:List (List D)→Nat→Nat→D
 |[[.l l]],_,_=>.l (packP l)
 |_,_,_=>.nil
def r40:List (List D)→Nat→Nat→D
 |[[.i t,.i i],[.i t2,.i i2],[.b f]],_,_=>.i (folF t i t2 i2 f)
 |_,_,_=>.nil
def p65:List (List D)→Prop
 |[[.i a,.i n],[.i v]]=>MOk (a,n)∧0≤v∧v≤8589934592
 |_=>False
noncomputable def r65:List (List D)→Nat→Nat→D
 |[[.i a,.i n],[.i v]],_,0=>.i (lrn (a,n) v).1
 |[[.i a,.i n],[.i v]],_,_=>.i (lrn (a,n) v).2
 |_,_,_=>.nil
noncomputable def r66:List (List D)→Nat→Nat→D
 |[[.l l]],0,_=>.i (sumS l l.length).1
 |[[.l l]],_,_=>.i (sumS l l.length).2
 |_,_,_=>.nil
def r54:List (List D)→Nat→Nat→D
 |[[.l l]],_,_=>.i (chkE l)
 |_,_,_=>.nil
noncomputable def r28:List (List D)→Nat→Nat→D
 |[[.l l]],0,_=>.l (pacL l)
 |[[.l l]],_,_=>.i (chkE l)
 |_,_,_=>.nil
noncomputable def c92:Ctr:=⟨92,⟨[(true,[.int .i64,.int .i64])],[(false,[.int .i64])],false⟩,tru,r92⟩
noncomputable def c67:Ctr:=⟨67,⟨[(false,[.sl [.int .u8]])],[(true,[.int .u8,.int .u8])],false⟩,p67,r67⟩
noncomputable def c50:Ctr:=⟨50,⟨[(false,[.int .i64]),(false,[.int .i64]),(false,[.int .i64])],[(false,[.bool])],false⟩,tru,r50⟩
noncomputable def c100:Ctr:=⟨100,⟨[(false,[.int .i64]),(false,[.int .i64])],[(false,[.int .i64])],false⟩,tru,r100⟩
noncomputable def c76:Ctr:=⟨76,⟨[(true,[.int .i64,.int .i64]),(true,[.int .i64,.int .i64])],[(false,[.int .i64])],false⟩,tru,r76⟩
noncomputable def c71:Ctr:=⟨71,⟨[(false,[.sl [.int .i64,.int .i64]]),(true,[.int .i64,.int .i64])],[(false,[.int .i64])],false⟩,tru,r71⟩
noncomputable def c63:Ctr:=⟨63,⟨[(false,[.sl [.int .i64,.int .i64]])],[(false,[.sl [.int .u8]])],false⟩,p63,r63⟩
noncomputable def c53:Ctr:=⟨53,⟨[(false,[.int .i64]),(false,[.int .i64]),(false,[.int .i64])],[(false,[.bool])],false⟩,tru,r50⟩
noncomputable def c40:Ctr:=⟨40,⟨[(true,[.int .i64,.int .i64]),(true,[.int .i64,.int .i64]),(false,[.bool])],[(false,[.int .i64])],false⟩,tru,r40⟩
noncomputable def c89:Ctr:=⟨89,⟨[(true,[.int .i64,.int .i64])],[(false,[.int .i64])],false⟩,tru,r92⟩
noncomputable def c65:Ctr:=⟨65,⟨[(true,[.int .i64,.int .i64]),(false,[.int .i64])],[(true,[.int .i64,.int .i64])],false⟩,p65,r65⟩
noncomputable def c66:Ctr:=⟨66,⟨[(false,[.sl [.int .u8]])],[(false,[.int .i64]),(false,[.int .i64])],false⟩,p67,r66⟩
noncomputable def c54:Ctr:=⟨54,⟨[(false,[.sl [.int .i64,.int .i64]])],[(false,[.int .i64])],false⟩,tru,r54⟩
noncomputable def c28:Ctr:=⟨28,⟨[(false,[.sl [.int .i64,.int .i64]])],[(false,[.sl [.int .u8]]),(false,[.int .i64])],false⟩,tru,r28⟩
noncomputable def c13:Ctr:=⟨13,⟨[],[(false,[.bool])],false⟩,tru,(fun _ _ _=>.b true)⟩
section
variable (ro:Addr→Option V)
theorem k92:PureC (cxE ro) c92.f c92.sg c92.pre c92.res:=walk92 (envL (l:=[]) .nil) fun _ _ _=>⟨_,_,law92 rfl⟩
theorem k67:PureC (cxE ro) c67.f c67.sg c67.pre c67.res:=walk67 (envL (l:=[]) .nil) fun _ _ h=>⟨_,_,law67 h.1 h.2 rfl rfl⟩
theorem k50:PureC (cxE ro) c50.f c50.sg c50.pre c50.res:=walk50 (envL (l:=[]) .nil) fun _ _ _ _=>law50 rfl
theorem k100:PureC (cxE ro) c100.f c100.sg c100.pre c100.res:=walk100 (envL (l:=[]) .nil) fun _ _ _=>law100 rfl
theorem k76:PureC (cxE ro) c76.f c76.sg c76.pre c76.res:=walk76 (envL (l:=[c100]) (.cons (k100 ro) .nil)) fun _ _ _ _ _=>⟨_,_,law76 (fun _=>trivial) (fun _ _=>rfl) rfl⟩
theorem k71:PureC (cxE ro) c71.f c71.sg c71.pre c71.res:=walk71 (envL (l:=[c50,c76]) (.cons (k50 ro) (.cons (k76 ro) .nil))) fun _ _ _ ha _=>law71 (fun _=>trivial) (fun _ _ _=>rfl) (fun _=>trivial) (fun _ _ _ _=>rfl) (by have:=ha.2;omega) rfl
theorem k63:PureC (cxE ro) c63.f c63.sg c63.pre c63.res:=walk63 (envL (l:=[c67,c92]) (.cons (k67 ro) (.cons (k92 ro) .nil))) fun _ _ h=>law63 (fun _=>trivial) (fun _ _=>rfl) (fun _ h1 h2=>⟨h1,h2⟩) (fun _=>⟨rfl,rfl⟩) h.1 h.2 (fun q hq=>(pk_step h.2 q hq).1.by_) rfl
theorem k53:PureC (cxE ro) c53.f c53.sg c53.pre c53.res:=walk53 (envL (l:=[]) .nil) fun _ _ _ _=>law53 rfl
theorem k40:PureC (cxE ro) c40.f c40.sg c40.pre c40.res:=walk40 (envL (l:=[c53]) (.cons (k53 ro) .nil)) fun _ _ _ _ _ _=>law40 (fun _=>trivial) (fun _ _ _=>rfl) rfl
theorem k89:PureC (cxE ro) c89.f c89.sg c89.pre c89.res:=walk89 (envL (l:=[]) .nil) fun _ _ _=>⟨_,_,law89 rfl⟩
theorem k65:PureC (cxE ro) c65.f c65.sg c65.pre c65.res:=walk65 (envL (l:=[]) .nil) fun _ _ _ h=>law65 h.1 h.2.1 h.2.2 rfl rfl
theorem k66:PureC (cxE ro) c66.f c66.sg c66.pre c66.res:=walk66 (envL (l:=[]) .nil) fun _ _ h=>⟨_,_,law66 h.1 h.2 rfl rfl⟩
theorem k54:PureC (cxE ro) c54.f c54.sg c54.pre c54.res:=walk54 (envL (l:=[c40]) (.cons (k40 ro) .nil)) fun _ _ _=>⟨_,_,law54 (fun _=>trivial) (fun _ _ _ _ _=>rfl) rfl⟩
theorem k28:PureC (cxE ro) c28.f c28.sg c28.pre c28.res:=walk28 (envL (l:=[c54,c65,c66,c89]) (.cons (k54 ro) (.cons (k65 ro) (.cons (k66 ro) (.cons (k89 ro) .nil))))) fun _ _ _=>law28 (fun _=>trivial) (fun _ _=>rfl) (fun _=>trivial) (fun _=>rfl) (fun _ _ _ h1 h2 h3=>⟨h1,h2,h3⟩) (fun _ _ _=>⟨rfl,rfl⟩) (fun _ h1 h2=>⟨h1,h2⟩) (fun _=>⟨rfl,rfl⟩) rfl rfl
theorem k13:PureC (cxE ro) c13.f c13.sg c13.pre c13.res:=works_pure
end
noncomputable def l11:List Ctr:=[c13,c28,c40,c63,c71]
theorem k_l11 (ro:Addr→Option V):Ctrs (cxE ro) l11:=(.cons (k13 ro) (.cons (k28 ro) (.cons (k40 ro) (.cons (k63 ro) (.cons (k71 ro) .nil)))))
end HX

namespace HX
open Go Go.Proofs CX
theorem law11' {a0:Rows}:V11 (preOf l11) (resOf l11) a0 (fun _ _=>.b true):=
 law11 trivial rfl (fun _=>trivial) (fun _=>⟨rfl,rfl⟩) (fun _=>trivial) (fun _ _ _ _ _=>rfl) (fun _ h1 h2=>⟨h1,h2⟩) (fun _=>rfl) (fun _=>trivial) (fun _ _ _=>rfl) rfl
end HX

namespace Go.Proofs.Ytmnaiddobipclaa.senseRecords
open Go.ChangeShapes Go.WideShapes Go.ChangeAt Go.RowKit HX
def ps:List (Bool×List Kd):=[(false,[.sl [.int .i64,.int .i64]])]
theorem law (ro:Addr→Option CX.V):PureC0 (cxE ro) 11 ⟨ps,[(false,[.bool])],false⟩ (RngAll ps) trueRes:=walk11 (envL (l:=l11) (k_l11 ro)) fun _ _ _=>law11'
theorem lenN {α β:Type} {F:List α→β} {G:List α→β} (h:∀a,F [a]=G [a]):∀ds:List α,ds.length=1→F ds=G ds
 |[a],_=>h a
set_option maxRecDepth 100000 in
set_option maxHeartbeats 400000 in
theorem lifted (os:Os) (started:os.Started) (H:Type) (enc:TypeId×Value→H) :
  ReturnsInHanded {} Try.checked os 11 .any (Rows.senseRecordsSpec.pre6 enc Try.prog Try.f11 Rows.senseRecordsRow.domain false) (Rows.senseRecordsSpec.post enc Try.prog Try.f11 false true false false):=by
 refine returnsInHanded_of_change (C:=Try.checked) own started (by kernel_rfl) Try.func11
  (ChangeSpec.witness6 (enc:=enc) (C:=Try.checked) false ⟨#[],#[.slice none 0 0],[]⟩ 8 (by kernel_rfl) (by kernel_rfl) (by kernel_rfl) (by kernel_rfl)) ?_
 intro W base args ds gs before hval hW _ _
 exact said (f:=Try.f11) (s:=Rows.senseRecordsSpec) (n:=8) (tb:=4) cxE_ok law (by kernel_rfl) laid (by kernel_rfl) rfl Try.underlying4
  (lenN (F:=Rows.senseRecordsSpec.fn H) (G:=fun ds=>⟨[.lit (.bool true)],ds,[]⟩) fun _=>rfl) rfl W base args ds gs before hval hW
theorem holds:Rows.SenseRecordsSaid:=
 OpenClaim.holds_of_wide 11 Try.f11 rfl rfl rfl rfl rfl rfl rfl ⟨rfl,rfl,rfl,rfl,rfl⟩ rfl rfl rfl rfl rfl (by kernel_rfl) Try.func11 (by kernel_rfl)
  (of_decide_eq_true (by kernel_rfl)) (by unfold Func.isWrapper;first |(rw [if_pos (by decide +kernel)];kernel_rfl) |(rw [if_neg (by decide +kernel)];exact ⟨rfl,rfl⟩))
  (fun os started H enc _=>lifted os started H enc)
end Go.Proofs.Ytmnaiddobipclaa.senseRecords
