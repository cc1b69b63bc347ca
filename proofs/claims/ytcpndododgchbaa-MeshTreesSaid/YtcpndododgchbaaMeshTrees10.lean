/-
  Texts of the executors: W8, HxEnvS, HxEnv, CxClose, HxBase, HxClose, HxOwn, HxCtr0, HxCtr, V22, V23, V19, V49, V50, V53, V54, V55, V56, V88, V15, V16, V20, MbB, MoD, MoL, MoM, MoN, MoP, MgD.
-/
import Derived.Test.YtcpndododgchbaaMeshTrees9
import Derived.WalkKit
import Derived.ProofKit
import Derived.JoinedCond
import Derived.RowKit3
import Derived.ChangeArms
import Derived.ChangeCalls
import Derived.WideKeyArgs
import Derived.KernelRfl
set_option linter.all false
noncomputable section
namespace HX
open Go Go.Proofs CX
set_option maxHeartbeats 40000000 in
set_option maxRecDepth 100000 in
set_option cbv.maxSteps 3000000 in
theorem walk8 {ro A pre fn} (hE:EnvOk ⟨A,(cxE ro),ksF,sigL [(13,⟨[],[(false,[.bool])],false⟩),(15,⟨[(true,[.int .i64,.int .i64,.int .i64]),(false,[.int .i64]),(false,[.int .i64])],[(false,[.int .i64]),(false,[.int .i64])],false⟩),(19,⟨[(true,[.int .i64,.int .i64,.int .i64]),(false,[.int .i64]),(false,[.int .i64])],[(false,[.sl [.int .i64]]),(false,[.int .i64])],false⟩),(21,⟨[(false,[.sl [.int .i64]]),(false,[.sl [.int .i64]])],[(false,[.bool])],false⟩),(22,⟨[(true,[.int .i64,.int .i64,.int .i64]),(false,[.int .i64]),(false,[.sl [.int .i64]])],[(false,[.sl [.int .i64]]),(false,[.int .i64])],false⟩),(42,⟨[(false,[.int .i64])],[(false,[.int .i64])],false⟩),(43,⟨[(true,[.int .i64,.int .i64,.int .i64]),(false,[.sl [.int .i64]]),(false,[.int .i64]),(false,[.sl [.int .i64]]),(false,[.int .i64])],[(false,[.int .i64]),(false,[.bool])],true⟩)],pre,fn⟩) {P:List (List D)->Prop} {res:List (List D)->Nat->Nat->D}
  (hv:∀(a0:Int) (a1:Int) (a2:Int) (a3:Rows),ShR [.int .u8] a3->P [[.i a0],[.i a1],[.i a2],[.l a3]]->V8 pre fn a0 a1 a2 a3 (res [[.i a0],[.i a1],[.i a2],[.l a3]])) :
  PureC0 (cxE ro) 8 ⟨[(false,[.int .u8]),(false,[.int .u8]),(false,[.int .u8]),(false,[.sl [.int .u8]])],[(false,[.bool])],false⟩ P res:=by
 have hA:=hE.A
 simp only [] at hA
 have hinl:∀f fn,inlL [(41,Try.f41)] f=some fn->(cxE ro).fn f=some fn/\(cxE ro).ext f=none:=Inls.ok (by repeat (first |exact .nil |refine .cons rfl rfl ?_))
 refine PureC0.of_vcJ hE [2,8,12,16,28] hinl 6 (f:=8) (fn:=Try.f8) ⟨rfl,rfl⟩ ?_
 intro a0 a1 a2 a3 ha3 hP
 obtain ⟨R,hR⟩:∃R,res [[.i a0],[.i a1],[.i a2],[.l a3]]=R:=⟨_,rfl⟩
 rw [hR]
 have hV:=hv a0 a1 a2 a3 ha3 hP
 rw [hR] at hV
 clear hR hP hv
 cbv
 repeat' (first |(refine Br.mk (fun _=>?_) (fun _=>?_)<;>cbv) |(refine NilB.mk (fun _=>?_) ?_<;>cbv) |refine And.intro ?_ ?_ |exact True.intro)
 ·subst hA;exact hV.g0
 ·subst hA;exact hV.g1
 ·subst hA;exact hV.g2
 ·subst hA;exact hV.g3
 ·subst hA;exact hV.g1
 ·subst hA;exact hV.g5
 refine Leaf.gen fun Yz hσz=>?_
 obtain ⟨I0,r0,c0⟩:V8j0 pre fn a0 a1 a2 a3 R:=by subst hA;exact hV.l0
 refine joinR hE hinl 6 [] [] [] [(10,SV.int .i64 0)] [(0,[0,0,0])] (fun x:Int×Int×Int×Int=>[.i x.1,D.l [[.i x.2.1,.i x.2.2.1,.i x.2.2.2]]]) (fun x=>I0 x.1 x.2.1 x.2.2.1 x.2.2.2) ?_ ?_<;>subst hσz
 ·intro K0 hK0
  cbv
  repeat' (first |(refine Br.mk (fun _=>?_) (fun _=>?_)<;>cbv) |(refine NilB.mk (fun _=>?_) ?_<;>cbv) |refine And.intro ?_ ?_ |exact True.intro)
  ·subst hA;exact r0.g7
  refine hK0 (A.mul (A.add 1 (A.tmod a0 8)) (A.add 1 (A.tmod a1 8)),A.add 1 (A.tmod a0 8),A.add 1 (A.tmod a1 8),1) _ ?_ ?_
  ·subst hA;exact r0.n8
  clear hE hinl hV hK0;cbv;(try (repeat' (first |exact True.intro |rfl |assumption |apply And.intro)))
 intro ⟨b0,b1,b2,b3⟩ hI0
 have h0:=c0 _ _ _ _ hI0
 cbv
 repeat' (first |(refine Br.mk (fun _=>?_) (fun _=>?_)<;>cbv) |(refine NilB.mk (fun _=>?_) ?_<;>cbv) |refine And.intro ?_ ?_ |exact True.intro)
 next p9a=>
  subst hA;exact h0.g9 (dt p9a)
 next p10a=>
  subst hA;exact h0.g10 (dt p10a)
 next p11a p11b=>
  subst hA;exact h0.g11 (df p11a) (dt p11b)
 next p12a p12b=>
  subst hA;exact h0.g12 (df p12a) (dt p12b)
 next p13a p13b=>
  subst hA;exact h0.g13 (df p13a) (df p13b)
 next p14a p14b=>
  subst hA;exact h0.g14 (df p14a) (df p14b)
 next p15a p15b=>
  subst hA;exact h0.g15 (df p15a) (df p15b)
 next p16a p16b=>
  subst hA;exact h0.g16 (df p16a) (df p16b)
 next p17a p17b=>
  subst hA;exact h0.g13 (df p17a) (df p17b)
 next p18a p18b=>
  subst hA;exact h0.g14 (df p18a) (df p18b)
 next p19a p19b=>
  subst hA;exact h0.g15 (df p19a) (df p19b)
 next p20a p20b=>
  subst hA;exact h0.g20 (df p20a) (df p20b)
 rename_i p21a p21b
 refine Leaf.gen fun Yz hσz=>?_
 obtain ⟨I1,r1,c1⟩:V8j1 pre fn a2 a3 R b0 b1 b2 b3:=by subst hA;exact h0.l1 (df p21a) (df p21b)
 refine joinR hE hinl 6 [] [] [] [(14,SV.int .i64 0)] [] (fun x:Int=>[.i x]) (fun x=>I1 x) ?_ ?_<;>subst hσz
 ·intro K1 hK1
  cbv
  repeat' (first |(refine Br.mk (fun _=>?_) (fun _=>?_)<;>cbv) |(refine NilB.mk (fun _=>?_) ?_<;>cbv) |refine And.intro ?_ ?_ |exact True.intro)
  ·subst hA;exact r1.g22
  ·subst hA;exact r1.g23
  refine hK1 (A.tmod a2 b0) _ ?_ ?_
  ·subst hA;exact r1.n24
  clear hE hinl hV hK1;cbv;(try (repeat' (first |exact True.intro |rfl |assumption |apply And.intro)))
 intro d0 hI1
 have h1:=c1 _ hI1
 cbv
 repeat' (first |(refine Br.mk (fun _=>?_) (fun _=>?_)<;>cbv) |(refine NilB.mk (fun _=>?_) ?_<;>cbv) |refine And.intro ?_ ?_ |exact True.intro)
 refine Leaf.gen fun Yz hσz=>?_
 obtain ⟨I2,m2,i2,c2⟩:V8l2 pre fn a3 R b0 b1 b2 b3 d0:=by subst hA;exact h1.l2
 refine loopBJ hE [2,8,12,16,28] hinl 6 [] [] [(2,[]),(3,[])] (fun x:Rows×Bool×Int×Rows×Rows=>[.l x.1,.b x.2.1,.i x.2.2.1,.l x.2.2.2.1,.l x.2.2.2.2]) (fun x=>I2 x.1 x.2.1 x.2.2.1 x.2.2.2.1 x.2.2.2.2) (fun x=>m2 x.1 x.2.1 x.2.2.1 x.2.2.2.1 x.2.2.2.2) ([],false,0,A.rep (A.toNat b0) [D.i 0],A.rep (A.toNat b0) [D.b false]) (by subst hA;exact i2) ?_ ?_<;>subst hσz
 ·clear hE hinl hV;cbv;(try (repeat' (first |exact True.intro |rfl |assumption |apply And.intro)))
 intro ⟨e0,e1,e2,e3,e4⟩ hI2 K2 hK2
 have h2:=c2 _ _ _ _ _ hI2
 cbv
 repeat' (first |(refine Br.mk (fun _=>?_) (fun _=>?_)<;>cbv) |(refine NilB.mk (fun _=>?_) ?_<;>cbv) |refine And.intro ?_ ?_ |exact True.intro)
 next p26a=>
  subst hA;exact h2.g26 (dt p26a)
 next p27a=>
  subst hA;exact h2.g27 (dt p27a)
 next p28a=>
  subst hA;exact h2.g28 (dt p28a)
 next p29a=>
  refine Leaf.gen fun Yz hσz=>?_
  obtain ⟨I3,r3,c3⟩:V8j3 pre fn a3 R b0 b1 b2 b3 d0 e0 e1 e2 e3 e4 I2 m2:=by subst hA;exact h2.l3 (dt p29a)
  refine joinR hE hinl 6 [] [] [] [(17,SV.int .i64 0)] [] (fun x:Int=>[.i x]) (fun x=>I3 x) ?_ ?_<;>subst hσz
  ·intro K3 hK3
   cbv
   repeat' (first |(refine Br.mk (fun _=>?_) (fun _=>?_)<;>cbv) |(refine NilB.mk (fun _=>?_) ?_<;>cbv) |refine And.intro ?_ ?_ |exact True.intro)
   ·subst hA;exact r3.g30
   ·subst hA;exact r3.g31
   refine hK3 (A.tmod (A.di (A.get a3 (A.toNat e2) 0)) b0) _ ?_ ?_
   ·subst hA;exact r3.n32
   clear hE hinl hV hK3;cbv;(try (repeat' (first |exact True.intro |rfl |assumption |apply And.intro)))
  intro f0 hI3
  have h3:=c3 _ hI3
  cbv
  repeat' (first |(refine Br.mk (fun _=>?_) (fun _=>?_)<;>cbv) |(refine NilB.mk (fun _=>?_) ?_<;>cbv) |refine And.intro ?_ ?_ |exact True.intro)
  ·subst hA;exact h3.g33
  ·subst hA;exact h3.g34
  ·subst hA;exact h3.g35
  ·subst hA;exact h3.g36
  ·subst hA;exact h3.g37
  refine Leaf.gen fun Yz hσz=>?_
  obtain ⟨I4,r4,c4⟩:V8j4 pre fn R b0 b1 b2 b3 d0 e0 e1 e2 e3 e4 f0 I2 m2:=by subst hA;exact h3.l4
  refine joinR hE hinl 6 [] [] [] [(20,SV.int .i64 0),(21,SV.int .i64 0)] [] (fun x:Int×Int=>[.i x.1,.i x.2]) (fun x=>I4 x.1 x.2) ?_ ?_<;>subst hσz
  ·intro K4 hK4
   cbv
   repeat' (first |(refine Br.mk (fun _=>?_) (fun _=>?_)<;>cbv) |(refine NilB.mk (fun _=>?_) ?_<;>cbv) |refine And.intro ?_ ?_ |exact True.intro)
   ·subst hA;exact r4.g39
   refine hK4 (A.di (fn 15 [[D.i b1,D.i b2,D.i b3],[D.i d0],[D.i f0]] 0 0),A.di (fn 15 [[D.i b1,D.i b2,D.i b3],[D.i d0],[D.i f0]] 1 0)) _ ?_ ?_
   ·subst hA;exact r4.n40
   clear hE hinl hV hK4;cbv;(try (repeat' (first |exact True.intro |rfl |assumption |apply And.intro)))
  intro ⟨j0,j1⟩ hI4
  have h4:=c4 _ _ hI4
  cbv
  repeat' (first |(refine Br.mk (fun _=>?_) (fun _=>?_)<;>cbv) |(refine NilB.mk (fun _=>?_) ?_<;>cbv) |refine And.intro ?_ ?_ |exact True.intro)
  next p41a=>
   subst hA;exact h4.g41 (df (nt p41a))
  next p42a p42b=>
   subst hA;exact h4.g42 (dt (nf p42a)) (df (nt p42b))
  next p43a p43b=>
   subst hA;exact h4.g43 (dt (nf p43a)) (dt (nf p43b))
  next p44a p44b p44c=>
   subst hA;exact h4.g44 (dt (nf p44a)) (dt (nf p44b)) (df (nt p44c))
  next p45a p45b p45c=>
   subst hA;exact h4.g45 (dt (nf p45a)) (dt (nf p45b)) (dt (nf p45c))
  next p46a p46b p46c=>
   subst hA;exact h4.g46 (dt (nf p46a)) (dt (nf p46b)) (dt (nf p46c))
  next p47a p47b p47c=>
   subst hA;exact h4.g47 (dt (nf p47a)) (dt (nf p47b)) (dt (nf p47c))
  next p48a p48b p48c p48d=>
   subst hA;exact h4.g48 (dt (nf p48a)) (dt (nf p48b)) (dt (nf p48c)) (df (nt p48d))
  next p49a p49b p49c p49d=>
   subst hA;exact h4.g49 (dt (nf p49a)) (dt (nf p49b)) (dt (nf p49c)) (dt (nf p49d))
  next p50a p50b p50c p50d=>
   subst hA;exact h4.g50 (dt (nf p50a)) (dt (nf p50b)) (dt (nf p50c)) (dt (nf p50d))
  next p51a p51b p51c p51d=>
   subst hA;exact h4.g51 (dt (nf p51a)) (dt (nf p51b)) (dt (nf p51c)) (dt (nf p51d))
  next p52a p52b p52c p52d p52e=>
   subst hA;exact h4.g52 (dt (nf p52a)) (dt (nf p52b)) (dt (nf p52c)) (dt (nf p52d)) (df (nt p52e))
  next p53a p53b p53c p53d p53e=>
   subst hA;exact h4.g53 (dt (nf p53a)) (dt (nf p53b)) (dt (nf p53c)) (dt (nf p53d)) (dt (nf p53e))
  next p54a p54b p54c p54d p54e=>
   subst hA;exact h4.g53 (dt (nf p54a)) (dt (nf p54b)) (dt (nf p54c)) (dt (nf p54d)) (dt (nf p54e))
  next p55a p55b p55c p55d p55e=>
   subst hA;exact h4.g55 (dt (nf p55a)) (dt (nf p55b)) (dt (nf p55c)) (dt (nf p55d)) (dt (nf p55e))
  next p56a p56b p56c p56d p56e=>
   subst hA;exact h4.g56 (dt (nf p56a)) (dt (nf p56b)) (dt (nf p56c)) (dt (nf p56d)) (dt (nf p56e))
  next p57a p57b p57c p57d p57e=>
   subst hA;exact h4.g53 (dt (nf p57a)) (dt (nf p57b)) (dt (nf p57c)) (dt (nf p57d)) (dt (nf p57e))
  next p58a p58b p58c p58d p58e=>
   subst hA;exact h4.g58 (dt (nf p58a)) (dt (nf p58b)) (dt (nf p58c)) (dt (nf p58d)) (dt (nf p58e))
  next p59a p59b p59c p59d p59e=>
   subst hA;exact h4.g53 (dt (nf p59a)) (dt (nf p59b)) (dt (nf p59c)) (dt (nf p59d)) (dt (nf p59e))
  next p60a p60b p60c p60d p60e=>
   subst hA;exact h4.g60 (dt (nf p60a)) (dt (nf p60b)) (dt (nf p60c)) (dt (nf p60d)) (dt (nf p60e))
  next p61a p61b p61c p61d p61e=>
   subst hA;exact h4.g61 (dt (nf p61a)) (dt (nf p61b)) (dt (nf p61c)) (dt (nf p61d)) (dt (nf p61e))
  next p62a p62b p62c p62d p62e=>
   subst hA;exact h4.g62 (dt (nf p62a)) (dt (nf p62b)) (dt (nf p62c)) (dt (nf p62d)) (dt (nf p62e))
  next p63a p63b p63c p63d p63e=>
   subst hA;exact h4.g63 (dt (nf p63a)) (dt (nf p63b)) (dt (nf p63c)) (dt (nf p63d)) (dt (nf p63e))
  next p64a p64b p64c p64d p64e p64f=>
   subst hA;exact h4.g64 (dt (nf p64a)) (dt (nf p64b)) (dt (nf p64c)) (dt (nf p64d)) (dt (nf p64e)) (df (nt p64f))
  rename_i p65a p65b p65c p65d p65e p65f
  refine Leaf.gen fun Yz hσz=>?_
  obtain ⟨I5,m5,i5,c5⟩:V8l5 pre fn R b0 b1 b2 b3 d0 e0 e1 e2 e3 e4 f0 I2 m2:=by subst hA;exact h4.l5 (dt (nf p65a)) (dt (nf p65b)) (dt (nf p65c)) (dt (nf p65d)) (dt (nf p65e)) (dt (nf p65f))
  refine loopBJ hE [2,8,12,16,28] hinl 6 [] [] [(3,[])] (fun x:Bool×Bool×Int×Rows=>[.b x.1,.b x.2.1,.i x.2.2.1,.l x.2.2.2]) (fun x=>I5 x.1 x.2.1 x.2.2.1 x.2.2.2) (fun x=>m5 x.1 x.2.1 x.2.2.1 x.2.2.2) (e1,false,0,e4) (by subst hA;exact i5) ?_ ?_<;>subst hσz
  ·clear hE hinl hV;cbv;(try (repeat' (first |exact True.intro |rfl |assumption |apply And.intro)))
  intro ⟨k0,k1,k2,k3⟩ hI5 K5 hK5
  have h5:=c5 _ _ _ _ hI5
  cbv
  repeat' (first |(refine Br.mk (fun _=>?_) (fun _=>?_)<;>cbv) |(refine NilB.mk (fun _=>?_) ?_<;>cbv) |refine And.intro ?_ ?_ |exact True.intro)
  next p66a=>
   subst hA;exact h5.g66 (dt p66a)
  next p67a=>
   subst hA;exact h5.g67 (dt p67a)
  next p68a=>
   subst hA;exact h5.g68 (dt p68a)
  next p69a p69b=>
   subst hA;exact h5.g69 (dt p69a) (dt p69b)
  next p70a p70b p70c=>
   subst hA;exact h5.g70 (dt p70a) (df p70b) (dt p70c)
  next p71a p71b p71c=>
   subst hA;exact h5.g71 (dt p71a) (df p71b) (df p71c)
  next p72a p72b p72c=>
   subst hA;exact h5.g72 (dt p72a) (df p72b) (df p72c)
  next p73a p73b p73c=>
   subst hA;exact h5.g73 (dt p73a) (df p73b) (df p73c)
  next p74a p74b p74c p74d=>
   subst hA;exact h5.g74 (dt p74a) (df p74b) (df p74c) (dt p74d)
  next p75a p75b p75c p75d=>
   refine hK5 (k0,k1,A.add k2 1,A.set k3 (A.toNat (A.di (A.get (A.dl (fn 19 [[D.i b1,D.i b2,D.i b3],[D.i d0],[D.i f0]] 0 0)) (A.toNat k2) 0))) [D.b true]) _ ?_ ?_ ?_
   ·subst hA;exact (h5.n75 (dt p75a) (df p75b) (df p75c) (dt p75d)).1
   ·subst hA;exact (h5.n75 (dt p75a) (df p75b) (df p75c) (dt p75d)).2
   clear hE hinl hV hK5;cbv;(try (repeat' (first |exact True.intro |rfl |assumption |apply And.intro)))
  next p76a p76b p76c p76d=>
   subst hA;exact h5.g76 (dt p76a) (df p76b) (df p76c) (df p76d)
  next p77a p77b p77c p77d=>
   subst hA;exact h5.g77 (dt p77a) (df p77b) (df p77c) (df p77d)
  next p78a p78b p78c p78d=>
   subst hA;exact h5.g78 (dt p78a) (df p78b) (df p78c) (df p78d)
  next p79a p79b p79c p79d=>
   subst hA;exact h5.g79 (dt p79a) (df p79b) (df p79c) (df p79d)
  next p80a p80b p80c p80d=>
   refine Leaf.gen fun Yz hσz=>?_
   obtain ⟨I6,r6,c6⟩:V8j6 pre fn R b1 b2 b3 d0 f0 k0 k1 k2 k3 I5 m5:=by subst hA;exact h5.l6 (dt p80a) (df p80b) (df p80c) (df p80d)
   refine joinR hE hinl 6 [] [] [] [(26,SV.bool false)] [] (fun x:Bool=>[.b x]) (fun x=>I6 x) ?_ ?_<;>subst hσz
   ·intro K6 hK6
    cbv
    repeat' (first |(refine Br.mk (fun _=>?_) (fun _=>?_)<;>cbv) |(refine NilB.mk (fun _=>?_) ?_<;>cbv) |refine And.intro ?_ ?_ |exact True.intro)
    ·subst hA;exact r6.g81
    ·subst hA;exact r6.g82
    ·subst hA;exact r6.g81
    ·subst hA;exact r6.g84
    next p85a=>
     subst hA;exact r6.g85 (dt p85a)
    next p86a=>
     subst hA;exact r6.g86 (dt p86a)
    next p87a=>
     refine hK6 (A.eq (A.di (fn 42 [[D.i (A.sub (A.di (A.get (A.dl (fn 19 [[D.i b1,D.i b2,D.i b3],[D.i d0],[D.i f0]] 0 0)) (A.toNat k2) 0)) (A.di (A.get (A.dl (fn 19 [[D.i b1,D.i b2,D.i b3],[D.i d0],[D.i f0]] 0 0)) (A.toNat (A.sub k2 1)) 0)))]] 0 0)) 1) _ ?_ ?_
     ·subst hA;exact r6.n87 (dt p87a)
     clear hE hinl hV hK6;cbv;(try (repeat' (first |exact True.intro |rfl |assumption |apply And.intro)))
    rename_i p88a
    refine hK6 (false) _ ?_ ?_
    ·subst hA;exact r6.n88 (df p88a)
    clear hE hinl hV hK6;cbv;(try (repeat' (first |exact True.intro |rfl |assumption |apply And.intro)))
   intro o0 hI6
   have h6:=c6 _ hI6
   cbv
   repeat' (first |(refine Br.mk (fun _=>?_) (fun _=>?_)<;>cbv) |(refine NilB.mk (fun _=>?_) ?_<;>cbv) |refine And.intro ?_ ?_ |exact True.intro)
   next p89a=>
    subst hA;exact h6.g89 (nt p89a)
   next p90a=>
    subst hA;exact h6.g90 (nt p90a)
   next p91a p91b=>
    subst hA;exact h6.g91 (nt p91a) (df (nt p91b))
   next p92a p92b p92c p92d=>
    subst hA;exact h6.g92 (nt p92a) (dt (nf p92b)) p92c p92d
   next p93a p93b p93c p93d p93e=>
    subst hA;exact h6.g93 (nt p93a) (dt (nf p93b)) p93c p93d p93e
   next p94a p94b p94c p94d p94e=>
    refine hK5 (k0,true,A.add k2 1,A.set k3 (A.toNat (A.di (A.get (A.dl (fn 19 [[D.i b1,D.i b2,D.i b3],[D.i d0],[D.i f0]] 0 0)) (A.toNat k2) 0))) [D.b true]) _ ?_ ?_ ?_
    ·subst hA;exact (h6.n94 (nt p94a) (dt (nf p94b)) p94c p94d p94e).1
    ·subst hA;exact (h6.n94 (nt p94a) (dt (nf p94b)) p94c p94d p94e).2
    clear hE hinl hV hK5;cbv;(try (repeat' (first |exact True.intro |rfl |assumption |apply And.intro)))
   next p95a p95b p95c p95d p95e=>
    subst hA;exact h6.g95 (nt p95a) (dt (nf p95b)) p95c p95d p95e
   next p96a p96b p96c p96d p96e=>
    refine hK5 (k0,A.not o0,A.add k2 1,A.set k3 (A.toNat (A.di (A.get (A.dl (fn 19 [[D.i b1,D.i b2,D.i b3],[D.i d0],[D.i f0]] 0 0)) (A.toNat k2) 0))) [D.b true]) _ ?_ ?_ ?_
    ·subst hA;exact (h6.n96 (nt p96a) (dt (nf p96b)) p96c p96d p96e).1
    ·subst hA;exact (h6.n96 (nt p96a) (dt (nf p96b)) p96c p96d p96e).2
    clear hE hinl hV hK5;cbv;(try (repeat' (first |exact True.intro |rfl |assumption |apply And.intro)))
   next p97a p97b p97c p97d=>
    subst hA;exact h6.g97 (nt p97a) (dt (nf p97b)) p97c p97d
   next p98a p98b p98c p98d=>
    refine hK5 (k0,true,A.add k2 1,A.set k3 (A.toNat (A.di (A.get (A.dl (fn 19 [[D.i b1,D.i b2,D.i b3],[D.i d0],[D.i f0]] 0 0)) (A.toNat k2) 0))) [D.b true]) _ ?_ ?_ ?_
    ·subst hA;exact (h6.n98 (nt p98a) (dt (nf p98b)) p98c p98d).1
    ·subst hA;exact (h6.n98 (nt p98a) (dt (nf p98b)) p98c p98d).2
    clear hE hinl hV hK5;cbv;(try (repeat' (first |exact True.intro |rfl |assumption |apply And.intro)))
   next p99a p99b p99c p99d=>
    subst hA;exact h6.g99 (nt p99a) (dt (nf p99b)) p99c p99d
   next p100a p100b p100c p100d=>
    refine hK5 (k0,A.not o0,A.add k2 1,A.set k3 (A.toNat (A.di (A.get (A.dl (fn 19 [[D.i b1,D.i b2,D.i b3],[D.i d0],[D.i f0]] 0 0)) (A.toNat k2) 0))) [D.b true]) _ ?_ ?_ ?_
    ·subst hA;exact (h6.n100 (nt p100a) (dt (nf p100b)) p100c p100d).1
    ·subst hA;exact (h6.n100 (nt p100a) (dt (nf p100b)) p100c p100d).2
    clear hE hinl hV hK5;cbv;(try (repeat' (first |exact True.intro |rfl |assumption |apply And.intro)))
   next p101a p101b p101c=>
    subst hA;exact h6.g101 (nf p101a) p101b p101c
   next p102a p102b p102c p102d=>
    subst hA;exact h6.g102 (nf p102a) p102b p102c p102d
   next p103a p103b p103c p103d=>
    refine hK5 (k0,true,A.add k2 1,A.set k3 (A.toNat (A.di (A.get (A.dl (fn 19 [[D.i b1,D.i b2,D.i b3],[D.i d0],[D.i f0]] 0 0)) (A.toNat k2) 0))) [D.b true]) _ ?_ ?_ ?_
    ·subst hA;exact (h6.n103 (nf p103a) p103b p103c p103d).1
    ·subst hA;exact (h6.n103 (nf p103a) p103b p103c p103d).2
    clear hE hinl hV hK5;cbv;(try (repeat' (first |exact True.intro |rfl |assumption |apply And.intro)))
   next p104a p104b p104c p104d=>
    subst hA;exact h6.g104 (nf p104a) p104b p104c p104d
   next p105a p105b p105c p105d=>
    refine hK5 (k0,A.not o0,A.add k2 1,A.set k3 (A.toNat (A.di (A.get (A.dl (fn 19 [[D.i b1,D.i b2,D.i b3],[D.i d0],[D.i f0]] 0 0)) (A.toNat k2) 0))) [D.b true]) _ ?_ ?_ ?_
    ·subst hA;exact (h6.n105 (nf p105a) p105b p105c p105d).1
    ·subst hA;exact (h6.n105 (nf p105a) p105b p105c p105d).2
    clear hE hinl hV hK5;cbv;(try (repeat' (first |exact True.intro |rfl |assumption |apply And.intro)))
   next p106a p106b p106c=>
    subst hA;exact h6.g106 (nf p106a) p106b p106c
   next p107a p107b p107c=>
    refine hK5 (k0,true,A.add k2 1,A.set k3 (A.toNat (A.di (A.get (A.dl (fn 19 [[D.i b1,D.i b2,D.i b3],[D.i d0],[D.i f0]] 0 0)) (A.toNat k2) 0))) [D.b true]) _ ?_ ?_ ?_
    ·subst hA;exact (h6.n107 (nf p107a) p107b p107c).1
    ·subst hA;exact (h6.n107 (nf p107a) p107b p107c).2
    clear hE hinl hV hK5;cbv;(try (repeat' (first |exact True.intro |rfl |assumption |apply And.intro)))
   next p108a p108b p108c=>
    subst hA;exact h6.g108 (nf p108a) p108b p108c
   rename_i p109a p109b p109c
   refine hK5 (k0,A.not o0,A.add k2 1,A.set k3 (A.toNat (A.di (A.get (A.dl (fn 19 [[D.i b1,D.i b2,D.i b3],[D.i d0],[D.i f0]] 0 0)) (A.toNat k2) 0))) [D.b true]) _ ?_ ?_ ?_
   ·subst hA;exact (h6.n109 (nf p109a) p109b p109c).1
   ·subst hA;exact (h6.n109 (nf p109a) p109b p109c).2
   clear hE hinl hV hK5;cbv;(try (repeat' (first |exact True.intro |rfl |assumption |apply And.intro)))
  next p110a=>
   subst hA;exact h5.g110 (df p110a)
  rename_i p111a
  refine hK2 (A.app e0 [[D.i f0]],k0,A.add e2 1,A.set e3 (A.toNat f0) [D.i 1],k3) _ ?_ ?_ ?_
  ·subst hA;exact (h5.n111 (df p111a)).1
  ·subst hA;exact (h5.n111 (df p111a)).2
  clear hE hinl hV hK2;cbv;(try (repeat' (first |exact True.intro |rfl |assumption |apply And.intro)))
 next p112a=>
  subst hA;exact h2.g112 (df p112a)
 next p113a=>
  subst hA;exact h2.g113 (df p113a)
 next p114a=>
  subst hA;exact h2.g114 (df p114a)
 next p115a=>
  subst hA;exact h2.g115 (df p115a)
 next p116a=>
  subst hA;exact h2.g116 (df p116a)
 next p117a p117b=>
  subst hA;exact h2.g117 (df p117a) (df (nt p117b))
 next p118a p118b p118c=>
  subst hA;exact h2.g118 (df p118a) (dt (nf p118b)) (df (nt p118c))
 next p119a p119b p119c=>
  subst hA;exact h2.g119 (df p119a) (dt (nf p119b)) (dt (nf p119c))
 next p120a p120b p120c p120d=>
  subst hA;exact h2.g120 (df p120a) (dt (nf p120b)) (dt (nf p120c)) (nt p120d)
 next p121a p121b p121c p121d=>
  subst hA;exact h2.g121 (df p121a) (dt (nf p121b)) (dt (nf p121c)) (nf p121d)
 next p122a p122b p122c p122d p122e=>
  subst hA;exact h2.g122 (df p122a) (dt (nf p122b)) (dt (nf p122c)) (nf p122d) (nt p122e)
 rename_i p123a p123b p123c p123d p123e
 refine Leaf.gen fun Yz hσz=>?_
 obtain ⟨I7,m7,i7,c7⟩:V8l7 pre fn R b0 b1 b2 b3 d0 e0 e1 e4:=by subst hA;exact h2.l7 (df p123a) (dt (nf p123b)) (dt (nf p123c)) (nf p123d) (nf p123e)
 refine loopBJ hE [2,8,12,16,28] hinl 6 [] [] [] (fun x:Bool×Int=>[.b x.1,.i x.2]) (fun x=>I7 x.1 x.2) (fun x=>m7 x.1 x.2) (e1,0) (by subst hA;exact i7) ?_ ?_<;>subst hσz
 ·clear hE hinl hV;cbv;(try (repeat' (first |exact True.intro |rfl |assumption |apply And.intro)))
 intro ⟨q0,q1⟩ hI7 K7 hK7
 have h7:=c7 _ _ hI7
 cbv
 repeat' (first |(refine Br.mk (fun _=>?_) (fun _=>?_)<;>cbv) |(refine NilB.mk (fun _=>?_) ?_<;>cbv) |refine And.intro ?_ ?_ |exact True.intro)
 next p124a=>
  subst hA;exact h7.g124 (dt p124a)
 next p125a=>
  subst hA;exact h7.g125 (dt p125a)
 next p126a=>
  subst hA;exact h7.g126 (dt p126a)
 next p127a=>
  subst hA;exact h7.g124 (dt p127a)
 next p128a=>
  subst hA;exact h7.g128 (dt p128a)
 next p129a=>
  subst hA;exact h7.g129 (dt p129a)
 next p130a=>
  subst hA;exact h7.g129 (dt p130a)
 next p131a p131b=>
  subst hA;exact h7.g131 (dt p131a) (nt p131b)
 next p132a p132b=>
  subst hA;exact h7.g132 (dt p132a) (nf p132b)
 next p133a p133b=>
  refine hK7 (q0,A.add q1 1) _ ?_ ?_ ?_
  ·subst hA;exact (h7.n133 (dt p133a) (nf p133b)).1
  ·subst hA;exact (h7.n133 (dt p133a) (nf p133b)).2
  clear hE hinl hV hK7;cbv;(try (repeat' (first |exact True.intro |rfl |assumption |apply And.intro)))
 next p134a=>
  subst hA;exact h7.g134 (df p134a)
 rename_i p135a
 subst hA;exact h7.g135 (df p135a)
end HX

namespace HX
open Go Go.Proofs CX
theorem tyB_ok:tyB.All (fun t ty=>CX.env.T t=some ty):=by
 unfold tyB
 simp only [BT.All,true_and,and_true]
 repeat' apply And.intro
 all_goals rfl
theorem cxS_ok {s:Nat->Option Nat} (hs:∀f c,s f=some c->CX.SortOk Try.prog f c) (ro:Addr->Option V):CX.EnvOk (cxS s ro) Try.prog:=by
 refine ⟨fun t ty h=>CX.env_ok.T t ty (tyB_ok.get h),fun f fn h=>CX.env_ok.fn f fn h,CX.env_ok.mixed,fun f b h w=>?_,fun f _ _ _ _ _ _ h=>?_,fun f h=>?_,fun f c h=>?_⟩
 all_goals (simp only [cxS,extS] at h)
 ·split at h
  next hb=>
   simp only [beqN_iff] at hb
   simp only [zA,CX.Ext.bool.injEq] at h
   subst hb h
   exact (CX.works_ok w).mono fun e w' ⟨h1,h2,h3,h4,h5,h6⟩=>⟨h1,h2,h3,h4,h5,h6⟩
  split at h<;>cases h
 ·split at h
  ·cases h
  split at h<;>cases h
 ·split at h
  ·cases h
  split at h<;>cases h
 split at h
 ·cases h
 split at h
 next c' hc=>
  cases h
  exact hs f c hc
 cases h
theorem cxS_srt {s:Nat->Option Nat} (hs:∀f c,s f=some c->∃fn b,CX.env.fn f=some fn/\fn.body=some b/\2<=fn.ntmps) {ro:Addr->Option V}:∀f c,(cxS s ro).ext f=some (.sort c)->∃fn b,(cxS s ro).fn f=some fn/\fn.body=some b/\2<=fn.ntmps:=fun f c h=>by
 simp only [cxS,extS] at h
 split at h
 ·cases h
 split at h
 next c' hc=>
  cases h
  exact hs f c hc
 cases h
theorem call_ro {P:Program} {E:CX.Env} (hE:CX.EnvOk E P) {f:FuncId} {n:Nat} {v:V} {args:List V} {xs:List Value} {h':T O} {nx':Nat} {w:World} (hro:RoAt E.ro w) (ha:RvL (fun _=>none) 0 args xs)
  (h:callF E (cx E n) 0 .e 0 f args (fun v h nx=>retV v h nx)=retV v h' nx') :
  Calls P f xs.toArray w fun e w'=>∃u Z n,e=.returned u/\Rv Z n v u/\Kept w w':=by
 obtain ⟨v',g',n',fn,h1,_,_,h2⟩:=callF_ok hE (cx_ok hE n).1 (Z:=fun _=>none) (n:=0) (bar:=0) (g:=.e) (w:=w) (xs:=xs) ⟨hro,fun a v h id o L _ _ hL=>by cases hL⟩ ⟨fun id o h=>by simp [T.get] at h,fun id o id' o' h=>by simp [T.get] at h,fun _ _=>rfl,fun _ _ h=>by cases h⟩ ha h
 have e:v'=v:=by
  simp only [retV,zA,zI,CX.St.mk.injEq,CX.T.n.injEq,true_and,and_true] at h1
  exact h1.1
 subst e
 refine (callsIn_wide.1 (h2 none)).mono fun e w' he=>?_
 obtain ⟨u,Z',rfl,d1,_,_,_,d5⟩:=he
 refine ⟨u,Z',n',rfl,d1,d5.os,d5.tape,d5.output,d5.size,fun b hb=>d5.keep b hb ?_⟩
 rintro ⟨id,o,L,_,h,_⟩
 simp [T.get] at h
end HX

namespace HX
open Go Go.Proofs CX
theorem cxE_ok (ro:Addr->Option V):CX.EnvOk (cxE ro) Try.prog:=cxS_ok (fun f c h=>(srtF_ok f c h).1) ro
theorem cxE_srt {ro:Addr->Option V}:∀f c,(cxE ro).ext f=some (.sort c)->∃fn b,(cxE ro).fn f=some fn/\fn.body=some b/\2<=fn.ntmps:=cxS_srt fun f c h=>(srtF_ok f c h).2
theorem hxT {ro:Addr->Option V}:TOk (cxE ro):=TOk.of (cxE_ok ro)
theorem hxEnv {ro:Addr->Option V} {sig:Nat->Option Sig} {pre:Nat->List (List D)->Prop} {fn:Nat->List (List D)->Nat->Nat->D} (h:∀f sg,sig f=some sg->CtrC (cxE ro) f sg (pre f) (fn f)):EnvOk ⟨Ar.std,cxE ro,ksF,sig,pre,fn⟩:=⟨rfl,hxT,h,cxE_srt⟩
theorem works_pure {ro:Addr->Option V}:PureC (cxE ro) 13 ⟨[],[(false,[.bool])],false⟩ (fun _=>True) (fun _ _ _=>.b true):=by
 intro ds _ g bar nx h args hg hbar ha
 cases args with
 |cons _ _=>cases ds<;>simp [ArgsFz] at ha
 |nil=>
  have hfn:∃fn c,(cxE ro).fn 13=some fn/\fn.body=some c:=⟨_,_,rfl,rfl⟩
  obtain ⟨fn,c,h1,h2⟩:=hfn
  refine ⟨[.bool true],h,nx,g,Evt.of fun n k=>?_,zB _,fun _ _=>rfl,fun _ _ h=>h,fun id o hgo=>⟨hg id o hgo,.inl hgo⟩,⟨[.bool true],rfl,fun j k hj=>?_,_,rfl,rfl⟩,trivial⟩
  ·have hx:(cxE ro).ext 13=some (.bool true):=rfl
   simp only [callF,h1,h2,hx]
   rfl
  cases j with
  |zero=>
   simp only [zK,zA] at hj
   subst hj
   exact ⟨_,rfl,by simp only [FzC];exact ⟨⟨_,rfl⟩,rfl⟩⟩
  |succ j=>simp at hj
end HX

namespace CX
open Go Go.ChangeShapes Go.WideShapes
theorem Kept.frozen {w w':World} (h:Kept w w') {a:Addr} (ha:a.block < w.heap.size):w'.frozen? a=w.frozen? a:=by
 simp only [World.frozen?,h.2.2.2.2 a.block ha]
theorem Kept.but {w w':World} (h:Kept w w') (may:MemPlace->Prop):w.keptBut w' may:=by
 refine ⟨h.1,h.2.2.1.1,fun i hi=>?_⟩
 rw [h.2.2.2.2 i hi]
 obtain ⟨o,ho⟩:∃o,w.heap[i]?=some o:=⟨w.heap[i],by simp [hi]⟩
 rw [ho]
 cases o with
 |cells c t fr=>exact ⟨rfl,rfl,rfl,fun _ _=>rfl⟩
 |map es c=>exact .inr ⟨rfl,rfl⟩
 |_=>rfl
section
variable {H:Type} {enc:TypeId×Value->H} {P:Program}
theorem post_kept {f:Func} {s:ChangeSpec} {apart fresh handsOn again:Bool} {W W':World} {args:Array Value} {v:Value} {ds gs:List (DataW H)} {before pa pv:List MemPlace}
  (hW:DataW.Whole enc P f.params.toList s.vars apart W args.toList ds gs before)
  (hres:∀(b:Nat) (sp:Nat->Bool) (hd:Bool),DataW.TrodAll enc P W' b sp hd f.resultTypes.toList (v.resultList f.resultTypes.size) (s.fn H (ds++gs)).results [])
  (hargs:∀sp:Nat->Bool,(∀p∈before,sp p.block=true)->DataW.TrodAll enc P W' 0 sp true f.params.toList args.toList (s.fn H (ds++gs)).args pa)
  (hvars:∀sp:Nat->Bool,(∀p∈before,sp p.block=true)->DataW.TrodVars enc P W' sp s.vars (s.fn H (ds++gs)).vars pv)
  (hps:before=pa++pv) (hk:Kept W W')
  (hok:∀(j:Nat) (t:TypeId) (r:Value),f.resultTypes[j]?=some t->(v.resultList f.resultTypes.size)[j]?=some r->Value.okWide P W' .any 0 t r) :
  s.post enc P f apart fresh handsOn again W args v W':=by
 have hold:∀p∈before,(fun b=>decide (b < W.heap.size)) p.block=true:=fun p hp=>by simpa using hW.lt p hp
 have hlt:=hW.lt
 refine ⟨ds,gs,before,[],pa,pv,hW,hres _ _ _,hargs _ hold,hvars _ hold,World.keptBut_mono (fun p hp=>⟨hp,?_⟩) (hk.but (·∈before)),fun _=>?_⟩
 ·rw [hps,xU] at hp
  exact Or.inr hp
 obtain ⟨_,_,_,_,_,hz,hn⟩:=hW
 refine ⟨hok,_,_,([]++pa)++pv,⟨[]++pa,pv,trodAll_append (hargs _ (fun _ _=>rfl)) (hres _ _ _),hvars _ (fun _ _=>rfl),rfl,?_,?_⟩,?_⟩
 ·intro b off hp
  have hp':MemPlace.cell b off∈before:=by rw [hps];simpa using hp
  rw [hk.frozen (hlt _ hp')]
  exact hz b off hp'
 ·intro ha
  have:=hn ha
  rw [hps] at this
  simpa using this
 intro p hp _
 rw [hps]
 simpa using hp
end
end CX

namespace HB
open Go Go.ChangeShapes Go.WideShapes Go.ChangeAt Go.RowKit
theorem add_block (a:Addr) (n:Nat):(a.add n).block=a.block:=by unfold Addr.add;split<;>rfl
theorem addr_add2 (a:Addr) (i c:Nat):(a.add i).add c=a.add (i+c):=by
 unfold Addr.add
 by_cases hi:i=0
 ·subst hi;simp
 by_cases hc:c=0
 ·subst hc;simp [hi]
 simp [hi,hc,Nat.add_assoc]
theorem mapM_at {α β:Type} {f:α->Option β}:∀{l:List α} {r:List β},l.mapM f=some r->r.length=l.length/\∀(i:Nat) (h:i < l.length),∃y,f l[i]=some y/\r[i]?=some y
 |[],r,h=>by
  simp only [List.mapM_nil,Option.pure_def,Option.some.injEq] at h
  subst h
  exact ⟨rfl,fun i h=>by simp at h⟩
 |x :: xs,r,h=>by
  rw [List.mapM_cons] at h
  cases hx:f x with
  |none=>simp [hx] at h
  |some y=>
   cases hxs:xs.mapM f with
   |none=>simp [hx,hxs] at h
   |some ys=>
    simp only [hx,hxs,Option.bind_eq_bind,Option.bind_some,Option.pure_def,Option.some.injEq] at h
    subst h
    obtain ⟨h1,h2⟩:=mapM_at hxs
    refine ⟨by simp [h1],fun i hi=>?_⟩
    cases i with
    |zero=>exact ⟨y,by simpa using hx,by simp⟩
    |succ i=>
     obtain ⟨z,e1,e2⟩:=h2 i (by simpa using hi)
     exact ⟨z,by simpa using e1,by simpa using e2⟩
theorem cells_get {w:World} {base:Nat} {a:Addr} {n:Nat} {cs:List Value} (h:w.cells? base a n=some cs):cs.length=n/\(0 < n->a.block < w.heap.size)/\∀c,c < n->w.cell? (a.add c)=cs[c]?:=by
 unfold World.cells? at h
 split at h
 ·obtain ⟨h1,h2⟩:=mapM_at h
  rw [List.length_range] at h1
  have key:∀c,c < n->w.cell? (a.add c)=cs[c]?:=fun c hc=>by
   obtain ⟨y,e1,e2⟩:=h2 c (by simpa using hc)
   rw [List.getElem_range] at e1
   rw [e1,e2]
  refine ⟨h1,fun h0=>?_,key⟩
  obtain ⟨y,e1,_⟩:=h2 0 (by simpa using h0)
  rw [List.getElem_range] at e1
  rcases Nat.lt_or_ge a.block w.heap.size with hb |hb
  ·exact hb
  exfalso
  unfold World.cell? at e1
  rw [add_block] at e1
  rw [Array.getElem?_eq_none (by omega)] at e1
  cases e1
 cases h
section
variable {H:Type} {enc:TypeId×Value->H} {P:Program} {w:World} {base:Nat} {spare:Nat->Bool} {held:Bool}
theorem wf_rng {k:IntKind} {n:Int} (h:(Lit.int k n).wf=true):k.min<=n/\n<=k.max:=by
 simpa [Lit.wf] using h
theorem trod_array {t e:TypeId} {n m:Nat} {cs:List Value} {x:DataW H×List MemPlace} (ht:P.underlying t=some (.array n e)) (h:DataW.trod enc P w base spare held (m+1) t cs=some x) :
  cs.length=P.cellsOf t/\∀i,i < n->∃y,DataW.trod enc P w base spare held m e ((cs.drop (i * P.cellsOf e)).take (P.cellsOf e))=some y:=by
 unfold DataW.trod at h
 rw [ht] at h
 split at h<;>simp_all
 obtain ⟨hl,h⟩:=h
 obtain ⟨a,h,_⟩:=h
 obtain ⟨h1,h2⟩:=mapM_at h
 intro i hi
 obtain ⟨y,e1,_⟩:=h2 i (by simpa using hi)
 rw [List.getElem_range] at e1
 exact ⟨y.1,y.2,by simpa using e1⟩
def isAgg (P:Program) (t:TypeId):Bool:=match P.underlying t with
 |some (.struct _)=>true
 |some (.array _ _)=>true
 |_=>false
theorem Kept_same {W W':World} (h:CX.Kept W W') {p:MemPlace} (hp:p.block < W.heap.size):W.sameAt W' p:=by
 cases p with
 |cell b off=>
  simp only [World.sameAt,World.cell?]
  rw [h.2.2.2.2 b hp]
 |map b=>exact h.2.2.2.2 b hp
theorem args_stay (hl:laidOutB P=true) {W W':World} {sp:Nat->Bool}:∀{ts:List TypeId} {vs:List Value} {ds:List (DataW H)} {ps:List MemPlace},(ts.all fun t=>P.readableRec t && decide (t < P.types.size))=true->
  DataW.TrodAll enc P W base (fun _=>true) true ts vs ds ps->(∀p∈ps,W.sameAt W' p)->(∀p∈ps,sp p.block=true)->DataW.TrodAll enc P W' base sp true ts vs ds ps
 |[],vs,ds,ps,_,h,_,_=>by
  obtain ⟨rfl,rfl,rfl⟩:=trodAll_nil h
  exact trodAll_mk0
 |t :: ts,[],ds,ps,_,h,_,_=>by simp [DataW.TrodAll] at h
 |t :: ts,v :: vs,[],ps,_,h,_,_=>by simp [DataW.TrodAll] at h
 |t :: ts,v :: vs,d :: ds,ps,hr,h,h1,h2=>by
  obtain ⟨p,q,ha,hb,rfl⟩:=h
  simp only [List.all_cons,Bool.and_eq_true,decide_eq_true_eq] at hr
  exact ⟨p,q,Go.WideElems.Trod_stays hl hr.1.1 hr.1.2 ha (fun x hx=>h1 x (by simp [hx])) (fun x hx=>h2 x (by simp [hx])),
   args_stay hl (by simpa using hr.2) hb (fun x hx=>h1 x (by simp [hx])) (fun x hx=>h2 x (by simp [hx])),rfl⟩
end
end HB

namespace HX
open Go Go.Proofs Go.ChangeShapes Go.WideShapes Go.ChangeAt Go.RowKit CX
def descF (g:TypeId->Option (List Kd)) (P:Program):List Field->Nat->Option (List Kd)
 |[],_=>some []
 |f :: r,off=>match g f.type with
  |some ks=>match beqN f.offset off && beqN (P.cellsOf f.type) ks.length with
   |true=>match descF g P r (off+ks.length) with
    |some ks'=>some (ks++ks')
    |none=>none
   |false=>none
  |none=>none
def repK (ks:List Kd):Nat->List Kd
 |0=>[]
 |n+1=>ks++repK ks n
def desc (P:Program):Nat->TypeId->Option (List Kd)
 |0,_=>none
 |n+1,t=>match P.underlying t with
  |some .bool=>some [.bool]
  |some (.int k)=>some [.int k]
  |some .string=>some [.str]
  |some (.slice e)=>match desc P n e with
   |some (k :: ks)=>match beqN (P.cellsOf e) (ks.length+1) with
    |true=>some [.sl (k :: ks)]
    |false=>none
   |_=>none
  |some (.struct fs)=>match descF (desc P n) P fs.toList 0 with
   |some ks=>match beqN (P.cellsOf t) ks.length with
    |true=>some ks
    |false=>none
   |none=>none
  |some (.array m e)=>match desc P n e with
   |some ks=>match beqN (P.cellsOf e) ks.length && beqN (P.cellsOf t) (repK ks m).length with
    |true=>some (repK ks m)
    |false=>none
   |none=>none
  |_=>none
mutual
def RngK:Kd->D->Prop
 |.int k,d=>k.min<=d.int/\d.int<=k.max
 |.str,d=>∀b∈d.str,b < 256
 |.sl ks,d=>∀row∈d.rows,RngL ks row
 |_,_=>True
def RngL:List Kd->List D->Prop
 |k :: ks,d :: ds=>RngK k d/\RngL ks ds
 |_,_=>True
end
mutual
def RdK (w:World):Kd->D->Value->Prop
 |.int k,d,u=>(∃n,d=.i n)/\u=.int k d.int
 |.bool,d,u=>(∃b,d=.b b)/\u=.bool d.boo
 |.str,d,u=>(∃s,d=.s s)/\u=.string (bytesOf d.str)
 |.fnc _,_,_=>False
 |.pt _,_,_=>False
 |.clo _ _,_,_=>False
 |.sl ks,d,u=>(∃rows,d=.l rows/\LenR ks rows)/\0 < ks.length/\((d.rows=[]/\u=.slice none 0 0)\/∃a cap,u=.slice (some a) d.rows.length cap/\d.rows.length<=cap/\
   ∀i row,d.rows[i]?=some row->∃cs:List Value,(∀c,c < ks.length->w.cell? (a.add (i * ks.length+c))=cs[c]?)/\RdL w ks row cs)
def RdL (w:World):List Kd->List D->List Value->Prop
 |[],[],[]=>True
 |k :: ks,d :: ds,c :: cs=>RdK w k d c/\RdL w ks ds cs
 |_,_,_=>False
end
def Holds (w:World) (ks:List Kd) (cs:List Value):Prop:=∃l,RdL w ks l cs/\RngL ks l
theorem RdL.append {w:World}:∀{ks ks':List Kd} {l l':List D} {cs cs':List Value},RdL w ks l cs->RdL w ks' l' cs'->RdL w (ks++ks') (l++l') (cs++cs')
 |[],_,[],_,[],_,_,h=>h
 |_ :: _,_,_ :: _,_,_ :: _,_,h,h'=>by
  simp only [RdL,List.cons_append] at h ⊢
  exact ⟨h.1,RdL.append h.2 h'⟩
 |[],_,[],_,_ :: _,_,h,_=>by simp [RdL] at h
 |[],_,_ :: _,_,_,_,h,_=>by simp [RdL] at h
 |_ :: _,_,[],_,_,_,h,_=>by simp [RdL] at h
 |_ :: _,_,_ :: _,_,[],_,h,_=>by simp [RdL] at h
theorem RdL.len {w:World}:∀{ks:List Kd} {l:List D} {cs:List Value},RdL w ks l cs->l.length=ks.length/\cs.length=ks.length
 |[],[],[],_=>⟨rfl,rfl⟩
 |_ :: _,_ :: _,_ :: _,h=>by
  simp only [RdL] at h
  have:=RdL.len h.2
  exact ⟨by simp [this.1],by simp [this.2]⟩
 |[],[],_ :: _,h=>by simp [RdL] at h
 |[],_ :: _,_,h=>by simp [RdL] at h
 |_ :: _,[],_,h=>by simp [RdL] at h
 |_ :: _,_ :: _,[],h=>by simp [RdL] at h
theorem RngL.append:∀{ks ks':List Kd} {l l':List D},l.length=ks.length->RngL ks l->RngL ks' l'->RngL (ks++ks') (l++l')
 |[],_,[],_,_,_,h=>h
 |_ :: _,_,_ :: _,_,hl,h,h'=>by
  simp only [RngL,List.cons_append] at h ⊢
  exact ⟨h.1,RngL.append (by simpa using hl) h.2 h'⟩
 |[],_,_ :: _,_,hl,_,_=>by simp at hl
 |_ :: _,_,[],_,hl,_,_=>by simp at hl
theorem Holds.append {w:World} {ks ks':List Kd} {cs cs':List Value} (h:Holds w ks cs) (h':Holds w ks' cs'):Holds w (ks++ks') (cs++cs'):=by
 obtain ⟨l,a,b⟩:=h
 obtain ⟨l',a',b'⟩:=h'
 exact ⟨l++l',a.append a',b.append a.len.1 b'⟩
theorem Holds.nil {w:World}:Holds w [] []:=⟨[],trivial,trivial⟩
section
variable {H:Type} {enc:TypeId×Value->H} {P:Program} {w:World} {base:Nat} {spare:Nat->Bool} {held:Bool}
theorem holds_one {k:Kd} {d:D} {u:Value} (h:RdK w k d u) (hr:RngK k d):Holds w [k] [u]:=⟨[d],⟨h,trivial⟩,⟨hr,trivial⟩⟩
theorem holds_rep {ks:List Kd} {cs:List Value} (m:Nat) (hl:cs.length=(repK ks m).length) (h:∀i,i < m->Holds w ks ((cs.drop (i * ks.length)).take ks.length)):Holds w (repK ks m) cs:=by
 induction m generalizing cs with
 |zero=>
  have:cs=[]:=zS.1 (by simpa [repK] using hl)
  subst this
  exact Holds.nil
 |succ m ih=>
  have e:cs=cs.take ks.length++cs.drop ks.length:=(List.take_append_drop _ _).symm
  rw [e]
  refine Holds.append (by simpa using h 0 (by omega)) (ih ?_ fun i hi=>?_)
  ·simp only [xG,hl,repK,xK]
   omega
  have:=h (i+1) (by omega)
  rwa [List.drop_drop,show ks.length+i * ks.length=(i+1) * ks.length by rw [zR];omega]
theorem holds_fields {g:TypeId->Option (List Kd)} {cs:List Value}:∀(fs:List Field) (off:Nat) (ks:List Kd),descF g P fs off=some ks->cs.length=off+ks.length->
  (∀f∈fs,∀ks',g f.type=some ks'->Holds w ks' ((cs.drop f.offset).take (P.cellsOf f.type)))->Holds w ks (cs.drop off)
 |[],off,ks,h,hl,_=>by
  simp only [descF,zA] at h
  subst h
  have:cs.drop off=[]:=List.drop_eq_nil_of_le (by simp at hl;omega)
  rw [this]
  exact Holds.nil
 |f :: r,off,ks,h,hl,hf=>by
  simp only [descF] at h
  split at h
  rotate_left
  ·cases h
  rename_i ks1 hk
  split at h
  next hb=>
   simp only [zC,beqN_iff] at hb
   split at h
   next ks2 hks2=>
    simp only [zA] at h
    subst h
    have e:cs.drop off=(cs.drop off).take ks1.length++(cs.drop off).drop ks1.length:=(List.take_append_drop _ _).symm
    rw [e]
    refine Holds.append ?_ ?_
    ·have:=hf f (by simp) ks1 hk
     rwa [hb.1,hb.2] at this
    rw [List.drop_drop]
    exact holds_fields r (off+ks1.length) ks2 hks2 (by rw [hl,xK];omega) (fun f' hf'=>hf f' (by simp [hf']))
   cases h
  cases h
theorem bytes_of (z:ByteArray):bytesOf (z.data.toList.map UInt8.toNat)=z:=by
 obtain ⟨d⟩:=z
 simp only [bytesOf,List.map_map]
 congr 1
 have:(UInt8.ofNat∘UInt8.toNat)=id:=by funext x;simp
 rw [this]
 simp
theorem holds_of_trod:∀(n:Nat) (t:TypeId) (ks:List Kd),desc P n t=some ks->∀(m:Nat) (cs:List Value) (x:DataW H×List MemPlace),DataW.trod enc P w base spare held m t cs=some x->Holds w ks cs
 |0,_,_,h,_,_,_,_=>by simp [desc] at h
 |n+1,t,ks,h,m,cs,x,hx=>by
  unfold desc at h
  split at h
  next hu=>
   simp only [zA] at h
   subst h
   obtain ⟨b,rfl,_⟩:=DataW.trod_bool hu hx
   exact holds_one (d:=.b b) ⟨⟨_,rfl⟩,rfl⟩ trivial
  next k hu=>
   simp only [zA] at h
   subst h
   obtain ⟨z,rfl,_,hw⟩:=DataW.trod_int hu hx
   exact holds_one (d:=.i z) ⟨⟨_,rfl⟩,rfl⟩ (HB.wf_rng hw)
  next hu=>
   simp only [zA] at h
   subst h
   obtain ⟨z,rfl,_,_⟩:=DataW.trod_string hu hx
   refine holds_one (d:=.s (z.data.toList.map UInt8.toNat)) ⟨⟨_,rfl⟩,?_⟩ ?_
   ·show Value.string z=.string (bytesOf (z.data.toList.map UInt8.toNat))
    rw [bytes_of]
   intro b hb
   obtain ⟨x,_,rfl⟩:=qB.1 (show b∈z.data.toList.map UInt8.toNat from hb)
   exact x.toNat_lt
  next e hu=>
   split at h
   rotate_left
   ·cases h
   rename_i k ks' hd
   split at h
   rotate_left
   ·cases h
   rename_i hb
   have hb:P.cellsOf e=ks'.length+1:=by rw [beqN_iff] at hb;exact hb
   simp only [zA] at h
   subst h
   rcases DataW.trod_slice hu hx with ⟨rfl,_⟩ |⟨a,len,cap,elems,rest,m',rfl,rfl,_,_,h2,h3,h4,h5,_,_⟩
   ·exact holds_one (d:=.l []) ⟨⟨_,rfl,fun _ h=>(by cases h),by simp⟩,by simp,.inl ⟨rfl,rfl⟩⟩ (fun _ h=>(by cases h))
   have row:∀i,i < len->∃l cs',(∀c,c < ks'.length+1->w.cell? (a.add (i * (ks'.length+1)+c))=cs'[c]?)/\RdL w (k :: ks') l cs'/\RngL (k :: ks') l:=by
    intro i hi
    have e1:=h5 i hi
    rw [zJ (by omega)] at e1
    obtain ⟨cs',c1,c2⟩:=Option.bind_eq_some_iff.1 e1
    obtain ⟨d1,d2,d3⟩:=HB.cells_get c1
    rw [hb] at d1 d2 d3 c1
    obtain ⟨l,g1,g2⟩:=holds_of_trod n e (k :: ks') hd m' cs' _ c2
    refine ⟨l,cs',fun c hc=>?_,g1,g2⟩
    rw [<-d3 c hc,HB.addr_add2]
   let rows:Rows:=(List.range len).map fun i=>if h:i < len then Classical.choose (row i h) else []
   have hlen:rows.length=len:=by simp [rows]
   have hget:∀i r,rows[i]?=some r->∃h:i < len,r=Classical.choose (row i h):=by
    intro i r hr
    have hi:i < len:=by rw [<-hlen];exact (xB.1 hr).1
    refine ⟨hi,?_⟩
    simp only [rows,qD,List.getElem?_range hi,zX,zA] at hr
    rw [<-hr,dif_pos hi]
   refine holds_one (d:=.l rows) ⟨⟨_,rfl,fun r hr=>?_,?_⟩,by simp,.inr ⟨a,cap,?_,?_,fun i r hr=>?_⟩⟩ (fun r hr=>?_)
   ·obtain ⟨i,hi⟩:=List.getElem?_of_mem hr
    obtain ⟨h,rfl⟩:=hget i r hi
    obtain ⟨_,_,h6,_⟩:=Classical.choose_spec (row i h)
    exact h6.len.1
   ·have h3:cap<=9223372036854775807:=h3
    rw [hlen];omega
   ·show Value.slice (some a) len cap=.slice (some a) rows.length cap
    rw [hlen]
   ·show rows.length<=cap
    rw [hlen];exact h2
   ·obtain ⟨h,rfl⟩:=hget i r hr
    obtain ⟨cs',h5',h6,_⟩:=Classical.choose_spec (row i h)
    exact ⟨cs',fun c hc=>h5' c (by simpa using hc),h6⟩
   obtain ⟨i,hi⟩:=List.getElem?_of_mem (show r∈rows from hr)
   obtain ⟨h,rfl⟩:=hget i r hi
   obtain ⟨_,_,_,h7⟩:=Classical.choose_spec (row i h)
   exact h7
  next fs hu=>
   split at h
   rotate_left
   ·cases h
   rename_i ks' hd
   split at h
   next hb=>
    rw [beqN_iff] at hb
    simp only [zA] at h
    subst h
    obtain ⟨xs,m',rfl,_,hl,hxs,hf⟩:=DataW.trod_struct hu hx
    have:=holds_fields (w:=w) (cs:=cs) fs.toList 0 ks' hd (by rw [hl,hb];simp) (fun f hm ks1 hk1=>?_)
    ·simpa using this
    obtain ⟨i,hi,rfl⟩:=List.mem_iff_getElem.1 hm
    have hi':i < fs.size:=by simpa using hi
    have e1:=hf i fs[i] (by simp [hi'])
    rw [zJ (by omega)] at e1
    have e2:fs.toList[i]=fs[i]:=by simp
    rw [e2] at hk1 ⊢
    exact holds_of_trod n _ ks1 hk1 m' _ _ e1
   cases h
  next m0 e hu=>
   split at h
   next ks' hd=>
    split at h
    next hb=>
     simp only [zC,beqN_iff] at hb
     simp only [zA] at h
     subst h
     cases m with
     |zero=>simp [DataW.trod] at hx
     |succ m'=>
      obtain ⟨hl,hi⟩:=HB.trod_array hu hx
      refine holds_rep m0 (by rw [hl,hb.2]) fun i h=>?_
      obtain ⟨y,hy⟩:=hi i h
      rw [hb.1] at hy
      exact holds_of_trod n e ks' hd m' _ y hy
    cases h
   cases h
  cases h
def strOf (z:ByteArray):List Nat:=z.data.toList.map UInt8.toNat
def valOf:Value->Option V
 |.int k n=>some (.int k n)
 |.bool b=>some (.bool b)
 |.string z=>some (.str (strOf z))
 |.slice none 0 0=>some .nils
 |.slice (some a) n cap=>if n<=cap then some (.rslc a n cap) else none
 |_=>none
def roOf (w:World) (a:Addr):Option V:=match w.cell? a with
 |some u=>valOf u
 |none=>none
theorem valOf_rv {u:Value} {v:V} (h:valOf u=some v):one1 v=true/\∀Z n,Rv Z n v u:=by
 unfold valOf at h
 split at h
 ·cases h;exact ⟨rfl,fun _ _=>by simp only [Rv]⟩
 ·cases h;exact ⟨rfl,fun _ _=>by simp only [Rv]⟩
 ·cases h
  rename_i z
  refine ⟨rfl,fun _ _=>?_⟩
  simp only [Rv]
  refine ⟨fun b hb=>?_,by rw [strOf,bytes_of]⟩
  obtain ⟨x,_,rfl⟩:=qB.1 (show b∈z.data.toList.map UInt8.toNat from hb)
  exact x.toNat_lt
 ·cases h;exact ⟨rfl,fun _ _=>by simp only [Rv]⟩
 ·split at h
  next hle=>
   cases h
   exact ⟨rfl,fun _ _=>by simp only [Rv];exact ⟨hle,trivial⟩⟩
  cases h
 cases h
theorem roOf_ok (w:World):RoAt (roOf w) w:=by
 intro a v h
 unfold roOf at h
 split at h
 next u hu=>
  obtain ⟨h1,h2⟩:=valOf_rv h
  exact ⟨h1,u,hu,fun Z n=>h2 Z n⟩
 cases h
theorem str_bytes {s:List Nat} (h:∀b∈s,b < 256):strOf (bytesOf s)=s:=by
 simp only [strOf,bytesOf,List.map_map]
 induction s with
 |nil=>rfl
 |cons b s ih=>
  have hb:=h b (.head _)
  simp only [kD,Function.comp_apply,UInt8.toNat_ofNat',xL]
  exact ⟨Nat.mod_eq_of_lt hb,ih fun x hx=>h x (.tail _ hx)⟩
mutual
theorem rdK_fz {g:Nat->Option O} {B:Nat}:∀(k:Kd) (d:D) (u:Value),RdK w k d u->RngK k d->∃v,valOf u=some v/\FzC (roOf w) g B k d v
 |.int k,d,u,h,_=>by
  simp only [RdK] at h
  obtain ⟨⟨n,rfl⟩,rfl⟩:=h
  exact ⟨_,rfl,by simp only [FzC];exact ⟨⟨_,rfl⟩,trivial⟩⟩
 |.bool,d,u,h,_=>by
  simp only [RdK] at h
  obtain ⟨⟨n,rfl⟩,rfl⟩:=h
  exact ⟨_,rfl,by simp only [FzC];exact ⟨⟨_,rfl⟩,trivial⟩⟩
 |.str,d,u,h,hr=>by
  simp only [RdK] at h
  obtain ⟨⟨n,rfl⟩,rfl⟩:=h
  simp only [RngK,D.str] at hr
  refine ⟨_,rfl,?_⟩
  simp only [FzC,D.str,str_bytes hr]
  exact ⟨⟨_,rfl⟩,trivial⟩
 |.sl ks,d,u,h,hr=>by
  simp only [RdK] at h
  obtain ⟨⟨rows,rfl,hl⟩,hpos,h⟩:=h
  simp only [RngK,D.rows] at hr h
  rcases h with ⟨rfl,rfl⟩ |⟨a,cap,rfl,hcap,hrow⟩
  ·exact ⟨.nils,rfl,by simp only [FzC];exact ⟨⟨_,rfl,hl⟩,.inl ⟨rfl,trivial⟩⟩⟩
  refine ⟨.rslc a rows.length cap,by simp only [valOf];rw [if_pos hcap],?_⟩
  simp only [FzC,D.rows]
  refine ⟨⟨_,rfl,hl⟩,.inr (.inr ⟨a,cap,rfl,hpos,hcap,fun i hi=>?_⟩)⟩
  obtain ⟨cs,c1,c2⟩:=hrow i rows[i] (zJ hi)
  have hg:=hr rows[i] (kH hi)
  refine FzR.of _ _ _ _ fun j k hk=>?_
  have hj:j < ks.length:=(xB.1 hk).1
  obtain ⟨v,e1,e2⟩:=rdL_fz (g:=g) (B:=B) ks rows[i] cs c2 hg j k hk
  refine ⟨v,?_,?_⟩
  ·simp only [roOf,zO,c1 j hj]
   revert e1
   cases cs[j]? with
   |none=>intro e1;cases e1
   |some u=>intro e1;exact e1
  have:gt rows i (0+j)=rows[i].getD j .nil:=by simp [gt,zH,hi]
  rw [this];exact e2
theorem rdL_fz {g:Nat->Option O} {B:Nat}:∀(ks:List Kd) (l:List D) (cs:List Value),RdL w ks l cs->RngL ks l->∀j k,ks[j]?=some k->∃v,(cs[j]?).bind valOf=some v/\FzC (roOf w) g B k (l.getD j .nil) v
 |[],_,_,_,_,j,k,hk=>by simp at hk
 |k0 :: ks,d :: l,c :: cs,h,hr,0,k,hk=>by
  simp only [RdL] at h
  simp only [RngL] at hr
  simp only [zK,zA] at hk
  subst hk
  obtain ⟨v,a,b⟩:=rdK_fz (g:=g) (B:=B) k0 d c h.1 hr.1
  exact ⟨v,by simpa using a,by simpa using b⟩
 |k0 :: ks,d :: l,c :: cs,h,hr,j+1,k,hk=>by
  simp only [RdL] at h
  simp only [RngL] at hr
  obtain ⟨v,a,b⟩:=rdL_fz (g:=g) (B:=B) ks l cs h.2 hr.2 j k (by simpa using hk)
  exact ⟨v,by simpa using a,by simpa using b⟩
 |_ :: _,[],_,h,_,_,_,_=>by simp [RdL] at h
 |_ :: _,_ :: _,[],h,_,_,_,_=>by simp [RdL] at h
end
theorem rdL_vals {g:Nat->Option O} {B:Nat} {Z:Nm} {n:Nat}:∀(ks:List Kd) (l:List D) (cs:List Value),RdL w ks l cs->RngL ks l->
  ∃x:List V,x.length=ks.length/\(∀j k,ks[j]?=some k->∃u,x[j]?=some u/\FzC (roOf w) g B k (l.getD j .nil) u)/\RvL Z n x cs
 |[],[],[],_,_=>⟨[],rfl,fun j k h=>by simp at h,by simp [RvL]⟩
 |k :: ks,d :: l,c :: cs,h,hr=>by
  simp only [RdL] at h
  simp only [RngL] at hr
  obtain ⟨v,a,b⟩:=rdK_fz (g:=g) (B:=B) k d c h.1 hr.1
  obtain ⟨x,e1,e2,e3⟩:=rdL_vals (g:=g) (B:=B) (Z:=Z) (n:=n) ks l cs h.2 hr.2
  refine ⟨v :: x,by simp [e1],fun j k' hk=>?_,by simp only [RvL];exact ⟨(valOf_rv a).2 Z n,e3⟩⟩
  cases j with
  |zero=>
   simp only [zK,zA] at hk
   subst hk
   exact ⟨v,rfl,by simpa using b⟩
  |succ j=>simpa using e2 j k' (by simpa using hk)
 |[],[],_ :: _,h,_=>by simp [RdL] at h
 |[],_ :: _,_,h,_=>by simp [RdL] at h
 |_ :: _,[],_,h,_=>by simp [RdL] at h
 |_ :: _,_ :: _,[],h,_=>by simp [RdL] at h
def descAll (P:Program) (n:Nat):List TypeId->Option (List (Bool×List Kd))
 |[]=>some []
 |t :: r=>match desc P n t,descAll P n r with
  |some ks,some l=>some ((HB.isAgg P t,ks) :: l)
  |_,_=>none
def RngAll:List (Bool×List Kd)->List (List D)->Prop
 |(_,ks) :: r,d :: ds=>RngL ks d/\RngAll r ds
 |_,_=>True
def trueRes (_:List (List D)) (_ _:Nat):D:=.b true
def ArgsRd (w:World):List (Bool×List Kd)->List (List D)->List Value->Prop
 |[],[],[]=>True
 |(g,ks) :: r,d :: ds,v :: vs=>(RdL w ks d v.cells.toList/\(g=true->v=.agg (v.cells.toList).toArray)/\(g=false->v.cells.toList=[v]))/\ArgsRd w r ds vs
 |_,_,_=>False
theorem args_fz {g:Nat->Option O} {B:Nat} {Z:Nm} {n:Nat}:∀(ps:List (Bool×List Kd)) (ds:List (List D)) (vs:List Value),ArgsRd w ps ds vs->RngAll ps ds->∃x:List V,ArgsFz (roOf w) g B ps ds x/\RvL Z n x vs
 |[],[],[],_,_=>⟨[],trivial,by simp [RvL]⟩
 |(a,ks) :: ps,d :: ds,v :: vs,h,hr=>by
  obtain ⟨⟨h1,h2,h3⟩,h4⟩:=h
  obtain ⟨x,e1,e2,e3⟩:=rdL_vals (g:=g) (B:=B) (Z:=Z) (n:=n) ks d _ h1 hr.1
  obtain ⟨xs,f1,f2⟩:=args_fz (g:=g) (B:=B) (Z:=Z) (n:=n) ps ds vs h4 hr.2
  cases a with
  |true=>exact ⟨.agg x :: xs,⟨h1.len.1,⟨x,e1,e2,rfl⟩,f1⟩,by simp only [RvL,Rv];exact ⟨⟨_,e3,h2 rfl⟩,f2⟩⟩
  |false=>
   rw [h3 rfl] at e3
   match x,e3 with
   |[y],e3=>
    simp only [RvL,and_true] at e3
    exact ⟨y :: xs,⟨h1.len.1,⟨[y],e1,e2,y,rfl,rfl⟩,f1⟩,by simp only [RvL];exact ⟨e3,f2⟩⟩
   |[],e3=>simp [RvL] at e3
   |_ :: _ :: _,e3=>simp [RvL] at e3
 |[],[],_ :: _,h,_=>h.elim
 |[],_ :: _,_,h,_=>h.elim
 |_ :: _,[],_,h,_=>h.elim
 |_ :: _,_ :: _,[],h,_=>h.elim
theorem shape_of {r:Reach} {n:Nat} {t:TypeId} {ks:List Kd} {v:Value} (hd:desc P n t=some ks) (h:Value.okWide P w r base t v) :
  (HB.isAgg P t=true->v=.agg (v.cells.toList).toArray)/\(HB.isAgg P t=false->v.cells.toList=[v]):=by
 cases n with
 |zero=>simp [desc] at hd
 |succ n=>
  unfold desc at hd
  unfold HB.isAgg
  split at hd
  next hu=>
   obtain ⟨b,rfl⟩:=okWide_bool hu h
   rw [hu]
   exact ⟨fun h=>(by cases h),fun _=>rfl⟩
  next k hu=>
   obtain ⟨z,rfl⟩:=okWide_int hu h
   rw [hu]
   exact ⟨fun h=>(by cases h),fun _=>rfl⟩
  next hu=>
   obtain ⟨z,rfl⟩:=okWide_string hu h
   rw [hu]
   exact ⟨fun h=>(by cases h),fun _=>rfl⟩
  next e hu=>
   obtain ⟨a,l,c,rfl⟩:=okWide_slice hu h
   rw [hu]
   exact ⟨fun h=>(by cases h),fun _=>rfl⟩
  next fs hu=>
   obtain ⟨cs,rfl,_⟩:=okWide_struct hu h
   rw [hu]
   exact ⟨fun _=>by simp [Value.cells],fun h=>by cases h⟩
  next m e hu=>
   have:∃cs,v=.agg cs:=by
    unfold Value.okWide at h
    rw [hu] at h
    obtain ⟨cs,hc,_⟩:=h
    exact ⟨cs,hc⟩
   obtain ⟨cs,rfl⟩:=this
   rw [hu]
   exact ⟨fun _=>by simp [Value.cells],fun h=>by cases h⟩
  cases hd
theorem args_read {r:Reach} {n:Nat}:∀(ts:List TypeId) (params:List (Bool×List Kd)) (vs:List Value) (ds:List (DataW H)) (ps:List MemPlace),descAll P n ts=some params->
  (∀(j:Nat) t v,ts[j]?=some t->vs[j]?=some v->Value.okWide P w r base t v)->DataW.TrodAll enc P w 0 spare held ts vs ds ps->
  ∃dss,ArgsRd w params dss vs/\RngAll params dss
 |[],params,vs,ds,ps,hd,_,h=>by
  simp only [descAll,zA] at hd
  subst hd
  obtain ⟨rfl,_,_⟩:=trodAll_nil h
  exact ⟨[],trivial,trivial⟩
 |t :: ts,params,vs,ds,ps,hd,hok,h=>by
  unfold descAll at hd
  split at hd
  next ks l hks hl=>
   simp only [zA] at hd
   subst hd
   cases vs with
   |nil=>simp [DataW.TrodAll] at h
   |cons v vs=>
    cases ds with
    |nil=>simp [DataW.TrodAll] at h
    |cons d ds=>
     obtain ⟨p,q,⟨m,hm⟩,h2,_⟩:=h
     obtain ⟨f,g1,g2⟩:=holds_of_trod n t ks hks m _ _ hm
     obtain ⟨dss,i1,i2⟩:=args_read ts l vs ds q hl (fun j t' v' ht hv=>hok (j+1) t' v' (by simpa using ht) (by simpa using hv)) h2
     obtain ⟨s1,s2⟩:=shape_of hks (hok 0 t v (by simp) (by simp))
     exact ⟨f :: dss,⟨⟨g1,s1,s2⟩,i1⟩,g2,i2⟩
  cases hd
end
section
variable {H:Type} {enc:TypeId×Value->H} {P:Program}
theorem said {fnum:FuncId} {f:Func} {s:ChangeSpec} {fresh handsOn again:Bool} {n:Nat} {params:List (Bool×List Kd)} {tb:TypeId}
  (hE:∀ro,CX.EnvOk (cxE ro) P) (hpure:∀ro,PureC0 (cxE ro) fnum ⟨params,[(false,[.bool])],false⟩ (RngAll params) trueRes) (hd:descAll P n f.params.toList=some params) (hl:laidOutB P=true)
  (hr:(f.params.toList.all fun t=>P.readableRec t && decide (t < P.types.size))=true) (hres:f.resultTypes=#[tb]) (hb:P.underlying tb=some .bool)
  (hs:∀ds:List (DataW H),ds.length=f.params.toList.length->s.fn H ds=⟨[.lit (.bool true)],ds,[]⟩) (hv:s.vars=[]) {apart:Bool} (W:World) (base:Nat) (args:Array Value) (ds gs:List (DataW H)) (before:List MemPlace)
  (hval:∀(j:Nat) t v,f.params[j]?=some t->args[j]?=some v->Value.okWide P W .any base t v) (hW:DataW.Whole enc P f.params.toList s.vars apart W args.toList ds gs before) :
  Calls P fnum args W fun e W'=>∃v,e=.returned v/\s.post enc P f apart fresh handsOn again W args v W':=by
 have hW':=hW
 obtain ⟨p,q,hA,hV,rfl,_,_⟩:=hW
 rw [hv] at hV
 obtain ⟨rfl,rfl⟩:=trodVars_none hV
 obtain ⟨dss,h1,h2⟩:=args_read (r:=.any) (base:=base) f.params.toList params args.toList ds p hd (fun j t v ht hv=>hval j t v (by simpa using ht) (by simpa using hv)) hA
 have hlen:=(trodAll_length hA).2
 have hfn:s.fn H (ds++[])=⟨[.lit (.bool true)],ds,[]⟩:=by rw [qL];exact hs ds hlen
 obtain ⟨xs,x1,x2⟩:=args_fz (g:=fun _=>none) (B:=0) (Z:=fun _=>none) (n:=0) params dss args.toList h1 h2
 obtain ⟨vs,h',nx',g',⟨n0,hrun⟩,hresF⟩:=hpure (roOf W) dss h2 xs x1
 have hvs:vs=[.bool true]:=by
  match vs,hresF with
  |[v],hresF=>
   obtain ⟨⟨x,_,e2,u,rfl,rfl⟩,_⟩:=hresF
   obtain ⟨u,e3,e4⟩:=e2 0 .bool rfl
   simp only [zK,zA] at e3
   subst e3
   simp only [FzC] at e4
   rw [e4.2];rfl
  |[],hresF=>simp [ResFz] at hresF
  |_ :: _ :: _,hresF=>simp [ResFz] at hresF
 subst hvs
 have hcall:=call_ro (hE (roOf W)) (w:=W) (roOf_ok W) x2 (hrun n0 (zB _) retV)
 rw [show args.toList.toArray=args by simp] at hcall
 refine hcall.mono fun e W' h=>?_
 obtain ⟨u,Z,m,rfl,hu,hk⟩:=h
 simp only [CX.one,Rv] at hu
 subst hu
 have hlt:=hW'.lt
 simp only [qL] at hW' hlt
 refine ⟨_,rfl,CX.post_kept (pa:=p) (pv:=[]) hW' (fun b sp hd=>?_) (fun sp hsp=>?_) (fun sp _=>?_) (by simp) hk (ok_one hres rfl (okWide_bool_mk hb _))⟩
 ·rw [hfn,hres]
  exact trodAll_mk1 (shut_bool hb _)
 ·rw [hfn]
  exact HB.args_stay hl hr hA (fun x hx=>HB.Kept_same hk (hlt x hx)) (fun x hx=>hsp x hx)
 rw [hfn,hv]
 rfl
end
end HX

namespace HX
open Go Go.Proofs
theorem own:ownKnob Try.prog.godebug=none:=by kernel_rfl
theorem laid:laidOutB Try.prog=true:=by kernel_rfl
end HX

namespace HX
open Go Go.Proofs CX
inductive Ctrs (E:CX.Env):List Ctr->Prop
 |nil:Ctrs E []
 |cons {c:Ctr} {l:List Ctr} (h:CtrC E c.f c.sg c.pre c.res) (r:Ctrs E l):Ctrs E (c :: l)
theorem Ctrs.find {E:CX.Env}:∀{l:List Ctr},Ctrs E l->∀{f:Nat} {sg:Sig},sigL (sigs l) f=some sg->CtrC E f sg (preOf l f) (resOf l f)
 |[],_,f,sg,h=>by simp [sigL,sigs,look] at h
 |c :: l,.cons h1 h2,f,sg,h=>by
  simp only [sigL,sigs,kD] at h
  rw [look_cons] at h
  split at h
  next e=>
   simp only [zA] at h
   subst e h
   have e1:preOf (c :: l) c.f=c.pre:=by funext ds;simp [preOf,ctrOf]
   have e2:resOf (c :: l) c.f=c.res:=by funext ds;simp [resOf,ctrOf]
   rw [e1,e2];exact h1
  rename_i e
  have e1:preOf (c :: l) f=preOf l f:=by funext ds;simp [preOf,ctrOf,e]
  have e2:resOf (c :: l) f=resOf l f:=by funext ds;simp [resOf,ctrOf,e]
  rw [e1,e2]
  exact h2.find h
end HX

namespace HX
open Go Go.Proofs CX
theorem envL {ro:Addr->Option V} {l:List Ctr} (h:Ctrs (cxE ro) l):EnvOk ⟨Ar.std,cxE ro,ksF,sigL (sigs l),preOf l,resOf l⟩:=hxEnv fun _ _ hs=>h.find hs
end HX

namespace HX
open Go Go.Proofs CX
structure V22 (pre:Nat->List (List D)->Prop) (fn:Nat->List (List D)->Nat->Nat->D) (a0_0:Int) (a0_1:Int) (a0_2:Int) (a1:Int) (a2:Rows) (R:Nat->Nat->D) (I0:Int->Rows->Prop) (m0:Int->Rows->Nat) (I1:Int->Rows->Rows->Int->Prop) (m1:Int->Rows->Rows->Int->Nat):Prop where
 g0:((List.length ([[D.i a1]]:Rows))+a2.length) * 8<=4294967296/\((List.length ([[D.i a1]]:Rows))+a2.length)<=4294967296
 g1:pre 49 [[D.i a0_0,D.i a0_1,D.i a0_2],[D.l ([[D.i a1]]++a2)]]
 g2:(¬(D.int (fn 49 [[D.i a0_0,D.i a0_1,D.i a0_2],[D.l ([[D.i a1]]++a2)]] 0 0))=0)->R 0 0=D.l []
 g3:(¬(D.int (fn 49 [[D.i a0_0,D.i a0_1,D.i a0_2],[D.l ([[D.i a1]]++a2)]] 0 0))=0)->R 1 0=D.i (D.int (fn 49 [[D.i a0_0,D.i a0_1,D.i a0_2],[D.l ([[D.i a1]]++a2)]] 0 0))
 g4:((D.int (fn 49 [[D.i a0_0,D.i a0_1,D.i a0_2],[D.l ([[D.i a1]]++a2)]] 0 0))=0)->((a2.length:Int)=0)->R 0 0=D.l []
 g5:((D.int (fn 49 [[D.i a0_0,D.i a0_1,D.i a0_2],[D.l ([[D.i a1]]++a2)]] 0 0))=0)->((a2.length:Int)=0)->R 1 0=D.i 2
 g6:((D.int (fn 49 [[D.i a0_0,D.i a0_1,D.i a0_2],[D.l ([[D.i a1]]++a2)]] 0 0))=0)->(¬(a2.length:Int)=0)->-9223372036854775808<=(a0_0 * a0_1)/\(a0_0 * a0_1)<=9223372036854775807
 g7:((D.int (fn 49 [[D.i a0_0,D.i a0_1,D.i a0_2],[D.l ([[D.i a1]]++a2)]] 0 0))=0)->(¬(a2.length:Int)=0)->0<=(a0_0 * a0_1)
 g8:((D.int (fn 49 [[D.i a0_0,D.i a0_1,D.i a0_2],[D.l ([[D.i a1]]++a2)]] 0 0))=0)->(¬(a2.length:Int)=0)->(a0_0 * a0_1)<=(a0_0 * a0_1)
 g9:((D.int (fn 49 [[D.i a0_0,D.i a0_1,D.i a0_2],[D.l ([[D.i a1]]++a2)]] 0 0))=0)->(¬(a2.length:Int)=0)->((a0_0 * a0_1) * (Int.ofNat 1))<=4096
 g10:((D.int (fn 49 [[D.i a0_0,D.i a0_1,D.i a0_2],[D.l ([[D.i a1]]++a2)]] 0 0))=0)->(¬(a2.length:Int)=0)->((a0_0 * a0_1) * (Int.ofNat 8))<=140737488355328
 i0:((D.int (fn 49 [[D.i a0_0,D.i a0_1,D.i a0_2],[D.l ([[D.i a1]]++a2)]] 0 0))=0)->(¬(a2.length:Int)=0)->I0 0 (List.replicate (Int.toNat (a0_0 * a0_1)) [D.i 0])
 g12:∀x0_0 x0_1,I0 x0_0 x0_1->((D.int (fn 49 [[D.i a0_0,D.i a0_1,D.i a0_2],[D.l ([[D.i a1]]++a2)]] 0 0))=0)->(¬(a2.length:Int)=0)->(x0_0 < (a2.length:Int))->0<=x0_0
 g13:∀x0_0 x0_1,I0 x0_0 x0_1->((D.int (fn 49 [[D.i a0_0,D.i a0_1,D.i a0_2],[D.l ([[D.i a1]]++a2)]] 0 0))=0)->(¬(a2.length:Int)=0)->(x0_0 < (a2.length:Int))->x0_0 < (a2.length:Int)
 g14:∀x0_0 x0_1,I0 x0_0 x0_1->((D.int (fn 49 [[D.i a0_0,D.i a0_1,D.i a0_2],[D.l ([[D.i a1]]++a2)]] 0 0))=0)->(¬(a2.length:Int)=0)->(x0_0 < (a2.length:Int))->(((Int.toNat x0_0:Nat):Int)) < (a2.length:Int)
 i1:∀x0_0 x0_1,I0 x0_0 x0_1->((D.int (fn 49 [[D.i a0_0,D.i a0_1,D.i a0_2],[D.l ([[D.i a1]]++a2)]] 0 0))=0)->(¬(a2.length:Int)=0)->(x0_0 < (a2.length:Int))->I1 x0_0 x0_1 x0_1 a1
 g16:∀x0_0 x0_1,I0 x0_0 x0_1->∀x1_0 x1_1,I1 x0_0 x0_1 x1_0 x1_1->((D.int (fn 49 [[D.i a0_0,D.i a0_1,D.i a0_2],[D.l ([[D.i a1]]++a2)]] 0 0))=0)->(¬(a2.length:Int)=0)->(x0_0 < (a2.length:Int))->0<=x1_1
 g17:∀x0_0 x0_1,I0 x0_0 x0_1->∀x1_0 x1_1,I1 x0_0 x0_1 x1_0 x1_1->((D.int (fn 49 [[D.i a0_0,D.i a0_1,D.i a0_2],[D.l ([[D.i a1]]++a2)]] 0 0))=0)->(¬(a2.length:Int)=0)->(x0_0 < (a2.length:Int))->x1_1 < (x1_0.length:Int)
 g18:∀x0_0 x0_1,I0 x0_0 x0_1->∀x1_0 x1_1,I1 x0_0 x0_1 x1_0 x1_1->((D.int (fn 49 [[D.i a0_0,D.i a0_1,D.i a0_2],[D.l ([[D.i a1]]++a2)]] 0 0))=0)->(¬(a2.length:Int)=0)->(x0_0 < (a2.length:Int))->(((Int.toNat x1_1:Nat):Int)) < (x1_0.length:Int)
 g20:∀x0_0 x0_1,I0 x0_0 x0_1->∀x1_0 x1_1,I1 x0_0 x0_1 x1_0 x1_1->((D.int (fn 49 [[D.i a0_0,D.i a0_1,D.i a0_2],[D.l ([[D.i a1]]++a2)]] 0 0))=0)->(¬(a2.length:Int)=0)->(x0_0 < (a2.length:Int))->pre 56 [[D.i a0_0,D.i a0_1,D.i a0_2],[D.i x1_1],[D.i (D.int (gt a2 x0_0.toNat 0))]]
 g24:∀x0_0 x0_1,I0 x0_0 x0_1->∀x1_0 x1_1,I1 x0_0 x0_1 x1_0 x1_1->((D.int (fn 49 [[D.i a0_0,D.i a0_1,D.i a0_2],[D.l ([[D.i a1]]++a2)]] 0 0))=0)->(¬(a2.length:Int)=0)->(x0_0 < (a2.length:Int))->(¬x1_1=(D.int (gt a2 x0_0.toNat 0)))->pre 56 [[D.i a0_0,D.i a0_1,D.i a0_2],[D.i x1_1],[D.i (D.int (gt a2 x0_0.toNat 0))]]
 g25:∀x0_0 x0_1,I0 x0_0 x0_1->∀x1_0 x1_1,I1 x0_0 x0_1 x1_0 x1_1->((D.int (fn 49 [[D.i a0_0,D.i a0_1,D.i a0_2],[D.l ([[D.i a1]]++a2)]] 0 0))=0)->(¬(a2.length:Int)=0)->(x0_0 < (a2.length:Int))->(¬x1_1=(D.int (gt a2 x0_0.toNat 0)))->pre 88 [[D.i a0_0,D.i a0_1,D.i a0_2],[D.i x1_1],[D.i (D.int (fn 56 [[D.i a0_0,D.i a0_1,D.i a0_2],[D.i x1_1],[D.i (D.int (gt a2 x0_0.toNat 0))]] 0 0))]]
 n26:∀x0_0 x0_1,I0 x0_0 x0_1->∀x1_0 x1_1,I1 x0_0 x0_1 x1_0 x1_1->((D.int (fn 49 [[D.i a0_0,D.i a0_1,D.i a0_2],[D.l ([[D.i a1]]++a2)]] 0 0))=0)->(¬(a2.length:Int)=0)->(x0_0 < (a2.length:Int))->(¬x1_1=(D.int (gt a2 x0_0.toNat 0)))->I1 x0_0 x0_1 (List.set x1_0 x1_1.toNat [D.i (Ar.std.bit BinOp.or IntKind.i64 (D.int (gt x1_0 x1_1.toNat 0)) (D.int (fn 56 [[D.i a0_0,D.i a0_1,D.i a0_2],[D.i x1_1],[D.i (D.int (gt a2 x0_0.toNat 0))]] 0 0)))]) (D.int (fn 88 [[D.i a0_0,D.i a0_1,D.i a0_2],[D.i x1_1],[D.i (D.int (fn 56 [[D.i a0_0,D.i a0_1,D.i a0_2],[D.i x1_1],[D.i (D.int (gt a2 x0_0.toNat 0))]] 0 0))]] 0 0))/\m1 x0_0 x0_1 (List.set x1_0 x1_1.toNat [D.i (Ar.std.bit BinOp.or IntKind.i64 (D.int (gt x1_0 x1_1.toNat 0)) (D.int (fn 56 [[D.i a0_0,D.i a0_1,D.i a0_2],[D.i x1_1],[D.i (D.int (gt a2 x0_0.toNat 0))]] 0 0)))]) (D.int (fn 88 [[D.i a0_0,D.i a0_1,D.i a0_2],[D.i x1_1],[D.i (D.int (fn 56 [[D.i a0_0,D.i a0_1,D.i a0_2],[D.i x1_1],[D.i (D.int (gt a2 x0_0.toNat 0))]] 0 0))]] 0 0)) < m1 x0_0 x0_1 x1_0 x1_1
 g27:∀x0_0 x0_1,I0 x0_0 x0_1->∀x1_0 x1_1,I1 x0_0 x0_1 x1_0 x1_1->((D.int (fn 49 [[D.i a0_0,D.i a0_1,D.i a0_2],[D.l ([[D.i a1]]++a2)]] 0 0))=0)->(¬(a2.length:Int)=0)->(x0_0 < (a2.length:Int))->(x1_1=(D.int (gt a2 x0_0.toNat 0)))->-9223372036854775808<=(x0_0+1)/\(x0_0+1)<=9223372036854775807
 n28:∀x0_0 x0_1,I0 x0_0 x0_1->∀x1_0 x1_1,I1 x0_0 x0_1 x1_0 x1_1->((D.int (fn 49 [[D.i a0_0,D.i a0_1,D.i a0_2],[D.l ([[D.i a1]]++a2)]] 0 0))=0)->(¬(a2.length:Int)=0)->(x0_0 < (a2.length:Int))->(x1_1=(D.int (gt a2 x0_0.toNat 0)))->I0 (x0_0+1) (List.set x1_0 x1_1.toNat [D.i (Ar.std.bit BinOp.or IntKind.i64 (D.int (gt x1_0 x1_1.toNat 0)) (D.int (fn 56 [[D.i a0_0,D.i a0_1,D.i a0_2],[D.i x1_1],[D.i (D.int (gt a2 x0_0.toNat 0))]] 0 0)))])/\m0 (x0_0+1) (List.set x1_0 x1_1.toNat [D.i (Ar.std.bit BinOp.or IntKind.i64 (D.int (gt x1_0 x1_1.toNat 0)) (D.int (fn 56 [[D.i a0_0,D.i a0_1,D.i a0_2],[D.i x1_1],[D.i (D.int (gt a2 x0_0.toNat 0))]] 0 0)))]) < m0 x0_0 x0_1
 g29:∀x0_0 x0_1,I0 x0_0 x0_1->((D.int (fn 49 [[D.i a0_0,D.i a0_1,D.i a0_2],[D.l ([[D.i a1]]++a2)]] 0 0))=0)->(¬(a2.length:Int)=0)->(¬x0_0 < (a2.length:Int))->R 0 0=D.l x0_1
 g30:∀x0_0 x0_1,I0 x0_0 x0_1->((D.int (fn 49 [[D.i a0_0,D.i a0_1,D.i a0_2],[D.l ([[D.i a1]]++a2)]] 0 0))=0)->(¬(a2.length:Int)=0)->(¬x0_0 < (a2.length:Int))->R 1 0=D.i 0
end HX

namespace HX
open Go Go.Proofs CX
end HX

namespace HX
open Go Go.Proofs CX
structure V19 (pre:Nat->List (List D)->Prop) (fn:Nat->List (List D)->Nat->Nat->D) (a0_0:Int) (a0_1:Int) (a0_2:Int) (a1:Int) (a2:Int) (R:Nat->Nat->D) (I0:Rows->Int->Prop) (m0:Rows->Int->Nat):Prop where
 g0:pre 49 [[D.i a0_0,D.i a0_1,D.i a0_2],[D.l [[D.i a1],[D.i a2]]]]
 g1:(¬(D.int (fn 49 [[D.i a0_0,D.i a0_1,D.i a0_2],[D.l [[D.i a1],[D.i a2]]]] 0 0))=0)->R 0 0=D.l []
 g2:(¬(D.int (fn 49 [[D.i a0_0,D.i a0_1,D.i a0_2],[D.l [[D.i a1],[D.i a2]]]] 0 0))=0)->R 1 0=D.i (D.int (fn 49 [[D.i a0_0,D.i a0_1,D.i a0_2],[D.l [[D.i a1],[D.i a2]]]] 0 0))
 i0:((D.int (fn 49 [[D.i a0_0,D.i a0_1,D.i a0_2],[D.l [[D.i a1],[D.i a2]]]] 0 0))=0)->I0 [] a1
 g4:∀x0_0 x0_1,I0 x0_0 x0_1->((D.int (fn 49 [[D.i a0_0,D.i a0_1,D.i a0_2],[D.l [[D.i a1],[D.i a2]]]] 0 0))=0)->(x0_0.length+(List.length ([[D.i x0_1]]:Rows))) * 8<=4294967296/\(x0_0.length+(List.length ([[D.i x0_1]]:Rows)))<=4294967296
 g5:∀x0_0 x0_1,I0 x0_0 x0_1->((D.int (fn 49 [[D.i a0_0,D.i a0_1,D.i a0_2],[D.l [[D.i a1],[D.i a2]]]] 0 0))=0)->(¬x0_1=a2)->pre 56 [[D.i a0_0,D.i a0_1,D.i a0_2],[D.i x0_1],[D.i a2]]
 g6:∀x0_0 x0_1,I0 x0_0 x0_1->((D.int (fn 49 [[D.i a0_0,D.i a0_1,D.i a0_2],[D.l [[D.i a1],[D.i a2]]]] 0 0))=0)->(¬x0_1=a2)->pre 88 [[D.i a0_0,D.i a0_1,D.i a0_2],[D.i x0_1],[D.i (D.int (fn 56 [[D.i a0_0,D.i a0_1,D.i a0_2],[D.i x0_1],[D.i a2]] 0 0))]]
 n7:∀x0_0 x0_1,I0 x0_0 x0_1->((D.int (fn 49 [[D.i a0_0,D.i a0_1,D.i a0_2],[D.l [[D.i a1],[D.i a2]]]] 0 0))=0)->(¬x0_1=a2)->I0 (x0_0++[[D.i x0_1]]) (D.int (fn 88 [[D.i a0_0,D.i a0_1,D.i a0_2],[D.i x0_1],[D.i (D.int (fn 56 [[D.i a0_0,D.i a0_1,D.i a0_2],[D.i x0_1],[D.i a2]] 0 0))]] 0 0))/\m0 (x0_0++[[D.i x0_1]]) (D.int (fn 88 [[D.i a0_0,D.i a0_1,D.i a0_2],[D.i x0_1],[D.i (D.int (fn 56 [[D.i a0_0,D.i a0_1,D.i a0_2],[D.i x0_1],[D.i a2]] 0 0))]] 0 0)) < m0 x0_0 x0_1
 g8:∀x0_0 x0_1,I0 x0_0 x0_1->((D.int (fn 49 [[D.i a0_0,D.i a0_1,D.i a0_2],[D.l [[D.i a1],[D.i a2]]]] 0 0))=0)->(x0_1=a2)->R 0 0=D.l (x0_0++[[D.i x0_1]])
 g9:∀x0_0 x0_1,I0 x0_0 x0_1->((D.int (fn 49 [[D.i a0_0,D.i a0_1,D.i a0_2],[D.l [[D.i a1],[D.i a2]]]] 0 0))=0)->(x0_1=a2)->R 1 0=D.i 0
end HX

namespace HX
open Go Go.Proofs CX
structure V49 (pre:Nat->List (List D)->Prop) (fn:Nat->List (List D)->Nat->Nat->D) (a0_0:Int) (a0_1:Int) (a0_2:Int) (a1:Rows) (R:Nat->Nat->D) (I0:Int->Int->Prop) (m0:Int->Int->Nat):Prop where
 g0:pre 17 [[D.i a0_0,D.i a0_1,D.i a0_2]]
 g1:(¬(D.int (fn 17 [[D.i a0_0,D.i a0_1,D.i a0_2]] 0 0))=0)->R 0 0=D.i (D.int (fn 17 [[D.i a0_0,D.i a0_1,D.i a0_2]] 0 0))
 i0:((D.int (fn 17 [[D.i a0_0,D.i a0_1,D.i a0_2]] 0 0))=0)->I0 0 0
 g3:∀x0_0 x0_1,I0 x0_0 x0_1->((D.int (fn 17 [[D.i a0_0,D.i a0_1,D.i a0_2]] 0 0))=0)->(x0_1 < (a1.length:Int))->0<=x0_1
 g4:∀x0_0 x0_1,I0 x0_0 x0_1->((D.int (fn 17 [[D.i a0_0,D.i a0_1,D.i a0_2]] 0 0))=0)->(x0_1 < (a1.length:Int))->x0_1 < (a1.length:Int)
 g5:∀x0_0 x0_1,I0 x0_0 x0_1->((D.int (fn 17 [[D.i a0_0,D.i a0_1,D.i a0_2]] 0 0))=0)->(x0_1 < (a1.length:Int))->(((Int.toNat x0_1:Nat):Int)) < (a1.length:Int)
 g6:∀x0_0 x0_1,I0 x0_0 x0_1->((D.int (fn 17 [[D.i a0_0,D.i a0_1,D.i a0_2]] 0 0))=0)->(x0_1 < (a1.length:Int))->((D.int (gt a1 x0_1.toNat 0)) < 0)->R 0 0=D.i 4
 g7:∀x0_0 x0_1,I0 x0_0 x0_1->((D.int (fn 17 [[D.i a0_0,D.i a0_1,D.i a0_2]] 0 0))=0)->(x0_1 < (a1.length:Int))->(¬(D.int (gt a1 x0_1.toNat 0)) < 0)->-9223372036854775808<=(a0_0 * a0_1)/\(a0_0 * a0_1)<=9223372036854775807
 g8:∀x0_0 x0_1,I0 x0_0 x0_1->((D.int (fn 17 [[D.i a0_0,D.i a0_1,D.i a0_2]] 0 0))=0)->(x0_1 < (a1.length:Int))->(¬(D.int (gt a1 x0_1.toNat 0)) < 0)->((a0_0 * a0_1)<=(D.int (gt a1 x0_1.toNat 0)))->R 0 0=D.i 4
 g9:∀x0_0 x0_1,I0 x0_0 x0_1->((D.int (fn 17 [[D.i a0_0,D.i a0_1,D.i a0_2]] 0 0))=0)->(x0_1 < (a1.length:Int))->(¬(D.int (gt a1 x0_1.toNat 0)) < 0)->(¬(a0_0 * a0_1)<=(D.int (gt a1 x0_1.toNat 0)))->-9223372036854775808<=(x0_1+1)/\(x0_1+1)<=9223372036854775807
 n10:∀x0_0 x0_1,I0 x0_0 x0_1->((D.int (fn 17 [[D.i a0_0,D.i a0_1,D.i a0_2]] 0 0))=0)->(x0_1 < (a1.length:Int))->(¬(D.int (gt a1 x0_1.toNat 0)) < 0)->(¬(a0_0 * a0_1)<=(D.int (gt a1 x0_1.toNat 0)))->I0 x0_0 (x0_1+1)/\m0 x0_0 (x0_1+1) < m0 x0_0 x0_1
 g11:∀x0_0 x0_1,I0 x0_0 x0_1->((D.int (fn 17 [[D.i a0_0,D.i a0_1,D.i a0_2]] 0 0))=0)->(¬x0_1 < (a1.length:Int))->R 0 0=D.i 0
end HX

namespace HX
open Go Go.Proofs CX
structure V50 (a0_0:Int) (a0_1:Int) (a0_2:Int) (a1:Int) (R:Nat->Nat->D)  : Prop where
 g0:a0_0≠0
 g2:-9223372036854775808<=(Int.tdiv a1 a0_0)/\(Int.tdiv a1 a0_0)<=9223372036854775807
 g3:R 0 0=D.i (Int.tmod a1 a0_0)
 g4:R 0 1=D.i (Int.tdiv a1 a0_0)
end HX

namespace HX
open Go Go.Proofs CX
end HX

namespace HX
open Go Go.Proofs CX
end HX

namespace HX
open Go Go.Proofs CX
end HX

namespace HX
open Go Go.Proofs CX
structure V56 (pre:Nat->List (List D)->Prop) (fn:Nat->List (List D)->Nat->Nat->D) (a0_0:Int) (a0_1:Int) (a0_2:Int) (a1:Int) (a2:Int) (R:Nat->Nat->D)  : Prop where
 g0:pre 50 [[D.i a0_0,D.i a0_1,D.i a0_2],[D.i a1]]
 g1:pre 50 [[D.i a0_0,D.i a0_1,D.i a0_2],[D.i a2]]
 g2:((D.int (fn 50 [[D.i a0_0,D.i a0_1,D.i a0_2],[D.i a1]] 0 0)) < (D.int (fn 50 [[D.i a0_0,D.i a0_1,D.i a0_2],[D.i a2]] 0 0)))->R 0 0=D.i 1
 g3:(¬(D.int (fn 50 [[D.i a0_0,D.i a0_1,D.i a0_2],[D.i a1]] 0 0)) < (D.int (fn 50 [[D.i a0_0,D.i a0_1,D.i a0_2],[D.i a2]] 0 0)))->((D.int (fn 50 [[D.i a0_0,D.i a0_1,D.i a0_2],[D.i a2]] 0 0)) < (D.int (fn 50 [[D.i a0_0,D.i a0_1,D.i a0_2],[D.i a1]] 0 0)))->R 0 0=D.i 4
 g4:(¬(D.int (fn 50 [[D.i a0_0,D.i a0_1,D.i a0_2],[D.i a1]] 0 0)) < (D.int (fn 50 [[D.i a0_0,D.i a0_1,D.i a0_2],[D.i a2]] 0 0)))->(¬(D.int (fn 50 [[D.i a0_0,D.i a0_1,D.i a0_2],[D.i a2]] 0 0)) < (D.int (fn 50 [[D.i a0_0,D.i a0_1,D.i a0_2],[D.i a1]] 0 0)))->((D.int (fn 50 [[D.i a0_0,D.i a0_1,D.i a0_2],[D.i a1]] 0 1)) < (D.int (fn 50 [[D.i a0_0,D.i a0_1,D.i a0_2],[D.i a2]] 0 1)))->R 0 0=D.i 2
 g5:(¬(D.int (fn 50 [[D.i a0_0,D.i a0_1,D.i a0_2],[D.i a1]] 0 0)) < (D.int (fn 50 [[D.i a0_0,D.i a0_1,D.i a0_2],[D.i a2]] 0 0)))->(¬(D.int (fn 50 [[D.i a0_0,D.i a0_1,D.i a0_2],[D.i a2]] 0 0)) < (D.int (fn 50 [[D.i a0_0,D.i a0_1,D.i a0_2],[D.i a1]] 0 0)))->(¬(D.int (fn 50 [[D.i a0_0,D.i a0_1,D.i a0_2],[D.i a1]] 0 1)) < (D.int (fn 50 [[D.i a0_0,D.i a0_1,D.i a0_2],[D.i a2]] 0 1)))->((D.int (fn 50 [[D.i a0_0,D.i a0_1,D.i a0_2],[D.i a2]] 0 1)) < (D.int (fn 50 [[D.i a0_0,D.i a0_1,D.i a0_2],[D.i a1]] 0 1)))->R 0 0=D.i 8
 g6:(¬(D.int (fn 50 [[D.i a0_0,D.i a0_1,D.i a0_2],[D.i a1]] 0 0)) < (D.int (fn 50 [[D.i a0_0,D.i a0_1,D.i a0_2],[D.i a2]] 0 0)))->(¬(D.int (fn 50 [[D.i a0_0,D.i a0_1,D.i a0_2],[D.i a2]] 0 0)) < (D.int (fn 50 [[D.i a0_0,D.i a0_1,D.i a0_2],[D.i a1]] 0 0)))->(¬(D.int (fn 50 [[D.i a0_0,D.i a0_1,D.i a0_2],[D.i a1]] 0 1)) < (D.int (fn 50 [[D.i a0_0,D.i a0_1,D.i a0_2],[D.i a2]] 0 1)))->(¬(D.int (fn 50 [[D.i a0_0,D.i a0_1,D.i a0_2],[D.i a2]] 0 1)) < (D.int (fn 50 [[D.i a0_0,D.i a0_1,D.i a0_2],[D.i a1]] 0 1)))->R 0 0=D.i 16
end HX

namespace HX
open Go Go.Proofs CX
structure V88 (a0_0:Int) (a0_1:Int) (a0_2:Int) (a1:Int) (a2:Int) (R:Nat->Nat->D)  : Prop where
 g0:a0_0≠0
 g2:-9223372036854775808<=(Int.tdiv a1 a0_0)/\(Int.tdiv a1 a0_0)<=9223372036854775807
 g3:(a2=1)->-9223372036854775808<=((Int.tmod a1 a0_0)+1)/\((Int.tmod a1 a0_0)+1)<=9223372036854775807
 g4:(a2=1)->-9223372036854775808<=((Int.tdiv a1 a0_0) * a0_0)/\((Int.tdiv a1 a0_0) * a0_0)<=9223372036854775807
 g5:(a2=1)->-9223372036854775808<=(((Int.tdiv a1 a0_0) * a0_0)+((Int.tmod a1 a0_0)+1))/\(((Int.tdiv a1 a0_0) * a0_0)+((Int.tmod a1 a0_0)+1))<=9223372036854775807
 g6:(a2=1)->(0<=((Int.tmod a1 a0_0)+1))->(((Int.tmod a1 a0_0)+1) < a0_0)->(0<=(Int.tdiv a1 a0_0))->R 0 0=D.i (((Int.tdiv a1 a0_0) * a0_0)+((Int.tmod a1 a0_0)+1))
 g7:(a2=1)->(0<=((Int.tmod a1 a0_0)+1))->(((Int.tmod a1 a0_0)+1) < a0_0)->(0<=(Int.tdiv a1 a0_0))->R 1 0=D.b (decide ((Int.tdiv a1 a0_0) < a0_1))
 g8:(a2=1)->(0<=((Int.tmod a1 a0_0)+1))->(((Int.tmod a1 a0_0)+1) < a0_0)->(¬0<=(Int.tdiv a1 a0_0))->R 0 0=D.i (((Int.tdiv a1 a0_0) * a0_0)+((Int.tmod a1 a0_0)+1))
 g9:(a2=1)->(0<=((Int.tmod a1 a0_0)+1))->(((Int.tmod a1 a0_0)+1) < a0_0)->(¬0<=(Int.tdiv a1 a0_0))->R 1 0=D.b false
 g10:(a2=1)->(0<=((Int.tmod a1 a0_0)+1))->(¬((Int.tmod a1 a0_0)+1) < a0_0)->R 0 0=D.i (((Int.tdiv a1 a0_0) * a0_0)+((Int.tmod a1 a0_0)+1))
 g11:(a2=1)->(0<=((Int.tmod a1 a0_0)+1))->(¬((Int.tmod a1 a0_0)+1) < a0_0)->R 1 0=D.b false
 g12:(a2=1)->(¬0<=((Int.tmod a1 a0_0)+1))->R 0 0=D.i (((Int.tdiv a1 a0_0) * a0_0)+((Int.tmod a1 a0_0)+1))
 g13:(a2=1)->(¬0<=((Int.tmod a1 a0_0)+1))->R 1 0=D.b false
 g14:(¬a2=1)->(a2=2)->-9223372036854775808<=((Int.tdiv a1 a0_0)+1)/\((Int.tdiv a1 a0_0)+1)<=9223372036854775807
 g15:(¬a2=1)->(a2=2)->-9223372036854775808<=(((Int.tdiv a1 a0_0)+1) * a0_0)/\(((Int.tdiv a1 a0_0)+1) * a0_0)<=9223372036854775807
 g16:(¬a2=1)->(a2=2)->-9223372036854775808<=((((Int.tdiv a1 a0_0)+1) * a0_0)+(Int.tmod a1 a0_0))/\((((Int.tdiv a1 a0_0)+1) * a0_0)+(Int.tmod a1 a0_0))<=9223372036854775807
 g17:(¬a2=1)->(a2=2)->(0<=(Int.tmod a1 a0_0))->((Int.tmod a1 a0_0) < a0_0)->(0<=((Int.tdiv a1 a0_0)+1))->R 0 0=D.i ((((Int.tdiv a1 a0_0)+1) * a0_0)+(Int.tmod a1 a0_0))
 g18:(¬a2=1)->(a2=2)->(0<=(Int.tmod a1 a0_0))->((Int.tmod a1 a0_0) < a0_0)->(0<=((Int.tdiv a1 a0_0)+1))->R 1 0=D.b (decide (((Int.tdiv a1 a0_0)+1) < a0_1))
 g19:(¬a2=1)->(a2=2)->(0<=(Int.tmod a1 a0_0))->((Int.tmod a1 a0_0) < a0_0)->(¬0<=((Int.tdiv a1 a0_0)+1))->R 0 0=D.i ((((Int.tdiv a1 a0_0)+1) * a0_0)+(Int.tmod a1 a0_0))
 g20:(¬a2=1)->(a2=2)->(0<=(Int.tmod a1 a0_0))->((Int.tmod a1 a0_0) < a0_0)->(¬0<=((Int.tdiv a1 a0_0)+1))->R 1 0=D.b false
 g21:(¬a2=1)->(a2=2)->(0<=(Int.tmod a1 a0_0))->(¬(Int.tmod a1 a0_0) < a0_0)->R 0 0=D.i ((((Int.tdiv a1 a0_0)+1) * a0_0)+(Int.tmod a1 a0_0))
 g22:(¬a2=1)->(a2=2)->(0<=(Int.tmod a1 a0_0))->(¬(Int.tmod a1 a0_0) < a0_0)->R 1 0=D.b false
 g23:(¬a2=1)->(a2=2)->(¬0<=(Int.tmod a1 a0_0))->R 0 0=D.i ((((Int.tdiv a1 a0_0)+1) * a0_0)+(Int.tmod a1 a0_0))
 g24:(¬a2=1)->(a2=2)->(¬0<=(Int.tmod a1 a0_0))->R 1 0=D.b false
 g25:(¬a2=1)->(¬a2=2)->(a2=4)->-9223372036854775808<=((Int.tmod a1 a0_0) - 1)/\((Int.tmod a1 a0_0) - 1)<=9223372036854775807
 g26:(¬a2=1)->(¬a2=2)->(a2=4)->-9223372036854775808<=((Int.tdiv a1 a0_0) * a0_0)/\((Int.tdiv a1 a0_0) * a0_0)<=9223372036854775807
 g27:(¬a2=1)->(¬a2=2)->(a2=4)->-9223372036854775808<=(((Int.tdiv a1 a0_0) * a0_0)+((Int.tmod a1 a0_0) - 1))/\(((Int.tdiv a1 a0_0) * a0_0)+((Int.tmod a1 a0_0) - 1))<=9223372036854775807
 g28:(¬a2=1)->(¬a2=2)->(a2=4)->(0<=((Int.tmod a1 a0_0) - 1))->(((Int.tmod a1 a0_0) - 1) < a0_0)->(0<=(Int.tdiv a1 a0_0))->R 0 0=D.i (((Int.tdiv a1 a0_0) * a0_0)+((Int.tmod a1 a0_0) - 1))
 g29:(¬a2=1)->(¬a2=2)->(a2=4)->(0<=((Int.tmod a1 a0_0) - 1))->(((Int.tmod a1 a0_0) - 1) < a0_0)->(0<=(Int.tdiv a1 a0_0))->R 1 0=D.b (decide ((Int.tdiv a1 a0_0) < a0_1))
 g30:(¬a2=1)->(¬a2=2)->(a2=4)->(0<=((Int.tmod a1 a0_0) - 1))->(((Int.tmod a1 a0_0) - 1) < a0_0)->(¬0<=(Int.tdiv a1 a0_0))->R 0 0=D.i (((Int.tdiv a1 a0_0) * a0_0)+((Int.tmod a1 a0_0) - 1))
 g31:(¬a2=1)->(¬a2=2)->(a2=4)->(0<=((Int.tmod a1 a0_0) - 1))->(((Int.tmod a1 a0_0) - 1) < a0_0)->(¬0<=(Int.tdiv a1 a0_0))->R 1 0=D.b false
 g32:(¬a2=1)->(¬a2=2)->(a2=4)->(0<=((Int.tmod a1 a0_0) - 1))->(¬((Int.tmod a1 a0_0) - 1) < a0_0)->R 0 0=D.i (((Int.tdiv a1 a0_0) * a0_0)+((Int.tmod a1 a0_0) - 1))
 g33:(¬a2=1)->(¬a2=2)->(a2=4)->(0<=((Int.tmod a1 a0_0) - 1))->(¬((Int.tmod a1 a0_0) - 1) < a0_0)->R 1 0=D.b false
 g34:(¬a2=1)->(¬a2=2)->(a2=4)->(¬0<=((Int.tmod a1 a0_0) - 1))->R 0 0=D.i (((Int.tdiv a1 a0_0) * a0_0)+((Int.tmod a1 a0_0) - 1))
 g35:(¬a2=1)->(¬a2=2)->(a2=4)->(¬0<=((Int.tmod a1 a0_0) - 1))->R 1 0=D.b false
 g36:(¬a2=1)->(¬a2=2)->(¬a2=4)->(a2=8)->-9223372036854775808<=((Int.tdiv a1 a0_0) - 1)/\((Int.tdiv a1 a0_0) - 1)<=9223372036854775807
 g37:(¬a2=1)->(¬a2=2)->(¬a2=4)->(a2=8)->-9223372036854775808<=(((Int.tdiv a1 a0_0) - 1) * a0_0)/\(((Int.tdiv a1 a0_0) - 1) * a0_0)<=9223372036854775807
 g38:(¬a2=1)->(¬a2=2)->(¬a2=4)->(a2=8)->-9223372036854775808<=((((Int.tdiv a1 a0_0) - 1) * a0_0)+(Int.tmod a1 a0_0))/\((((Int.tdiv a1 a0_0) - 1) * a0_0)+(Int.tmod a1 a0_0))<=9223372036854775807
 g39:(¬a2=1)->(¬a2=2)->(¬a2=4)->(a2=8)->(0<=(Int.tmod a1 a0_0))->((Int.tmod a1 a0_0) < a0_0)->(0<=((Int.tdiv a1 a0_0) - 1))->R 0 0=D.i ((((Int.tdiv a1 a0_0) - 1) * a0_0)+(Int.tmod a1 a0_0))
 g40:(¬a2=1)->(¬a2=2)->(¬a2=4)->(a2=8)->(0<=(Int.tmod a1 a0_0))->((Int.tmod a1 a0_0) < a0_0)->(0<=((Int.tdiv a1 a0_0) - 1))->R 1 0=D.b (decide (((Int.tdiv a1 a0_0) - 1) < a0_1))
 g41:(¬a2=1)->(¬a2=2)->(¬a2=4)->(a2=8)->(0<=(Int.tmod a1 a0_0))->((Int.tmod a1 a0_0) < a0_0)->(¬0<=((Int.tdiv a1 a0_0) - 1))->R 0 0=D.i ((((Int.tdiv a1 a0_0) - 1) * a0_0)+(Int.tmod a1 a0_0))
 g42:(¬a2=1)->(¬a2=2)->(¬a2=4)->(a2=8)->(0<=(Int.tmod a1 a0_0))->((Int.tmod a1 a0_0) < a0_0)->(¬0<=((Int.tdiv a1 a0_0) - 1))->R 1 0=D.b false
 g43:(¬a2=1)->(¬a2=2)->(¬a2=4)->(a2=8)->(0<=(Int.tmod a1 a0_0))->(¬(Int.tmod a1 a0_0) < a0_0)->R 0 0=D.i ((((Int.tdiv a1 a0_0) - 1) * a0_0)+(Int.tmod a1 a0_0))
 g44:(¬a2=1)->(¬a2=2)->(¬a2=4)->(a2=8)->(0<=(Int.tmod a1 a0_0))->(¬(Int.tmod a1 a0_0) < a0_0)->R 1 0=D.b false
 g45:(¬a2=1)->(¬a2=2)->(¬a2=4)->(a2=8)->(¬0<=(Int.tmod a1 a0_0))->R 0 0=D.i ((((Int.tdiv a1 a0_0) - 1) * a0_0)+(Int.tmod a1 a0_0))
 g46:(¬a2=1)->(¬a2=2)->(¬a2=4)->(a2=8)->(¬0<=(Int.tmod a1 a0_0))->R 1 0=D.b false
 g47:(¬a2=1)->(¬a2=2)->(¬a2=4)->(¬a2=8)->-9223372036854775808<=((Int.tdiv a1 a0_0) * a0_0)/\((Int.tdiv a1 a0_0) * a0_0)<=9223372036854775807
 g48:(¬a2=1)->(¬a2=2)->(¬a2=4)->(¬a2=8)->-9223372036854775808<=(((Int.tdiv a1 a0_0) * a0_0)+(Int.tmod a1 a0_0))/\(((Int.tdiv a1 a0_0) * a0_0)+(Int.tmod a1 a0_0))<=9223372036854775807
 g49:(¬a2=1)->(¬a2=2)->(¬a2=4)->(¬a2=8)->(0<=(Int.tmod a1 a0_0))->((Int.tmod a1 a0_0) < a0_0)->(0<=(Int.tdiv a1 a0_0))->R 0 0=D.i (((Int.tdiv a1 a0_0) * a0_0)+(Int.tmod a1 a0_0))
 g50:(¬a2=1)->(¬a2=2)->(¬a2=4)->(¬a2=8)->(0<=(Int.tmod a1 a0_0))->((Int.tmod a1 a0_0) < a0_0)->(0<=(Int.tdiv a1 a0_0))->R 1 0=D.b (decide ((Int.tdiv a1 a0_0) < a0_1))
 g51:(¬a2=1)->(¬a2=2)->(¬a2=4)->(¬a2=8)->(0<=(Int.tmod a1 a0_0))->((Int.tmod a1 a0_0) < a0_0)->(¬0<=(Int.tdiv a1 a0_0))->R 0 0=D.i (((Int.tdiv a1 a0_0) * a0_0)+(Int.tmod a1 a0_0))
 g52:(¬a2=1)->(¬a2=2)->(¬a2=4)->(¬a2=8)->(0<=(Int.tmod a1 a0_0))->((Int.tmod a1 a0_0) < a0_0)->(¬0<=(Int.tdiv a1 a0_0))->R 1 0=D.b false
 g53:(¬a2=1)->(¬a2=2)->(¬a2=4)->(¬a2=8)->(0<=(Int.tmod a1 a0_0))->(¬(Int.tmod a1 a0_0) < a0_0)->R 0 0=D.i (((Int.tdiv a1 a0_0) * a0_0)+(Int.tmod a1 a0_0))
 g54:(¬a2=1)->(¬a2=2)->(¬a2=4)->(¬a2=8)->(0<=(Int.tmod a1 a0_0))->(¬(Int.tmod a1 a0_0) < a0_0)->R 1 0=D.b false
 g55:(¬a2=1)->(¬a2=2)->(¬a2=4)->(¬a2=8)->(¬0<=(Int.tmod a1 a0_0))->R 0 0=D.i (((Int.tdiv a1 a0_0) * a0_0)+(Int.tmod a1 a0_0))
 g56:(¬a2=1)->(¬a2=2)->(¬a2=4)->(¬a2=8)->(¬0<=(Int.tmod a1 a0_0))->R 1 0=D.b false
end HX

namespace HX
open Go Go.Proofs CX
structure V15 (pre:Nat->List (List D)->Prop) (fn:Nat->List (List D)->Nat->Nat->D) (a0_0:Int) (a0_1:Int) (a0_2:Int) (a1:Int) (a2:Int) (R:Nat->Nat->D)  : Prop where
 g0:pre 49 [[D.i a0_0,D.i a0_1,D.i a0_2],[D.l [[D.i a1],[D.i a2]]]]
 g1:(¬(D.int (fn 49 [[D.i a0_0,D.i a0_1,D.i a0_2],[D.l [[D.i a1],[D.i a2]]]] 0 0))=0)->R 0 0=D.i 0
 g2:(¬(D.int (fn 49 [[D.i a0_0,D.i a0_1,D.i a0_2],[D.l [[D.i a1],[D.i a2]]]] 0 0))=0)->R 1 0=D.i (D.int (fn 49 [[D.i a0_0,D.i a0_1,D.i a0_2],[D.l [[D.i a1],[D.i a2]]]] 0 0))
 g3:((D.int (fn 49 [[D.i a0_0,D.i a0_1,D.i a0_2],[D.l [[D.i a1],[D.i a2]]]] 0 0))=0)->pre 50 [[D.i a0_0,D.i a0_1,D.i a0_2],[D.i a1]]
 g4:((D.int (fn 49 [[D.i a0_0,D.i a0_1,D.i a0_2],[D.l [[D.i a1],[D.i a2]]]] 0 0))=0)->pre 50 [[D.i a0_0,D.i a0_1,D.i a0_2],[D.i a2]]
 g5:((D.int (fn 49 [[D.i a0_0,D.i a0_1,D.i a0_2],[D.l [[D.i a1],[D.i a2]]]] 0 0))=0)->-9223372036854775808<=((D.int (fn 50 [[D.i a0_0,D.i a0_1,D.i a0_2],[D.i a1]] 0 0)) - (D.int (fn 50 [[D.i a0_0,D.i a0_1,D.i a0_2],[D.i a2]] 0 0)))/\((D.int (fn 50 [[D.i a0_0,D.i a0_1,D.i a0_2],[D.i a1]] 0 0)) - (D.int (fn 50 [[D.i a0_0,D.i a0_1,D.i a0_2],[D.i a2]] 0 0)))<=9223372036854775807
 g6:((D.int (fn 49 [[D.i a0_0,D.i a0_1,D.i a0_2],[D.l [[D.i a1],[D.i a2]]]] 0 0))=0)->-9223372036854775808<=((D.int (fn 50 [[D.i a0_0,D.i a0_1,D.i a0_2],[D.i a2]] 0 0)) - (D.int (fn 50 [[D.i a0_0,D.i a0_1,D.i a0_2],[D.i a1]] 0 0)))/\((D.int (fn 50 [[D.i a0_0,D.i a0_1,D.i a0_2],[D.i a2]] 0 0)) - (D.int (fn 50 [[D.i a0_0,D.i a0_1,D.i a0_2],[D.i a1]] 0 0)))<=9223372036854775807
 g7:((D.int (fn 49 [[D.i a0_0,D.i a0_1,D.i a0_2],[D.l [[D.i a1],[D.i a2]]]] 0 0))=0)->-9223372036854775808<=((D.int (fn 50 [[D.i a0_0,D.i a0_1,D.i a0_2],[D.i a1]] 0 1)) - (D.int (fn 50 [[D.i a0_0,D.i a0_1,D.i a0_2],[D.i a2]] 0 1)))/\((D.int (fn 50 [[D.i a0_0,D.i a0_1,D.i a0_2],[D.i a1]] 0 1)) - (D.int (fn 50 [[D.i a0_0,D.i a0_1,D.i a0_2],[D.i a2]] 0 1)))<=9223372036854775807
 g8:((D.int (fn 49 [[D.i a0_0,D.i a0_1,D.i a0_2],[D.l [[D.i a1],[D.i a2]]]] 0 0))=0)->-9223372036854775808<=((D.int (fn 50 [[D.i a0_0,D.i a0_1,D.i a0_2],[D.i a2]] 0 1)) - (D.int (fn 50 [[D.i a0_0,D.i a0_1,D.i a0_2],[D.i a1]] 0 1)))/\((D.int (fn 50 [[D.i a0_0,D.i a0_1,D.i a0_2],[D.i a2]] 0 1)) - (D.int (fn 50 [[D.i a0_0,D.i a0_1,D.i a0_2],[D.i a1]] 0 1)))<=9223372036854775807
 g9:((D.int (fn 49 [[D.i a0_0,D.i a0_1,D.i a0_2],[D.l [[D.i a1],[D.i a2]]]] 0 0))=0)->-9223372036854775808<=((mxI ((D.int (fn 50 [[D.i a0_0,D.i a0_1,D.i a0_2],[D.i a1]] 0 0)) - (D.int (fn 50 [[D.i a0_0,D.i a0_1,D.i a0_2],[D.i a2]] 0 0))) ((D.int (fn 50 [[D.i a0_0,D.i a0_1,D.i a0_2],[D.i a2]] 0 0)) - (D.int (fn 50 [[D.i a0_0,D.i a0_1,D.i a0_2],[D.i a1]] 0 0))))+(mxI ((D.int (fn 50 [[D.i a0_0,D.i a0_1,D.i a0_2],[D.i a1]] 0 1)) - (D.int (fn 50 [[D.i a0_0,D.i a0_1,D.i a0_2],[D.i a2]] 0 1))) ((D.int (fn 50 [[D.i a0_0,D.i a0_1,D.i a0_2],[D.i a2]] 0 1)) - (D.int (fn 50 [[D.i a0_0,D.i a0_1,D.i a0_2],[D.i a1]] 0 1)))))/\((mxI ((D.int (fn 50 [[D.i a0_0,D.i a0_1,D.i a0_2],[D.i a1]] 0 0)) - (D.int (fn 50 [[D.i a0_0,D.i a0_1,D.i a0_2],[D.i a2]] 0 0))) ((D.int (fn 50 [[D.i a0_0,D.i a0_1,D.i a0_2],[D.i a2]] 0 0)) - (D.int (fn 50 [[D.i a0_0,D.i a0_1,D.i a0_2],[D.i a1]] 0 0))))+(mxI ((D.int (fn 50 [[D.i a0_0,D.i a0_1,D.i a0_2],[D.i a1]] 0 1)) - (D.int (fn 50 [[D.i a0_0,D.i a0_1,D.i a0_2],[D.i a2]] 0 1))) ((D.int (fn 50 [[D.i a0_0,D.i a0_1,D.i a0_2],[D.i a2]] 0 1)) - (D.int (fn 50 [[D.i a0_0,D.i a0_1,D.i a0_2],[D.i a1]] 0 1)))))<=9223372036854775807
 g10:((D.int (fn 49 [[D.i a0_0,D.i a0_1,D.i a0_2],[D.l [[D.i a1],[D.i a2]]]] 0 0))=0)->R 0 0=D.i ((mxI ((D.int (fn 50 [[D.i a0_0,D.i a0_1,D.i a0_2],[D.i a1]] 0 0)) - (D.int (fn 50 [[D.i a0_0,D.i a0_1,D.i a0_2],[D.i a2]] 0 0))) ((D.int (fn 50 [[D.i a0_0,D.i a0_1,D.i a0_2],[D.i a2]] 0 0)) - (D.int (fn 50 [[D.i a0_0,D.i a0_1,D.i a0_2],[D.i a1]] 0 0))))+(mxI ((D.int (fn 50 [[D.i a0_0,D.i a0_1,D.i a0_2],[D.i a1]] 0 1)) - (D.int (fn 50 [[D.i a0_0,D.i a0_1,D.i a0_2],[D.i a2]] 0 1))) ((D.int (fn 50 [[D.i a0_0,D.i a0_1,D.i a0_2],[D.i a2]] 0 1)) - (D.int (fn 50 [[D.i a0_0,D.i a0_1,D.i a0_2],[D.i a1]] 0 1)))))
 g11:((D.int (fn 49 [[D.i a0_0,D.i a0_1,D.i a0_2],[D.l [[D.i a1],[D.i a2]]]] 0 0))=0)->R 1 0=D.i 0
end HX

namespace HX
open Go Go.Proofs CX
end HX

namespace HX
open Go Go.Proofs CX
end HX

namespace HX
open Go Go.Proofs CX
def wI (r:List D):Int:=(r.getD 0 .nil).int
theorem gt_wI (l:Rows) (q:Nat):(gt l q 0).int=wI (l.getD q []):=rfl
theorem drop_row {l:Rows} {q:Nat} (h:q < l.length):l.drop q=l.getD q [] :: l.drop (q+1):=by
 rw [List.drop_eq_getElem_cons h,zH,zJ h];rfl
theorem row_mem {l:Rows} {q:Nat} (h:q < l.length):l.getD q []∈l:=by
 rw [zH,zJ h];exact kH h
theorem mem_row {l:Rows} {r:List D} (h:r∈l):∃q,q < l.length/\l.getD q []=r:=by
 obtain ⟨q,hq,e⟩:=List.getElem_of_mem h
 exact ⟨q,hq,by rw [zH,zJ hq];exact e⟩
theorem drop_end {l:Rows} {q:Nat} (h:¬(q:Int) < ((l.length:Nat):Int)):l.drop q=[]:=List.drop_of_length_le (by omega)
theorem getD_set {l:Rows} {q i:Nat} {x:List D} (h:q < l.length):(l.set q x).getD i []=if i=q then x else l.getD i []:=by
 rw [zH,xY,zH]
 by_cases e:q=i
 ·subst e;rw [if_pos rfl,if_pos rfl,if_pos h];rfl
 rw [if_neg e,if_neg (fun h=>e h.symm)]
theorem getD_rep {n q:Nat} {x:List D} (h:q < n):(List.replicate n x).getD q []=x:=by
 rw [zH,xX,if_pos h];rfl
def chkS (W H R:Int):Int:=if (1<=W/\W<=8)/\(1<=H/\H<=8)/\1<=R/\R<=64 then 0 else 3
theorem chkS_0 {W H R:Int} (h:chkS W H R=0):(1<=W/\W<=8)/\(1<=H/\H<=8)/\1<=R/\R<=64:=by
 unfold chkS at h
 split at h
 ·assumption
 cases h
theorem chkS_ne {W H R:Int} (h:¬chkS W H R=0):chkS W H R=3:=by
 unfold chkS at h ⊢
 split at h
 ·exact absurd rfl h
 rw [if_neg (by assumption)]
theorem wh_bd {W H:Int} (h1:1<=W) (h2:W<=8) (h3:1<=H) (h4:H<=8):1<=W * H/\W * H<=64:=by
 have e1:=Int.mul_le_mul_of_nonneg_right h2 (show 0<=H by omega)
 have e2:=Int.mul_le_mul_of_nonneg_right h1 (show 0<=H by omega)
 omega
theorem xy {W H r:Int} (hW:1<=W) (h0:0<=r) (hr:r < W * H):(0<=Int.tmod r W/\Int.tmod r W < W)/\(0<=Int.tdiv r W/\Int.tdiv r W < H)/\Int.tdiv r W * W+Int.tmod r W=r:=by
 rw [qK h0,qJ h0]
 refine ⟨⟨Int.emod_nonneg _ (by omega),Int.emod_lt_of_pos _ (by omega)⟩,⟨Int.ediv_nonneg h0 (by omega),?_⟩,Int.mul_comm W _ ▸ Int.mul_ediv_add_emod r W⟩
 exact Int.ediv_lt_of_lt_mul (by omega) (by rw [Int.mul_comm];exact hr)
theorem xy_of {W x y:Int} (hx:0<=x) (hxW:x < W) (hy:0<=y):Int.tmod (y * W+x) W=x/\Int.tdiv (y * W+x) W=y:=by
 have h0:0<=y * W+x:=by
  have:=Int.mul_nonneg hy (show 0<=W by omega)
  omega
 rw [qK h0,qJ h0]
 refine ⟨?_,?_⟩
 ·rw [Int.add_comm,Int.add_mul_emod_self_right];exact Int.emod_eq_of_lt hx hxW
 rw [Int.add_comm,Int.add_mul_ediv_right _ _ (by omega),Int.ediv_eq_zero_of_lt hx hxW];omega
end HX

namespace HX
open Go Go.Proofs CX
def turnI (W r t:Int):Int:=if Int.tmod r W < Int.tmod t W then 1 else if Int.tmod t W < Int.tmod r W then 4 else if Int.tdiv r W < Int.tdiv t W then 2 else if Int.tdiv t W < Int.tdiv r W then 8 else 16
def stepI (W r t:Int):Int:=if Int.tmod r W < Int.tmod t W then r+1 else if Int.tmod t W < Int.tmod r W then r - 1 else if Int.tdiv r W < Int.tdiv t W then r+W else if Int.tdiv t W < Int.tdiv r W then r - W else r
def absI (x:Int):Int:=if x < 0 then -x else x
def dstI (W r t:Int):Int:=absI (Int.tmod r W - Int.tmod t W)+absI (Int.tdiv r W - Int.tdiv t W)
theorem coord {W H r x y:Int} (hx:0<=x) (hxW:x < W) (hy:0<=y) (hyH:y < H) (e:r=y * W+x):(Int.tmod r W=x/\Int.tdiv r W=y)/\0<=r/\r < W * H:=by
 subst e
 refine ⟨xy_of hx hxW hy,?_,?_⟩
 ·have:=Int.mul_nonneg hy (show 0<=W by omega);omega
 have:=Int.mul_le_mul_of_nonneg_right (show y+1<=H by omega) (show 0<=W by omega)
 rw [Int.add_mul,Int.one_mul,Int.mul_comm H W] at this;omega
theorem step_spec {W H r t:Int} (hW:1<=W) (r0:0<=r) (r1:r < W * H) (t0:0<=t) (t1:t < W * H) (hne:r≠t) :
  (0<=stepI W r t/\stepI W r t < W * H)/\dstI W (stepI W r t) t+1=dstI W r t:=by
 obtain ⟨⟨a1,a2⟩,⟨a3,a4⟩,a5⟩:=xy hW r0 r1
 obtain ⟨⟨b1,b2⟩,⟨b3,b4⟩,b5⟩:=xy hW t0 t1
 unfold stepI
 split
 ·obtain ⟨⟨c1,c2⟩,c3,c4⟩:=coord (W:=W) (H:=H) (r:=r+1) (x:=Int.tmod r W+1) (y:=Int.tdiv r W) (by omega) (by omega) a3 a4 (by omega)
  refine ⟨⟨c3,c4⟩,?_⟩
  unfold dstI absI
  rw [c1,c2]
  repeat' split
  all_goals omega
 split
 ·obtain ⟨⟨c1,c2⟩,c3,c4⟩:=coord (W:=W) (H:=H) (r:=r - 1) (x:=Int.tmod r W - 1) (y:=Int.tdiv r W) (by omega) (by omega) a3 a4 (by omega)
  refine ⟨⟨c3,c4⟩,?_⟩
  unfold dstI absI
  rw [c1,c2]
  repeat' split
  all_goals omega
 split
 ·obtain ⟨⟨c1,c2⟩,c3,c4⟩:=coord (W:=W) (H:=H) (r:=r+W) (x:=Int.tmod r W) (y:=Int.tdiv r W+1) (by omega) (by omega) (by omega) (by omega) (by rw [Int.add_mul,Int.one_mul];omega)
  refine ⟨⟨c3,c4⟩,?_⟩
  unfold dstI absI
  rw [c1,c2]
  repeat' split
  all_goals omega
 split
 ·obtain ⟨⟨c1,c2⟩,c3,c4⟩:=coord (W:=W) (H:=H) (r:=r - W) (x:=Int.tmod r W) (y:=Int.tdiv r W - 1) (by omega) (by omega) (by omega) (by omega) (by rw [Int.sub_mul,Int.one_mul];omega)
  refine ⟨⟨c3,c4⟩,?_⟩
  unfold dstI absI
  rw [c1,c2]
  repeat' split
  all_goals omega
 exfalso
 apply hne
 rw [<-a5,<-b5,show Int.tdiv r W=Int.tdiv t W by omega,show Int.tmod r W=Int.tmod t W by omega]
theorem dst_nonneg (W r t:Int):0<=dstI W r t:=by
 unfold dstI absI;(repeat' split)<;>omega
theorem dst_self (W t:Int):dstI W t t=0:=by unfold dstI absI;(repeat' split)<;>omega
theorem dst_bd {W H r t:Int} (hW:1<=W/\W<=8) (hH:1<=H/\H<=8) (r0:0<=r) (r1:r < W * H) (t0:0<=t) (t1:t < W * H):dstI W r t<=14:=by
 have a:=xy (H:=H) hW.1 r0 r1
 have b:=xy (H:=H) hW.1 t0 t1
 unfold dstI absI;(repeat' split)<;>omega
def rtF (W t:Int):Nat->Int->Rows
 |0,r=>[[.i r]]
 |n+1,r=>[.i r] :: rtF W t n (stepI W r t)
def rtL (W r t:Int):Rows:=rtF W t (dstI W r t).toNat r
theorem rtL_end (W t:Int):rtL W t t=[[.i t]]:=by rw [rtL,dst_self];rfl
theorem rtL_step {W H r t:Int} (hW:1<=W) (r0:0<=r) (r1:r < W * H) (t0:0<=t) (t1:t < W * H) (hne:r≠t):rtL W r t=[.i r] :: rtL W (stepI W r t) t:=by
 have h:=(step_spec (H:=H) hW r0 r1 t0 t1 hne).2
 have hn:=dst_nonneg W (stepI W r t) t
 rw [rtL,rtL,show (dstI W r t).toNat=(dstI W (stepI W r t) t).toNat+1 by omega]
 rfl
theorem rtF_len (W t:Int):∀(n:Nat) (r:Int),(rtF W t n r).length=n+1
 |0,_=>rfl
 |n+1,r=>by simp [rtF,rtF_len W t n]
theorem rtL_len (W r t:Int):(((rtL W r t).length:Nat):Int)=dstI W r t+1:=by
 have:=dst_nonneg W r t
 rw [rtL,rtF_len];omega
end HX

namespace HX
open Go Go.Proofs CX
def inM (W H:Int) (l:Rows):Prop:=∀r∈l,0<=wI r/\wI r < W * H
open Classical in
def knE (W H R:Int) (l:Rows):Int:=if chkS W H R=0 then (if inM W H l then 0 else 4) else 3
theorem law49 {pre:Nat->List (List D)->Prop} {fn:Nat->List (List D)->Nat->Nat->D} (hp17:∀x,pre 17 x) (hf17:∀a b c,fn 17 [[.i a,.i b,.i c]] 0 0=.i (chkS a b c))
  {a0_0 a0_1 a0_2:Int} {a1:Rows} (hlen:a1.length<=9223372036854775807) {R:Nat->Nat->D} (hR:R 0 0=.i (knE a0_0 a0_1 a0_2 a1)) :
  V49 pre fn a0_0 a0_1 a0_2 a1 R (fun _ i=>∃r:Nat,i=r/\r<=a1.length/\∀q < r,0<=wI (a1.getD q [])/\wI (a1.getD q []) < a0_0 * a0_1) (fun _ i=>(a1.length - i).toNat):=by
 have hi:∀n:Int,(D.i n).int=n:=fun _=>rfl
 constructor
 all_goals (try (intro x0 i hI;obtain ⟨r,hx,hr,hq⟩:=hI;subst hx))
 all_goals (intros;(try simp only [hf17,hp17,hi,kY,gt_wI] at *))
 case g1=>rename_i h;rw [hR,knE,if_neg h,chkS_ne h]
 all_goals (have hc:=‹chkS a0_0 a0_1 a0_2=0›;obtain ⟨c1,c2,c3⟩:=chkS_0 hc;have hwh:=wh_bd c1.1 c1.2 c2.1 c2.2)
 all_goals (try omega)
 case i0=>exact ⟨0,by omega,by omega,fun q hq=>by omega⟩
 case g6=>
  have hn:¬inM a0_0 a0_1 a1:=fun h=>by have:=(h _ (row_mem (l:=a1) (q:=r) (by omega))).1;omega
  rw [hR,knE,if_pos hc,if_neg hn]
 case g8=>
  have hn:¬inM a0_0 a0_1 a1:=fun h=>by have:=(h _ (row_mem (l:=a1) (q:=r) (by omega))).2;omega
  rw [hR,knE,if_pos hc,if_neg hn]
 case n10=>
  refine ⟨⟨r+1,by omega,by omega,fun q h=>?_⟩,by omega⟩
  by_cases e:q=r
  ·subst e;omega
  exact hq q (by omega)
 case g11=>
  have hn:inM a0_0 a0_1 a1:=fun x hx=>by obtain ⟨q,hq1,rfl⟩:=mem_row hx;exact hq q (by omega)
  rw [hR,knE,if_pos hc,if_pos hn]
theorem law50 {a0_0 a0_1 a0_2 a1:Int} (h:(1<=a0_0/\a0_0<=8)/\0<=a1/\a1<=64) {R:Nat->Nat->D} (hR0:R 0 0=.i (Int.tmod a1 a0_0)) (hR1:R 0 1=.i (Int.tdiv a1 a0_0)):V50 a0_0 a0_1 a0_2 a1 R:=by
 have hxy:=xy (W:=a0_0) (H:=a1+1) (r:=a1) h.1.1 h.2.1 (by have:=Int.mul_le_mul_of_nonneg_right h.1.1 (show 0<=a1+1 by omega);omega)
 constructor
 all_goals first
  |exact hR0
  |exact hR1
  |omega
def ovI (W r o:Int):Int:=if o=1 then r+1 else if o=2 then r+W else if o=4 then r - 1 else r - W
def legO (W H r o:Int):Prop:=(o=1/\Int.tmod r W+1 < W)\/(o=2/\Int.tdiv r W+1 < H)\/(o=4/\0 < Int.tmod r W)\/(o=8/\0 < Int.tdiv r W)
def okM (W H r:Int):Prop:=(1<=W/\W<=8)/\(1<=H/\H<=8)/\0<=r/\r < W * H
theorem turn_leg {W H r t:Int} (hr:okM W H r) (ht:okM W H t) (hne:r≠t):legO W H r (turnI W r t)/\ovI W r (turnI W r t)=stepI W r t:=by
 obtain ⟨w,h,r0,r1⟩:=hr
 obtain ⟨⟨a1,a2⟩,⟨a3,a4⟩,a5⟩:=xy w.1 r0 r1
 obtain ⟨⟨b1,b2⟩,⟨b3,b4⟩,b5⟩:=xy w.1 ht.2.2.1 ht.2.2.2
 unfold turnI stepI ovI legO
 split
 ·exact ⟨by omega,by rw [if_pos rfl]⟩
 split
 ·exact ⟨by omega,by rw [if_neg (by omega),if_neg (by omega),if_pos rfl]⟩
 split
 ·exact ⟨by omega,by rw [if_neg (by omega),if_pos rfl]⟩
 split
 ·exact ⟨by omega,by rw [if_neg (by omega),if_neg (by omega),if_neg (by omega)]⟩
 exfalso
 apply hne
 rw [<-a5,<-b5,show Int.tdiv r W=Int.tdiv t W by omega,show Int.tmod r W=Int.tmod t W by omega]
end HX

namespace HX
open Go Go.Proofs CX
theorem law88 {a0_0 a0_1 a0_2 a1 a2:Int} (h1:okM a0_0 a0_1 a1) (h2:legO a0_0 a0_1 a1 a2) {R:Nat->Nat->D} (hR0:R 0 0=.i (ovI a0_0 a1 a2)) (hR1:R 1 0=.b true):V88 a0_0 a0_1 a0_2 a1 a2 R:=by
 obtain ⟨w,h,r0,r1⟩:=h1
 obtain ⟨⟨x1,x2⟩,⟨x3,x4⟩,x5⟩:=xy w.1 r0 r1
 have hwh:=wh_bd w.1 w.2 h.1 h.2
 have e1:(Int.tdiv a1 a0_0+1) * a0_0=Int.tdiv a1 a0_0 * a0_0+a0_0:=by rw [Int.add_mul,Int.one_mul]
 have e2:(Int.tdiv a1 a0_0 - 1) * a0_0=Int.tdiv a1 a0_0 * a0_0 - a0_0:=by rw [Int.sub_mul,Int.one_mul]
 unfold legO at h2
 constructor
 all_goals (intros;(try omega))
 all_goals first
  |(rw [hR0,ovI];congr 1;(repeat' split)<;>omega)
  |(rw [hR1,kZ (by omega)])
theorem law56 {pre:Nat->List (List D)->Prop} {fn:Nat->List (List D)->Nat->Nat->D} (hp50:∀a b c k,(1<=a/\a<=8)->0<=k->k<=64->pre 50 [[.i a,.i b,.i c],[.i k]])
  (hf50:∀a b c k,fn 50 [[.i a,.i b,.i c],[.i k]] 0 0=.i (Int.tmod k a)) (hf50':∀a b c k,fn 50 [[.i a,.i b,.i c],[.i k]] 0 1=.i (Int.tdiv k a))
  {a0_0 a0_1 a0_2 a1 a2:Int} (h1:okM a0_0 a0_1 a1) (h2:okM a0_0 a0_1 a2) {R:Nat->Nat->D} (hR:R 0 0=.i (turnI a0_0 a1 a2)):V56 pre fn a0_0 a0_1 a0_2 a1 a2 R:=by
 obtain ⟨w,h,r0,r1⟩:=h1
 have hwh:=wh_bd w.1 w.2 h.1 h.2
 have hi:∀n:Int,(D.i n).int=n:=fun _=>rfl
 constructor
 case g0=>exact hp50 _ _ _ _ w r0 (by omega)
 case g1=>exact hp50 _ _ _ _ w h2.2.2.1 (by have:=h2.2.2.2;omega)
 all_goals (intros;(try simp only [hf50,hf50',hi] at *))
 all_goals (rw [hR,turnI])
 case g2=>rw [if_pos (by assumption)]
 case g3=>rw [if_neg (by assumption),if_pos (by assumption)]
 case g4=>rw [if_neg (by assumption),if_neg (by assumption),if_pos (by assumption)]
 case g5=>rw [if_neg (by assumption),if_neg (by assumption),if_neg (by assumption),if_pos (by assumption)]
 case g6=>rw [if_neg (by assumption),if_neg (by assumption),if_neg (by assumption),if_neg (by assumption)]
theorem knE_0 {W H R a b:Int} (h:knE W H R [[.i a],[.i b]]=0):okM W H a/\okM W H b:=by
 unfold knE at h
 split at h
 next hc=>
  obtain ⟨c1,c2,c3⟩:=chkS_0 hc
  split at h
  next hin=>
   have h1:=hin [.i a] (by simp)
   have h2:=hin [.i b] (by simp)
   exact ⟨⟨c1,c2,h1⟩,c1,c2,h2⟩
  cases h
 cases h
open Classical in
def dsV (W H R a b:Int):Int:=if knE W H R [[.i a],[.i b]]=0 then dstI W a b else 0
open Classical in
def rtV (W H R a b:Int):Rows:=if knE W H R [[.i a],[.i b]]=0 then rtL W a b else []
theorem law15 {pre:Nat->List (List D)->Prop} {fn:Nat->List (List D)->Nat->Nat->D} (hp49:∀x,pre 49 x) (hf49:∀a b c l,fn 49 [[.i a,.i b,.i c],[.l l]] 0 0=.i (knE a b c l))
  (hp50:∀a b c k,(1<=a/\a<=8)->0<=k->k<=64->pre 50 [[.i a,.i b,.i c],[.i k]])
  (hf50:∀a b c k,fn 50 [[.i a,.i b,.i c],[.i k]] 0 0=.i (Int.tmod k a)) (hf50':∀a b c k,fn 50 [[.i a,.i b,.i c],[.i k]] 0 1=.i (Int.tdiv k a))
  {a0_0 a0_1 a0_2 a1 a2:Int} {R:Nat->Nat->D} (hR0:R 0 0=.i (dsV a0_0 a0_1 a0_2 a1 a2)) (hR1:R 1 0=.i (knE a0_0 a0_1 a0_2 [[.i a1],[.i a2]])):V15 pre fn a0_0 a0_1 a0_2 a1 a2 R:=by
 have hi:∀n:Int,(D.i n).int=n:=fun _=>rfl
 constructor
 all_goals (intros;(try simp only [hf49,hp49,hf50,hf50',hi] at *))
 case g1=>rename_i h;rw [hR0,dsV,if_neg h]
 case g2=>exact hR1
 all_goals (have hk:=‹knE a0_0 a0_1 a0_2 [[.i a1],[.i a2]]=0›;obtain ⟨o1,o2⟩:=knE_0 hk;obtain ⟨w,h,r0,r1⟩:=o1;have hwh:=wh_bd w.1 w.2 h.1 h.2;have o3:=o2.2.2)
 case g3=>exact hp50 _ _ _ _ w r0 (by omega)
 case g4=>exact hp50 _ _ _ _ w o3.1 (by omega)
 all_goals (have x1:=xy w.1 r0 r1;have x2:=xy w.1 o3.1 o3.2)
 all_goals (try omega)
 all_goals (try (simp only [mxI_eq] at *;omega))
 case g10=>
  rw [hR0,dsV,if_pos hk,dstI]
  simp only [mxI_eq,absI]
  congr 1
  (repeat' split)<;>omega
 case g11=>rw [hR1,hk]
end HX

namespace HX
open Go Go.Proofs CX
theorem law19 {pre:Nat->List (List D)->Prop} {fn:Nat->List (List D)->Nat->Nat->D} (hp49:∀x,pre 49 x) (hf49:∀a b c l,fn 49 [[.i a,.i b,.i c],[.l l]] 0 0=.i (knE a b c l))
  (hp56:∀a b c r t,okM a b r->okM a b t->pre 56 [[.i a,.i b,.i c],[.i r],[.i t]]) (hf56:∀a b c r t,fn 56 [[.i a,.i b,.i c],[.i r],[.i t]] 0 0=.i (turnI a r t))
  (hp88:∀a b c r o,okM a b r->legO a b r o->pre 88 [[.i a,.i b,.i c],[.i r],[.i o]]) (hf88:∀a b c r o,fn 88 [[.i a,.i b,.i c],[.i r],[.i o]] 0 0=.i (ovI a r o))
  {a0_0 a0_1 a0_2 a1 a2:Int} {R:Nat->Nat->D} (hR0:R 0 0=.l (rtV a0_0 a0_1 a0_2 a1 a2)) (hR1:R 1 0=.i (knE a0_0 a0_1 a0_2 [[.i a1],[.i a2]])) :
  V19 pre fn a0_0 a0_1 a0_2 a1 a2 R (fun p r=>okM a0_0 a0_1 r/\p++rtL a0_0 r a2=rtL a0_0 a1 a2) (fun _ r=>(dstI a0_0 r a2).toNat):=by
 have hi:∀n:Int,(D.i n).int=n:=fun _=>rfl
 constructor
 all_goals (try (intro p r hI;obtain ⟨hr,hp⟩:=hI))
 all_goals (intros;(try simp only [hf49,hf56,hf88,hp49,hi] at *))
 case g1=>rename_i h;rw [hR0,rtV,if_neg h]
 case g2=>exact hR1
 all_goals (have hk:=‹knE a0_0 a0_1 a0_2 [[.i a1],[.i a2]]=0›;obtain ⟨o1,o2⟩:=knE_0 hk)
 case i0=>exact ⟨o1,rfl⟩
 case g8=>
  have e:=‹r=a2›
  subst e
  rw [hR0,rtV,if_pos hk,<-hp,rtL_end]
 case g9=>rw [hR1,hk]
 case g4=>
  have hlen:=congrArg List.length hp
  have hrl1:=rtL_len a0_0 a1 a2
  have hd1:=dst_bd o1.1 o1.2.1 o1.2.2.1 o1.2.2.2 o2.2.2.1 o2.2.2.2
  simp only [xK,zY,xI] at *
  omega
 all_goals (have hne:=‹¬r=a2›;have htl:=turn_leg hr o2 hne;obtain ⟨l1,l2⟩:=htl)
 case g5=>exact hp56 _ _ _ _ _ hr o2
 case g6=>exact hp88 _ _ _ _ _ hr l1
 all_goals (have hs:=step_spec (H:=a0_1) hr.1.1 hr.2.2.1 hr.2.2.2 o2.2.2.1 o2.2.2.2 hne;have hn:=dst_nonneg a0_0 (stepI a0_0 r a2) a2)
 case n7=>
  rw [l2]
  refine ⟨⟨⟨hr.1,hr.2.1,hs.1⟩,?_⟩,by omega⟩
  rw [<-hp,rtL_step (H:=a0_1) hr.1.1 hr.2.2.1 hr.2.2.2 o2.2.2.1 o2.2.2.2 hne,qM]
  rfl
end HX

namespace HX
open Go Go.Proofs CX
def setT (W t:Int) (o:Rows) (r:Int):Rows:=o.set r.toNat [.i (Ar.std.bit .or .i64 (wI (o.getD r.toNat [])) (turnI W r t))]
def foldR (W t:Int) (o l:Rows):Rows:=l.foldl (fun o x=>setT W t o (wI x)) o
def foldT (W s:Int) (o l:Rows):Rows:=l.foldl (fun o x=>foldR W (wI x) o (rtL W s (wI x))) o
def treL (W n s:Int) (l:Rows):Rows:=foldT W s (List.replicate n.toNat [.i 0]) l
open Classical in
def treE (W H R s:Int) (l:Rows):Int:=if knE W H R ([[.i s]]++l)=0 then (if ((l.length:Nat):Int)=0 then 2 else 0) else knE W H R ([[.i s]]++l)
open Classical in
def treV (W H R s:Int) (l:Rows):Rows:=if treE W H R s l=0 then treL W (W * H) s l else []
theorem setT_len (W t:Int) (o:Rows) (r:Int):(setT W t o r).length=o.length:=by simp [setT]
theorem foldT_cons {W s:Int} {o l:Rows} {q:Nat} (h:q < l.length):foldT W s o (l.drop q)=foldT W s (foldR W (wI (l.getD q [])) o (rtL W s (wI (l.getD q [])))) (l.drop (q+1)):=by
 rw [foldT,drop_row h,List.foldl_cons];rfl
theorem rtF_ok {W H t:Int} (ht:okM W H t):∀(n:Nat) (r:Int),okM W H r->(dstI W r t).toNat=n->∀x∈rtF W t n r,okM W H (wI x)
 |0,r,hr,_,x,hx=>by
  simp only [rtF,zL,List.not_mem_nil,or_false] at hx
  subst hx;exact hr
 |n+1,r,hr,hn,x,hx=>by
  simp only [rtF,zL] at hx
  have hne:r≠t:=fun e=>by subst e;rw [dst_self] at hn;cases hn
  have hs:=step_spec (H:=H) hr.1.1 hr.2.2.1 hr.2.2.2 ht.2.2.1 ht.2.2.2 hne
  have h0:=dst_nonneg W (stepI W r t) t
  rcases hx with rfl |hx
  ·exact hr
  exact rtF_ok ht n _ ⟨hr.1,hr.2.1,hs.1⟩ (by omega) x hx
theorem knE_all {W H R s:Int} {l:Rows} (h:knE W H R ([[.i s]]++l)=0):okM W H s/\∀x∈l,okM W H (wI x):=by
 unfold knE at h
 split at h
 next hc=>
  obtain ⟨c1,c2,c3⟩:=chkS_0 hc
  split at h
  next hin=>
   exact ⟨⟨c1,c2,hin [.i s] (by simp)⟩,fun x hx=>⟨c1,c2,hin x (by simp [hx])⟩⟩
  cases h
 cases h
theorem law22 {pre:Nat->List (List D)->Prop} {fn:Nat->List (List D)->Nat->Nat->D} (hp49:∀x,pre 49 x) (hf49:∀a b c l,fn 49 [[.i a,.i b,.i c],[.l l]] 0 0=.i (knE a b c l))
  (hp56:∀a b c r t,okM a b r->okM a b t->pre 56 [[.i a,.i b,.i c],[.i r],[.i t]]) (hf56:∀a b c r t,fn 56 [[.i a,.i b,.i c],[.i r],[.i t]] 0 0=.i (turnI a r t))
  (hp88:∀a b c r o,okM a b r->legO a b r o->pre 88 [[.i a,.i b,.i c],[.i r],[.i o]]) (hf88:∀a b c r o,fn 88 [[.i a,.i b,.i c],[.i r],[.i o]] 0 0=.i (ovI a r o))
  {a0_0 a0_1 a0_2 a1:Int} {a2:Rows} (hlen:a2.length<=100) {R:Nat->Nat->D} (hR0:R 0 0=.l (treV a0_0 a0_1 a0_2 a1 a2)) (hR1:R 1 0=.i (treE a0_0 a0_1 a0_2 a1 a2)) :
  V22 pre fn a0_0 a0_1 a0_2 a1 a2 R
   (fun i o=>∃q:Nat,i=q/\q<=a2.length/\((o.length:Nat):Int)=a0_0 * a0_1/\foldT a0_0 a1 o (a2.drop q)=treL a0_0 (a0_0 * a0_1) a1 a2) (fun i _=>(a2.length - i).toNat)
   (fun i o o' r=>okM a0_0 a0_1 r/\((o'.length:Nat):Int)=a0_0 * a0_1/\foldR a0_0 (wI (a2.getD i.toNat [])) o' (rtL a0_0 r (wI (a2.getD i.toNat [])))=foldR a0_0 (wI (a2.getD i.toNat [])) o (rtL a0_0 a1 (wI (a2.getD i.toNat []))))
   (fun i _ _ r=>(dstI a0_0 r (wI (a2.getD i.toNat []))).toNat):=by
 have hi:∀n:Int,(D.i n).int=n:=fun _=>rfl
 constructor
 all_goals (try (intro i o hI;obtain ⟨q,hx,hq,hol,ho⟩:=hI;subst hx))
 all_goals (try (intro o' r hI1;obtain ⟨hr,hol',hf⟩:=hI1))
 all_goals (intros;(try simp only [hf49,hf56,hf88,hp49,hi,gt_wI,kY] at *))
 case g0=>exact ⟨by simp only [zY,xI];omega,by simp only [zY,xI];omega⟩
 case g2=>rename_i h;rw [hR0,treV,treE,if_neg h,if_neg h]
 case g3=>rename_i h;rw [hR1,treE,if_neg h]
 all_goals (have hk:=‹knE a0_0 a0_1 a0_2 ([[.i a1]]++a2)=0›;obtain ⟨o1,o2⟩:=knE_all hk;have hwh:=wh_bd o1.1.1 o1.1.2 o1.2.1.1 o1.2.1.2)
 case g4=>rw [hR0,treV,if_neg (by rw [treE,if_pos hk,if_pos ‹((a2.length:Nat):Int)=0›];decide)]
 case g5=>rw [hR1,treE,if_pos hk,if_pos ‹((a2.length:Nat):Int)=0›]
 case i0=>exact ⟨0,rfl,by omega,by simp only [xC];omega,rfl⟩
 all_goals (try (have hE:treE a0_0 a0_1 a0_2 a1 a2=0:=by rw [treE,if_pos hk,if_neg (by assumption)]))
 case g29=>
  rw [hR0,treV,if_pos hE,<-ho,drop_end (by omega)];rfl
 case g30=>rw [hR1,hE]
 case i1=>exact ⟨o1,hol,trivial⟩
 all_goals (try omega)
 all_goals (try (simp only [show ∀x:Int,x * Int.ofNat 1=x * 1 from fun _=>rfl,show ∀x:Int,x * Int.ofNat 8=x * 8 from fun _=>rfl];omega))
 all_goals (have hqr:q < a2.length:=by omega)
 all_goals (have ht:=o2 _ (row_mem hqr))
 all_goals (generalize htt:wI (a2.getD q [])=t at *)
 all_goals (have hr3:=hr.2.2)
 all_goals (try omega)
 case g20=>exact hp56 _ _ _ _ _ hr ht
 case n28=>
  have e:=‹r=t›
  refine ⟨⟨q+1,by omega,by omega,by rw [xN];exact hol',?_⟩,by omega⟩
  rw [<-ho,foldT_cons hqr,htt,<-hf,e,rtL_end]
  rfl
 all_goals (have hne:=‹¬r=t›;have htl:=turn_leg hr ht hne;obtain ⟨l1,l2⟩:=htl)
 case g24=>exact hp56 _ _ _ _ _ hr ht
 case g25=>exact hp88 _ _ _ _ _ hr l1
 all_goals (have hs:=step_spec (H:=a0_1) hr.1.1 hr.2.2.1 hr.2.2.2 ht.2.2.1 ht.2.2.2 hne;have hn:=dst_nonneg a0_0 (stepI a0_0 r t) t)
 case n26=>
  rw [l2]
  refine ⟨⟨⟨hr.1,hr.2.1,hs.1⟩,by rw [xN];exact hol',?_⟩,by omega⟩
  rw [<-hf,rtL_step (H:=a0_1) hr.1.1 hr.2.2.1 hr.2.2.2 ht.2.2.1 ht.2.2.2 hne]
  rfl
theorem inM_cons {W H s:Int} {l:Rows}:inM W H ([[.i s]]++l)↔(0<=s/\s < W * H)/\inM W H l:=by
 constructor
 ·intro h;exact ⟨h [.i s] (by simp),fun r hr=>h r (by simp [hr])⟩
 intro h r hr
 simp only [List.cons_append,qI,zL] at hr
 rcases hr with rfl |hr
 ·exact h.1
 exact h.2 r hr
theorem knE_good {W H R a:Int} {l:Rows} (hc:chkS W H R=0) (ha:okM W H a) {q:Nat} (h:∀j < q,0<=wI (l.getD j [])/\wI (l.getD j []) < W * H) (e:q=l.length):knE W H R ([[.i a]]++l)=0:=by
 rw [knE,if_pos hc,if_pos (inM_cons.2 ⟨ha.2.2,fun r hr=>by obtain ⟨j,hj,rfl⟩:=mem_row hr;exact h j (by omega)⟩)]
theorem rtV_ok {W H R a t:Int} (hc:chkS W H R=0) (ha:okM W H a) (ht:okM W H t):rtV W H R a t=rtL W a t:=by
 have e:inM W H [[.i a],[.i t]]:=fun r hr=>by
  simp only [zL,List.not_mem_nil,or_false] at hr
  rcases hr with rfl |rfl
  ·exact ha.2.2
  exact ht.2.2
 rw [rtV,if_pos (by rw [knE,if_pos hc,if_pos e])]
theorem rtL_15 {W H a t:Int} (ha:okM W H a) (ht:okM W H t):(rtL W a t).length<=15:=by
 have h1:=rtL_len W a t
 have h2:=dst_bd ha.1 ha.2.1 ha.2.2.1 ha.2.2.2 ht.2.2.1 ht.2.2.2
 omega
end HX

namespace HX
open Go Go.Proofs CX
theorem wr64 {n:Nat} (h:n < 9223372036854775808):IntKind.wrap .i64 (n:Int)=(n:Int):=wrap_in rfl ⟨by show -9223372036854775808<=(n:Int);omega,by show (n:Int)<=9223372036854775807;omega⟩
theorem ofN {n:Nat} (h:n < 18446744073709551616):(BitVec.ofInt 64 (n:Int)).toNat=n:=by
 rw [BitVec.toNat_ofInt]
 show (((n:Nat):Int) % ((18446744073709551616:Nat):Int)).toNat=n
 rw [<-Int.natCast_emod,kY,Nat.mod_eq_of_lt h]
theorem and_nat {a b:Nat} (ha:a < 9223372036854775808) (hb:b < 9223372036854775808):bitX .and .i64 (a:Int) (b:Int)=((a &&& b:Nat):Int):=by
 show IntKind.wrap .i64 ((BitVec.ofInt 64 (a:Int) &&& BitVec.ofInt 64 (b:Int)).toNat:Int)=_
 rw [BitVec.toNat_and,ofN (by omega),ofN (by omega),wr64 (Nat.lt_of_le_of_lt Nat.and_le_left ha)]
end HX
