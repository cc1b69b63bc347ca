/-
  MeshSame: for all entries and keys, the function returns true, and its arguments read as they did.
-/
import Derived.Test.YtcpndododgchbaaMeshSame10
import Derived.Test.YtcpndododgchbaaRows
set_option linter.all false
noncomputable section
namespace HX
open Go Go.Proofs CX
set_option maxHeartbeats 4000000 in
set_option maxRecDepth 100000 in
theorem walk28 {ro A pre fn} (hE:EnvOk ⟨A,(cxE ro),ksF,sigL [(31,⟨[(false,[.sl [.int .i64,.int .i64,.int .i64]]),(false,[.int .i64])],[(false,[.int .i64]),(false,[.bool])],false⟩),(93,⟨[(true,[.int .i64,.int .i64,.int .i64]),(true,[.int .i64,.int .i64,.int .i64])],[(true,[.int .i64,.int .i64,.int .i64]),(false,[.bool])],false⟩),(62,⟨[(false,[.sl [.int .i64,.int .i64,.int .i64]]),(false,[.fnc 63])],[(false,[.bool])],false⟩),(65,⟨[(false,[.sl [.int .i64]]),(false,[.fnc 66])],[(false,[.bool])],false⟩),(67,⟨[(false,[.sl [.int .i64,.int .i64,.int .i64]]),(false,[.pt (.sl [.int .i64])]),(false,[.pt (.sl [.int .i64])])],[(false,[.bool])],false⟩)],pre,fn⟩) {P:List (List D)->Prop} {res:List (List D)->Nat->Nat->D}
  (hv:∀(a0:Rows) (a1:Rows),ShR [.int .i64,.int .i64,.int .i64] a0->ShR [.int .i64] a1->P [[.l a0],[.l a1]]->V28 pre fn a0 a1 (res [[.l a0],[.l a1]])) :
  PureC (cxE ro) 28 ⟨[(false,[.sl [.int .i64,.int .i64,.int .i64]]),(false,[.sl [.int .i64]])],[(false,[.sl [.int .i64,.int .i64,.int .i64]]),(false,[.int .i64])],false⟩ P res:=by
 have hA:=hE.A
 simp only [] at hA
 have hinl:∀f fn,inlL [(68,Try.f68),(69,Try.f69),(94,Try.f94)] f=some fn->(cxE ro).fn f=some fn/\(cxE ro).ext f=none:=Inls.ok (by repeat (first |exact .nil |refine .cons rfl rfl ?_))
 refine PureC.of_vc hE hinl 6 (f:=28) (fn:=Try.f28) ⟨rfl,rfl⟩ ?_
 intro a0 ha0 a1 ha1 hP
 obtain ⟨R,hR⟩:∃R,res [[.l a0],[.l a1]]=R:=⟨_,rfl⟩
 rw [hR]
 have hV:=hv a0 a1 ha0 ha1 hP
 rw [hR] at hV
 clear hR hP hv
 cbv
 repeat' (first |(refine Br.mk (fun _=>?_) (fun _=>?_)<;>cbv) |(refine NilB.mk (fun _=>?_) ?_<;>cbv) |refine And.intro ?_ ?_ |exact True.intro)
 next p0a=>
  subst hA;exact hV.g0 (dt p0a)
 next p1a=>
  subst hA;exact hV.g1 (dt p1a)
 next p2a p2b=>
  subst hA;exact hV.g2 (df p2a) (dt p2b)
 next p3a p3b=>
  subst hA;exact hV.g3 (df p3a) (dt p3b)
 next p4a p4b=>
  subst hA;exact hV.g4 (df p4a) (df p4b)
 next p5a p5b p5c=>
  subst hA;exact hV.g5 (df p5a) (df p5b) p5c
 next p6a p6b p6c=>
  subst hA;exact hV.g6 (df p6a) (df p6b) p6c
 next p7a p7b p7c=>
  subst hA;exact hV.g7 (df p7a) (df p7b) p7c
 next p8a p8b p8c p8d=>
  subst hA;exact hV.g8 (df p8a) (df p8b) p8c p8d
 next p9a p9b p9c p9d=>
  subst hA;exact hV.g9 (df p9a) (df p9b) p9c p9d
 next p10a p10b p10c p10d=>
  subst hA;exact hV.g10 (df p10a) (df p10b) p10c p10d
 next p11a p11b p11c p11d=>
  subst hA;exact hV.g11 (df p11a) (df p11b) p11c p11d
 next p12a p12b p12c p12d=>
  subst hA;exact hV.g12 (df p12a) (df p12b) p12c p12d
 next p13a p13b p13c p13d=>
  subst hA;exact hV.g13 (df p13a) (df p13b) p13c p13d
 rename_i p14a p14b p14c p14d
 refine Leaf.gen fun Uz hσz=>?_
 obtain ⟨I0,m0,i0,c0⟩:V28l0 pre fn a0 a1 R:=by subst hA;exact hV.l0 (df p14a) (df p14b) p14c p14d
 refine loopB hE hinl 6 [] [] [(4,[])] (fun x:Int×Rows=>[.i x.1,.l x.2]) (fun x=>I0 x.1 x.2) (fun x=>m0 x.1 x.2) (0,A.rep (A.toNat (A.nat (A.len a1))) [D.i 0]) (by subst hA;exact i0) ?_ ?_<;>subst hσz
 ·clear hE hinl hV;cbv;(try (repeat' (first |exact True.intro |rfl |assumption |apply And.intro)))
 intro ⟨b0,b1⟩ hI0 K0 hK0
 have h0:=c0 _ _ hI0
 cbv
 repeat' (first |(refine Br.mk (fun _=>?_) (fun _=>?_)<;>cbv) |(refine NilB.mk (fun _=>?_) ?_<;>cbv) |refine And.intro ?_ ?_ |exact True.intro)
 next p15a=>
  subst hA;exact h0.g15 (dt p15a)
 next p16a=>
  subst hA;exact h0.g16 (dt p16a)
 next p17a=>
  subst hA;exact h0.g17 (dt p17a)
 next p18a=>
  subst hA;exact h0.g18 (dt p18a)
 next p19a=>
  subst hA;exact h0.g15 (dt p19a)
 next p20a=>
  subst hA;exact h0.g20 (dt p20a)
 next p21a=>
  subst hA;exact h0.g21 (dt p21a)
 next p22a=>
  subst hA;exact h0.g22 (dt p22a)
 next p23a=>
  refine hK0 (A.add b0 1,A.set b1 (A.toNat b0) [D.i (A.di (fn 31 [[D.l a0],[D.i (A.di (A.get a1 (A.toNat b0) 0))]] 0 0))]) _ ?_ ?_ ?_
  ·subst hA;exact (h0.n23 (dt p23a)).1
  ·subst hA;exact (h0.n23 (dt p23a)).2
  clear hE hinl hV hK0;cbv;(try (repeat' (first |exact True.intro |rfl |assumption |apply And.intro)))
 next p24a p24b=>
  refine Leaf.gen fun Uz hσz=>?_
  obtain ⟨I1,m1,i1,c1⟩:V28l1 pre fn a1 R b1:=by subst hA;exact h0.l1 (df p24a) p24b
  refine loopC hE hinl 6 [10] [] [] [] (fun x:Rows×Bool=>[.l x.1,.b x.2]) (fun x=>I1 x.1 x.2) (fun x=>m1 x.1 x.2) ([],true) (by subst hA;exact i1) ?_ ?_<;>subst hσz
  ·clear hE hinl hV;cbv;(try (repeat' (first |exact True.intro |rfl |assumption |apply And.intro)))
  intro ⟨d0,d1⟩ hI1 K1 hK1
  have h1:=c1 _ _ hI1
  cbv
  repeat' (first |(refine Br.mk (fun _=>?_) (fun _=>?_)<;>cbv) |(refine NilB.mk (fun _=>?_) ?_<;>cbv) |refine And.intro ?_ ?_ |exact True.intro)
  next p25a=>
   refine Leaf.gen fun Uz hσz=>?_
   obtain ⟨I2,m2,i2,c2⟩:V28l2 pre fn a1 b1 d0 d1 I1 m1:=by subst hA;exact h1.l2 p25a
   refine loopB hE hinl 6 [] [] [] (fun x:Rows×Bool×Int=>[.l x.1,.b x.2.1,.i x.2.2]) (fun x=>I2 x.1 x.2.1 x.2.2) (fun x=>m2 x.1 x.2.1 x.2.2) ([],false,0) (by subst hA;exact i2) ?_ ?_<;>subst hσz
   ·clear hE hinl hV;cbv;(try (repeat' (first |exact True.intro |rfl |assumption |apply And.intro)))
   intro ⟨e0,e1,e2⟩ hI2 K2 hK2
   have h2:=c2 _ _ _ hI2
   cbv
   repeat' (first |(refine Br.mk (fun _=>?_) (fun _=>?_)<;>cbv) |(refine NilB.mk (fun _=>?_) ?_<;>cbv) |refine And.intro ?_ ?_ |exact True.intro)
   next p26a=>
    subst hA;exact h2.g26 (dt p26a)
   next p27a=>
    subst hA;exact h2.g27 (dt p27a)
   next p28a=>
    subst hA;exact h2.g28 (dt p28a)
   next p29a=>
    subst hA;exact h2.g29 (dt p29a)
   next p30a=>
    refine Leaf.gen fun Uz hσz=>?_
    obtain ⟨I3,m3,i3,c3⟩:V28l3 pre fn a1 b1 d0 d1 e0 e1 e2 I1 m1 I2 m2:=by subst hA;exact h2.l3 (dt p30a)
    refine loopB hE hinl 6 [] [] [] (fun x:Rows×Bool×Int=>[.l x.1,.b x.2.1,.i x.2.2]) (fun x=>I3 x.1 x.2.1 x.2.2) (fun x=>m3 x.1 x.2.1 x.2.2) (e0,e1,A.add e2 1) (by subst hA;exact i3) ?_ ?_<;>subst hσz
    ·clear hE hinl hV;cbv;(try (repeat' (first |exact True.intro |rfl |assumption |apply And.intro)))
    intro ⟨f0,f1,f2⟩ hI3 K3 hK3
    have h3:=c3 _ _ _ hI3
    cbv
    repeat' (first |(refine Br.mk (fun _=>?_) (fun _=>?_)<;>cbv) |(refine NilB.mk (fun _=>?_) ?_<;>cbv) |refine And.intro ?_ ?_ |exact True.intro)
    next p31a=>
     subst hA;exact h3.g31 (dt p31a)
    next p32a=>
     subst hA;exact h3.g32 (dt p32a)
    next p33a=>
     subst hA;exact h3.g33 (dt p33a)
    next p34a=>
     subst hA;exact h3.g33 (dt p34a)
    next p35a=>
     subst hA;exact h3.g35 (dt p35a)
    next p36a p36b=>
     subst hA;exact h3.g36 (dt p36a) (nt p36b)
    next p37a p37b=>
     refine hK3 (f0,f1,A.add f2 1) _ ?_ ?_ ?_
     ·subst hA;exact (h3.n37 (dt p37a) (nt p37b)).1
     ·subst hA;exact (h3.n37 (dt p37a) (nt p37b)).2
     clear hE hinl hV hK3;cbv;(try (repeat' (first |exact True.intro |rfl |assumption |apply And.intro)))
    next p38a p38b=>
     subst hA;exact h3.g38 (dt p38a) (nf p38b)
    next p39a p39b p39c=>
     exfalso;subst hA;simp [Ar.std] at p39c
    next p40a p40b p40c=>
     exfalso;subst hA;simp [Ar.std] at p40c
    next p41a p41b p41c=>
     subst hA;exact h3.g41 (dt p41a) (nf p41b) p41c
    next p42a p42b p42c=>
     subst hA;exact h3.g42 (dt p42a) (nf p42b) p42c
    next p43a p43b p43c=>
     subst hA;exact h3.g43 (dt p43a) (nf p43b) p43c
    next p44a p44b p44c=>
     subst hA;exact h3.g44 (dt p44a) (nf p44b) p44c
    next p45a p45b p45c=>
     subst hA;exact h3.g45 (dt p45a) (nf p45b) p45c
    next p46a p46b p46c=>
     subst hA;exact h3.g46 (dt p46a) (nf p46b) p46c
    next p47a p47b p47c=>
     subst hA;exact h3.g47 (dt p47a) (nf p47b) p47c
    next p48a p48b p48c p48d=>
     subst hA;exact h3.g48 (dt p48a) (nf p48b) p48c (dt p48d)
    next p49a p49b p49c p49d=>
     subst hA;exact h3.g49 (dt p49a) (nf p49b) p49c (dt p49d)
    next p50a p50b p50c p50d=>
     subst hA;exact h3.g50 (dt p50a) (nf p50b) p50c (dt p50d)
    next p51a p51b p51c p51d=>
     subst hA;exact h3.g51 (dt p51a) (nf p51b) p51c (dt p51d)
    next p52a p52b p52c p52d p52e=>
     refine hK1 (A.set (A.app [] d0) (A.toNat e2) [D.i (A.di (fn 93 [[D.i (A.di (A.get d0 (A.toNat e2) 0)),D.i (A.di (A.get d0 (A.toNat e2) 1)),D.i (A.di (A.get d0 (A.toNat e2) 2))],[D.i (A.di (A.get d0 (A.toNat f2) 0)),D.i (A.di (A.get d0 (A.toNat f2) 1)),D.i (A.di (A.get d0 (A.toNat f2) 2))]] 0 0)),D.i (A.di (fn 93 [[D.i (A.di (A.get d0 (A.toNat e2) 0)),D.i (A.di (A.get d0 (A.toNat e2) 1)),D.i (A.di (A.get d0 (A.toNat e2) 2))],[D.i (A.di (A.get d0 (A.toNat f2) 0)),D.i (A.di (A.get d0 (A.toNat f2) 1)),D.i (A.di (A.get d0 (A.toNat f2) 2))]] 0 1)),D.i (A.di (fn 93 [[D.i (A.di (A.get d0 (A.toNat e2) 0)),D.i (A.di (A.get d0 (A.toNat e2) 1)),D.i (A.di (A.get d0 (A.toNat e2) 2))],[D.i (A.di (A.get d0 (A.toNat f2) 0)),D.i (A.di (A.get d0 (A.toNat f2) 1)),D.i (A.di (A.get d0 (A.toNat f2) 2))]] 0 2))],true) _ ?_ ?_ ?_
     ·subst hA;exact (h3.n52 (dt p52a) (nf p52b) p52c (dt p52d) p52e).1
     ·subst hA;exact (h3.n52 (dt p52a) (nf p52b) p52c (dt p52d) p52e).2
     clear hE hinl hV hK1;cbv;(try (repeat' (first |exact True.intro |rfl |assumption |apply And.intro)))
    next p53a p53b p53c p53d p53e=>
     subst hA;exact h3.g53 (dt p53a) (nf p53b) p53c (dt p53d) p53e
    next p54a p54b p54c p54d p54e=>
     refine hK3 (f0,f1,A.add f2 1) _ ?_ ?_ ?_
     ·subst hA;exact (h3.n54 (dt p54a) (nf p54b) p54c (dt p54d) p54e).1
     ·subst hA;exact (h3.n54 (dt p54a) (nf p54b) p54c (dt p54d) p54e).2
     clear hE hinl hV hK3;cbv;(try (repeat' (first |exact True.intro |rfl |assumption |apply And.intro)))
    next p55a p55b p55c p55d=>
     subst hA;exact h3.g55 (dt p55a) (nf p55b) p55c (df p55d)
    next p56a p56b p56c p56d=>
     subst hA;exact h3.g56 (dt p56a) (nf p56b) p56c (df p56d)
    next p57a p57b p57c p57d=>
     subst hA;exact h3.g57 (dt p57a) (nf p57b) p57c (df p57d)
    next p58a p58b p58c p58d=>
     subst hA;exact h3.g58 (dt p58a) (nf p58b) p58c (df p58d)
    next p59a p59b p59c p59d=>
     subst hA;exact h3.g59 (dt p59a) (nf p59b) p59c (df p59d)
    next p60a p60b p60c p60d=>
     subst hA;exact h3.g60 (dt p60a) (nf p60b) p60c (df p60d)
    next p61a p61b p61c p61d=>
     subst hA;exact h3.g61 (dt p61a) (nf p61b) p61c (df p61d)
    next p62a p62b p62c p62d=>
     subst hA;exact h3.g62 (dt p62a) (nf p62b) p62c (df p62d)
    next p63a p63b p63c p63d=>
     subst hA;exact h3.g63 (dt p63a) (nf p63b) p63c (df p63d)
    next p64a p64b p64c p64d=>
     subst hA;exact h3.g64 (dt p64a) (nf p64b) p64c (df p64d)
    next p65a p65b p65c p65d=>
     subst hA;exact h3.g65 (dt p65a) (nf p65b) p65c (df p65d)
    next p66a p66b p66c p66d=>
     subst hA;exact h3.g66 (dt p66a) (nf p66b) p66c (df p66d)
    next p67a p67b p67c p67d=>
     subst hA;exact h3.g67 (dt p67a) (nf p67b) p67c (df p67d)
    next p68a p68b p68c p68d=>
     subst hA;exact h3.g68 (dt p68a) (nf p68b) p68c (df p68d)
    next p69a p69b p69c p69d=>
     subst hA;exact h3.g69 (dt p69a) (nf p69b) p69c (df p69d)
    next p70a p70b p70c p70d=>
     subst hA;exact h3.g70 (dt p70a) (nf p70b) p70c (df p70d)
    next p71a p71b p71c p71d p71e=>
     refine hK1 (A.sub' (A.set (A.app (A.sub' (A.app (A.sub' (A.app [] d0) 0 (A.toNat f2)) (A.app (A.sub' (A.app [] d0) (A.toNat (A.add f2 1)) (A.nsub (A.len (A.app [] d0)) (A.toNat (A.add f2 1)))) (A.sub' (A.app [] d0) (A.nadd (A.toNat f2) (A.nsub (A.len (A.app [] d0)) (A.toNat (A.add f2 1)))) (A.nsub (A.len (A.app [] d0)) (A.nadd (A.toNat f2) (A.nsub (A.len (A.app [] d0)) (A.toNat (A.add f2 1)))))))) 0 (A.toNat (A.nat (A.nadd (A.toNat f2) (A.nsub (A.len (A.app [] d0)) (A.toNat (A.add f2 1))))))) (A.app (A.rep (A.nsub (A.toNat (A.nat (A.len (A.app [] d0)))) (A.toNat (A.nat (A.nadd (A.toNat f2) (A.nsub (A.len (A.app [] d0)) (A.toNat (A.add f2 1))))))) [D.i 0,D.i 0,D.i 0]) (A.sub' (A.app (A.sub' (A.app [] d0) 0 (A.toNat f2)) (A.app (A.sub' (A.app [] d0) (A.toNat (A.add f2 1)) (A.nsub (A.len (A.app [] d0)) (A.toNat (A.add f2 1)))) (A.sub' (A.app [] d0) (A.nadd (A.toNat f2) (A.nsub (A.len (A.app [] d0)) (A.toNat (A.add f2 1)))) (A.nsub (A.len (A.app [] d0)) (A.nadd (A.toNat f2) (A.nsub (A.len (A.app [] d0)) (A.toNat (A.add f2 1)))))))) (A.nadd (A.toNat (A.nat (A.nadd (A.toNat f2) (A.nsub (A.len (A.app [] d0)) (A.toNat (A.add f2 1)))))) (A.nsub (A.toNat (A.nat (A.len (A.app [] d0)))) (A.toNat (A.nat (A.nadd (A.toNat f2) (A.nsub (A.len (A.app [] d0)) (A.toNat (A.add f2 1)))))))) (A.nsub (A.len (A.app (A.sub' (A.app [] d0) 0 (A.toNat f2)) (A.app (A.sub' (A.app [] d0) (A.toNat (A.add f2 1)) (A.nsub (A.len (A.app [] d0)) (A.toNat (A.add f2 1)))) (A.sub' (A.app [] d0) (A.nadd (A.toNat f2) (A.nsub (A.len (A.app [] d0)) (A.toNat (A.add f2 1)))) (A.nsub (A.len (A.app [] d0)) (A.nadd (A.toNat f2) (A.nsub (A.len (A.app [] d0)) (A.toNat (A.add f2 1))))))))) (A.nadd (A.toNat (A.nat (A.nadd (A.toNat f2) (A.nsub (A.len (A.app [] d0)) (A.toNat (A.add f2 1)))))) (A.nsub (A.toNat (A.nat (A.len (A.app [] d0)))) (A.toNat (A.nat (A.nadd (A.toNat f2) (A.nsub (A.len (A.app [] d0)) (A.toNat (A.add f2 1)))))))))))) (A.nadd 0 (A.toNat e2)) [D.i (A.di (fn 93 [[D.i (A.di (A.get d0 (A.toNat e2) 0)),D.i (A.di (A.get d0 (A.toNat e2) 1)),D.i (A.di (A.get d0 (A.toNat e2) 2))],[D.i (A.di (A.get d0 (A.toNat f2) 0)),D.i (A.di (A.get d0 (A.toNat f2) 1)),D.i (A.di (A.get d0 (A.toNat f2) 2))]] 0 0)),D.i (A.di (fn 93 [[D.i (A.di (A.get d0 (A.toNat e2) 0)),D.i (A.di (A.get d0 (A.toNat e2) 1)),D.i (A.di (A.get d0 (A.toNat e2) 2))],[D.i (A.di (A.get d0 (A.toNat f2) 0)),D.i (A.di (A.get d0 (A.toNat f2) 1)),D.i (A.di (A.get d0 (A.toNat f2) 2))]] 0 1)),D.i (A.di (fn 93 [[D.i (A.di (A.get d0 (A.toNat e2) 0)),D.i (A.di (A.get d0 (A.toNat e2) 1)),D.i (A.di (A.get d0 (A.toNat e2) 2))],[D.i (A.di (A.get d0 (A.toNat f2) 0)),D.i (A.di (A.get d0 (A.toNat f2) 1)),D.i (A.di (A.get d0 (A.toNat f2) 2))]] 0 2))]) 0 (A.nadd (A.toNat f2) (A.nsub (A.len (A.app [] d0)) (A.toNat (A.add f2 1)))),true) _ ?_ ?_ ?_
     ·subst hA;exact (h3.n71 (dt p71a) (nf p71b) p71c (df p71d) p71e).1
     ·subst hA;exact (h3.n71 (dt p71a) (nf p71b) p71c (df p71d) p71e).2
     clear hE hinl hV hK1;cbv;(try (repeat' (first |exact True.intro |rfl |assumption |apply And.intro)))
    next p72a p72b p72c p72d p72e=>
     subst hA;exact h3.g72 (dt p72a) (nf p72b) p72c (df p72d) p72e
    next p73a p73b p73c p73d p73e=>
     refine hK3 (f0,f1,A.add f2 1) _ ?_ ?_ ?_
     ·subst hA;exact (h3.n73 (dt p73a) (nf p73b) p73c (df p73d) p73e).1
     ·subst hA;exact (h3.n73 (dt p73a) (nf p73b) p73c (df p73d) p73e).2
     clear hE hinl hV hK3;cbv;(try (repeat' (first |exact True.intro |rfl |assumption |apply And.intro)))
    next p74a=>
     subst hA;exact h3.g74 (df p74a)
    rename_i p75a
    refine hK2 (f0,f1,A.add e2 1) _ ?_ ?_ ?_
    ·subst hA;exact (h3.n75 (df p75a)).1
    ·subst hA;exact (h3.n75 (df p75a)).2
    clear hE hinl hV hK2;cbv;(try (repeat' (first |exact True.intro |rfl |assumption |apply And.intro)))
   rename_i p76a
   refine hK1 (d0,false) _ ?_ ?_ ?_
   ·subst hA;exact (h2.n76 (df p76a)).1
   ·subst hA;exact (h2.n76 (df p76a)).2
   clear hE hinl hV hK1;cbv;(try (repeat' (first |exact True.intro |rfl |assumption |apply And.intro)))
  next p77a=>
   subst hA;exact h1.g77 p77a
  rename_i p78a
  subst hA;exact h1.g78 p78a
 next p79a=>
  subst hA;exact h0.g79 (df p79a)
 rename_i p80a
 refine Leaf.gen fun Uz hσz=>?_
 obtain ⟨I4,m4,i4,c4⟩:V28l4 pre fn a0 a1 R b1:=by subst hA;exact h0.l4 (df p80a)
 refine loopC hE hinl 6 [10] [] [] [] (fun x:Rows×Bool=>[.l x.1,.b x.2]) (fun x=>I4 x.1 x.2) (fun x=>m4 x.1 x.2) (A.app [] a0,true) (by subst hA;exact i4) ?_ ?_<;>subst hσz
 ·clear hE hinl hV;cbv;(try (repeat' (first |exact True.intro |rfl |assumption |apply And.intro)))
 intro ⟨j0,j1⟩ hI4 K4 hK4
 have h4:=c4 _ _ hI4
 cbv
 repeat' (first |(refine Br.mk (fun _=>?_) (fun _=>?_)<;>cbv) |(refine NilB.mk (fun _=>?_) ?_<;>cbv) |refine And.intro ?_ ?_ |exact True.intro)
 next p81a=>
  refine Leaf.gen fun Uz hσz=>?_
  obtain ⟨I5,m5,i5,c5⟩:V28l2 pre fn a1 b1 j0 j1 I4 m4:=by subst hA;exact h4.l2 p81a
  refine loopB hE hinl 6 [] [] [] (fun x:Rows×Bool×Int=>[.l x.1,.b x.2.1,.i x.2.2]) (fun x=>I5 x.1 x.2.1 x.2.2) (fun x=>m5 x.1 x.2.1 x.2.2) ([],false,0) (by subst hA;exact i5) ?_ ?_<;>subst hσz
  ·clear hE hinl hV;cbv;(try (repeat' (first |exact True.intro |rfl |assumption |apply And.intro)))
  intro ⟨k0,k1,k2⟩ hI5 K5 hK5
  have h5:=c5 _ _ _ hI5
  cbv
  repeat' (first |(refine Br.mk (fun _=>?_) (fun _=>?_)<;>cbv) |(refine NilB.mk (fun _=>?_) ?_<;>cbv) |refine And.intro ?_ ?_ |exact True.intro)
  next p82a=>
   subst hA;exact h5.g26 (dt p82a)
  next p83a=>
   subst hA;exact h5.g27 (dt p83a)
  next p84a=>
   subst hA;exact h5.g28 (dt p84a)
  next p85a=>
   subst hA;exact h5.g29 (dt p85a)
  next p86a=>
   refine Leaf.gen fun Uz hσz=>?_
   obtain ⟨I6,m6,i6,c6⟩:V28l3 pre fn a1 b1 j0 j1 k0 k1 k2 I4 m4 I5 m5:=by subst hA;exact h5.l3 (dt p86a)
   refine loopB hE hinl 6 [] [] [] (fun x:Rows×Bool×Int=>[.l x.1,.b x.2.1,.i x.2.2]) (fun x=>I6 x.1 x.2.1 x.2.2) (fun x=>m6 x.1 x.2.1 x.2.2) (k0,k1,A.add k2 1) (by subst hA;exact i6) ?_ ?_<;>subst hσz
   ·clear hE hinl hV;cbv;(try (repeat' (first |exact True.intro |rfl |assumption |apply And.intro)))
   intro ⟨o0,o1,o2⟩ hI6 K6 hK6
   have h6:=c6 _ _ _ hI6
   cbv
   repeat' (first |(refine Br.mk (fun _=>?_) (fun _=>?_)<;>cbv) |(refine NilB.mk (fun _=>?_) ?_<;>cbv) |refine And.intro ?_ ?_ |exact True.intro)
   next p87a=>
    subst hA;exact h6.g31 (dt p87a)
   next p88a=>
    subst hA;exact h6.g32 (dt p88a)
   next p89a=>
    subst hA;exact h6.g33 (dt p89a)
   next p90a=>
    subst hA;exact h6.g33 (dt p90a)
   next p91a=>
    subst hA;exact h6.g35 (dt p91a)
   next p92a p92b=>
    subst hA;exact h6.g36 (dt p92a) (nt p92b)
   next p93a p93b=>
    refine hK6 (o0,o1,A.add o2 1) _ ?_ ?_ ?_
    ·subst hA;exact (h6.n37 (dt p93a) (nt p93b)).1
    ·subst hA;exact (h6.n37 (dt p93a) (nt p93b)).2
    clear hE hinl hV hK6;cbv;(try (repeat' (first |exact True.intro |rfl |assumption |apply And.intro)))
   next p94a p94b=>
    subst hA;exact h6.g38 (dt p94a) (nf p94b)
   next p95a p95b p95c=>
    exfalso;subst hA;simp [Ar.std] at p95c
   next p96a p96b p96c=>
    exfalso;subst hA;simp [Ar.std] at p96c
   next p97a p97b p97c=>
    subst hA;exact h6.g41 (dt p97a) (nf p97b) p97c
   next p98a p98b p98c=>
    subst hA;exact h6.g42 (dt p98a) (nf p98b) p98c
   next p99a p99b p99c=>
    subst hA;exact h6.g43 (dt p99a) (nf p99b) p99c
   next p100a p100b p100c=>
    subst hA;exact h6.g44 (dt p100a) (nf p100b) p100c
   next p101a p101b p101c=>
    subst hA;exact h6.g45 (dt p101a) (nf p101b) p101c
   next p102a p102b p102c=>
    subst hA;exact h6.g46 (dt p102a) (nf p102b) p102c
   next p103a p103b p103c=>
    subst hA;exact h6.g47 (dt p103a) (nf p103b) p103c
   next p104a p104b p104c p104d=>
    subst hA;exact h6.g48 (dt p104a) (nf p104b) p104c (dt p104d)
   next p105a p105b p105c p105d=>
    subst hA;exact h6.g49 (dt p105a) (nf p105b) p105c (dt p105d)
   next p106a p106b p106c p106d=>
    subst hA;exact h6.g50 (dt p106a) (nf p106b) p106c (dt p106d)
   next p107a p107b p107c p107d=>
    subst hA;exact h6.g51 (dt p107a) (nf p107b) p107c (dt p107d)
   next p108a p108b p108c p108d p108e=>
    refine hK4 (A.set (A.app [] j0) (A.toNat k2) [D.i (A.di (fn 93 [[D.i (A.di (A.get j0 (A.toNat k2) 0)),D.i (A.di (A.get j0 (A.toNat k2) 1)),D.i (A.di (A.get j0 (A.toNat k2) 2))],[D.i (A.di (A.get j0 (A.toNat o2) 0)),D.i (A.di (A.get j0 (A.toNat o2) 1)),D.i (A.di (A.get j0 (A.toNat o2) 2))]] 0 0)),D.i (A.di (fn 93 [[D.i (A.di (A.get j0 (A.toNat k2) 0)),D.i (A.di (A.get j0 (A.toNat k2) 1)),D.i (A.di (A.get j0 (A.toNat k2) 2))],[D.i (A.di (A.get j0 (A.toNat o2) 0)),D.i (A.di (A.get j0 (A.toNat o2) 1)),D.i (A.di (A.get j0 (A.toNat o2) 2))]] 0 1)),D.i (A.di (fn 93 [[D.i (A.di (A.get j0 (A.toNat k2) 0)),D.i (A.di (A.get j0 (A.toNat k2) 1)),D.i (A.di (A.get j0 (A.toNat k2) 2))],[D.i (A.di (A.get j0 (A.toNat o2) 0)),D.i (A.di (A.get j0 (A.toNat o2) 1)),D.i (A.di (A.get j0 (A.toNat o2) 2))]] 0 2))],true) _ ?_ ?_ ?_
    ·subst hA;exact (h6.n52 (dt p108a) (nf p108b) p108c (dt p108d) p108e).1
    ·subst hA;exact (h6.n52 (dt p108a) (nf p108b) p108c (dt p108d) p108e).2
    clear hE hinl hV hK4;cbv;(try (repeat' (first |exact True.intro |rfl |assumption |apply And.intro)))
   next p109a p109b p109c p109d p109e=>
    subst hA;exact h6.g53 (dt p109a) (nf p109b) p109c (dt p109d) p109e
   next p110a p110b p110c p110d p110e=>
    refine hK6 (o0,o1,A.add o2 1) _ ?_ ?_ ?_
    ·subst hA;exact (h6.n54 (dt p110a) (nf p110b) p110c (dt p110d) p110e).1
    ·subst hA;exact (h6.n54 (dt p110a) (nf p110b) p110c (dt p110d) p110e).2
    clear hE hinl hV hK6;cbv;(try (repeat' (first |exact True.intro |rfl |assumption |apply And.intro)))
   next p111a p111b p111c p111d=>
    subst hA;exact h6.g55 (dt p111a) (nf p111b) p111c (df p111d)
   next p112a p112b p112c p112d=>
    subst hA;exact h6.g56 (dt p112a) (nf p112b) p112c (df p112d)
   next p113a p113b p113c p113d=>
    subst hA;exact h6.g57 (dt p113a) (nf p113b) p113c (df p113d)
   next p114a p114b p114c p114d=>
    subst hA;exact h6.g58 (dt p114a) (nf p114b) p114c (df p114d)
   next p115a p115b p115c p115d=>
    subst hA;exact h6.g59 (dt p115a) (nf p115b) p115c (df p115d)
   next p116a p116b p116c p116d=>
    subst hA;exact h6.g60 (dt p116a) (nf p116b) p116c (df p116d)
   next p117a p117b p117c p117d=>
    subst hA;exact h6.g61 (dt p117a) (nf p117b) p117c (df p117d)
   next p118a p118b p118c p118d=>
    subst hA;exact h6.g62 (dt p118a) (nf p118b) p118c (df p118d)
   next p119a p119b p119c p119d=>
    subst hA;exact h6.g63 (dt p119a) (nf p119b) p119c (df p119d)
   next p120a p120b p120c p120d=>
    subst hA;exact h6.g64 (dt p120a) (nf p120b) p120c (df p120d)
   next p121a p121b p121c p121d=>
    subst hA;exact h6.g65 (dt p121a) (nf p121b) p121c (df p121d)
   next p122a p122b p122c p122d=>
    subst hA;exact h6.g66 (dt p122a) (nf p122b) p122c (df p122d)
   next p123a p123b p123c p123d=>
    subst hA;exact h6.g67 (dt p123a) (nf p123b) p123c (df p123d)
   next p124a p124b p124c p124d=>
    subst hA;exact h6.g68 (dt p124a) (nf p124b) p124c (df p124d)
   next p125a p125b p125c p125d=>
    subst hA;exact h6.g69 (dt p125a) (nf p125b) p125c (df p125d)
   next p126a p126b p126c p126d=>
    subst hA;exact h6.g70 (dt p126a) (nf p126b) p126c (df p126d)
   next p127a p127b p127c p127d p127e=>
    refine hK4 (A.sub' (A.set (A.app (A.sub' (A.app (A.sub' (A.app [] j0) 0 (A.toNat o2)) (A.app (A.sub' (A.app [] j0) (A.toNat (A.add o2 1)) (A.nsub (A.len (A.app [] j0)) (A.toNat (A.add o2 1)))) (A.sub' (A.app [] j0) (A.nadd (A.toNat o2) (A.nsub (A.len (A.app [] j0)) (A.toNat (A.add o2 1)))) (A.nsub (A.len (A.app [] j0)) (A.nadd (A.toNat o2) (A.nsub (A.len (A.app [] j0)) (A.toNat (A.add o2 1)))))))) 0 (A.toNat (A.nat (A.nadd (A.toNat o2) (A.nsub (A.len (A.app [] j0)) (A.toNat (A.add o2 1))))))) (A.app (A.rep (A.nsub (A.toNat (A.nat (A.len (A.app [] j0)))) (A.toNat (A.nat (A.nadd (A.toNat o2) (A.nsub (A.len (A.app [] j0)) (A.toNat (A.add o2 1))))))) [D.i 0,D.i 0,D.i 0]) (A.sub' (A.app (A.sub' (A.app [] j0) 0 (A.toNat o2)) (A.app (A.sub' (A.app [] j0) (A.toNat (A.add o2 1)) (A.nsub (A.len (A.app [] j0)) (A.toNat (A.add o2 1)))) (A.sub' (A.app [] j0) (A.nadd (A.toNat o2) (A.nsub (A.len (A.app [] j0)) (A.toNat (A.add o2 1)))) (A.nsub (A.len (A.app [] j0)) (A.nadd (A.toNat o2) (A.nsub (A.len (A.app [] j0)) (A.toNat (A.add o2 1)))))))) (A.nadd (A.toNat (A.nat (A.nadd (A.toNat o2) (A.nsub (A.len (A.app [] j0)) (A.toNat (A.add o2 1)))))) (A.nsub (A.toNat (A.nat (A.len (A.app [] j0)))) (A.toNat (A.nat (A.nadd (A.toNat o2) (A.nsub (A.len (A.app [] j0)) (A.toNat (A.add o2 1)))))))) (A.nsub (A.len (A.app (A.sub' (A.app [] j0) 0 (A.toNat o2)) (A.app (A.sub' (A.app [] j0) (A.toNat (A.add o2 1)) (A.nsub (A.len (A.app [] j0)) (A.toNat (A.add o2 1)))) (A.sub' (A.app [] j0) (A.nadd (A.toNat o2) (A.nsub (A.len (A.app [] j0)) (A.toNat (A.add o2 1)))) (A.nsub (A.len (A.app [] j0)) (A.nadd (A.toNat o2) (A.nsub (A.len (A.app [] j0)) (A.toNat (A.add o2 1))))))))) (A.nadd (A.toNat (A.nat (A.nadd (A.toNat o2) (A.nsub (A.len (A.app [] j0)) (A.toNat (A.add o2 1)))))) (A.nsub (A.toNat (A.nat (A.len (A.app [] j0)))) (A.toNat (A.nat (A.nadd (A.toNat o2) (A.nsub (A.len (A.app [] j0)) (A.toNat (A.add o2 1)))))))))))) (A.nadd 0 (A.toNat k2)) [D.i (A.di (fn 93 [[D.i (A.di (A.get j0 (A.toNat k2) 0)),D.i (A.di (A.get j0 (A.toNat k2) 1)),D.i (A.di (A.get j0 (A.toNat k2) 2))],[D.i (A.di (A.get j0 (A.toNat o2) 0)),D.i (A.di (A.get j0 (A.toNat o2) 1)),D.i (A.di (A.get j0 (A.toNat o2) 2))]] 0 0)),D.i (A.di (fn 93 [[D.i (A.di (A.get j0 (A.toNat k2) 0)),D.i (A.di (A.get j0 (A.toNat k2) 1)),D.i (A.di (A.get j0 (A.toNat k2) 2))],[D.i (A.di (A.get j0 (A.toNat o2) 0)),D.i (A.di (A.get j0 (A.toNat o2) 1)),D.i (A.di (A.get j0 (A.toNat o2) 2))]] 0 1)),D.i (A.di (fn 93 [[D.i (A.di (A.get j0 (A.toNat k2) 0)),D.i (A.di (A.get j0 (A.toNat k2) 1)),D.i (A.di (A.get j0 (A.toNat k2) 2))],[D.i (A.di (A.get j0 (A.toNat o2) 0)),D.i (A.di (A.get j0 (A.toNat o2) 1)),D.i (A.di (A.get j0 (A.toNat o2) 2))]] 0 2))]) 0 (A.nadd (A.toNat o2) (A.nsub (A.len (A.app [] j0)) (A.toNat (A.add o2 1)))),true) _ ?_ ?_ ?_
    ·subst hA;exact (h6.n71 (dt p127a) (nf p127b) p127c (df p127d) p127e).1
    ·subst hA;exact (h6.n71 (dt p127a) (nf p127b) p127c (df p127d) p127e).2
    clear hE hinl hV hK4;cbv;(try (repeat' (first |exact True.intro |rfl |assumption |apply And.intro)))
   next p128a p128b p128c p128d p128e=>
    subst hA;exact h6.g72 (dt p128a) (nf p128b) p128c (df p128d) p128e
   next p129a p129b p129c p129d p129e=>
    refine hK6 (o0,o1,A.add o2 1) _ ?_ ?_ ?_
    ·subst hA;exact (h6.n73 (dt p129a) (nf p129b) p129c (df p129d) p129e).1
    ·subst hA;exact (h6.n73 (dt p129a) (nf p129b) p129c (df p129d) p129e).2
    clear hE hinl hV hK6;cbv;(try (repeat' (first |exact True.intro |rfl |assumption |apply And.intro)))
   next p130a=>
    subst hA;exact h6.g74 (df p130a)
   rename_i p131a
   refine hK5 (o0,o1,A.add k2 1) _ ?_ ?_ ?_
   ·subst hA;exact (h6.n75 (df p131a)).1
   ·subst hA;exact (h6.n75 (df p131a)).2
   clear hE hinl hV hK5;cbv;(try (repeat' (first |exact True.intro |rfl |assumption |apply And.intro)))
  rename_i p132a
  refine hK4 (j0,false) _ ?_ ?_ ?_
  ·subst hA;exact (h5.n76 (df p132a)).1
  ·subst hA;exact (h5.n76 (df p132a)).2
  clear hE hinl hV hK4;cbv;(try (repeat' (first |exact True.intro |rfl |assumption |apply And.intro)))
 next p133a=>
  subst hA;exact h4.g77 p133a
 rename_i p134a
 subst hA;exact h4.g78 p134a
end HX

namespace HX
open Go Go.Proofs CX
def e29:List (List D)->Prop
 |[[.l l]]=>l.length<=100000
 |_=>False
abbrev tru5:List (List D)->Prop:=fun _=>True
def c113:Ctr:=⟨113,⟨[(false,[.int .u64])],[(false,[.int .i64])],false⟩,p113,r113⟩
def c93:Ctr:=⟨93,⟨[(true,[.int .i64,.int .i64,.int .i64]),(true,[.int .i64,.int .i64,.int .i64])],[(true,[.int .i64,.int .i64,.int .i64]),(false,[.bool])],false⟩,p93,r93⟩
def c31:Ctr:=⟨31,⟨[(false,[.sl [.int .i64,.int .i64,.int .i64]]),(false,[.int .i64])],[(false,[.int .i64]),(false,[.bool])],false⟩,tru5,r31⟩
def c32:Ctr:=⟨32,⟨[(false,[.sl [.int .i64,.int .i64,.int .i64]]),(false,[.int .i64])],[(false,[.int .i64]),(false,[.bool])],false⟩,tru5,r31⟩
def c30:Ctr:=⟨30,⟨[(false,[.sl [.int .i64,.int .i64,.int .i64]]),(false,[.sl [.int .i64]])],[(false,[.sl [.int .i64,.int .i64,.int .i64]]),(false,[.int .i64])],false⟩,tru5,r28⟩
def c27:Ctr:=⟨27,⟨[(false,[.sl [.int .i64,.int .i64,.int .i64]]),(false,[.sl [.int .i64,.int .i64,.int .i64]])],[(false,[.bool])],false⟩,tru5,r27⟩
def c29:Ctr:=⟨29,⟨[(false,[.sl [.int .i64,.int .i64,.int .i64]])],[(false,[.sl [.int .i64,.int .i64,.int .i64]])],false⟩,e29,r29⟩
def c62:Ctr:=⟨62,⟨[(false,[.sl [.int .i64,.int .i64,.int .i64]]),(false,[.fnc 63])],[(false,[.bool])],false⟩,p62,r62⟩
def c65:Ctr:=⟨65,⟨[(false,[.sl [.int .i64]]),(false,[.fnc 66])],[(false,[.bool])],false⟩,tru5,r65⟩
def c67:Ctr:=⟨67,⟨[(false,[.sl [.int .i64,.int .i64,.int .i64]]),(false,[.pt (.sl [.int .i64])]),(false,[.pt (.sl [.int .i64])])],[(false,[.bool])],false⟩,p67,r67⟩
def c28:Ctr:=⟨28,⟨[(false,[.sl [.int .i64,.int .i64,.int .i64]]),(false,[.sl [.int .i64]])],[(false,[.sl [.int .i64,.int .i64,.int .i64]]),(false,[.int .i64])],false⟩,p28,r28⟩
def c13:Ctr:=⟨13,⟨[],[(false,[.bool])],false⟩,tru5,(fun _ _ _=>.b true)⟩
section
variable (ro:Addr->Option V)
theorem k113:PureC (cxE ro) c113.f c113.sg c113.pre c113.res:=walk113 (envL (l:=[]) .nil) fun _ h=>law113 _ h
theorem k93:PureC (cxE ro) c93.f c93.sg c93.pre c93.res:=walk93 (envL (l:=[c113]) (.cons (k113 ro) .nil)) fun _ _ _ _ _ _ h=>law93 _ _ rfl rfl _ _ _ _ _ _ h
theorem k31:PureC (cxE ro) c31.f c31.sg c31.pre c31.res:=walk31 (envL (l:=[]) .nil) fun _ _ ha _=>⟨_,_,law31 _ _ ha.2⟩
theorem k62:PureC (cxE ro) c62.f c62.sg c62.pre c62.res:=walk62 (envL (l:=[]) .nil) fun _ ha h=>⟨_,_,law62 _ ha.2 h⟩
theorem k65:PureC (cxE ro) c65.f c65.sg c65.pre c65.res:=walk65 (envL (l:=[]) .nil) fun _ ha _=>⟨_,_,law65 _ ha.2⟩
theorem k67:PureC (cxE ro) c67.f c67.sg c67.pre c67.res:=walk67 (envL (l:=[c31]) (.cons (k31 ro) .nil)) fun _ _ _ _ hb _ h=>⟨_,_,law67 _ _ (fun _ _ _=>trivial) rfl _ _ _ h.1 hb.2 h.2⟩
theorem k28:PureC (cxE ro) c28.f c28.sg c28.pre c28.res:=walk28 (envL (l:=[c31,c93,c62,c65,c67]) (.cons (k31 ro) (.cons (k93 ro) (.cons (k62 ro) (.cons (k65 ro) (.cons (k67 ro) .nil)))))) fun _ _ _ _ h=>law28 _ _ rfl rfl rfl (fun _ _=>trivial) (fun _ _ _=>trivial) rfl rfl rfl rfl rfl _ _ h
theorem k13:PureC (cxE ro) c13.f c13.sg c13.pre c13.res:=works_pure
end
def l5:List Ctr:=[c13,c27,c28,c29,c30,c31,c32]
def l11:List Ctr:=[c13,c28,c31]
theorem k_l11 (ro:Addr->Option V):Ctrs (cxE ro) l11:=(.cons (k13 ro) (.cons (k28 ro) (.cons (k31 ro) .nil)))
end HX

namespace HX
open Go Go.Proofs CX
end HX

namespace HX
open Go Go.Proofs CX
theorem gt_take {l:Rows} {n i c:Nat} (h:i < n):gt (l.take n) i c=gt l i c:=by
 simp only [gt,zE]
 rw [List.getElem?_take_of_lt h]
theorem made_v (k m o:Int):vE [D.i (bitX .and .i64 k (bitX .and .i64 m 65535)),D.i (bitX .and .i64 m 65535),D.i (1+bitX .and .i64 o 15)]:=by
 have h1:0<=bitX .and .i64 m 65535/\bitX .and .i64 m 65535<=65535:=andR_rng m (n:=65535) (by decide)
 have h2:=andR_in k h1
 have h3:0<=bitX .and .i64 o 15/\bitX .and .i64 o 15<=15:=andR_rng o (n:=15) (by decide)
 refine ⟨h2.1,h1,h2.2,?_,?_⟩
 ·show 1<=1+bitX .and .i64 o 15;omega
 show 1+bitX .and .i64 o 15<=31;omega
theorem okV_snoc {l:Rows} {r:List D} (h:okV l) (hr:vE r):okV (l++[r]):=fun x hx=>by
 rcases xW.1 hx with hx |hx
 ·exact h x hx
 simp only [xU] at hx;subst hx;exact hr
theorem law11 {pre:Nat->List (List D)->Prop} {fn:Nat->List (List D)->Nat->Nat->D} (hp13:pre 13 []) (hf13:fn 13 [] 0 0=.b true) (hp28:pre 28=p28) (hp31:∀x,pre 31 x) (hf28:fn 28=r28) (hf31:fn 31=r31) {a0 a1:Rows} {R:Nat->Nat->D} (hR:R 0 0=.b true)
  (hk:∀i:Nat,i < a1.length->0<=(gt a1 i 0).int/\(gt a1 i 0).int<=65535):V11 pre fn a0 a1 R:=by
 have hb:∀b:Bool,(D.b b).boo=b:=fun _=>rfl
 have an:∀x y:Int,Ar.std.bit BinOp.and IntKind.i64 x y=bitX .and .i64 x y:=fun _ _=>rfl
 have xr:∀x y:Int,Ar.std.bit BinOp.xor IntKind.i64 x y=xK x y:=fun _ _=>rfl
 have F31a:∀l k,(fn 31 [[D.l l],[D.i k]] 0 0).int=oF l k:=fun l k=>by rw [hf31];rfl
 have F31b:∀l k,(fn 31 [[D.l l],[D.i k]] 1 0).boo=(fndO l k).isSome:=fun l k=>by rw [hf31];rfl
 have F28:∀(l k:Rows) (i:Nat),okV l->l.length<=1024->k.length<=1024->(∀r∈k,keyR r)->fn 28 [[D.l l],[D.l k]] i 0=[D.l (mrg k l),.i 0].getD i .nil:=fun l k i h1 h2 h3 h4=>by
  rw [hf28]
  show (if 1024 < l.length\/1024 < k.length then [D.l [],.i 9].getD i .nil else if badE l=true then [D.l [],.i 2].getD i .nil else if badK k=true then [D.l [],.i 3].getD i .nil else [D.l (mrg k l),.i 0].getD i .nil)=_
  rw [if_neg (by omega),okV_bad h1,if_neg Bool.false_ne_true,keys_bad h4,if_neg Bool.false_ne_true]
 have F28a:∀(l k:Rows),okV l->l.length<=1024->k.length<=1024->(∀r∈k,keyR r)->(fn 28 [[D.l l],[D.l k]] 0 0).rows=mrg k l:=fun l k h1 h2 h3 h4=>by rw [F28 l k 0 h1 h2 h3 h4];rfl
 have F28b:∀(l k:Rows),okV l->l.length<=1024->k.length<=1024->(∀r∈k,keyR r)->(fn 28 [[D.l l],[D.l k]] 1 0).int=0:=fun l k h1 h2 h3 h4=>by rw [F28 l k 1 h1 h2 h3 h4];rfl
 constructor
 case g0=>intro _;exact hp13
 case g1=>intro _;rw [hf13,hb];exact hR
 case g2=>intro _ _;exact hp13
 case g3=>intro _ _;rw [hf13,hb];exact hR
 case l0=>
  intro s0 s1
  refine ⟨fun t i=>0<=i/\i<=a0.length/\(t.length:Int)=i/\okV t,fun _ i=>(a0.length - i).toNat,⟨by omega,by omega,rfl,fun _ h=>by cases h⟩,?_⟩
  rintro b0 b1 ⟨h1,h2,h3,h4⟩
  constructor
  all_goals try simp only [v11f,v11i,vZ11,an]
  case g8=>
   intro _
   have:0<=bitX .and .i64 (gt a0 b1.toNat 2).int 15/\bitX .and .i64 (gt a0 b1.toNat 2).int 15<=15:=andR_rng _ (n:=15) (by decide)
   omega
  case g9=>intro _;simp only [xB,xJ];omega
  case n11=>
   intro lt
   exact ⟨⟨by omega,by omega,by simp only [xD,xB,xJ];omega,okV_snoc h4 (made_v _ _ _)⟩,by omega⟩
  case l1=>
   intro lt
   have hl:b0.length<=30:=by omega
   refine ⟨fun t i=>0<=i/\i<=a1.length/\(t.length:Int)=i/\∀r∈t,keyR r,fun _ i=>(a1.length - i).toNat,⟨by omega,by omega,rfl,fun _ h=>by cases h⟩,?_⟩
   rintro d0 d1 ⟨k1,k2,k3,k4⟩
   obtain ⟨m1,m2,m3,m4⟩:=mrg_spec d0 _ b0 (zB _) h4
   have e1:=F28a b0 d0 h4 (by omega) (by omega) k4
   have e2:=F28b b0 d0 h4 (by omega) (by omega) k4
   have e3:=F28a (mrg d0 b0) d0 m1 (by omega) (by omega) k4
   have e4:=F28b (mrg d0 b0) d0 m1 (by omega) (by omega) k4
   rw [mrg_none m4] at e3
   constructor
   all_goals try simp only [v11d,vZ11,e1,e2,e3,e4]
   case g16=>intro lt2;have:=hk d1.toNat (by omega);omega
   case g17=>intro lt2;simp only [xB,xJ];omega
   case n19=>
    intro lt2
    refine ⟨⟨by omega,by omega,by simp only [xD,xB,xJ];omega,fun r hr=>?_⟩,by omega⟩
    rcases xW.1 hr with hr |hr
    ·exact k4 r hr
    simp only [xU] at hr
    subst hr
    exact hk d1.toNat (by omega)
   case g20=>intro _;rw [hp28];exact okV_fit h4
   case g21=>intro _;rw [hp28];exact okV_fit m1
   case l2=>
    intro lt2 _ _ _ _
    refine ⟨fun _ i=>0<=i/\i<=d0.length,fun _ i=>(d0.length - i).toNat,⟨by omega,by omega⟩,?_⟩
    rintro e0 e1' ⟨q1,q2⟩
    have f1:=F28a b0 [] h4 (by omega) (by simp) (fun _ h=>by cases h)
    have f2:=F28b b0 [] h4 (by omega) (by simp) (fun _ h=>by cases h)
    have mk:e1' < d0.length->fndO (mrg d0 b0) (gt d0 e1'.toNat 0).int=fndO b0 (gt d0 e1'.toNat 0).int:=fun lt3=>by
     have:=m3 (d0.getD e1'.toNat []) (by rw [zE,zI (by omega)];exact xQ _)
     exact this
    constructor
    all_goals try simp only [v11d,v11j,vZ11,e1,F31a,F31b,f2]
    case g30=>intro _;exact hp31 _
    case g31=>intro _;exact hp31 _
    case g32=>intro lt3 c;exact absurd (by unfold oF;rw [mk lt3]) c
    case g33=>intro lt3 _ c;rw [mk lt3] at c;simp at c
    case n35=>intro _ _ _;exact ⟨⟨by omega,by omega⟩,by omega⟩
    case g36=>intro _;rw [hp28];exact okV_fit h4
    case l3=>
     intro lt3 _
     obtain ⟨n1,n2,_,_⟩:=mrg_spec [] _ b0 (zB _) h4
     refine ⟨fun _ i=>0<=i/\i<=(mrg [] b0).length,fun _ i=>((mrg [] b0).length - i).toNat,⟨by omega,by omega⟩,?_⟩
     rintro g0 g1 ⟨p1,p2⟩
     constructor
     all_goals try simp only [v11c,vZ11,f1]
     case g60=>intro _;exact hp13
     case g61=>intro _;rw [hf13,hb];exact hR
     case l4=>
      intro lt4
      refine ⟨fun _ i=>0<=i/\i<=g1,fun _ i=>(g1 - i).toNat,⟨by omega,by omega⟩,?_⟩
      rintro j0 j1 ⟨w1,w2⟩
      have tl:(List.take g1.toNat (mrg [] b0)).length=g1.toNat:=by rw [zU];omega
      have tk:j1 < g1->∀c,gt (List.take g1.toNat (mrg [] b0)) j1.toNat c=gt (mrg [] b0) j1.toNat c:=fun h c=>gt_take (by omega)
      have xb:j1 < g1->0<=xK (kE ((mrg [] b0).getD g1.toNat [])) (kE ((mrg [] b0).getD j1.toNat []))/\xK (kE ((mrg [] b0).getD g1.toNat [])) (kE ((mrg [] b0).getD j1.toNat []))<=65535:=fun h=>xK_rng (okV_at n1 (by omega)).1 (okV_at n1 (by omega)).1
      constructor
      all_goals try simp only [v11a,v11b,v11c,v11e,v11g,v11h,vZ11,f1,qI,tl,xr,an]
      all_goals intro c1
      all_goals try simp only [tk (by omega),gt_kE,gt_mE,gt_oE]
      all_goals try have xb:=xb (by omega)
      case g49=>
       intro c2 c3 c4 c5
       refine absurd ⟨c2.symm,c3.symm,?_⟩ (free_no h4 (i:=g1.toNat) (j:=j1.toNat) (by omega) (by omega))
       rw [xK_comm]
       exact one_bit xb c4 c5
      all_goals first
       |omega
       |(intros;omega)
       |(intros;exact ⟨⟨by omega,by omega⟩,by omega⟩)
     all_goals first |omega |(intros;omega)
    all_goals first
     |omega
     |(intros;omega)
     |(intros;contradiction)
   all_goals first
    |omega
    |(intros;omega)
    |(intros;exfalso;omega)
    |(intros;contradiction)
  all_goals first |omega |(intros;omega)
theorem law11' {a0 a1:Rows} (h:RngAll [(false,[.sl [.int .i64,.int .i64,.int .i64]]),(false,[.sl [.int .u16]])] [[.l a0],[.l a1]]) (hs:ShR [.int .u16] a1):V11 (preOf l11) (resOf l11) a0 a1 (fun _ _=>.b true):=
 law11 trivial rfl rfl (fun _=>trivial) rfl rfl rfl fun i hi=>by
  simp only [RngAll,RngL,RngK] at h
  have:=h.2.1.1 (a1.getD i []) (by rw [zE,zI hi];exact xQ hi)
  have h2:=hs.1 (a1.getD i []) (by rw [zE,zI hi];exact xQ hi)
  simp only [gt]
  revert this h2
  generalize a1.getD i []=r
  intro this h2
  match r,this,h2 with
  |[d],h,h2=>
   simp only [RngL,RngK] at h
   exact h.1
end HX

namespace Go.Proofs.Ytcpndododgchbaa.meshSame
open Go.ChangeShapes Go.WideShapes Go.ChangeAt Go.RowKit HX
def ps:List (Bool×List Kd):=[(false,[.sl [.int .i64,.int .i64,.int .i64]]),(false,[.sl [.int .u16]])]
theorem law (ro:Addr->Option CX.V):PureC0 (cxE ro) 11 ⟨ps,[(false,[.bool])],false⟩ (RngAll ps) trueRes:=walk11 (envL (l:=l11) (k_l11 ro)) fun _ _ _ h hP=>law11' hP h
theorem lenN {α β:Type} {F:List α->β} {G:List α->β} (h:∀a b,F [a,b]=G [a,b]):∀ds:List α,ds.length=2->F ds=G ds
 |[a,b],_=>h a b
set_option maxRecDepth 100000 in
set_option maxHeartbeats 400000 in
theorem lifted (os:Os) (started:os.Started) (H:Type) (enc:TypeId×Value->H) :
  ReturnsInHanded {} Try.checked os 11 .any (Rows.meshSameSpec.pre6 enc Try.prog Try.f11 Rows.meshSameRow.domain false) (Rows.meshSameSpec.post enc Try.prog Try.f11 false true false false):=by
 refine returnsInHanded_of_change (C:=Try.checked) own started (by kernel_rfl) Try.func11
  (ChangeSpec.witness6 (enc:=enc) (C:=Try.checked) false ⟨#[],#[.slice none 0 0,.slice none 0 0],[]⟩ 8 (by kernel_rfl) (by kernel_rfl) (by kernel_rfl) (by kernel_rfl)) ?_
 intro W base args ds gs before hval hW _ _
 exact said (f:=Try.f11) (s:=Rows.meshSameSpec) (n:=8) (tb:=4) cxE_ok law (by kernel_rfl) laid (by kernel_rfl) rfl Try.underlying4
  (lenN (F:=Rows.meshSameSpec.fn H) (G:=fun ds=>⟨[.lit (.bool true)],ds,[]⟩) fun _ _=>rfl) rfl W base args ds gs before hval hW
theorem holds:Rows.MeshSameSaid:=
 OpenClaim.holds_of_wide 11 Try.f11 rfl rfl rfl rfl rfl rfl rfl ⟨rfl,rfl,rfl,rfl,rfl⟩ rfl rfl rfl rfl rfl (by kernel_rfl) Try.func11 (by kernel_rfl)
  (of_decide_eq_true (by kernel_rfl)) (by unfold Func.isWrapper;first |(rw [if_pos (by decide +kernel)];kernel_rfl) |(rw [if_neg (by decide +kernel)];exact ⟨rfl,rfl⟩))
  (fun os started H enc _=>lifted os started H enc)
end Go.Proofs.Ytcpndododgchbaa.meshSame
