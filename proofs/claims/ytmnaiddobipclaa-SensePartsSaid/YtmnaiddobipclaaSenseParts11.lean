/-
  SenseParts: for all differences and ticks, the function returns true, and its arguments read as they did.
-/
import Derived.Test.YtmnaiddobipclaaSenseParts10
import Derived.Test.YtmnaiddobipclaaRows
set_option linter.all false
namespace HX
open Go Go.Proofs CX
set_option maxHeartbeats 4000000 in
set_option maxRecDepth 100000 in
set_option cbv.maxSteps 3000000 in
theorem walk31 {ro A pre fn} (hE:EnvOk ⟨A,(cxE ro),ksF,sigL [(51,⟨[(false,[.sl [.int .i64,.int .i64]])],[(false,[.int .i64])],false⟩)],pre,fn⟩) {P:List (List D)→Prop} {res:List (List D)→Nat→Nat→D}
  (hv:∀(a0:Rows) (a1:Rows),ShR [.int .i64,.int .i64] a0→ShR [.int .i64,.int .i64] a1→P [[.l a0],[.l a1]]→V31 pre fn a0 a1 (res [[.l a0],[.l a1]])) :
  PureC (cxE ro) 31 ⟨[(false,[.sl [.int .i64,.int .i64]]),(false,[.sl [.int .i64,.int .i64]])],[(false,[.sl [.int .i64,.int .i64]]),(false,[.int .i64])],false⟩ P res:=by
 have h:=hE.A
 simp only [] at h
 have hinl:∀f fn,inlL [(74,Try.f74),(77,Try.f77),(96,Try.f96)] f=some fn→(cxE ro).fn f=some fn∧(cxE ro).ext f=none:=Inls.ok (by repeat (first |exact .nil |refine .cons rfl rfl ?_))
 refine PureC.of_vc hE hinl 6 (f:=31) (fn:=Try.f31) ⟨rfl,rfl⟩ ?_
 intro a0 ha0 a1 ha1 hP
 obtain ⟨R,hR⟩:∃R,res [[.l a0],[.l a1]]=R:=⟨_,rfl⟩
 rw [hR]
 have hV:=hv a0 a1 ha0 ha1 hP
 rw [hR] at hV
 clear hR hP hv
 cbv
 repeat' first|(refine Br.mk (fun _=>?_) (fun _=>?_)<;>cbv)|(refine NilB.mk (fun _=>?_) ?_<;>cbv)|refine And.intro ?_ ?_|exact True.intro
 ·refine Leaf.gen fun σz hσz=>?_
  obtain ⟨I0,m0,i0,c0⟩:V31l0 pre fn a0 a1 R:=by subst h;exact hV.l0
  refine loopB hE hinl 6 [] [] [] (fun x:Rows×Int×Int=>[.l x.1,.i x.2.1,.i x.2.2]) (fun x=>I0 x.1 x.2.1 x.2.2) (fun x=>m0 x.1 x.2.1 x.2.2) ([],0,0) (by subst h;exact i0) ?_ ?_<;>subst hσz
  ·clear hE hinl hV;cbv;(try repeat' first|rfl|assumption|constructor)
  ·intro ⟨b0,b1,b2⟩ hI0 K0 hK0
   have h0:=c0 _ _ _ hI0
   cbv
   repeat' first|(refine Br.mk (fun _=>?_) (fun _=>?_)<;>cbv)|(refine NilB.mk (fun _=>?_) ?_<;>cbv)|refine And.intro ?_ ?_|exact True.intro
   ·rename_i p1a
    subst h;exact h0.g1 (dt p1a)
   ·rename_i p2a
    subst h;exact h0.g2 (dt p2a)
   ·rename_i p3a
    subst h;exact h0.g3 (dt p3a)
   ·rename_i p4a
    subst h;exact h0.g4 (dt p4a)
   ·rename_i p5a p5b
    subst h;exact h0.g5 (dt p5a) (df (nt p5b))
   ·rename_i p6a p6b
    subst h;exact h0.g6 (dt p6a) (df (nt p6b))
   ·rename_i p7a p7b
    subst h;exact h0.g7 (dt p7a) (dt (nf p7b))
   ·rename_i p8a p8b
    refine hK0 (b0,b1,A.add b2 1) _ ?_ ?_ ?_
    ·subst h;exact (h0.n8 (dt p8a) (dt (nf p8b))).1
    ·subst h;exact (h0.n8 (dt p8a) (dt (nf p8b))).2
    ·clear hE hinl hV hK0;cbv;(try repeat' first|rfl|assumption|constructor)
   ·rename_i p9a
    refine Leaf.gen fun σz hσz=>?_
    obtain ⟨I1,m1,i1,c1⟩:V31l1 a0 a1 R:=by subst h;exact h0.l1 (df p9a)
    refine loopB hE hinl 6 [] [] [] (fun x:Int×Int=>[.i x.1,.i x.2]) (fun x=>I1 x.1 x.2) (fun x=>m1 x.1 x.2) (0,0) (by subst h;exact i1) ?_ ?_<;>subst hσz
    ·clear hE hinl hV;cbv;(try repeat' first|rfl|assumption|constructor)
    ·intro ⟨d0,d1⟩ hI1 K1 hK1
     have h1:=c1 _ _ hI1
     cbv
     repeat' first|(refine Br.mk (fun _=>?_) (fun _=>?_)<;>cbv)|(refine NilB.mk (fun _=>?_) ?_<;>cbv)|refine And.intro ?_ ?_|exact True.intro
     ·rename_i p10a
      subst h;exact h1.g10 (dt p10a)
     ·rename_i p11a
      subst h;exact h1.g11 (dt p11a)
     ·rename_i p12a
      subst h;exact h1.g12 (dt p12a)
     ·rename_i p13a
      subst h;exact h1.g13 (dt p13a)
     ·rename_i p14a p14b
      subst h;exact (h1.g14 (dt p14a) (dt p14b)).elim
     ·rename_i p15a p15b
      subst h;exact h1.g15 (dt p15a) (df p15b)
     ·rename_i p16a p16b
      refine hK1 (A.add d0 (A.nat (A.len (A.dl (A.get [[D.l a0],[D.l a1]] (A.toNat d1) 0)))),A.add d1 1) _ ?_ ?_ ?_
      ·subst h;exact (h1.n16 (dt p16a) (df p16b)).1
      ·subst h;exact (h1.n16 (dt p16a) (df p16b)).2
      ·clear hE hinl hV hK1;cbv;(try repeat' first|rfl|assumption|constructor)
     ·rename_i p17a p17b
      subst h;exact (h1.g17 (df p17a) (dt p17b)).elim
     ·rename_i p18a p18b
      subst h;exact h1.g18 (df p18a) (df p18b)
     ·rename_i p19a p19b
      subst h;exact h1.g19 (df p19a) (df p19b)
     ·rename_i p20a p20b p20c
      subst h;exact h1.g20 (df p20a) (df p20b) (dt p20c)
     ·rename_i p21a p21b p21c
      subst h;exact h1.g21 (df p21a) (df p21b) (dt p21c)
     ·rename_i p22a p22b p22c
      subst h;exact h1.g22 (df p22a) (df p22b) (dt p22c)
     ·rename_i p23a p23b p23c
      subst h;exact h1.g23 (df p23a) (df p23b) (dt p23c)
     ·rename_i p24a p24b p24c
      subst h;exact h1.g24 (df p24a) (df p24b) (dt p24c)
     ·rename_i p25a p25b p25c
      subst h;exact h1.g20 (df p25a) (df p25b) (dt p25c)
     ·rename_i p26a p26b p26c
      subst h;exact h1.g26 (df p26a) (df p26b) (dt p26c)
     ·rename_i p27a p27b p27c
      refine Leaf.gen fun σz hσz=>?_
      obtain ⟨I2,m2,i2,c2⟩:V31l2 a0 a1 R d0:=by subst h;exact h1.l2 (df p27a) (df p27b) (dt p27c)
      refine loopC hE hinl 6 [6] [] [] [] (fun x:Rows×Int=>[.l x.1,.i x.2]) (fun x=>I2 x.1 x.2) (fun x=>m2 x.1 x.2) (A.sub' (A.rep (A.toNat (A.sub d0 (A.sub 0 0))) [D.i 0,D.i 0]) 0 (A.toNat 0),0) (by subst h;exact i2) ?_ ?_<;>subst hσz
      ·clear hE hinl hV;cbv;(try repeat' first|rfl|assumption|constructor)
      ·intro ⟨e0,e1⟩ hI2 K2 hK2
       have h2:=c2 _ _ hI2
       cbv
       repeat' first|(refine Br.mk (fun _=>?_) (fun _=>?_)<;>cbv)|(refine NilB.mk (fun _=>?_) ?_<;>cbv)|refine And.intro ?_ ?_|exact True.intro
       ·rename_i p28a
        subst h;exact h2.g28 (dt p28a)
       ·rename_i p29a
        subst h;exact h2.g29 (dt p29a)
       ·rename_i p30a
        subst h;exact h2.g30 (dt p30a)
       ·rename_i p31a
        subst h;exact h2.g31 (dt p31a)
       ·rename_i p32a
        subst h;exact h2.g32 (dt p32a)
       ·rename_i p33a
        refine hK2 (A.app e0 (A.dl (A.get [[D.l a0],[D.l a1]] (A.toNat e1) 0)),A.add e1 1) _ ?_ ?_ ?_
        ·subst h;exact (h2.n33 (dt p33a)).1
        ·subst h;exact (h2.n33 (dt p33a)).2
        ·clear hE hinl hV hK2;cbv;(try repeat' first|rfl|assumption|constructor)
       ·rename_i p34a
        subst h;exact h2.g34 (df p34a)
       ·rename_i p35a p35b p35c
        subst h;exact h2.g35 (df p35a) (dt p35b) (dt p35c)
       ·rename_i p36a p36b p36c
        subst h;exact h2.g36 (df p36a) (dt p36b) (dt p36c)
       ·rename_i p37a p37b p37c
        subst h;exact h2.g37 (df p37a) (dt p37b) (df p37c)
       ·rename_i p38a p38b p38c
        subst h;exact h2.g38 (df p38a) (dt p38b) (df p38c)
       ·rename_i p39a p39b
        refine Leaf.gen fun σz hσz=>?_
        obtain ⟨I3,m3,i3,c3⟩:V31l3 R e0:=by subst h;exact h2.l3 (df p39a) (df p39b)
        refine loopB hE hinl 6 [] [2] [] (fun x:Int=>[.i x]) (fun x=>I3 x) (fun x=>m3 x) (1) (by subst h;exact i3) ?_ ?_<;>subst hσz
        ·clear hE hinl hV;cbv;(try repeat' first|rfl|assumption|constructor)
        ·intro f0 hI3 K3 hK3
         have h3:=c3 _ hI3
         cbv
         repeat' first|(refine Br.mk (fun _=>?_) (fun _=>?_)<;>cbv)|(refine NilB.mk (fun _=>?_) ?_<;>cbv)|refine And.intro ?_ ?_|exact True.intro
         ·rename_i p40a
          subst h;exact h3.g40 (dt p40a)
         ·rename_i p41a
          subst h;exact h3.g41 (dt p41a)
         ·rename_i p42a
          subst h;exact h3.g42 (dt p42a)
         ·rename_i p43a
          subst h;exact h3.g42 (dt p43a)
         ·rename_i p44a
          subst h;exact h3.g44 (dt p44a)
         ·rename_i p45a
          subst h;exact h3.g45 (dt p45a)
         ·rename_i p46a
          subst h;exact h3.g46 (dt p46a)
         ·rename_i p47a
          subst h;exact h3.g47 (dt p47a)
         ·rename_i p48a
          subst h;exact h3.g47 (dt p48a)
         ·rename_i p49a p49b
          subst h;exact h3.g49 (dt p49a) ⟨(dt (and_t p49b).1),(dt (and_t p49b).2)⟩
         ·rename_i p50a p50b
          subst h;exact h3.g50 (dt p50a) ⟨(dt (and_t p50b).1),(dt (and_t p50b).2)⟩
         ·rename_i p51a p51b
          refine Leaf.gen fun σz hσz=>?_
          obtain ⟨I4,m4,i4,c4⟩:V31l4 R e0 f0:=by subst h;exact h3.l4 (dt p51a) ⟨(dt (and_t p51b).1),(dt (and_t p51b).2)⟩
          refine loopB hE hinl 6 [] [] [(9,[])] (fun x:Int×Int×Rows=>[.i x.1,.i x.2.1,.l x.2.2]) (fun x=>I4 x.1 x.2.1 x.2.2) (fun x=>m4 x.1 x.2.1 x.2.2) (f0,1,A.srt e0) (by subst h;exact i4) ?_ ?_<;>subst hσz
          ·clear hE hinl hV;cbv;(try repeat' first|rfl|assumption|constructor)
          ·intro ⟨j0,j1,j2⟩ hI4 K4 hK4
           have h4:=c4 _ _ _ hI4
           cbv
           repeat' first|(refine Br.mk (fun _=>?_) (fun _=>?_)<;>cbv)|(refine NilB.mk (fun _=>?_) ?_<;>cbv)|refine And.intro ?_ ?_|exact True.intro
           ·rename_i p52a
            subst h;exact h4.g52 (dt p52a)
           ·rename_i p53a
            subst h;exact h4.g53 (dt p53a)
           ·rename_i p54a
            subst h;exact h4.g54 (dt p54a)
           ·rename_i p55a
            subst h;exact h4.g55 (dt p55a)
           ·rename_i p56a
            subst h;exact h4.g55 (dt p56a)
           ·rename_i p57a
            subst h;exact h4.g57 (dt p57a)
           ·rename_i p58a
            subst h;exact h4.g52 (dt p58a)
           ·rename_i p59a
            subst h;exact h4.g59 (dt p59a)
           ·rename_i p60a
            subst h;exact h4.g60 (dt p60a)
           ·rename_i p61a
            subst h;exact h4.g61 (dt p61a)
           ·rename_i p62a
            subst h;exact h4.g61 (dt p62a)
           ·rename_i p63a p63b
            subst h;exact h4.g63 (dt p63a) ((and_f (nt p63b)).imp (fun h=>(df h)) (fun h=>(df h)))
           ·rename_i p64a p64b
            subst h;exact h4.g64 (dt p64a) ((and_f (nt p64b)).imp (fun h=>(df h)) (fun h=>(df h)))
           ·rename_i p65a p65b
            subst h;exact h4.g65 (dt p65a) ((and_f (nt p65b)).imp (fun h=>(df h)) (fun h=>(df h)))
           ·rename_i p66a p66b
            subst h;exact h4.g66 (dt p66a) ((and_f (nt p66b)).imp (fun h=>(df h)) (fun h=>(df h)))
           ·rename_i p67a p67b
            subst h;exact h4.g67 (dt p67a) ((and_f (nt p67b)).imp (fun h=>(df h)) (fun h=>(df h)))
           ·rename_i p68a p68b
            subst h;exact h4.g68 (dt p68a) ((and_f (nt p68b)).imp (fun h=>(df h)) (fun h=>(df h)))
           ·rename_i p69a p69b
            subst h;exact h4.g69 (dt p69a) ((and_f (nt p69b)).imp (fun h=>(df h)) (fun h=>(df h)))
           ·rename_i p70a p70b
            subst h;exact h4.g70 (dt p70a) ((and_f (nt p70b)).imp (fun h=>(df h)) (fun h=>(df h)))
           ·rename_i p71a p71b
            subst h;exact h4.g71 (dt p71a) ((and_f (nt p71b)).imp (fun h=>(df h)) (fun h=>(df h)))
           ·rename_i p72a p72b
            refine hK4 (A.add j0 1,A.add j1 1,A.set j2 (A.toNat j0) [D.i (A.di (A.get j2 (A.nadd (A.toNat f0) (A.toNat j1)) 0)),D.i (A.di (A.get j2 (A.nadd (A.toNat f0) (A.toNat j1)) 1))]) _ ?_ ?_ ?_
            ·subst h;exact (h4.n72 (dt p72a) ((and_f (nt p72b)).imp (fun h=>(df h)) (fun h=>(df h)))).1
            ·subst h;exact (h4.n72 (dt p72a) ((and_f (nt p72b)).imp (fun h=>(df h)) (fun h=>(df h)))).2
            ·clear hE hinl hV hK4;cbv;(try repeat' first|rfl|assumption|constructor)
           ·rename_i p73a p73b
            subst h;exact h4.g73 (dt p73a) ⟨(dt (and_t (nf p73b)).1),(dt (and_t (nf p73b)).2)⟩
           ·rename_i p74a p74b
            refine hK4 (j0,A.add j1 1,j2) _ ?_ ?_ ?_
            ·subst h;exact (h4.n74 (dt p74a) ⟨(dt (and_t (nf p74b)).1),(dt (and_t (nf p74b)).2)⟩).1
            ·subst h;exact (h4.n74 (dt p74a) ⟨(dt (and_t (nf p74b)).1),(dt (and_t (nf p74b)).2)⟩).2
            ·clear hE hinl hV hK4;cbv;(try repeat' first|rfl|assumption|constructor)
           ·rename_i p75a
            subst h;exact h4.g75 (df p75a)
           ·rename_i p76a
            subst h;exact h4.g76 (df p76a)
           ·rename_i p77a
            subst h;exact h4.g77 (df p77a)
           ·rename_i p78a
            subst h;exact h4.g75 (df p78a)
           ·rename_i p79a
            subst h;exact h4.g79 (df p79a)
           ·rename_i p80a p80b
            subst h;exact h4.g80 (df p80a) (dt p80b)
           ·rename_i p81a p81b
            subst h;exact h4.g81 (df p81a) (dt p81b)
           ·rename_i p82a p82b
            subst h;exact h4.g82 (df p82a) (df p82b)
           ·rename_i p83a p83b
            subst h;exact h4.g83 (df p83a) (df p83b)
         ·rename_i p84a p84b
          subst h;exact h3.g84 (dt p84a) ((and_f p84b).imp (fun h=>(df h)) (fun h=>(df h)))
         ·rename_i p85a p85b
          refine hK3 (A.add f0 1) _ ?_ ?_ ?_
          ·subst h;exact (h3.n85 (dt p85a) ((and_f p85b).imp (fun h=>(df h)) (fun h=>(df h)))).1
          ·subst h;exact (h3.n85 (dt p85a) ((and_f p85b).imp (fun h=>(df h)) (fun h=>(df h)))).2
          ·clear hE hinl hV hK3;cbv;(try repeat' first|rfl|assumption|constructor)
         ·rename_i p86a p86b
          subst h;exact h3.g86 (df p86a) (dt p86b)
         ·rename_i p87a p87b
          subst h;exact h3.g87 (df p87a) (dt p87b)
         ·rename_i p88a p88b
          subst h;exact h3.g88 (df p88a) (df p88b)
         ·rename_i p89a p89b
          subst h;exact h3.g89 (df p89a) (df p89b)
     ·rename_i p90a p90b p90c
      refine Leaf.gen fun σz hσz=>?_
      obtain ⟨I5,m5,i5,c5⟩:V31l5 a0 a1 R:=by subst h;exact h1.l5 (df p90a) (df p90b) (df p90c)
      refine loopB hE hinl 6 [] [] [] (fun x:Rows×Int=>[.l x.1,.i x.2]) (fun x=>I5 x.1 x.2) (fun x=>m5 x.1 x.2) ([],0) (by subst h;exact i5) ?_ ?_<;>subst hσz
      ·clear hE hinl hV;cbv;(try repeat' first|rfl|assumption|constructor)
      ·intro ⟨k0,k1⟩ hI5 K5 hK5
       have h5:=c5 _ _ hI5
       cbv
       repeat' first|(refine Br.mk (fun _=>?_) (fun _=>?_)<;>cbv)|(refine NilB.mk (fun _=>?_) ?_<;>cbv)|refine And.intro ?_ ?_|exact True.intro
       ·rename_i p91a
        subst h;exact h5.g28 (dt p91a)
       ·rename_i p92a
        subst h;exact h5.g29 (dt p92a)
       ·rename_i p93a
        subst h;exact h5.g30 (dt p93a)
       ·rename_i p94a
        subst h;exact h5.g31 (dt p94a)
       ·rename_i p95a
        subst h;exact h5.g32 (dt p95a)
       ·rename_i p96a
        refine hK5 (A.app k0 (A.dl (A.get [[D.l a0],[D.l a1]] (A.toNat k1) 0)),A.add k1 1) _ ?_ ?_ ?_
        ·subst h;exact (h5.n33 (dt p96a)).1
        ·subst h;exact (h5.n33 (dt p96a)).2
        ·clear hE hinl hV hK5;cbv;(try repeat' first|rfl|assumption|constructor)
       ·rename_i p97a
        subst h;exact h5.g34 (df p97a)
       ·rename_i p98a p98b p98c
        subst h;exact h5.g35 (df p98a) (dt p98b) (dt p98c)
       ·rename_i p99a p99b p99c
        subst h;exact h5.g36 (df p99a) (dt p99b) (dt p99c)
       ·rename_i p100a p100b p100c
        subst h;exact h5.g37 (df p100a) (dt p100b) (df p100c)
       ·rename_i p101a p101b p101c
        subst h;exact h5.g38 (df p101a) (dt p101b) (df p101c)
       ·rename_i p102a p102b
        refine Leaf.gen fun σz hσz=>?_
        obtain ⟨I6,m6,i6,c6⟩:V31l3 R k0:=by subst h;exact h5.l3 (df p102a) (df p102b)
        refine loopB hE hinl 6 [] [2] [] (fun x:Int=>[.i x]) (fun x=>I6 x) (fun x=>m6 x) (1) (by subst h;exact i6) ?_ ?_<;>subst hσz
        ·clear hE hinl hV;cbv;(try repeat' first|rfl|assumption|constructor)
        ·intro o0 hI6 K6 hK6
         have h6:=c6 _ hI6
         cbv
         repeat' first|(refine Br.mk (fun _=>?_) (fun _=>?_)<;>cbv)|(refine NilB.mk (fun _=>?_) ?_<;>cbv)|refine And.intro ?_ ?_|exact True.intro
         ·rename_i p103a
          subst h;exact h6.g40 (dt p103a)
         ·rename_i p104a
          subst h;exact h6.g41 (dt p104a)
         ·rename_i p105a
          subst h;exact h6.g42 (dt p105a)
         ·rename_i p106a
          subst h;exact h6.g42 (dt p106a)
         ·rename_i p107a
          subst h;exact h6.g44 (dt p107a)
         ·rename_i p108a
          subst h;exact h6.g45 (dt p108a)
         ·rename_i p109a
          subst h;exact h6.g46 (dt p109a)
         ·rename_i p110a
          subst h;exact h6.g47 (dt p110a)
         ·rename_i p111a
          subst h;exact h6.g47 (dt p111a)
         ·rename_i p112a p112b
          subst h;exact h6.g49 (dt p112a) ⟨(dt (and_t p112b).1),(dt (and_t p112b).2)⟩
         ·rename_i p113a p113b
          subst h;exact h6.g50 (dt p113a) ⟨(dt (and_t p113b).1),(dt (and_t p113b).2)⟩
         ·rename_i p114a p114b
          refine Leaf.gen fun σz hσz=>?_
          obtain ⟨I7,m7,i7,c7⟩:V31l4 R k0 o0:=by subst h;exact h6.l4 (dt p114a) ⟨(dt (and_t p114b).1),(dt (and_t p114b).2)⟩
          refine loopB hE hinl 6 [] [] [(7,[])] (fun x:Int×Int×Rows=>[.i x.1,.i x.2.1,.l x.2.2]) (fun x=>I7 x.1 x.2.1 x.2.2) (fun x=>m7 x.1 x.2.1 x.2.2) (o0,1,A.srt k0) (by subst h;exact i7) ?_ ?_<;>subst hσz
          ·clear hE hinl hV;cbv;(try repeat' first|rfl|assumption|constructor)
          ·intro ⟨q0,q1,q2⟩ hI7 K7 hK7
           have h7:=c7 _ _ _ hI7
           cbv
           repeat' first|(refine Br.mk (fun _=>?_) (fun _=>?_)<;>cbv)|(refine NilB.mk (fun _=>?_) ?_<;>cbv)|refine And.intro ?_ ?_|exact True.intro
           ·rename_i p115a
            subst h;exact h7.g52 (dt p115a)
           ·rename_i p116a
            subst h;exact h7.g53 (dt p116a)
           ·rename_i p117a
            subst h;exact h7.g54 (dt p117a)
           ·rename_i p118a
            subst h;exact h7.g55 (dt p118a)
           ·rename_i p119a
            subst h;exact h7.g55 (dt p119a)
           ·rename_i p120a
            subst h;exact h7.g57 (dt p120a)
           ·rename_i p121a
            subst h;exact h7.g52 (dt p121a)
           ·rename_i p122a
            subst h;exact h7.g59 (dt p122a)
           ·rename_i p123a
            subst h;exact h7.g60 (dt p123a)
           ·rename_i p124a
            subst h;exact h7.g61 (dt p124a)
           ·rename_i p125a
            subst h;exact h7.g61 (dt p125a)
           ·rename_i p126a p126b
            subst h;exact h7.g63 (dt p126a) ((and_f (nt p126b)).imp (fun h=>(df h)) (fun h=>(df h)))
           ·rename_i p127a p127b
            subst h;exact h7.g64 (dt p127a) ((and_f (nt p127b)).imp (fun h=>(df h)) (fun h=>(df h)))
           ·rename_i p128a p128b
            subst h;exact h7.g65 (dt p128a) ((and_f (nt p128b)).imp (fun h=>(df h)) (fun h=>(df h)))
           ·rename_i p129a p129b
            subst h;exact h7.g66 (dt p129a) ((and_f (nt p129b)).imp (fun h=>(df h)) (fun h=>(df h)))
           ·rename_i p130a p130b
            subst h;exact h7.g67 (dt p130a) ((and_f (nt p130b)).imp (fun h=>(df h)) (fun h=>(df h)))
           ·rename_i p131a p131b
            subst h;exact h7.g68 (dt p131a) ((and_f (nt p131b)).imp (fun h=>(df h)) (fun h=>(df h)))
           ·rename_i p132a p132b
            subst h;exact h7.g69 (dt p132a) ((and_f (nt p132b)).imp (fun h=>(df h)) (fun h=>(df h)))
           ·rename_i p133a p133b
            subst h;exact h7.g70 (dt p133a) ((and_f (nt p133b)).imp (fun h=>(df h)) (fun h=>(df h)))
           ·rename_i p134a p134b
            subst h;exact h7.g71 (dt p134a) ((and_f (nt p134b)).imp (fun h=>(df h)) (fun h=>(df h)))
           ·rename_i p135a p135b
            refine hK7 (A.add q0 1,A.add q1 1,A.set q2 (A.toNat q0) [D.i (A.di (A.get q2 (A.nadd (A.toNat o0) (A.toNat q1)) 0)),D.i (A.di (A.get q2 (A.nadd (A.toNat o0) (A.toNat q1)) 1))]) _ ?_ ?_ ?_
            ·subst h;exact (h7.n72 (dt p135a) ((and_f (nt p135b)).imp (fun h=>(df h)) (fun h=>(df h)))).1
            ·subst h;exact (h7.n72 (dt p135a) ((and_f (nt p135b)).imp (fun h=>(df h)) (fun h=>(df h)))).2
            ·clear hE hinl hV hK7;cbv;(try repeat' first|rfl|assumption|constructor)
           ·rename_i p136a p136b
            subst h;exact h7.g73 (dt p136a) ⟨(dt (and_t (nf p136b)).1),(dt (and_t (nf p136b)).2)⟩
           ·rename_i p137a p137b
            refine hK7 (q0,A.add q1 1,q2) _ ?_ ?_ ?_
            ·subst h;exact (h7.n74 (dt p137a) ⟨(dt (and_t (nf p137b)).1),(dt (and_t (nf p137b)).2)⟩).1
            ·subst h;exact (h7.n74 (dt p137a) ⟨(dt (and_t (nf p137b)).1),(dt (and_t (nf p137b)).2)⟩).2
            ·clear hE hinl hV hK7;cbv;(try repeat' first|rfl|assumption|constructor)
           ·rename_i p138a
            subst h;exact h7.g75 (df p138a)
           ·rename_i p139a
            subst h;exact h7.g76 (df p139a)
           ·rename_i p140a
            subst h;exact h7.g77 (df p140a)
           ·rename_i p141a
            subst h;exact h7.g75 (df p141a)
           ·rename_i p142a
            subst h;exact h7.g79 (df p142a)
           ·rename_i p143a p143b
            subst h;exact h7.g80 (df p143a) (dt p143b)
           ·rename_i p144a p144b
            subst h;exact h7.g81 (df p144a) (dt p144b)
           ·rename_i p145a p145b
            subst h;exact h7.g82 (df p145a) (df p145b)
           ·rename_i p146a p146b
            subst h;exact h7.g83 (df p146a) (df p146b)
         ·rename_i p147a p147b
          subst h;exact h6.g84 (dt p147a) ((and_f p147b).imp (fun h=>(df h)) (fun h=>(df h)))
         ·rename_i p148a p148b
          refine hK6 (A.add o0 1) _ ?_ ?_ ?_
          ·subst h;exact (h6.n85 (dt p148a) ((and_f p148b).imp (fun h=>(df h)) (fun h=>(df h)))).1
          ·subst h;exact (h6.n85 (dt p148a) ((and_f p148b).imp (fun h=>(df h)) (fun h=>(df h)))).2
          ·clear hE hinl hV hK6;cbv;(try repeat' first|rfl|assumption|constructor)
         ·rename_i p149a p149b
          subst h;exact h6.g86 (df p149a) (dt p149b)
         ·rename_i p150a p150b
          subst h;exact h6.g87 (df p150a) (dt p150b)
         ·rename_i p151a p151b
          subst h;exact h6.g88 (df p151a) (df p151b)
         ·rename_i p152a p152b
          subst h;exact h6.g89 (df p152a) (df p152b)
end HX

namespace HX
open Go Go.Proofs CX
set_option maxHeartbeats 4000000 in
set_option maxRecDepth 100000 in
set_option cbv.maxSteps 3000000 in
theorem walk33 {ro A pre fn} (hE:EnvOk ⟨A,(cxE ro),ksF,sigL [(51,⟨[(false,[.sl [.int .i64,.int .i64]])],[(false,[.int .i64])],false⟩)],pre,fn⟩) {P:List (List D)→Prop} {res:List (List D)→Nat→Nat→D}
  (hv:∀(a0:Rows) (a1:Int) (a2:Int),ShR [.int .i64,.int .i64] a0→P [[.l a0],[.i a1],[.i a2]]→V33 pre fn a0 a1 a2 (res [[.l a0],[.i a1],[.i a2]])) :
  PureC (cxE ro) 33 ⟨[(false,[.sl [.int .i64,.int .i64]]),(false,[.int .i64]),(false,[.int .i64])],[(false,[.sl [.int .i64,.int .i64]]),(false,[.int .i64])],false⟩ P res:=by
 have h:=hE.A
 simp only [] at h
 have hinl:∀f fn,inlL [(79,Try.f79),(80,Try.f80),(81,Try.f81),(83,Try.f83)] f=some fn→(cxE ro).fn f=some fn∧(cxE ro).ext f=none:=Inls.ok (by repeat (first |exact .nil |refine .cons rfl rfl ?_))
 refine PureC.of_vc hE hinl 6 (f:=33) (fn:=Try.f33) ⟨rfl,rfl⟩ ?_
 intro a0 ha0 a1 a2 hP
 obtain ⟨R,hR⟩:∃R,res [[.l a0],[.i a1],[.i a2]]=R:=⟨_,rfl⟩
 rw [hR]
 have hV:=hv a0 a1 a2 ha0 hP
 rw [hR] at hV
 clear hR hP hv
 cbv
 repeat' first|(refine Br.mk (fun _=>?_) (fun _=>?_)<;>cbv)|(refine NilB.mk (fun _=>?_) ?_<;>cbv)|refine And.intro ?_ ?_|exact True.intro
 ·subst h;exact hV.g0
 ·rename_i p1a
  subst h;exact hV.g1 (df (nt p1a))
 ·rename_i p2a
  subst h;exact hV.g2 (df (nt p2a))
 ·rename_i p3a p3b
  subst h;exact hV.g3 (dt (nf p3a)) (dt p3b)
 ·rename_i p4a p4b
  subst h;exact hV.g4 (dt (nf p4a)) (dt p4b)
 ·rename_i p5a p5b p5c
  refine Leaf.gen fun σz hσz=>?_
  obtain ⟨I0,m0,i0,c0⟩:V33l0 R:=by subst h;exact hV.l0 (dt (nf p5a)) (df p5b) p5c
  refine loopB hE hinl 6 [] [] [] (fun x:Int×Int=>[.i x.1,.i x.2]) (fun x=>I0 x.1 x.2) (fun x=>m0 x.1 x.2) (0,0) (by subst h;exact i0) ?_ ?_<;>subst hσz
  ·clear hE hinl hV;cbv;(try repeat' first|rfl|assumption|constructor)
  ·intro ⟨b0,b1⟩ hI0 K0 hK0
   have h0:=c0 _ _ hI0
   cbv
   repeat' first|(refine Br.mk (fun _=>?_) (fun _=>?_)<;>cbv)|(refine NilB.mk (fun _=>?_) ?_<;>cbv)|refine And.intro ?_ ?_|exact True.intro
   ·rename_i p6a
    subst h;exact (h0.g6 (dt p6a)).elim
   ·rename_i p7a p7b
    subst h;exact h0.g7 (df p7a)
   ·rename_i p8a p8b
    subst h;exact h0.g8 (df p8a)
   ·rename_i p9a p9b
    exfalso;subst h;simp [Ar.std] at p9b
   ·rename_i p10a p10b
    exfalso;subst h;simp [Ar.std] at p10b
 ·rename_i p11a p11b
  subst h;exact hV.g11 (dt (nf p11a)) (df p11b)
 ·rename_i p12a p12b
  refine Leaf.gen fun σz hσz=>?_
  obtain ⟨I1,m1,i1,c1⟩:V33l1 a0 a1 a2 R:=by subst h;exact hV.l1 (dt (nf p12a)) (df p12b)
  refine loopB hE hinl 6 [] [] [] (fun x:Int×Int=>[.i x.1,.i x.2]) (fun x=>I1 x.1 x.2) (fun x=>m1 x.1 x.2) (0,0) (by subst h;exact i1) ?_ ?_<;>subst hσz
  ·clear hE hinl hV;cbv;(try repeat' first|rfl|assumption|constructor)
  ·intro ⟨d0,d1⟩ hI1 K1 hK1
   have h1:=c1 _ _ hI1
   cbv
   repeat' first|(refine Br.mk (fun _=>?_) (fun _=>?_)<;>cbv)|(refine NilB.mk (fun _=>?_) ?_<;>cbv)|refine And.intro ?_ ?_|exact True.intro
   ·rename_i p13a
    subst h;exact h1.g13 (dt p13a)
   ·rename_i p14a
    subst h;exact h1.g14 (dt p14a)
   ·rename_i p15a
    subst h;exact h1.g15 (dt p15a)
   ·rename_i p16a p16b p16c
    subst h;exact h1.g16 (dt p16a) (dt p16b) (dt p16c)
   ·rename_i p17a p17b p17c
    subst h;exact h1.g17 (dt p17a) (dt p17b) (dt p17c)
   ·rename_i p18a p18b p18c
    subst h;exact h1.g18 (dt p18a) (dt p18b) (df p18c)
   ·rename_i p19a p19b p19c
    refine Leaf.gen fun σz hσz=>?_
    obtain ⟨I2,m2,i2,c2⟩:V33l2 a0 a1 a2 R d1:=by subst h;exact h1.l2 (dt p19a) (dt p19b) (df p19c)
    refine loopB hE hinl 6 [] [] [(5,[])] (fun x:Int×Int×Rows=>[.i x.1,.i x.2.1,.l x.2.2]) (fun x=>I2 x.1 x.2.1 x.2.2) (fun x=>m2 x.1 x.2.1 x.2.2) (d1,A.add d1 1,A.app [] a0) (by subst h;exact i2) ?_ ?_<;>subst hσz
    ·clear hE hinl hV;cbv;(try repeat' first|rfl|assumption|constructor)
    ·intro ⟨e0,e1,e2⟩ hI2 K2 hK2
     have h2:=c2 _ _ _ hI2
     cbv
     repeat' first|(refine Br.mk (fun _=>?_) (fun _=>?_)<;>cbv)|(refine NilB.mk (fun _=>?_) ?_<;>cbv)|refine And.intro ?_ ?_|exact True.intro
     ·rename_i p20a
      subst h;exact h2.g20 (dt p20a)
     ·rename_i p21a
      subst h;exact h2.g21 (dt p21a)
     ·rename_i p22a
      subst h;exact h2.g22 (dt p22a)
     ·rename_i p23a p23b
      subst h;exact h2.g23 (dt p23a) (dt p23b)
     ·rename_i p24a p24b
      refine hK2 (e0,A.add e1 1,e2) _ ?_ ?_ ?_
      ·subst h;exact (h2.n24 (dt p24a) (dt p24b)).1
      ·subst h;exact (h2.n24 (dt p24a) (dt p24b)).2
      ·clear hE hinl hV hK2;cbv;(try repeat' first|rfl|assumption|constructor)
     ·rename_i p25a p25b p25c
      subst h;exact h2.g25 (dt p25a) (df p25b) (df (nt p25c))
     ·rename_i p26a p26b p26c
      subst h;exact h2.g26 (dt p26a) (df p26b) (df (nt p26c))
     ·rename_i p27a p27b p27c
      subst h;exact h2.g27 (dt p27a) (df p27b) (df (nt p27c))
     ·rename_i p28a p28b p28c
      subst h;exact h2.g28 (dt p28a) (df p28b) (df (nt p28c))
     ·rename_i p29a p29b p29c
      subst h;exact h2.g29 (dt p29a) (df p29b) (df (nt p29c))
     ·rename_i p30a p30b p30c
      refine hK2 (A.add e0 1,A.add e1 1,A.set e2 (A.toNat e0) [D.i (A.di (A.get e2 (A.toNat e1) 0)),D.i (A.di (A.get e2 (A.toNat e1) 1))]) _ ?_ ?_ ?_
      ·subst h;exact (h2.n30 (dt p30a) (df p30b) (df (nt p30c))).1
      ·subst h;exact (h2.n30 (dt p30a) (df p30b) (df (nt p30c))).2
      ·clear hE hinl hV hK2;cbv;(try repeat' first|rfl|assumption|constructor)
     ·rename_i p31a p31b p31c
      subst h;exact h2.g31 (dt p31a) (df p31b) (dt (nf p31c))
     ·rename_i p32a p32b p32c
      refine hK2 (e0,A.add e1 1,e2) _ ?_ ?_ ?_
      ·subst h;exact (h2.n32 (dt p32a) (df p32b) (dt (nf p32c))).1
      ·subst h;exact (h2.n32 (dt p32a) (df p32b) (dt (nf p32c))).2
      ·clear hE hinl hV hK2;cbv;(try repeat' first|rfl|assumption|constructor)
     ·rename_i p33a
      subst h;exact h2.g33 (df p33a)
     ·rename_i p34a
      subst h;exact h2.g34 (df p34a)
     ·rename_i p35a
      subst h;exact h2.g35 (df p35a)
     ·rename_i p36a
      subst h;exact h2.g33 (df p36a)
     ·rename_i p37a
      subst h;exact h2.g37 (df p37a)
     ·rename_i p38a
      subst h;exact h2.g38 (df p38a)
     ·rename_i p39a
      subst h;exact h2.g39 (df p39a)
   ·rename_i p40a p40b p40c p40d
    subst h;exact h1.g40 (dt p40a) (df p40b) (dt p40c) (dt p40d)
   ·rename_i p41a p41b p41c p41d
    subst h;exact h1.g41 (dt p41a) (df p41b) (dt p41c) (dt p41d)
   ·rename_i p42a p42b p42c p42d
    subst h;exact h1.g42 (dt p42a) (df p42b) (dt p42c) (df p42d)
   ·rename_i p43a p43b p43c p43d
    refine Leaf.gen fun σz hσz=>?_
    obtain ⟨I3,m3,i3,c3⟩:V33l2 a0 a1 a2 R d1:=by subst h;exact h1.l3 (dt p43a) (df p43b) (dt p43c) (df p43d)
    refine loopB hE hinl 6 [] [] [(5,[])] (fun x:Int×Int×Rows=>[.i x.1,.i x.2.1,.l x.2.2]) (fun x=>I3 x.1 x.2.1 x.2.2) (fun x=>m3 x.1 x.2.1 x.2.2) (d1,A.add d1 1,A.app [] a0) (by subst h;exact i3) ?_ ?_<;>subst hσz
    ·clear hE hinl hV;cbv;(try repeat' first|rfl|assumption|constructor)
    ·intro ⟨f0,f1,f2⟩ hI3 K3 hK3
     have h3:=c3 _ _ _ hI3
     cbv
     repeat' first|(refine Br.mk (fun _=>?_) (fun _=>?_)<;>cbv)|(refine NilB.mk (fun _=>?_) ?_<;>cbv)|refine And.intro ?_ ?_|exact True.intro
     ·rename_i p44a
      subst h;exact h3.g20 (dt p44a)
     ·rename_i p45a
      subst h;exact h3.g21 (dt p45a)
     ·rename_i p46a
      subst h;exact h3.g22 (dt p46a)
     ·rename_i p47a p47b
      subst h;exact h3.g23 (dt p47a) (dt p47b)
     ·rename_i p48a p48b
      refine hK3 (f0,A.add f1 1,f2) _ ?_ ?_ ?_
      ·subst h;exact (h3.n24 (dt p48a) (dt p48b)).1
      ·subst h;exact (h3.n24 (dt p48a) (dt p48b)).2
      ·clear hE hinl hV hK3;cbv;(try repeat' first|rfl|assumption|constructor)
     ·rename_i p49a p49b p49c
      subst h;exact h3.g25 (dt p49a) (df p49b) (df (nt p49c))
     ·rename_i p50a p50b p50c
      subst h;exact h3.g26 (dt p50a) (df p50b) (df (nt p50c))
     ·rename_i p51a p51b p51c
      subst h;exact h3.g27 (dt p51a) (df p51b) (df (nt p51c))
     ·rename_i p52a p52b p52c
      subst h;exact h3.g28 (dt p52a) (df p52b) (df (nt p52c))
     ·rename_i p53a p53b p53c
      subst h;exact h3.g29 (dt p53a) (df p53b) (df (nt p53c))
     ·rename_i p54a p54b p54c
      refine hK3 (A.add f0 1,A.add f1 1,A.set f2 (A.toNat f0) [D.i (A.di (A.get f2 (A.toNat f1) 0)),D.i (A.di (A.get f2 (A.toNat f1) 1))]) _ ?_ ?_ ?_
      ·subst h;exact (h3.n30 (dt p54a) (df p54b) (df (nt p54c))).1
      ·subst h;exact (h3.n30 (dt p54a) (df p54b) (df (nt p54c))).2
      ·clear hE hinl hV hK3;cbv;(try repeat' first|rfl|assumption|constructor)
     ·rename_i p55a p55b p55c
      subst h;exact h3.g31 (dt p55a) (df p55b) (dt (nf p55c))
     ·rename_i p56a p56b p56c
      refine hK3 (f0,A.add f1 1,f2) _ ?_ ?_ ?_
      ·subst h;exact (h3.n32 (dt p56a) (df p56b) (dt (nf p56c))).1
      ·subst h;exact (h3.n32 (dt p56a) (df p56b) (dt (nf p56c))).2
      ·clear hE hinl hV hK3;cbv;(try repeat' first|rfl|assumption|constructor)
     ·rename_i p57a
      subst h;exact h3.g33 (df p57a)
     ·rename_i p58a
      subst h;exact h3.g34 (df p58a)
     ·rename_i p59a
      subst h;exact h3.g35 (df p59a)
     ·rename_i p60a
      subst h;exact h3.g33 (df p60a)
     ·rename_i p61a
      subst h;exact h3.g37 (df p61a)
     ·rename_i p62a
      subst h;exact h3.g38 (df p62a)
     ·rename_i p63a
      subst h;exact h3.g39 (df p63a)
   ·rename_i p64a p64b p64c
    subst h;exact h1.g64 (dt p64a) (df p64b) (df p64c)
   ·rename_i p65a p65b p65c
    refine hK1 (d0,A.add d1 1) _ ?_ ?_ ?_
    ·subst h;exact (h1.n65 (dt p65a) (df p65b) (df p65c)).1
    ·subst h;exact (h1.n65 (dt p65a) (df p65b) (df p65c)).2
    ·clear hE hinl hV hK1;cbv;(try repeat' first|rfl|assumption|constructor)
   ·rename_i p66a p66b
    subst h;exact h1.g66 (df p66a)
   ·rename_i p67a p67b
    subst h;exact h1.g67 (df p67a)
   ·rename_i p68a p68b
    exfalso;subst h;simp [Ar.std] at p68b
   ·rename_i p69a p69b
    exfalso;subst h;simp [Ar.std] at p69b
end HX

namespace HX
open Go Go.Proofs CX
set_option maxHeartbeats 4000000 in
set_option maxRecDepth 100000 in
theorem walk38 {ro A pre fn} (hE:EnvOk ⟨A,(cxE ro),ksF,sigL [],pre,fn⟩) {P:List (List D)→Prop} {res:List (List D)→Nat→Nat→D}
  (hv:∀(a0:Rows) (a1:Int),ShR [.int .u32,.int .u32] a0→P [[.l a0],[.i a1]]→∃(I0:Int→Int→Rows→Int→Prop) (m0:Int→Int→Rows→Int→Nat),V38 a0 a1 (res [[.l a0],[.i a1]]) I0 m0) :
  PureC (cxE ro) 38 ⟨[(false,[.sl [.int .u32,.int .u32]]),(false,[.int .u32])],[(false,[.sl [.int .i64,.int .i64]])],false⟩ P res:=by
 have h:=hE.A
 simp only [] at h
 have hinl:∀f fn,inlL [(44,Try.f44)] f=some fn→(cxE ro).fn f=some fn∧(cxE ro).ext f=none:=Inls.ok (by repeat (first |exact .nil |refine .cons rfl rfl ?_))
 refine PureC.of_vc hE hinl 6 (f:=38) (fn:=Try.f38) ⟨rfl,rfl⟩ ?_
 intro a0 ha0 a1 hP
 obtain ⟨R,hR⟩:∃R,res [[.l a0],[.i a1]]=R:=⟨_,rfl⟩
 rw [hR]
 obtain ⟨I0,m0,hV⟩:=hv a0 a1 ha0 hP
 rw [hR] at hV
 clear hR hP hv
 cbv
 repeat' first|(refine Br.mk (fun _=>?_) (fun _=>?_)<;>cbv)|(refine NilB.mk (fun _=>?_) ?_<;>cbv)|refine And.intro ?_ ?_|exact True.intro
 ·refine Leaf.gen fun σz hσz=>?_
  refine loopB hE hinl 6 [] [] [] (fun x:Int×Int×Rows×Int=>[.i x.1,.i x.2.1,.l x.2.2.1,.i x.2.2.2]) (fun x=>I0 x.1 x.2.1 x.2.2.1 x.2.2.2) (fun x=>m0 x.1 x.2.1 x.2.2.1 x.2.2.2) (-1,0,[],0) (by subst h;exact hV.i0) ?_ ?_<;>subst hσz
  ·clear hE hinl hV;cbv;(try repeat' first|rfl|assumption|constructor)
  ·intro ⟨x0_0,x0_1,x0_2,x0_3⟩ hI0 K0 hK0
   cbv
   repeat' first|(refine Br.mk (fun _=>?_) (fun _=>?_)<;>cbv)|(refine NilB.mk (fun _=>?_) ?_<;>cbv)|refine And.intro ?_ ?_|exact True.intro
   ·next a=>subst h;exact hV.g1 _ _ _ _ hI0 (dt a)
   ·next a=>subst h;exact hV.g2 _ _ _ _ hI0 (dt a)
   ·next a=>subst h;exact hV.g3 _ _ _ _ hI0 (dt a)
   ·next a=>subst h;exact hV.g4 _ _ _ _ hI0 (dt a)
   ·next a=>subst h;exact hV.g5 _ _ _ _ hI0 (dt a)
   ·next a b=>subst h;exact hV.g6 _ _ _ _ hI0 (dt a) (dt b)
   ·next a b=>subst h;exact hV.g7 _ _ _ _ hI0 (dt a) (dt b)
   ·next a b=>subst h;exact hV.g8 _ _ _ _ hI0 (dt a) (dt b)
   ·next a b=>subst h;exact hV.g9 _ _ _ _ hI0 (dt a) (dt b)
   ·next a b c=>subst h;exact hV.g10 _ _ _ _ hI0 (dt a) (dt b) (dt c)
   ·next a b c=>subst h;exact hV.g11 _ _ _ _ hI0 (dt a) (dt b) (dt c)
   ·next a b c=>subst h;exact hV.g12 _ _ _ _ hI0 (dt a) (dt b) (dt c)
   ·next a b c=>subst h;exact hV.g13 _ _ _ _ hI0 (dt a) (dt b) (dt c)
   ·next a b c d=>subst h;exact hV.g14 _ _ _ _ hI0 (dt a) (dt b) (dt c) (dt d)
   ·next a b c d=>subst h;exact hV.g15 _ _ _ _ hI0 (dt a) (dt b) (dt c) (df d)
   ·next a b c d=>subst h;exact hV.g16 _ _ _ _ hI0 (dt a) (dt b) (dt c) (df d)
   ·rename_i p17a p17b p17c p17d
    refine hK0 (A.add x0_0 (A.add 1 (A.tmod (A.di (A.get a0 (A.toNat x0_3) 1)) 100)),x0_1,A.app x0_2 [[D.i x0_1,D.i (A.add x0_0 (A.add 1 (A.tmod (A.di (A.get a0 (A.toNat x0_3) 1)) 100)))]],A.add x0_3 1) _ ?_ ?_ ?_
    ·subst h;exact (hV.n17 _ _ _ _ hI0 (dt p17a) (dt p17b) (dt p17c) (df p17d)).1
    ·subst h;exact (hV.n17 _ _ _ _ hI0 (dt p17a) (dt p17b) (dt p17c) (df p17d)).2
    ·clear hE hinl hV hK0;cbv;(try repeat' first|rfl|assumption|constructor)
   ·next a b c=>subst h;exact hV.g18 _ _ _ _ hI0 (dt a) (dt b) (df c)
   ·next a b c=>subst h;exact hV.g19 _ _ _ _ hI0 (dt a) (dt b) (df c)
   ·next a b c=>subst h;exact hV.g20 _ _ _ _ hI0 (dt a) (dt b) (df c)
   ·next a b c d=>subst h;exact hV.g21 _ _ _ _ hI0 (dt a) (dt b) (df c) (dt d)
   ·next a b c d=>subst h;exact hV.g22 _ _ _ _ hI0 (dt a) (dt b) (df c) (df d)
   ·next a b c d=>subst h;exact hV.g23 _ _ _ _ hI0 (dt a) (dt b) (df c) (df d)
   ·rename_i p24a p24b p24c p24d
    refine hK0 (A.tmod (A.di (A.get a0 (A.toNat x0_3) 1)) 65536,A.add x0_1 (A.max 1 (A.tmod (A.di (A.get a0 (A.toNat x0_3) 0)) (A.wrap .u32 (A.add a1 1)))),A.app x0_2 [[D.i (A.add x0_1 (A.max 1 (A.tmod (A.di (A.get a0 (A.toNat x0_3) 0)) (A.wrap .u32 (A.add a1 1))))),D.i (A.tmod (A.di (A.get a0 (A.toNat x0_3) 1)) 65536)]],A.add x0_3 1) _ ?_ ?_ ?_
    ·subst h;exact (hV.n24 _ _ _ _ hI0 (dt p24a) (dt p24b) (df p24c) (df p24d)).1
    ·subst h;exact (hV.n24 _ _ _ _ hI0 (dt p24a) (dt p24b) (df p24c) (df p24d)).2
    ·clear hE hinl hV hK0;cbv;(try repeat' first|rfl|assumption|constructor)
   ·next a b=>subst h;exact hV.g25 _ _ _ _ hI0 (dt a) (df b)
   ·next a b=>subst h;exact hV.g26 _ _ _ _ hI0 (dt a) (df b)
   ·next a b=>subst h;exact hV.g27 _ _ _ _ hI0 (dt a) (df b)
   ·next a b c=>subst h;exact hV.g28 _ _ _ _ hI0 (dt a) (df b) (dt c)
   ·next a b c=>subst h;exact hV.g29 _ _ _ _ hI0 (dt a) (df b) (df c)
   ·next a b c=>subst h;exact hV.g30 _ _ _ _ hI0 (dt a) (df b) (df c)
   ·rename_i p31a p31b p31c
    refine hK0 (A.tmod (A.di (A.get a0 (A.toNat x0_3) 1)) 65536,A.add x0_1 (A.max 1 (A.tmod (A.di (A.get a0 (A.toNat x0_3) 0)) (A.wrap .u32 (A.add a1 1)))),A.app x0_2 [[D.i (A.add x0_1 (A.max 1 (A.tmod (A.di (A.get a0 (A.toNat x0_3) 0)) (A.wrap .u32 (A.add a1 1))))),D.i (A.tmod (A.di (A.get a0 (A.toNat x0_3) 1)) 65536)]],A.add x0_3 1) _ ?_ ?_ ?_
    ·subst h;exact (hV.n31 _ _ _ _ hI0 (dt p31a) (df p31b) (df p31c)).1
    ·subst h;exact (hV.n31 _ _ _ _ hI0 (dt p31a) (df p31b) (df p31c)).2
    ·clear hE hinl hV hK0;cbv;(try repeat' first|rfl|assumption|constructor)
   ·next a=>subst h;exact hV.g32 _ _ _ _ hI0 (df a)
end HX

namespace HX
open Go Go.Proofs CX
abbrev tru:List (List D)→Prop:=fun _=>True
def p17:List (List D)→Prop
 |[[.l a],[.l b]]=>b=a
 |_=>False
def r50:List (List D)→Nat→Nat→D
 |[[.i a],[.i b],[.i c]],_,_=>.b (inB a b c)
 |_,_,_=>.nil
def r100:List (List D)→Nat→Nat→D
 |[[.i a],[.i b]],_,_=>.i (cmpI a b)
 |_,_,_=>.nil
def r76:List (List D)→Nat→Nat→D
 |[[.i a,.i b],[.i c,.i d]],_,_=>.i (cmpE a b c d)
 |_,_,_=>.nil
def r71:List (List D)→Nat→Nat→D
 |[[.l l],[.i a,.i b]],_,_=>.i (folE l a b)
 |_,_,_=>.nil
def r51:List (List D)→Nat→Nat→D
 |[[.l l]],_,_=>.i (chkE l)
 |_,_,_=>.nil
def p31:List (List D)→Prop
 |[[.l a],[.l b]]=>a.length+b.length≤2048
 |_=>False
noncomputable def r31:List (List D)→Nat→Nat→D
 |[[.l a],[.l b]],0,_=>.l (mrgL a b)
 |[[.l a],[.l b]],_,_=>.i (mrgE a b)
 |_,_,_=>.nil
noncomputable def r33:List (List D)→Nat→Nat→D
 |[[.l a],[.i f],[.i t]],0,_=>.l (cutL a f t)
 |[[.l a],[.i f],[.i t]],_,_=>.i (cutE a f t)
 |_,_,_=>.nil
def p38:List (List D)→Prop
 |[[.l l],[.i m]]=>u32L l∧l.length≤1000∧0≤m∧m≤4000000000
 |_=>False
noncomputable def r38:List (List D)→Nat→Nat→D
 |[[.l l],[.i m]],_,_=>.l (strm l m)
 |_,_,_=>.nil
noncomputable def c17:Ctr:=⟨17,⟨[(false,[.sl [.int .i64,.int .i64]]),(false,[.sl [.int .i64,.int .i64]])],[(false,[.bool])],false⟩,p17,(fun _ _ _=>.b true)⟩
noncomputable def c50:Ctr:=⟨50,⟨[(false,[.int .i64]),(false,[.int .i64]),(false,[.int .i64])],[(false,[.bool])],false⟩,tru,r50⟩
noncomputable def c100:Ctr:=⟨100,⟨[(false,[.int .i64]),(false,[.int .i64])],[(false,[.int .i64])],false⟩,tru,r100⟩
noncomputable def c76:Ctr:=⟨76,⟨[(true,[.int .i64,.int .i64]),(true,[.int .i64,.int .i64])],[(false,[.int .i64])],false⟩,tru,r76⟩
noncomputable def c71:Ctr:=⟨71,⟨[(false,[.sl [.int .i64,.int .i64]]),(true,[.int .i64,.int .i64])],[(false,[.int .i64])],false⟩,tru,r71⟩
noncomputable def c51:Ctr:=⟨51,⟨[(false,[.sl [.int .i64,.int .i64]])],[(false,[.int .i64])],false⟩,tru,r51⟩
noncomputable def c31:Ctr:=⟨31,⟨[(false,[.sl [.int .i64,.int .i64]]),(false,[.sl [.int .i64,.int .i64]])],[(false,[.sl [.int .i64,.int .i64]]),(false,[.int .i64])],false⟩,p31,r31⟩
noncomputable def c33:Ctr:=⟨33,⟨[(false,[.sl [.int .i64,.int .i64]]),(false,[.int .i64]),(false,[.int .i64])],[(false,[.sl [.int .i64,.int .i64]]),(false,[.int .i64])],false⟩,tru,r33⟩
noncomputable def c38:Ctr:=⟨38,⟨[(false,[.sl [.int .u32,.int .u32]]),(false,[.int .u32])],[(false,[.sl [.int .i64,.int .i64]])],false⟩,p38,r38⟩
noncomputable def c13:Ctr:=⟨13,⟨[],[(false,[.bool])],false⟩,tru,(fun _ _ _=>.b true)⟩
section
variable (ro:Addr→Option V)
theorem k17:PureC (cxE ro) c17.f c17.sg c17.pre c17.res:=walk17 (envL (l:=[]) .nil) fun _ _ ha _ h=>⟨_,_,law17 h (by have:=ha.2;omega) rfl⟩
theorem k50:PureC (cxE ro) c50.f c50.sg c50.pre c50.res:=walk50 (envL (l:=[]) .nil) fun _ _ _ _=>law50 rfl
theorem k100:PureC (cxE ro) c100.f c100.sg c100.pre c100.res:=walk100 (envL (l:=[]) .nil) fun _ _ _=>law100 rfl
theorem k76:PureC (cxE ro) c76.f c76.sg c76.pre c76.res:=walk76 (envL (l:=[c100]) (.cons (k100 ro) .nil)) fun _ _ _ _ _=>⟨_,_,law76 (fun _=>trivial) (fun _ _=>rfl) rfl⟩
theorem k71:PureC (cxE ro) c71.f c71.sg c71.pre c71.res:=walk71 (envL (l:=[c50,c76]) (.cons (k50 ro) (.cons (k76 ro) .nil))) fun _ _ _ ha _=>law71 (fun _=>trivial) (fun _ _ _=>rfl) (fun _=>trivial) (fun _ _ _ _=>rfl) (by have:=ha.2;omega) rfl
theorem k51:PureC (cxE ro) c51.f c51.sg c51.pre c51.res:=walk51 (envL (l:=[c71]) (.cons (k71 ro) .nil)) fun _ _ _=>⟨_,_,law51 (fun _=>trivial) (fun _ _ _=>rfl) rfl⟩
theorem k31:PureC (cxE ro) c31.f c31.sg c31.pre c31.res:=walk31 (envL (l:=[c51]) (.cons (k51 ro) .nil)) fun _ _ _ _ h=>law31 (fun _=>trivial) (fun _=>rfl) h rfl rfl
theorem k33:PureC (cxE ro) c33.f c33.sg c33.pre c33.res:=walk33 (envL (l:=[c51]) (.cons (k51 ro) .nil)) fun _ _ _ ha _=>law33 (fun _=>trivial) (fun _=>rfl) (shr_can ha) rfl rfl
theorem k38:PureC (cxE ro) c38.f c38.sg c38.pre c38.res:=walk38 (envL (l:=[]) .nil) fun _ _ _ h=>⟨_,_,law38 h.1 h.2.1 h.2.2.1 h.2.2.2 rfl⟩
theorem k13:PureC (cxE ro) c13.f c13.sg c13.pre c13.res:=works_pure
end
noncomputable def l10:List Ctr:=[c13,c17,c31,c33,c38]
theorem k_l10 (ro:Addr→Option V):Ctrs (cxE ro) l10:=(.cons (k13 ro) (.cons (k17 ro) (.cons (k31 ro) (.cons (k33 ro) (.cons (k38 ro) .nil)))))
end HX

namespace HX
open Go Go.Proofs CX
theorem rng_u32:∀{row:List D},RngL [.int .u32,.int .u32] row→(0≤(row.getD 0 .nil).int∧(row.getD 0 .nil).int≤4294967295)∧0≤(row.getD 1 .nil).int∧(row.getD 1 .nil).int≤4294967295
 |[],_=>⟨⟨by decide,by decide⟩,by decide,by decide⟩
 |[_],h=>⟨h.1,show (0:Int)≤0∧(0:Int)≤4294967295 by decide⟩
 |_ :: _ :: _,h=>⟨h.1,h.2.1⟩
theorem law10' {a0 a1:Rows} {a2 a3:Int} (h:RngAll [(false,[.sl [.int .u32,.int .u32]]),(false,[.sl [.int .u32,.int .u32]]),(false,[.int .u16]),(false,[.int .u16])] [[.l a0],[.l a1],[.i a2],[.i a3]]) :
  V10 (preOf l10) (resOf l10) a0 a1 a2 a3 (fun _ _=>.b true):=by
 obtain ⟨⟨h0,_⟩,⟨h1,_⟩,⟨h2,_⟩,⟨h3,_⟩,_⟩:=h
 have hu:∀a:Rows,(∀row∈a,RngL [.int .u32,.int .u32] row)→u32L a:=fun a ha i hi=>by
  have m:a.getD i []∈a:=by rw [List.getD_eq_getElem?_getD,List.getElem?_eq_getElem hi];exact List.getElem_mem hi
  exact rng_u32 (ha _ m)
 exact law10 trivial rfl (fun _ _ h=>h) (fun _=>rfl) (fun _ _ h=>h) (fun _ _=>rfl) (fun _ _=>rfl) (fun _=>trivial) (fun _ _ _=>rfl) (fun _ _ _=>rfl) (fun _ _ h1 h2 h3 h4=>⟨h1,h2,h3,h4⟩) (fun _ _=>rfl) (hu a0 h0) (hu a1 h1) h2 h3 rfl
end HX

namespace Go.Proofs.Ytmnaiddobipclaa.senseParts
open Go.ChangeShapes Go.WideShapes Go.ChangeAt Go.RowKit HX
def ps:List (Bool×List Kd):=[(false,[.sl [.int .u32,.int .u32]]),(false,[.sl [.int .u32,.int .u32]]),(false,[.int .u16]),(false,[.int .u16])]
theorem law (ro:Addr→Option CX.V):PureC0 (cxE ro) 10 ⟨ps,[(false,[.bool])],false⟩ (RngAll ps) trueRes:=walk10 (envL (l:=l10) (k_l10 ro)) fun _ _ _ _ _ _ h=>law10' h
theorem lenN {α β:Type} {F:List α→β} {G:List α→β} (h:∀a b c d,F [a,b,c,d]=G [a,b,c,d]):∀ds:List α,ds.length=4→F ds=G ds
 |[a,b,c,d],_=>h a b c d
set_option maxRecDepth 100000 in
set_option maxHeartbeats 400000 in
theorem lifted (os:Os) (started:os.Started) (H:Type) (enc:TypeId×Value→H) :
  ReturnsInHanded {} Try.checked os 10 .any (Rows.sensePartsSpec.pre6 enc Try.prog Try.f10 Rows.sensePartsRow.domain false) (Rows.sensePartsSpec.post enc Try.prog Try.f10 false true false false):=by
 refine returnsInHanded_of_change (C:=Try.checked) own started (by kernel_rfl) Try.func10
  (ChangeSpec.witness6 (enc:=enc) (C:=Try.checked) false ⟨#[],#[.slice none 0 0,.slice none 0 0,.int .u16 0,.int .u16 0],[]⟩ 8 (by kernel_rfl) (by kernel_rfl) (by kernel_rfl) (by kernel_rfl)) ?_
 intro W base args ds gs before hval hW _ _
 exact said (f:=Try.f10) (s:=Rows.sensePartsSpec) (n:=8) (tb:=4) cxE_ok law (by kernel_rfl) laid (by kernel_rfl) rfl Try.underlying4
  (lenN (F:=Rows.sensePartsSpec.fn H) (G:=fun ds=>⟨[.lit (.bool true)],ds,[]⟩) fun _ _ _ _=>rfl) rfl W base args ds gs before hval hW
theorem holds:Rows.SensePartsSaid:=
 OpenClaim.holds_of_wide 10 Try.f10 rfl rfl rfl rfl rfl rfl rfl ⟨rfl,rfl,rfl,rfl,rfl⟩ rfl rfl rfl rfl rfl (by kernel_rfl) Try.func10 (by kernel_rfl)
  (of_decide_eq_true (by kernel_rfl)) (by unfold Func.isWrapper;first |(rw [if_pos (by decide +kernel)];kernel_rfl) |(rw [if_neg (by decide +kernel)];exact ⟨rfl,rfl⟩))
  (fun os started H enc _=>lifted os started H enc)
end Go.Proofs.Ytmnaiddobipclaa.senseParts
