/-
  Texts of the executors: W18, W19.
-/
import Derived.Test.YtmnaiddobipclaaSenseSees10
set_option linter.all false
namespace HX
open Go Go.Proofs CX
set_option maxHeartbeats 4000000 in
set_option maxRecDepth 100000 in
theorem walk18 {ro A pre fn} (hE:EnvOk ⟨A,(cxE ro),ksF,sigL [(46,⟨[(true,[.int .i64,.int .i64,.int .i64]),(false,[.sl [.int .i64]])],[(false,[.int .i64])],false⟩),(50,⟨[(false,[.int .i64]),(false,[.int .i64]),(false,[.int .i64])],[(false,[.bool])],false⟩),(51,⟨[(false,[.sl [.int .i64,.int .i64]])],[(false,[.int .i64])],false⟩),(52,⟨[(true,[.int .i64,.int .i64,.int .i64])],[(false,[.int .i64])],false⟩)],pre,fn⟩) {P:List (List D)→Prop} {res:List (List D)→Nat→Nat→D}
  (hv:∀(a0_0:Int) (a0_1:Int) (a0_2:Int) (a1:Rows) (a2:Rows) (a3:Int),ShR [.int .i64] a1→ShR [.int .i64,.int .i64] a2→P [[.i a0_0,.i a0_1,.i a0_2],[.l a1],[.l a2],[.i a3]]→V18 pre fn a0_0 a0_1 a0_2 a1 a2 a3 (res [[.i a0_0,.i a0_1,.i a0_2],[.l a1],[.l a2],[.i a3]])) :
  PureC (cxE ro) 18 ⟨[(true,[.int .i64,.int .i64,.int .i64]),(false,[.sl [.int .i64]]),(false,[.sl [.int .i64,.int .i64]]),(false,[.int .i64])],[(false,[.sl [.sl [.int .i64]]]),(false,[.int .i64])],false⟩ P res:=by
 have h:=hE.A
 simp only [] at h
 have hinl:∀f fn,inlL [(45,Try.f45),(47,Try.f47)] f=some fn→(cxE ro).fn f=some fn∧(cxE ro).ext f=none:=Inls.ok (by repeat (first |exact .nil |refine .cons rfl rfl ?_))
 refine PureC.of_vc hE hinl 6 (f:=18) (fn:=Try.f18) ⟨rfl,rfl⟩ ?_
 intro a0_0 a0_1 a0_2 a1 ha1 a2 ha2 a3 hP
 obtain ⟨R,hR⟩:∃R,res [[.i a0_0,.i a0_1,.i a0_2],[.l a1],[.l a2],[.i a3]]=R:=⟨_,rfl⟩
 rw [hR]
 have hV:=hv a0_0 a0_1 a0_2 a1 a2 a3 ha1 ha2 hP
 rw [hR] at hV
 clear hR hP hv
 cbv
 repeat' first|(refine Br.mk (fun _=>?_) (fun _=>?_)<;>cbv)|(refine NilB.mk (fun _=>?_) ?_<;>cbv)|refine And.intro ?_ ?_|exact True.intro
 ·subst h;exact hV.g0
 ·next a b=>subst h;exact hV.g1 (nt a)
 ·next a b=>subst h;exact hV.g2 (nt a)
 ·rename_i p3a p3b
  exfalso;subst h;simp [Ar.std] at p3b
 ·rename_i p4a p4b p4c
  exfalso;subst h;simp [Ar.std] at p4b
 ·rename_i p5a p5b p5c
  exfalso;subst h;simp [Ar.std] at p5b
 ·rename_i p6a p6b p6c
  exfalso;subst h;simp [Ar.std] at p6b
 ·rename_i p7a p7b p7c p7d
  exfalso;subst h;simp [Ar.std] at p7b
 ·rename_i p8a p8b p8c p8d
  exfalso;subst h;simp [Ar.std] at p8b
 ·rename_i p9a p9b p9c p9d
  exfalso;subst h;simp [Ar.std] at p9b
 ·rename_i p10a p10b p10c p10d p10e
  exfalso;subst h;simp [Ar.std] at p10b
 ·rename_i p11a p11b p11c p11d p11e
  exfalso;subst h;simp [Ar.std] at p11b
 ·rename_i p12a p12b p12c p12d p12e
  exfalso;subst h;simp [Ar.std] at p12b
 ·rename_i p13a p13b p13c p13d p13e
  exfalso;subst h;simp [Ar.std] at p13b
 ·rename_i p14a p14b p14c p14d p14e
  exfalso;subst h;simp [Ar.std] at p14b
 ·rename_i p15a p15b p15c p15d p15e
  exfalso;subst h;simp [Ar.std] at p15b
 ·rename_i p16a p16b p16c p16d p16e
  exfalso;subst h;simp [Ar.std] at p16b
 ·next a=>subst h;exact hV.g17 (nf a)
 ·next a b c=>subst h;exact hV.g18 (nf a) (nt b)
 ·next a b c=>subst h;exact hV.g19 (nf a) (nt b)
 ·rename_i p20a p20b p20c
  exfalso;subst h;simp [Ar.std] at p20c
 ·rename_i p21a p21b p21c p21d
  exfalso;subst h;simp [Ar.std] at p21c
 ·rename_i p22a p22b p22c p22d
  exfalso;subst h;simp [Ar.std] at p22c
 ·rename_i p23a p23b p23c p23d
  exfalso;subst h;simp [Ar.std] at p23c
 ·rename_i p24a p24b p24c p24d p24e
  exfalso;subst h;simp [Ar.std] at p24c
 ·rename_i p25a p25b p25c p25d p25e
  exfalso;subst h;simp [Ar.std] at p25c
 ·rename_i p26a p26b p26c p26d p26e
  exfalso;subst h;simp [Ar.std] at p26c
 ·rename_i p27a p27b p27c p27d p27e p27f
  exfalso;subst h;simp [Ar.std] at p27c
 ·rename_i p28a p28b p28c p28d p28e p28f
  exfalso;subst h;simp [Ar.std] at p28c
 ·rename_i p29a p29b p29c p29d p29e p29f
  exfalso;subst h;simp [Ar.std] at p29c
 ·rename_i p30a p30b p30c p30d p30e p30f
  exfalso;subst h;simp [Ar.std] at p30c
 ·rename_i p31a p31b p31c p31d p31e p31f
  exfalso;subst h;simp [Ar.std] at p31c
 ·rename_i p32a p32b p32c p32d p32e p32f
  exfalso;subst h;simp [Ar.std] at p32c
 ·rename_i p33a p33b p33c p33d p33e p33f
  exfalso;subst h;simp [Ar.std] at p33c
 ·next a b=>subst h;exact hV.g34 (nf a) (nf b)
 ·next a b c d=>subst h;exact hV.g35 (nf a) (nf b) (nt c)
 ·next a b c d=>subst h;exact hV.g36 (nf a) (nf b) (nt c)
 ·rename_i p37a p37b p37c p37d
  exfalso;subst h;simp [Ar.std] at p37d
 ·rename_i p38a p38b p38c p38d p38e
  exfalso;subst h;simp [Ar.std] at p38d
 ·rename_i p39a p39b p39c p39d p39e
  exfalso;subst h;simp [Ar.std] at p39d
 ·rename_i p40a p40b p40c p40d p40e
  exfalso;subst h;simp [Ar.std] at p40d
 ·rename_i p41a p41b p41c p41d p41e p41f
  exfalso;subst h;simp [Ar.std] at p41d
 ·rename_i p42a p42b p42c p42d p42e p42f
  exfalso;subst h;simp [Ar.std] at p42d
 ·rename_i p43a p43b p43c p43d p43e p43f
  exfalso;subst h;simp [Ar.std] at p43d
 ·rename_i p44a p44b p44c p44d p44e p44f p44g
  exfalso;subst h;simp [Ar.std] at p44d
 ·rename_i p45a p45b p45c p45d p45e p45f p45g
  exfalso;subst h;simp [Ar.std] at p45d
 ·rename_i p46a p46b p46c p46d p46e p46f p46g
  exfalso;subst h;simp [Ar.std] at p46d
 ·rename_i p47a p47b p47c p47d p47e p47f p47g
  exfalso;subst h;simp [Ar.std] at p47d
 ·rename_i p48a p48b p48c p48d p48e p48f p48g
  exfalso;subst h;simp [Ar.std] at p48d
 ·rename_i p49a p49b p49c p49d p49e p49f p49g
  exfalso;subst h;simp [Ar.std] at p49d
 ·rename_i p50a p50b p50c p50d p50e p50f p50g
  exfalso;subst h;simp [Ar.std] at p50d
 ·rename_i p51a p51b p51c p51d
  exfalso;subst h;simp [Ar.std] at p51d
 ·rename_i p52a p52b p52c p52d
  exfalso;subst h;simp [Ar.std] at p52d
 ·next a b c d=>subst h;exact hV.g53 (nf a) (nf b) (nf c)
 ·next a b c d e=>subst h;exact hV.g54 (nf a) (nf b) (nf c) (nt e)
 ·next a b c d e=>subst h;exact hV.g55 (nf a) (nf b) (nf c) (nt e)
 ·next a b c d e=>subst h;exact hV.g56 (nf a) (nf b) (nf c) (nf e)
 ·next a b c d e f=>subst h;exact hV.g57 (nf a) (nf b) (nf c) (nf e) (df (nt f))
 ·next a b c d e f=>subst h;exact hV.g58 (nf a) (nf b) (nf c) (nf e) (df (nt f))
 ·next a b c d e f=>subst h;exact hV.g59 (nf a) (nf b) (nf c) (nf e) (dt (nf f))
 ·next a b c d e f g=>subst h;exact hV.g60 (nf a) (nf b) (nf c) (nf e) (dt (nf f)) (df (nt g))
 ·next a b c d e f g=>subst h;exact hV.g61 (nf a) (nf b) (nf c) (nf e) (dt (nf f)) (df (nt g))
 ·next a b c d e f g=>subst h;exact hV.g62 (nf a) (nf b) (nf c) (nf e) (dt (nf f)) (dt (nf g))
 ·next a b c d e f g=>subst h;exact hV.g63 (nf a) (nf b) (nf c) (nf e) (dt (nf f)) (dt (nf g))
 ·next a b c d e f g=>subst h;exact hV.g64 (nf a) (nf b) (nf c) (nf e) (dt (nf f)) (dt (nf g))
 ·next a b c d e f g=>subst h;exact hV.g65 (nf a) (nf b) (nf c) (nf e) (dt (nf f)) (dt (nf g))
 ·rename_i p66a p66b p66c p66d p66e p66f p66g
  refine Leaf.gen fun σz hσz=>?_
  obtain ⟨I0,m0,i0,c0⟩:V18l0 pre fn a0_0 a0_1 a0_2 a1 a2 a3 R:=by subst h;exact hV.l0 (nf p66a) (nf p66b) (nf p66c) (nf p66e) (dt (nf p66f)) (dt (nf p66g))
  refine loopB hE hinl 6 [] [] [(10,[])] (fun x:Rows×Int×Int×Rows=>[.l x.1,.i x.2.1,.i x.2.2.1,.l x.2.2.2]) (fun x=>I0 x.1 x.2.1 x.2.2.1 x.2.2.2) (fun x=>m0 x.1 x.2.1 x.2.2.1 x.2.2.2) ([],0,0,A.rep (A.toNat a3) [D.l []]) (by subst h;exact i0) ?_ ?_<;>subst hσz
  ·clear hE hinl hV;cbv;(try repeat' first|rfl|assumption|constructor)
  ·intro ⟨b0,b1,b2,b3⟩ hI0 K0 hK0
   have h0:=c0 _ _ _ _ hI0
   cbv
   repeat' first|(refine Br.mk (fun _=>?_) (fun _=>?_)<;>cbv)|(refine NilB.mk (fun _=>?_) ?_<;>cbv)|refine And.intro ?_ ?_|exact True.intro
   ·next a=>subst h;exact h0.g67 (dt a)
   ·next a=>subst h;exact h0.g68 (dt a)
   ·next a=>subst h;exact h0.g69 (dt a)
   ·next a=>subst h;exact h0.g70 (dt a)
   ·next a=>subst h;exact h0.g71 (dt a)
   ·next a b=>subst h;exact h0.g72 (dt a) (dt b)
   ·next a b=>subst h;exact h0.g73 (dt a) (dt b)
   ·next a b=>subst h;exact h0.g74 (dt a) (df b)
   ·next a b=>subst h;exact h0.g75 (dt a) (df b)
   ·next a b c=>subst h;exact h0.g76 (dt a) (df b) (nt c)
   ·next a b c=>subst h;exact h0.g77 (dt a) (df b) (nt c)
   ·next a b c=>subst h;exact h0.g78 (dt a) (df b) (nf c)
   ·next a b c=>subst h;exact h0.g79 (dt a) (df b) (nf c)
   ·next a b c=>subst h;exact h0.g80 (dt a) (df b) (nf c)
   ·next a b c=>subst h;exact h0.g80 (dt a) (df b) (nf c)
   ·next a b c=>subst h;exact h0.g80 (dt a) (df b) (nf c)
   ·next a b c=>subst h;exact h0.g83 (dt a) (df b) (nf c)
   ·next a b c=>subst h;exact h0.g78 (dt a) (df b) (nf c)
   ·next a b c=>subst h;exact h0.g79 (dt a) (df b) (nf c)
   ·next a b c=>subst h;exact h0.g86 (dt a) (df b) (nf c)
   ·next a b c=>subst h;exact h0.g86 (dt a) (df b) (nf c)
   ·next a b c=>subst h;exact h0.g80 (dt a) (df b) (nf c)
   ·next a b c=>subst h;exact h0.g89 (dt a) (df b) (nf c)
   ·rename_i p90a p90b p90c
    refine hK0 (b0,b1,A.add b2 1,A.set b3 (A.toNat (A.di (A.get a2 (A.toNat b2) 0))) [D.l (A.app (A.dl (A.get b3 (A.toNat (A.di (A.get a2 (A.toNat b2) 0))) 0)) [[D.i (A.di (A.get a2 (A.toNat b2) 1))]])]) _ ?_ ?_ ?_
    ·subst h;exact (h0.n90 (dt p90a) (df p90b) (nf p90c)).1
    ·subst h;exact (h0.n90 (dt p90a) (df p90b) (nf p90c)).2
    ·clear hE hinl hV hK0;cbv;(try repeat' first|rfl|assumption|constructor)
   ·rename_i p91a p91b
    refine Leaf.gen fun σz hσz=>?_
    obtain ⟨I1,m1,i1,c1⟩:V18l1 R b3:=by subst h;exact h0.l1 (df p91a) p91b
    refine loopB hE hinl 6 [79] [] [] (fun x:Rows×Int=>[.l x.1,.i x.2]) (fun x=>I1 x.1 x.2) (fun x=>m1 x.1 x.2) ([],0) (by subst h;exact i1) ?_ ?_<;>subst hσz
    ·clear hE hinl hV;cbv;(try repeat' first|rfl|assumption|constructor)
    ·intro ⟨d0,d1⟩ hI1 K1 hK1
     have h1:=c1 _ _ hI1
     cbv
     repeat' first|(refine Br.mk (fun _=>?_) (fun _=>?_)<;>cbv)|(refine NilB.mk (fun _=>?_) ?_<;>cbv)|refine And.intro ?_ ?_|exact True.intro
     ·next a=>subst h;exact h1.g92 (dt a)
     ·next a=>subst h;exact h1.g93 (dt a)
     ·next a=>subst h;exact h1.g94 (dt a)
     ·rename_i p95a
      refine Leaf.gen fun σz hσz=>?_
      obtain ⟨I2,m2,i2,c2⟩:V18l2 b3 d0 d1 I1 m1:=by subst h;exact h1.l2 (dt p95a)
      refine loopB hE hinl 6 [] [] [] (fun x:Int=>[.i x]) (fun x=>I2 x) (fun x=>m2 x) (0) (by subst h;exact i2) ?_ ?_<;>subst hσz
      ·clear hE hinl hV;cbv;(try repeat' first|rfl|assumption|constructor)
      ·intro e0 hI2 K2 hK2
       have h2:=c2 _ hI2
       cbv
       repeat' first|(refine Br.mk (fun _=>?_) (fun _=>?_)<;>cbv)|(refine NilB.mk (fun _=>?_) ?_<;>cbv)|refine And.intro ?_ ?_|exact True.intro
       ·next a=>subst h;exact h2.g96 (dt a)
       ·next a=>subst h;exact h2.g97 (dt a)
       ·next a=>subst h;exact h2.g98 (dt a)
       ·next a=>subst h;exact h2.g99 (dt a)
       ·next a=>subst h;exact h2.g100 (dt a)
       ·next a=>subst h;exact (h2.g101 (dt a)).elim
       ·next a b=>subst h;exact h2.g102 (df a) b
       ·next a b=>subst h;exact h2.g103 (df a) b
       ·rename_i p104a p104b
        refine hK1 (A.app d0 [[D.l []]],A.add d1 1) _ ?_ ?_ ?_
        ·subst h;exact (h2.n104 (df p104a) p104b).1
        ·subst h;exact (h2.n104 (df p104a) p104b).2
        ·clear hE hinl hV hK1;cbv;(try repeat' first|rfl|assumption|constructor)
       ·rename_i p105a p105b
        exfalso;subst h;simp [Ar.std] at p105b
       ·rename_i p106a p106b
        exfalso;subst h;simp [Ar.std] at p106b
       ·rename_i p107a p107b
        exfalso;subst h;simp [Ar.std] at p107b
       ·rename_i p108a p108b
        exfalso;subst h;simp [Ar.std] at p108b
     ·next a=>subst h;exact h1.g109 (df a)
     ·next a=>subst h;exact h1.g110 (df a)
   ·next a=>subst h;exact h0.g111 (df a)
   ·rename_i p112a
    refine Leaf.gen fun σz hσz=>?_
    obtain ⟨I3,m3,i3,c3⟩:V18l3 a0_2 a1 R b3:=by subst h;exact h0.l3 (df p112a)
    refine loopB hE hinl 6 [79] [] [(15,[])] (fun x:Rows×Int×Rows=>[.l x.1,.i x.2.1,.l x.2.2]) (fun x=>I3 x.1 x.2.1 x.2.2) (fun x=>m3 x.1 x.2.1 x.2.2) ([],0,A.app [] a1) (by subst h;exact i3) ?_ ?_<;>subst hσz
    ·clear hE hinl hV;cbv;(try repeat' first|rfl|assumption|constructor)
    ·intro ⟨f0,f1,f2⟩ hI3 K3 hK3
     have h3:=c3 _ _ _ hI3
     cbv
     repeat' first|(refine Br.mk (fun _=>?_) (fun _=>?_)<;>cbv)|(refine NilB.mk (fun _=>?_) ?_<;>cbv)|refine And.intro ?_ ?_|exact True.intro
     ·next a=>subst h;exact h3.g113 (dt a)
     ·next a=>subst h;exact h3.g114 (dt a)
     ·next a=>subst h;exact h3.g115 (dt a)
     ·rename_i p116a
      refine Leaf.gen fun σz hσz=>?_
      obtain ⟨I4,m4,i4,c4⟩:V18l4 a0_2 b3 f0 f1 f2 I3 m3:=by subst h;exact h3.l4 (dt p116a)
      refine loopB hE hinl 6 [] [] [(15,[])] (fun x:Int×Rows=>[.i x.1,.l x.2]) (fun x=>I4 x.1 x.2) (fun x=>m4 x.1 x.2) (0,f2) (by subst h;exact i4) ?_ ?_<;>subst hσz
      ·clear hE hinl hV;cbv;(try repeat' first|rfl|assumption|constructor)
      ·intro ⟨j0,j1⟩ hI4 K4 hK4
       have h4:=c4 _ _ hI4
       cbv
       repeat' first|(refine Br.mk (fun _=>?_) (fun _=>?_)<;>cbv)|(refine NilB.mk (fun _=>?_) ?_<;>cbv)|refine And.intro ?_ ?_|exact True.intro
       ·next a=>subst h;exact h4.g117 (dt a)
       ·next a=>subst h;exact h4.g118 (dt a)
       ·next a=>subst h;exact h4.g119 (dt a)
       ·next a=>subst h;exact h4.g120 (dt a)
       ·next a=>subst h;exact h4.g121 (dt a)
       ·next a=>subst h;exact h4.g122 (dt a)
       ·next a=>subst h;exact h4.g123 (dt a)
       ·next a=>subst h;exact h4.g124 (dt a)
       ·next a=>subst h;exact h4.g124 (dt a)
       ·next a=>subst h;exact h4.g120 (dt a)
       ·next a=>subst h;exact h4.g127 (dt a)
       ·next a=>subst h;exact h4.g128 (dt a)
       ·next a=>subst h;exact h4.g129 (dt a)
       ·next a=>subst h;exact h4.g130 (dt a)
       ·next a=>subst h;exact h4.g122 (dt a)
       ·next a=>subst h;exact h4.g123 (dt a)
       ·next a=>subst h;exact h4.g124 (dt a)
       ·next a=>subst h;exact h4.g134 (dt a)
       ·rename_i p135a
        refine hK4 (A.add j0 1,A.set j1 (A.toNat (A.tdiv (A.di (A.get (A.dl (A.get b3 (A.toNat f1) 0)) (A.toNat j0) 0)) 2)) [D.i (A.add (A.di (A.get j1 (A.toNat (A.tdiv (A.di (A.get (A.dl (A.get b3 (A.toNat f1) 0)) (A.toNat j0) 0)) 2)) 0)) (A.mul a0_2 (A.sub (A.mul 2 (A.tmod (A.di (A.get (A.dl (A.get b3 (A.toNat f1) 0)) (A.toNat j0) 0)) 2)) 1)))]) _ ?_ ?_ ?_
        ·subst h;exact (h4.n135 (dt p135a)).1
        ·subst h;exact (h4.n135 (dt p135a)).2
        ·clear hE hinl hV hK4;cbv;(try repeat' first|rfl|assumption|constructor)
       ·next a=>subst h;exact h4.g136 (df a)
       ·rename_i p137a p137b
        exfalso;subst h;simp [Ar.std] at p137b
       ·rename_i p138a p138b
        exfalso;subst h;simp [Ar.std] at p138b
       ·rename_i p139a p139b
        exfalso;subst h;simp [Ar.std] at p139b
       ·next a b=>subst h;exact h4.g140 (df a) b
       ·next a b=>subst h;exact h4.g141 (df a) b
       ·next a b=>subst h;exact h4.g142 (df a) b
       ·rename_i p143a p143b
        refine hK3 (A.app f0 [[D.l (A.app [] j1)]],A.add f1 1,j1) _ ?_ ?_ ?_
        ·subst h;exact (h4.n143 (df p143a) p143b).1
        ·subst h;exact (h4.n143 (df p143a) p143b).2
        ·clear hE hinl hV hK3;cbv;(try repeat' first|rfl|assumption|constructor)
     ·next a=>subst h;exact h3.g144 (df a)
     ·next a=>subst h;exact h3.g145 (df a)
end HX

namespace HX
open Go Go.Proofs CX
set_option maxHeartbeats 4000000 in
set_option maxRecDepth 100000 in
theorem walk19 {ro A pre fn} (hE:EnvOk ⟨A,(cxE ro),ksF,sigL [(48,⟨[(true,[.int .i64,.int .i64,.int .i64])],[(false,[.int .i64])],false⟩),(49,⟨[(true,[.int .i64,.int .i64,.int .i64]),(false,[.sl [.int .i64]])],[(false,[.int .i64])],false⟩),(53,⟨[(false,[.int .i64]),(false,[.int .i64]),(false,[.int .i64])],[(false,[.bool])],false⟩),(54,⟨[(false,[.sl [.int .i64,.int .i64]])],[(false,[.int .i64])],false⟩)],pre,fn⟩) {P:List (List D)→Prop} {res:List (List D)→Nat→Nat→D}
  (hv:∀(a0_0:Int) (a0_1:Int) (a0_2:Int) (a1:Rows) (a2:Rows) (a3:Int),ShR [.int .i64] a1→ShR [.int .i64,.int .i64] a2→P [[.i a0_0,.i a0_1,.i a0_2],[.l a1],[.l a2],[.i a3]]→V19 pre fn a0_0 a0_1 a0_2 a1 a2 a3 (res [[.i a0_0,.i a0_1,.i a0_2],[.l a1],[.l a2],[.i a3]])) :
  PureC (cxE ro) 19 ⟨[(true,[.int .i64,.int .i64,.int .i64]),(false,[.sl [.int .i64]]),(false,[.sl [.int .i64,.int .i64]]),(false,[.int .i64])],[(false,[.sl [.sl [.int .i64]]]),(false,[.int .i64])],false⟩ P res:=by
 have h:=hE.A
 simp only [] at h
 have hinl:∀f fn,inlL [] f=some fn→(cxE ro).fn f=some fn∧(cxE ro).ext f=none:=Inls.ok (by repeat (first |exact .nil |refine .cons rfl rfl ?_))
 refine PureC.of_vcJ hE [8] hinl 6 (f:=19) (fn:=Try.f19) ⟨rfl,rfl⟩ ?_
 intro a0_0 a0_1 a0_2 a1 ha1 a2 ha2 a3 hP
 obtain ⟨R,hR⟩:∃R,res [[.i a0_0,.i a0_1,.i a0_2],[.l a1],[.l a2],[.i a3]]=R:=⟨_,rfl⟩
 rw [hR]
 have hV:=hv a0_0 a0_1 a0_2 a1 a2 a3 ha1 ha2 hP
 rw [hR] at hV
 clear hR hP hv
 cbv
 repeat' first|(refine Br.mk (fun _=>?_) (fun _=>?_)<;>cbv)|(refine NilB.mk (fun _=>?_) ?_<;>cbv)|refine And.intro ?_ ?_|exact True.intro
 ·subst h;exact hV.g0
 ·rename_i p1a
  subst h;exact hV.g1 (df (nt p1a))
 ·rename_i p2a
  subst h;exact hV.g2 (df (nt p2a))
 ·rename_i p3a
  subst h;exact hV.g3 (dt (nf p3a))
 ·rename_i p4a p4b
  subst h;exact hV.g4 (dt (nf p4a)) (nt p4b)
 ·rename_i p5a p5b
  subst h;exact hV.g5 (dt (nf p5a)) (nt p5b)
 ·rename_i p6a p6b
  subst h;exact hV.g6 (dt (nf p6a)) (nf p6b)
 ·rename_i p7a p7b
  refine Leaf.gen fun σz hσz=>?_
  obtain ⟨I0,r0,c0⟩:V19j0 pre fn a0_0 a0_1 a0_2 a1 a2 a3 R:=by subst h;exact hV.l0 (dt (nf p7a)) (nf p7b)
  refine joinB hE hinl 6 [28] [] [] [] (fun x:Int=>[.i x]) (fun x=>I0 x) ?_ ?_<;>subst hσz
  ·intro K0 hK0
   cbv
   repeat' first|(refine Br.mk (fun _=>?_) (fun _=>?_)<;>cbv)|(refine NilB.mk (fun _=>?_) ?_<;>cbv)|refine And.intro ?_ ?_|exact True.intro
   ·rename_i p8a
    subst h;exact r0.g8 (dt p8a)
   ·rename_i p9a
    refine hK0 (A.di (fn 54 [[D.l a2]] 0 0)) _ ?_ ?_
    ·subst h;exact r0.n9 (dt p9a)
    ·clear hE hinl hV hK0;cbv;(try repeat' first|rfl|assumption|constructor)
   ·rename_i p10a
    refine hK0 (A.di (fn 49 [[D.i a0_0,D.i a0_1,D.i a0_2],[D.l a1]] 0 0)) _ ?_ ?_
    ·subst h;exact r0.n10 (df p10a)
    ·clear hE hinl hV hK0;cbv;(try repeat' first|rfl|assumption|constructor)
  ·intro b0 hI0
   have h0:=c0 _ hI0
   cbv
   repeat' first|(refine Br.mk (fun _=>?_) (fun _=>?_)<;>cbv)|(refine NilB.mk (fun _=>?_) ?_<;>cbv)|refine And.intro ?_ ?_|exact True.intro
   ·rename_i p11a
    subst h;exact h0.g11 (df (nt p11a))
   ·rename_i p12a
    subst h;exact h0.g12 (df (nt p12a))
   ·rename_i p13a
    refine Leaf.gen fun σz hσz=>?_
    obtain ⟨I1,m1,i1,c1⟩:V19l1 pre fn a0_0 a0_1 a0_2 a1 a2 a3 R:=by subst h;exact h0.l1 (dt (nf p13a))
    refine loopBJ hE [8] hinl 6 [] [] [] (fun x:Rows×Int×Int=>[.l x.1,.i x.2.1,.i x.2.2]) (fun x=>I1 x.1 x.2.1 x.2.2) (fun x=>m1 x.1 x.2.1 x.2.2) ([],0,0) (by subst h;exact i1) ?_ ?_<;>subst hσz
    ·clear hE hinl hV;cbv;(try repeat' first|rfl|assumption|constructor)
    ·intro ⟨d0,d1,d2⟩ hI1 K1 hK1
     have h1:=c1 _ _ _ hI1
     cbv
     repeat' first|(refine Br.mk (fun _=>?_) (fun _=>?_)<;>cbv)|(refine NilB.mk (fun _=>?_) ?_<;>cbv)|refine And.intro ?_ ?_|exact True.intro
     ·rename_i p14a
      subst h;exact h1.g14 (dt p14a)
     ·rename_i p15a
      subst h;exact h1.g15 (dt p15a)
     ·rename_i p16a
      subst h;exact h1.g16 (dt p16a)
     ·rename_i p17a
      subst h;exact h1.g17 (dt p17a)
     ·rename_i p18a
      subst h;exact h1.g18 (dt p18a)
     ·rename_i p19a p19b
      subst h;exact h1.g19 (dt p19a) (dt p19b)
     ·rename_i p20a p20b
      subst h;exact h1.g20 (dt p20a) (dt p20b)
     ·rename_i p21a p21b
      subst h;exact h1.g21 (dt p21a) (df p21b)
     ·rename_i p22a p22b
      subst h;exact h1.g22 (dt p22a) (df p22b)
     ·rename_i p23a p23b
      subst h;exact h1.g23 (dt p23a) (df p23b)
     ·rename_i p24a p24b
      subst h;exact h1.g24 (dt p24a) (df p24b)
     ·rename_i p25a p25b
      subst h;exact h1.g25 (dt p25a) (df p25b)
     ·rename_i p26a p26b p26c
      subst h;exact h1.g26 (dt p26a) (df p26b) (nt p26c)
     ·rename_i p27a p27b p27c
      subst h;exact h1.g27 (dt p27a) (df p27b) (nt p27c)
     ·rename_i p28a p28b p28c
      subst h;exact h1.g28 (dt p28a) (df p28b) (nf p28c)
     ·rename_i p29a p29b p29c
      refine hK1 (d0,d1,A.add d2 1) _ ?_ ?_ ?_
      ·subst h;exact (h1.n29 (dt p29a) (df p29b) (nf p29c)).1
      ·subst h;exact (h1.n29 (dt p29a) (df p29b) (nf p29c)).2
      ·clear hE hinl hV hK1;cbv;(try repeat' first|rfl|assumption|constructor)
     ·rename_i p30a
      subst h;exact h1.g30 (df p30a)
     ·rename_i p31a
      refine Leaf.gen fun σz hσz=>?_
      obtain ⟨I2,m2,i2,c2⟩:V19l2 a0_2 a1 a2 a3 R:=by subst h;exact h1.l2 (df p31a)
      refine loopBJ hE [8] hinl 6 [] [] [(9,[])] (fun x:Rows×Int×Rows=>[.l x.1,.i x.2.1,.l x.2.2]) (fun x=>I2 x.1 x.2.1 x.2.2) (fun x=>m2 x.1 x.2.1 x.2.2) ([],0,A.app [] a1) (by subst h;exact i2) ?_ ?_<;>subst hσz
      ·clear hE hinl hV;cbv;(try repeat' first|rfl|assumption|constructor)
      ·intro ⟨e0,e1,e2⟩ hI2 K2 hK2
       have h2:=c2 _ _ _ hI2
       cbv
       repeat' first|(refine Br.mk (fun _=>?_) (fun _=>?_)<;>cbv)|(refine NilB.mk (fun _=>?_) ?_<;>cbv)|refine And.intro ?_ ?_|exact True.intro
       ·rename_i p32a
        refine Leaf.gen fun σz hσz=>?_
        obtain ⟨I3,m3,i3,c3⟩:V19l3 a0_2 a2 e0 e1 e2 I2 m2:=by subst h;exact h2.l3 (dt p32a)
        refine loopBJ hE [8] hinl 6 [] [] [(9,[])] (fun x:Int×Rows=>[.i x.1,.l x.2]) (fun x=>I3 x.1 x.2) (fun x=>m3 x.1 x.2) (0,e2) (by subst h;exact i3) ?_ ?_<;>subst hσz
        ·clear hE hinl hV;cbv;(try repeat' first|rfl|assumption|constructor)
        ·intro ⟨f0,f1⟩ hI3 K3 hK3
         have h3:=c3 _ _ hI3
         cbv
         repeat' first|(refine Br.mk (fun _=>?_) (fun _=>?_)<;>cbv)|(refine NilB.mk (fun _=>?_) ?_<;>cbv)|refine And.intro ?_ ?_|exact True.intro
         ·rename_i p33a
          subst h;exact h3.g33 (dt p33a)
         ·rename_i p34a
          subst h;exact h3.g34 (dt p34a)
         ·rename_i p35a
          subst h;exact h3.g35 (dt p35a)
         ·rename_i p36a p36b
          subst h;exact h3.g36 (dt p36a) (df (nt p36b))
         ·rename_i p37a p37b
          refine hK3 (A.add f0 1,f1) _ ?_ ?_ ?_
          ·subst h;exact (h3.n37 (dt p37a) (df (nt p37b))).1
          ·subst h;exact (h3.n37 (dt p37a) (df (nt p37b))).2
          ·clear hE hinl hV hK3;cbv;(try repeat' first|rfl|assumption|constructor)
         ·rename_i p38a p38b
          subst h;exact h3.g38 (dt p38a) (dt (nf p38b))
         ·rename_i p39a p39b
          subst h;exact h3.g39 (dt p39a) (dt (nf p39b))
         ·rename_i p40a p40b
          subst h;exact h3.g40 (dt p40a) (dt (nf p40b))
         ·rename_i p41a p41b
          subst h;exact h3.g41 (dt p41a) (dt (nf p41b))
         ·rename_i p42a p42b p42c
          subst h;exact h3.g42 (dt p42a) (dt (nf p42b)) (dt p42c)
         ·rename_i p43a p43b p43c
          subst h;exact h3.g43 (dt p43a) (dt (nf p43b)) (dt p43c)
         ·rename_i p44a p44b p44c
          subst h;exact h3.g44 (dt p44a) (dt (nf p44b)) (dt p44c)
         ·rename_i p45a p45b p45c
          subst h;exact h3.g45 (dt p45a) (dt (nf p45b)) (dt p45c)
         ·rename_i p46a p46b p46c
          subst h;exact h3.g46 (dt p46a) (dt (nf p46b)) (dt p46c)
         ·rename_i p47a p47b p47c
          subst h;exact h3.g47 (dt p47a) (dt (nf p47b)) (dt p47c)
         ·rename_i p48a p48b p48c
          subst h;exact h3.g48 (dt p48a) (dt (nf p48b)) (dt p48c)
         ·rename_i p49a p49b p49c
          subst h;exact h3.g49 (dt p49a) (dt (nf p49b)) (dt p49c)
         ·rename_i p50a p50b p50c
          subst h;exact h3.g49 (dt p50a) (dt (nf p50b)) (dt p50c)
         ·rename_i p51a p51b p51c
          subst h;exact h3.g51 (dt p51a) (dt (nf p51b)) (dt p51c)
         ·rename_i p52a p52b p52c
          subst h;exact h3.g47 (dt p52a) (dt (nf p52b)) (dt p52c)
         ·rename_i p53a p53b p53c
          subst h;exact h3.g48 (dt p53a) (dt (nf p53b)) (dt p53c)
         ·rename_i p54a p54b p54c
          subst h;exact h3.g49 (dt p54a) (dt (nf p54b)) (dt p54c)
         ·rename_i p55a p55b p55c
          subst h;exact h3.g55 (dt p55a) (dt (nf p55b)) (dt p55c)
         ·rename_i p56a p56b p56c
          refine hK3 (A.add f0 1,A.set f1 (A.toNat (A.tdiv (A.di (A.get a2 (A.toNat f0) 1)) 2)) [D.i (A.add (A.di (A.get f1 (A.toNat (A.tdiv (A.di (A.get a2 (A.toNat f0) 1)) 2)) 0)) a0_2)]) _ ?_ ?_ ?_
          ·subst h;exact (h3.n56 (dt p56a) (dt (nf p56b)) (dt p56c)).1
          ·subst h;exact (h3.n56 (dt p56a) (dt (nf p56b)) (dt p56c)).2
          ·clear hE hinl hV hK3;cbv;(try repeat' first|rfl|assumption|constructor)
         ·rename_i p57a p57b p57c
          subst h;exact h3.g57 (dt p57a) (dt (nf p57b)) (df p57c)
         ·rename_i p58a p58b p58c
          subst h;exact h3.g58 (dt p58a) (dt (nf p58b)) (df p58c)
         ·rename_i p59a p59b p59c
          subst h;exact h3.g59 (dt p59a) (dt (nf p59b)) (df p59c)
         ·rename_i p60a p60b p60c
          subst h;exact h3.g60 (dt p60a) (dt (nf p60b)) (df p60c)
         ·rename_i p61a p61b p61c
          subst h;exact h3.g61 (dt p61a) (dt (nf p61b)) (df p61c)
         ·rename_i p62a p62b p62c
          subst h;exact h3.g62 (dt p62a) (dt (nf p62b)) (df p62c)
         ·rename_i p63a p63b p63c
          subst h;exact h3.g63 (dt p63a) (dt (nf p63b)) (df p63c)
         ·rename_i p64a p64b p64c
          subst h;exact h3.g64 (dt p64a) (dt (nf p64b)) (df p64c)
         ·rename_i p65a p65b p65c
          subst h;exact h3.g64 (dt p65a) (dt (nf p65b)) (df p65c)
         ·rename_i p66a p66b p66c
          subst h;exact h3.g66 (dt p66a) (dt (nf p66b)) (df p66c)
         ·rename_i p67a p67b p67c
          subst h;exact h3.g62 (dt p67a) (dt (nf p67b)) (df p67c)
         ·rename_i p68a p68b p68c
          subst h;exact h3.g63 (dt p68a) (dt (nf p68b)) (df p68c)
         ·rename_i p69a p69b p69c
          subst h;exact h3.g64 (dt p69a) (dt (nf p69b)) (df p69c)
         ·rename_i p70a p70b p70c
          subst h;exact h3.g70 (dt p70a) (dt (nf p70b)) (df p70c)
         ·rename_i p71a p71b p71c
          refine hK3 (A.add f0 1,A.set f1 (A.toNat (A.tdiv (A.di (A.get a2 (A.toNat f0) 1)) 2)) [D.i (A.sub (A.di (A.get f1 (A.toNat (A.tdiv (A.di (A.get a2 (A.toNat f0) 1)) 2)) 0)) a0_2)]) _ ?_ ?_ ?_
          ·subst h;exact (h3.n71 (dt p71a) (dt (nf p71b)) (df p71c)).1
          ·subst h;exact (h3.n71 (dt p71a) (dt (nf p71b)) (df p71c)).2
          ·clear hE hinl hV hK3;cbv;(try repeat' first|rfl|assumption|constructor)
         ·rename_i p72a
          subst h;exact h3.g72 (df p72a)
         ·rename_i p73a
          subst h;exact h3.g73 (df p73a)
         ·rename_i p74a
          subst h;exact h3.g74 (df p74a)
         ·rename_i p75a
          refine hK2 (A.app e0 [[D.l (A.app [] f1)]],A.add e1 1,f1) _ ?_ ?_ ?_
          ·subst h;exact (h3.n75 (df p75a)).1
          ·subst h;exact (h3.n75 (df p75a)).2
          ·clear hE hinl hV hK2;cbv;(try repeat' first|rfl|assumption|constructor)
       ·rename_i p76a
        subst h;exact h2.g76 (df p76a)
       ·rename_i p77a
        subst h;exact h2.g77 (df p77a)
end HX
