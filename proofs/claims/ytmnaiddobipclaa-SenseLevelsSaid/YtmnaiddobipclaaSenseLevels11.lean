/-
  SenseLevels: for all films that are made from six arguments, the function returns true, and its arguments read as they did.
-/
import Derived.Test.YtmnaiddobipclaaSenseLevels10
import Derived.Test.YtmnaiddobipclaaRows
set_option linter.all false
namespace HX
open Go Go.Proofs CX
set_option maxHeartbeats 4000000 in
set_option maxRecDepth 100000 in
theorem walk18 {ro A pre fn} (hE:EnvOk ⟨A,(cxE ro),ksF,sigL [(46,⟨[(true,[.int .i64,.int .i64,.int .i64]),(false,[.sl [.int .i64]])],[(false,[.int .i64])],false⟩),(50,⟨[(false,[.int .i64]),(false,[.int .i64]),(false,[.int .i64])],[(false,[.bool])],false⟩),(51,⟨[(false,[.sl [.int .i64,.int .i64]])],[(false,[.int .i64])],false⟩),(52,⟨[(true,[.int .i64,.int .i64,.int .i64])],[(false,[.int .i64])],false⟩)],pre,fn⟩) {P:List (List D)→Prop} {res:List (List D)→Nat→Nat→D}
  (hv:∀(a0_0:Int) (a0_1:Int) (a0_2:Int) (a1:Rows) (a2:Rows) (a3:Int),ShR [.int .i64] a1→ShR [.int .i64,.int .i64] a2→P [[.i a0_0,.i a0_1,.i a0_2],[.l a1],[.l a2],[.i a3]]→V18 pre fn a0_0 a0_1 a0_2 a1 a2 a3 (res [[.i a0_0,.i a0_1,.i a0_2],[.l a1],[.l a2],[.i a3]])) :
  PureC (cxE ro) 18 ⟨[(true,[.int .i64,.int .i64,.int .i64]),(false,[.sl [.int .i64]]),(false,[.sl [.int .i64,.int .i64]]),(false,[.int .i64])],[(false,[.sl [.sl [.int .i64]]]),(false,[.int .i64])],false⟩ P res:=by
 have h:=hE.A
 simp only [] at h
 have hinl:∀f fn,inlL [(45,Try.f45),(47,Try.f47)] f=some fn→(cxE ro).fn f=some fn∧(cxE ro).ext f=none:=Inls.ok (by repeat (first |exact .nil |refine .cons rfl rfl ?_))
 refine PureC.of_vc hE hinl 6 (f:=18) (fn:=Try.f18) ⟨rfl,rfl⟩ ?_
 intro a0_0 a0_1 a0_2 a1 ha1 a2 ha2 a3 hP
 obtain ⟨R,hR⟩:∃R,res [[.i a0_0,.i a0_1,.i a0_2],[.l a1],[.l a2],[.i a3]]=R:=⟨_,rfl⟩
 rw [hR]
 have hV:=hv a0_0 a0_1 a0_2 a1 a2 a3 ha1 ha2 hP
 rw [hR] at hV
 clear hR hP hv
 cbv
 repeat' first|(refine Br.mk (fun _=>?_) (fun _=>?_)<;>cbv)|(refine NilB.mk (fun _=>?_) ?_<;>cbv)|refine And.intro ?_ ?_|exact True.intro
 ·subst h;exact hV.g0
 ·next a b=>subst h;exact hV.g1 (nt a)
 ·next a b=>subst h;exact hV.g2 (nt a)
 ·rename_i p3a p3b
  exfalso;subst h;simp [Ar.std] at p3b
 ·rename_i p4a p4b p4c
  exfalso;subst h;simp [Ar.std] at p4b
 ·rename_i p5a p5b p5c
  exfalso;subst h;simp [Ar.std] at p5b
 ·rename_i p6a p6b p6c
  exfalso;subst h;simp [Ar.std] at p6b
 ·rename_i p7a p7b p7c p7d
  exfalso;subst h;simp [Ar.std] at p7b
 ·rename_i p8a p8b p8c p8d
  exfalso;subst h;simp [Ar.std] at p8b
 ·rename_i p9a p9b p9c p9d
  exfalso;subst h;simp [Ar.std] at p9b
 ·rename_i p10a p10b p10c p10d p10e
  exfalso;subst h;simp [Ar.std] at p10b
 ·rename_i p11a p11b p11c p11d p11e
  exfalso;subst h;simp [Ar.std] at p11b
 ·rename_i p12a p12b p12c p12d p12e
  exfalso;subst h;simp [Ar.std] at p12b
 ·rename_i p13a p13b p13c p13d p13e
  exfalso;subst h;simp [Ar.std] at p13b
 ·rename_i p14a p14b p14c p14d p14e
  exfalso;subst h;simp [Ar.std] at p14b
 ·rename_i p15a p15b p15c p15d p15e
  exfalso;subst h;simp [Ar.std] at p15b
 ·rename_i p16a p16b p16c p16d p16e
  exfalso;subst h;simp [Ar.std] at p16b
 ·next a=>subst h;exact hV.g17 (nf a)
 ·next a b c=>subst h;exact hV.g18 (nf a) (nt b)
 ·next a b c=>subst h;exact hV.g19 (nf a) (nt b)
 ·rename_i p20a p20b p20c
  exfalso;subst h;simp [Ar.std] at p20c
 ·rename_i p21a p21b p21c p21d
  exfalso;subst h;simp [Ar.std] at p21c
 ·rename_i p22a p22b p22c p22d
  exfalso;subst h;simp [Ar.std] at p22c
 ·rename_i p23a p23b p23c p23d
  exfalso;subst h;simp [Ar.std] at p23c
 ·rename_i p24a p24b p24c p24d p24e
  exfalso;subst h;simp [Ar.std] at p24c
 ·rename_i p25a p25b p25c p25d p25e
  exfalso;subst h;simp [Ar.std] at p25c
 ·rename_i p26a p26b p26c p26d p26e
  exfalso;subst h;simp [Ar.std] at p26c
 ·rename_i p27a p27b p27c p27d p27e p27f
  exfalso;subst h;simp [Ar.std] at p27c
 ·rename_i p28a p28b p28c p28d p28e p28f
  exfalso;subst h;simp [Ar.std] at p28c
 ·rename_i p29a p29b p29c p29d p29e p29f
  exfalso;subst h;simp [Ar.std] at p29c
 ·rename_i p30a p30b p30c p30d p30e p30f
  exfalso;subst h;simp [Ar.std] at p30c
 ·rename_i p31a p31b p31c p31d p31e p31f
  exfalso;subst h;simp [Ar.std] at p31c
 ·rename_i p32a p32b p32c p32d p32e p32f
  exfalso;subst h;simp [Ar.std] at p32c
 ·rename_i p33a p33b p33c p33d p33e p33f
  exfalso;subst h;simp [Ar.std] at p33c
 ·next a b=>subst h;exact hV.g34 (nf a) (nf b)
 ·next a b c d=>subst h;exact hV.g35 (nf a) (nf b) (nt c)
 ·next a b c d=>subst h;exact hV.g36 (nf a) (nf b) (nt c)
 ·rename_i p37a p37b p37c p37d
  exfalso;subst h;simp [Ar.std] at p37d
 ·rename_i p38a p38b p38c p38d p38e
  exfalso;subst h;simp [Ar.std] at p38d
 ·rename_i p39a p39b p39c p39d p39e
  exfalso;subst h;simp [Ar.std] at p39d
 ·rename_i p40a p40b p40c p40d p40e
  exfalso;subst h;simp [Ar.std] at p40d
 ·rename_i p41a p41b p41c p41d p41e p41f
  exfalso;subst h;simp [Ar.std] at p41d
 ·rename_i p42a p42b p42c p42d p42e p42f
  exfalso;subst h;simp [Ar.std] at p42d
 ·rename_i p43a p43b p43c p43d p43e p43f
  exfalso;subst h;simp [Ar.std] at p43d
 ·rename_i p44a p44b p44c p44d p44e p44f p44g
  exfalso;subst h;simp [Ar.std] at p44d
 ·rename_i p45a p45b p45c p45d p45e p45f p45g
  exfalso;subst h;simp [Ar.std] at p45d
 ·rename_i p46a p46b p46c p46d p46e p46f p46g
  exfalso;subst h;simp [Ar.std] at p46d
 ·rename_i p47a p47b p47c p47d p47e p47f p47g
  exfalso;subst h;simp [Ar.std] at p47d
 ·rename_i p48a p48b p48c p48d p48e p48f p48g
  exfalso;subst h;simp [Ar.std] at p48d
 ·rename_i p49a p49b p49c p49d p49e p49f p49g
  exfalso;subst h;simp [Ar.std] at p49d
 ·rename_i p50a p50b p50c p50d p50e p50f p50g
  exfalso;subst h;simp [Ar.std] at p50d
 ·rename_i p51a p51b p51c p51d
  exfalso;subst h;simp [Ar.std] at p51d
 ·rename_i p52a p52b p52c p52d
  exfalso;subst h;simp [Ar.std] at p52d
 ·next a b c d=>subst h;exact hV.g53 (nf a) (nf b) (nf c)
 ·next a b c d e=>subst h;exact hV.g54 (nf a) (nf b) (nf c) (nt e)
 ·next a b c d e=>subst h;exact hV.g55 (nf a) (nf b) (nf c) (nt e)
 ·next a b c d e=>subst h;exact hV.g56 (nf a) (nf b) (nf c) (nf e)
 ·next a b c d e f=>subst h;exact hV.g57 (nf a) (nf b) (nf c) (nf e) (df (nt f))
 ·next a b c d e f=>subst h;exact hV.g58 (nf a) (nf b) (nf c) (nf e) (df (nt f))
 ·next a b c d e f=>subst h;exact hV.g59 (nf a) (nf b) (nf c) (nf e) (dt (nf f))
 ·next a b c d e f g=>subst h;exact hV.g60 (nf a) (nf b) (nf c) (nf e) (dt (nf f)) (df (nt g))
 ·next a b c d e f g=>subst h;exact hV.g61 (nf a) (nf b) (nf c) (nf e) (dt (nf f)) (df (nt g))
 ·next a b c d e f g=>subst h;exact hV.g62 (nf a) (nf b) (nf c) (nf e) (dt (nf f)) (dt (nf g))
 ·next a b c d e f g=>subst h;exact hV.g63 (nf a) (nf b) (nf c) (nf e) (dt (nf f)) (dt (nf g))
 ·next a b c d e f g=>subst h;exact hV.g64 (nf a) (nf b) (nf c) (nf e) (dt (nf f)) (dt (nf g))
 ·next a b c d e f g=>subst h;exact hV.g65 (nf a) (nf b) (nf c) (nf e) (dt (nf f)) (dt (nf g))
 ·rename_i p66a p66b p66c p66d p66e p66f p66g
  refine Leaf.gen fun σz hσz=>?_
  obtain ⟨I0,m0,i0,c0⟩:V18l0 pre fn a0_0 a0_1 a0_2 a1 a2 a3 R:=by subst h;exact hV.l0 (nf p66a) (nf p66b) (nf p66c) (nf p66e) (dt (nf p66f)) (dt (nf p66g))
  refine loopB hE hinl 6 [] [] [(10,[])] (fun x:Rows×Int×Int×Rows=>[.l x.1,.i x.2.1,.i x.2.2.1,.l x.2.2.2]) (fun x=>I0 x.1 x.2.1 x.2.2.1 x.2.2.2) (fun x=>m0 x.1 x.2.1 x.2.2.1 x.2.2.2) ([],0,0,A.rep (A.toNat a3) [D.l []]) (by subst h;exact i0) ?_ ?_<;>subst hσz
  ·clear hE hinl hV;cbv;(try repeat' first|rfl|assumption|constructor)
  ·intro ⟨b0,b1,b2,b3⟩ hI0 K0 hK0
   have h0:=c0 _ _ _ _ hI0
   cbv
   repeat' first|(refine Br.mk (fun _=>?_) (fun _=>?_)<;>cbv)|(refine NilB.mk (fun _=>?_) ?_<;>cbv)|refine And.intro ?_ ?_|exact True.intro
   ·next a=>subst h;exact h0.g67 (dt a)
   ·next a=>subst h;exact h0.g68 (dt a)
   ·next a=>subst h;exact h0.g69 (dt a)
   ·next a=>subst h;exact h0.g70 (dt a)
   ·next a=>subst h;exact h0.g71 (dt a)
   ·next a b=>subst h;exact h0.g72 (dt a) (dt b)
   ·next a b=>subst h;exact h0.g73 (dt a) (dt b)
   ·next a b=>subst h;exact h0.g74 (dt a) (df b)
   ·next a b=>subst h;exact h0.g75 (dt a) (df b)
   ·next a b c=>subst h;exact h0.g76 (dt a) (df b) (nt c)
   ·next a b c=>subst h;exact h0.g77 (dt a) (df b) (nt c)
   ·next a b c=>subst h;exact h0.g78 (dt a) (df b) (nf c)
   ·next a b c=>subst h;exact h0.g79 (dt a) (df b) (nf c)
   ·next a b c=>subst h;exact h0.g80 (dt a) (df b) (nf c)
   ·next a b c=>subst h;exact h0.g80 (dt a) (df b) (nf c)
   ·next a b c=>subst h;exact h0.g80 (dt a) (df b) (nf c)
   ·next a b c=>subst h;exact h0.g83 (dt a) (df b) (nf c)
   ·next a b c=>subst h;exact h0.g78 (dt a) (df b) (nf c)
   ·next a b c=>subst h;exact h0.g79 (dt a) (df b) (nf c)
   ·next a b c=>subst h;exact h0.g86 (dt a) (df b) (nf c)
   ·next a b c=>subst h;exact h0.g86 (dt a) (df b) (nf c)
   ·next a b c=>subst h;exact h0.g80 (dt a) (df b) (nf c)
   ·next a b c=>subst h;exact h0.g89 (dt a) (df b) (nf c)
   ·rename_i p90a p90b p90c
    refine hK0 (b0,b1,A.add b2 1,A.set b3 (A.toNat (A.di (A.get a2 (A.toNat b2) 0))) [D.l (A.app (A.dl (A.get b3 (A.toNat (A.di (A.get a2 (A.toNat b2) 0))) 0)) [[D.i (A.di (A.get a2 (A.toNat b2) 1))]])]) _ ?_ ?_ ?_
    ·subst h;exact (h0.n90 (dt p90a) (df p90b) (nf p90c)).1
    ·subst h;exact (h0.n90 (dt p90a) (df p90b) (nf p90c)).2
    ·clear hE hinl hV hK0;cbv;(try repeat' first|rfl|assumption|constructor)
   ·rename_i p91a p91b
    refine Leaf.gen fun σz hσz=>?_
    obtain ⟨I1,m1,i1,c1⟩:V18l1 R b3:=by subst h;exact h0.l1 (df p91a) p91b
    refine loopB hE hinl 6 [79] [] [] (fun x:Rows×Int=>[.l x.1,.i x.2]) (fun x=>I1 x.1 x.2) (fun x=>m1 x.1 x.2) ([],0) (by subst h;exact i1) ?_ ?_<;>subst hσz
    ·clear hE hinl hV;cbv;(try repeat' first|rfl|assumption|constructor)
    ·intro ⟨d0,d1⟩ hI1 K1 hK1
     have h1:=c1 _ _ hI1
     cbv
     repeat' first|(refine Br.mk (fun _=>?_) (fun _=>?_)<;>cbv)|(refine NilB.mk (fun _=>?_) ?_<;>cbv)|refine And.intro ?_ ?_|exact True.intro
     ·next a=>subst h;exact h1.g92 (dt a)
     ·next a=>subst h;exact h1.g93 (dt a)
     ·next a=>subst h;exact h1.g94 (dt a)
     ·rename_i p95a
      refine Leaf.gen fun σz hσz=>?_
      obtain ⟨I2,m2,i2,c2⟩:V18l2 b3 d0 d1 I1 m1:=by subst h;exact h1.l2 (dt p95a)
      refine loopB hE hinl 6 [] [] [] (fun x:Int=>[.i x]) (fun x=>I2 x) (fun x=>m2 x) (0) (by subst h;exact i2) ?_ ?_<;>subst hσz
      ·clear hE hinl hV;cbv;(try repeat' first|rfl|assumption|constructor)
      ·intro e0 hI2 K2 hK2
       have h2:=c2 _ hI2
       cbv
       repeat' first|(refine Br.mk (fun _=>?_) (fun _=>?_)<;>cbv)|(refine NilB.mk (fun _=>?_) ?_<;>cbv)|refine And.intro ?_ ?_|exact True.intro
       ·next a=>subst h;exact h2.g96 (dt a)
       ·next a=>subst h;exact h2.g97 (dt a)
       ·next a=>subst h;exact h2.g98 (dt a)
       ·next a=>subst h;exact h2.g99 (dt a)
       ·next a=>subst h;exact h2.g100 (dt a)
       ·next a=>subst h;exact (h2.g101 (dt a)).elim
       ·next a b=>subst h;exact h2.g102 (df a) b
       ·next a b=>subst h;exact h2.g103 (df a) b
       ·rename_i p104a p104b
        refine hK1 (A.app d0 [[D.l []]],A.add d1 1) _ ?_ ?_ ?_
        ·subst h;exact (h2.n104 (df p104a) p104b).1
        ·subst h;exact (h2.n104 (df p104a) p104b).2
        ·clear hE hinl hV hK1;cbv;(try repeat' first|rfl|assumption|constructor)
       ·rename_i p105a p105b
        exfalso;subst h;simp [Ar.std] at p105b
       ·rename_i p106a p106b
        exfalso;subst h;simp [Ar.std] at p106b
       ·rename_i p107a p107b
        exfalso;subst h;simp [Ar.std] at p107b
       ·rename_i p108a p108b
        exfalso;subst h;simp [Ar.std] at p108b
     ·next a=>subst h;exact h1.g109 (df a)
     ·next a=>subst h;exact h1.g110 (df a)
   ·next a=>subst h;exact h0.g111 (df a)
   ·rename_i p112a
    refine Leaf.gen fun σz hσz=>?_
    obtain ⟨I3,m3,i3,c3⟩:V18l3 a0_2 a1 R b3:=by subst h;exact h0.l3 (df p112a)
    refine loopB hE hinl 6 [79] [] [(15,[])] (fun x:Rows×Int×Rows=>[.l x.1,.i x.2.1,.l x.2.2]) (fun x=>I3 x.1 x.2.1 x.2.2) (fun x=>m3 x.1 x.2.1 x.2.2) ([],0,A.app [] a1) (by subst h;exact i3) ?_ ?_<;>subst hσz
    ·clear hE hinl hV;cbv;(try repeat' first|rfl|assumption|constructor)
    ·intro ⟨f0,f1,f2⟩ hI3 K3 hK3
     have h3:=c3 _ _ _ hI3
     cbv
     repeat' first|(refine Br.mk (fun _=>?_) (fun _=>?_)<;>cbv)|(refine NilB.mk (fun _=>?_) ?_<;>cbv)|refine And.intro ?_ ?_|exact True.intro
     ·next a=>subst h;exact h3.g113 (dt a)
     ·next a=>subst h;exact h3.g114 (dt a)
     ·next a=>subst h;exact h3.g115 (dt a)
     ·rename_i p116a
      refine Leaf.gen fun σz hσz=>?_
      obtain ⟨I4,m4,i4,c4⟩:V18l4 a0_2 b3 f0 f1 f2 I3 m3:=by subst h;exact h3.l4 (dt p116a)
      refine loopB hE hinl 6 [] [] [(15,[])] (fun x:Int×Rows=>[.i x.1,.l x.2]) (fun x=>I4 x.1 x.2) (fun x=>m4 x.1 x.2) (0,f2) (by subst h;exact i4) ?_ ?_<;>subst hσz
      ·clear hE hinl hV;cbv;(try repeat' first|rfl|assumption|constructor)
      ·intro ⟨j0,j1⟩ hI4 K4 hK4
       have h4:=c4 _ _ hI4
       cbv
       repeat' first|(refine Br.mk (fun _=>?_) (fun _=>?_)<;>cbv)|(refine NilB.mk (fun _=>?_) ?_<;>cbv)|refine And.intro ?_ ?_|exact True.intro
       ·next a=>subst h;exact h4.g117 (dt a)
       ·next a=>subst h;exact h4.g118 (dt a)
       ·next a=>subst h;exact h4.g119 (dt a)
       ·next a=>subst h;exact h4.g120 (dt a)
       ·next a=>subst h;exact h4.g121 (dt a)
       ·next a=>subst h;exact h4.g122 (dt a)
       ·next a=>subst h;exact h4.g123 (dt a)
       ·next a=>subst h;exact h4.g124 (dt a)
       ·next a=>subst h;exact h4.g124 (dt a)
       ·next a=>subst h;exact h4.g120 (dt a)
       ·next a=>subst h;exact h4.g127 (dt a)
       ·next a=>subst h;exact h4.g128 (dt a)
       ·next a=>subst h;exact h4.g129 (dt a)
       ·next a=>subst h;exact h4.g130 (dt a)
       ·next a=>subst h;exact h4.g122 (dt a)
       ·next a=>subst h;exact h4.g123 (dt a)
       ·next a=>subst h;exact h4.g124 (dt a)
       ·next a=>subst h;exact h4.g134 (dt a)
       ·rename_i p135a
        refine hK4 (A.add j0 1,A.set j1 (A.toNat (A.tdiv (A.di (A.get (A.dl (A.get b3 (A.toNat f1) 0)) (A.toNat j0) 0)) 2)) [D.i (A.add (A.di (A.get j1 (A.toNat (A.tdiv (A.di (A.get (A.dl (A.get b3 (A.toNat f1) 0)) (A.toNat j0) 0)) 2)) 0)) (A.mul a0_2 (A.sub (A.mul 2 (A.tmod (A.di (A.get (A.dl (A.get b3 (A.toNat f1) 0)) (A.toNat j0) 0)) 2)) 1)))]) _ ?_ ?_ ?_
        ·subst h;exact (h4.n135 (dt p135a)).1
        ·subst h;exact (h4.n135 (dt p135a)).2
        ·clear hE hinl hV hK4;cbv;(try repeat' first|rfl|assumption|constructor)
       ·next a=>subst h;exact h4.g136 (df a)
       ·rename_i p137a p137b
        exfalso;subst h;simp [Ar.std] at p137b
       ·rename_i p138a p138b
        exfalso;subst h;simp [Ar.std] at p138b
       ·rename_i p139a p139b
        exfalso;subst h;simp [Ar.std] at p139b
       ·next a b=>subst h;exact h4.g140 (df a) b
       ·next a b=>subst h;exact h4.g141 (df a) b
       ·next a b=>subst h;exact h4.g142 (df a) b
       ·rename_i p143a p143b
        refine hK3 (A.app f0 [[D.l (A.app [] j1)]],A.add f1 1,j1) _ ?_ ?_ ?_
        ·subst h;exact (h4.n143 (df p143a) p143b).1
        ·subst h;exact (h4.n143 (df p143a) p143b).2
        ·clear hE hinl hV hK3;cbv;(try repeat' first|rfl|assumption|constructor)
     ·next a=>subst h;exact h3.g144 (df a)
     ·next a=>subst h;exact h3.g145 (df a)
end HX

namespace HX
open Go CX
def headId:Code→Nat
 |.region id _ _=>id
 |.seq a _=>headId a
 |.block _ b=>headId b
 |_=>0
def memB:List Nat→Nat→Bool
 |[],_=>false
 |a :: r,x=>match beqN a x with
  |true=>true
  |false=>memB r x
def vcJ (E:Env) (rd:Option Nat) (lo:Nat) (ci:CI) (js:List Nat):Code→(Ex→St→Prop)→St→Prop
 |.seq a b,Q,σ=>vcJ E rd lo ci js a (thenQ (fun σ'=>vcJ E rd lo ci js b Q σ') Q) σ
 |.block id b,Q,σ=>vcJ E rd lo ci js b (inBlockQ id Q) σ
 |.cond c a b,Q,σ=>match memB js (headId a) with
  |true=>Leaf E.E rd lo (.cond c a b) Q σ
  |false=>match evR σ.regs c with
   |.bool true=>vcJ E rd lo ci js a Q σ
   |.bool false=>vcJ E rd lo ci js b Q σ
   |.sym p=>Br p (fun _=>vcJ E rd lo ci js a Q (knowO σ c true)) (fun _=>vcJ E rd lo ci js b Q (knowO σ c false))
   |_=>StuckC (.cond c .skip .skip) σ
 |.region id ops draw,Q,σ=>match memB js id with
  |true=>Leaf E.E rd lo (.region id ops draw) Q σ
  |false=>vc E rd lo ci (.region id ops draw) Q σ
 |c,Q,σ=>vc E rd lo ci c Q σ
section
variable {E:Env} (hE:EnvOk E)
include hE
theorem vcJ_ok {ci:CI} (hci:CIOk E.E ci) (js:List Nat) {rd:Option Nat} {lo:Nat}:∀(c:Code) (Q:Ex→St→Prop) (σ:St),vcJ E rd lo ci js c Q σ→SWP E.E rd lo c Q σ
 |.seq a b,Q,σ,h=>fun C S hS hlo hrd=>by
  obtain ⟨e,S1,C1,σ1,k1,k2,k3,k4⟩:=vcJ_ok hci js a _ σ h C S hS hlo hrd
  cases e with
  |normal=>
   obtain ⟨e,S2,C2,σ2,l1,l2,l3,l4⟩:=vcJ_ok hci js b Q σ1 k4 C1 S1 k2 k3.m.le hrd
   refine ⟨e,S2,C2,σ2,(k1.and l1).succ fun n hn=>?_,l2,k3.trans l3,l4⟩
   show cxBody E.E (cx E.E n) (rd.map C.ids) (.seq a b) S=_
   have hn2:=hn.2
   rw [rd_ag hE hrd k3.m.ag] at hn2
   simp only [cxBody,hn.1,hn2]
  |ret=>
   refine ⟨.ret,S1,C1,σ1,k1.succ fun n hn=>?_,k2,k3,k4⟩
   show cxBody E.E (cx E.E n) (rd.map C.ids) (.seq a b) S=_
   simp only [cxBody,hn]
  |exit i=>
   refine ⟨.exit i,S1,C1,σ1,k1.succ fun n hn=>?_,k2,k3,k4⟩
   show cxBody E.E (cx E.E n) (rd.map C.ids) (.seq a b) S=_
   simp only [cxBody,hn]
 |.block id b,Q,σ,h=>fun C S hS hlo hrd=>by
  obtain ⟨e,S1,C1,σ1,k1,k2,k3,k4⟩:=vcJ_ok hci js b _ σ h C S hS hlo hrd
  cases e with
  |normal=>
   refine ⟨.normal,S1,C1,σ1,k1.succ fun n hn=>?_,k2,k3,k4⟩
   show cxBody E.E (cx E.E n) (rd.map C.ids) (.block id b) S=_
   simp only [cxBody,hn]
  |ret=>
   refine ⟨.ret,S1,C1,σ1,k1.succ fun n hn=>?_,k2,k3,k4⟩
   show cxBody E.E (cx E.E n) (rd.map C.ids) (.block id b) S=_
   simp only [cxBody,hn]
  |exit i=>
   simp only [inBlockQ] at k4
   split at k4
   ·rename_i hb
    simp only [beqN_iff] at hb
    refine ⟨.normal,S1,C1,σ1,k1.succ fun n hn=>?_,k2,k3,k4⟩
    show cxBody E.E (cx E.E n) (rd.map C.ids) (.block id b) S=_
    simp only [cxBody,hn,hb,Nat.beq_refl]
   ·rename_i hb
    simp only [beqN_not] at hb
    refine ⟨.exit i,S1,C1,σ1,k1.succ fun n hn=>?_,k2,k3,k4⟩
    show cxBody E.E (cx E.E n) (rd.map C.ids) (.block id b) S=_
    have hne:Nat.beq i id=false:=by
     cases he:Nat.beq i id with
     |true=>exact absurd (Nat.eq_of_beq_eq_true he) hb
     |false=>rfl
    simp only [cxBody,hn,hne]
 |.cond c a b,Q,σ,h=>fun C S hS hlo hrd=>by
  simp only [vcJ] at h
  split at h
  ·exact h.out C S hS hlo hrd
  have hx:=evR_ok hS.regs
  have go:∀(bb:Bool) (σ:St),Sim C σ S→lo≤σ.next→CX.evR S.regs c=some (.bool bb)→(match bb with |true=>vcJ E rd lo ci js a Q σ |false=>vcJ E rd lo ci js b Q σ)→∃e S' C' σ',Evt (fun n=>cx E.E n (rd.map C.ids) (.cond c a b) S=some (e,S'))∧Sim C' σ' S'∧Ext lo C σ S C' σ' S'∧Q e σ':=by
   intro bb σ hS hlo hb h
   cases bb with
   |true=>
    obtain ⟨e,S1,C1,σ1,k1,k2,k3,k4⟩:=vcJ_ok hci js a Q σ h C S hS hlo hrd
    refine ⟨e,S1,C1,σ1,k1.succ fun n hn=>?_,k2,k3,k4⟩
    show cxBody E.E (cx E.E n) (rd.map C.ids) (.cond c a b) S=_
    simp only [cxBody,hb,hn]
   |false=>
    obtain ⟨e,S1,C1,σ1,k1,k2,k3,k4⟩:=vcJ_ok hci js b Q σ h C S hS hlo hrd
    refine ⟨e,S1,C1,σ1,k1.succ fun n hn=>?_,k2,k3,k4⟩
    show cxBody E.E (cx E.E n) (rd.map C.ids) (.cond c a b) S=_
    simp only [cxBody,hb,hn]
  have kn:∀bb,CX.evR S.regs c=some (.bool bb)→Sim C (knowO σ c bb) S∧lo≤(knowO σ c bb).next∧Ext lo C σ S C (knowO σ c bb) S:=by
   intro bb hb
   unfold knowO
   split
   ·exact ⟨⟨hS.nt,know_ok hS.regs hb,hS.m,hS.df,hS.dflt⟩,hlo,(MExt.refl _ _ _ _ _).less hlo,rfl,fun _ h=>.inl h⟩
   ·exact ⟨hS,hlo,Ext.refl _ _ _ hlo⟩
  split at h
  ·rename_i he
   obtain ⟨v,v1,v2⟩:=hx.get he (by intro e;cases e)
   simp only [RvS] at v2
   subst v2
   exact go true σ hS hlo v1 h
  ·rename_i he
   obtain ⟨v,v1,v2⟩:=hx.get he (by intro e;cases e)
   simp only [RvS] at v2
   subst v2
   exact go false σ hS hlo v1 h
  ·rename_i p he
   obtain ⟨v,v1,v2⟩:=hx.get he (by intro e;cases e)
   simp only [RvS] at v2
   subst v2
   cases hp:p with
   |true=>rw [hp] at v1;exact let ⟨e,S',C',σ',k1,k2,k3,k4⟩:=go true (knowO σ c true) (kn true v1).1 (kn true v1).2.1 v1 (h.t hp);⟨e,S',C',σ',k1,k2,(kn true v1).2.2.trans k3,k4⟩
   |false=>rw [hp] at v1;exact let ⟨e,S',C',σ',k1,k2,k3,k4⟩:=go false (knowO σ c false) (kn false v1).1 (kn false v1).2.1 v1 (h.e hp);⟨e,S',C',σ',k1,k2,(kn false v1).2.2.trans k3,k4⟩
  ·exact h.out.elim
 |.region id ops draw,Q,σ,h=>by
  simp only [vcJ] at h
  split at h
  ·exact h.out
  ·exact vc_ok hE hci _ Q σ h
 |.skip,Q,σ,h=>vc_ok hE hci _ Q σ h
 |.label _,Q,σ,h=>vc_ok hE hci _ Q σ h
 |.ret,Q,σ,h=>vc_ok hE hci _ Q σ h
 |.exit _,Q,σ,h=>vc_ok hE hci _ Q σ h
 |.loop _,Q,σ,h=>vc_ok hE hci _ Q σ h
 |.rangeFunc ..,Q,σ,h=>vc_ok hE hci _ Q σ h
 |.scope ..,Q,σ,h=>vc_ok hE hci _ Q σ h
 |.goto ..,Q,σ,h=>vc_ok hE hci _ Q σ h
 |.refuse ..,Q,σ,h=>vc_ok hE hci _ Q σ h
end
def killL (kl:List Nat):List (Nat×SV)→List (Nat×SV)
 |[]=>[]
 |(t,v) :: r=>match memB kl t with
  |true=>killL kl r
  |false=>(t,v) :: killL kl r
def killR (kl:List Nat) (σ:St):St:=⟨σ.nt,killL kl σ.regs,σ.objs,σ.next,σ.df⟩
theorem joinB {E:Env} (hE:EnvOk E) {inl:Nat→Option Func} (hinl:∀f fn,inl f=some fn→E.E.fn f=some fn∧E.E.ext f=none) {rd:Option Nat} {lo:Nat} (n:Nat) (kl fz drop:List Nat) (names:List (Nat×List Nat)) {c:Code} {Q:Ex→St→Prop} {σ:St} {X:Type} (vals:X→List D) (J:X→Prop)
  (run:∀K:St→Prop,(∀x σ',J x→subP lo (frzT fz σ') (updT E lo c (killR kl (frzT fz σ)) drop names (vals x))→K σ')→vc E rd lo (ciN E inl n) c (thenQ K Q) σ)
  (cont:∀x,J x→Q .normal (updT E lo c (killR kl (frzT fz σ)) drop names (vals x))):Leaf E.E rd lo c Q σ:=by
 refine ⟨fun C S hS hlo hrd=>?_⟩
 obtain ⟨e,S1,C1,σ1,k1,k2,k3,k4⟩:=vc_ok hE (ciN_ok hE hinl n) c _ σ (run (fun σ'=>∃x,J x∧Sub lo σ' (updT E lo c (killR kl (frzT fz σ)) drop names (vals x))) fun x σ' h1 h2=>⟨x,h1,(subP_ok h2).frz fz⟩) C S hS hlo hrd
 cases e with
 |normal=>
  obtain ⟨x,hx,hs⟩:=k4
  obtain ⟨C2,s1,s2⟩:=hs _ C1 S1 k2 k3.m.le
  exact ⟨.normal,S1,C2,_,k1,s1,k3.trans s2,cont x hx⟩
 |ret=>exact ⟨_,S1,C1,σ1,k1,k2,k3,k4⟩
 |exit i=>exact ⟨_,S1,C1,σ1,k1,k2,k3,k4⟩
def addR (nr:List (Nat×SV)) (σ:St):St:=⟨σ.nt,nr++σ.regs,σ.objs,σ.next,σ.df⟩
theorem joinR {E:Env} (hE:EnvOk E) {inl:Nat→Option Func} (hinl:∀f fn,inl f=some fn→E.E.fn f=some fn∧E.E.ext f=none) {rd:Option Nat} {lo:Nat} (n:Nat) (kl fz drop:List Nat) (nr:List (Nat×SV)) (names:List (Nat×List Nat)) {c:Code} {Q:Ex→St→Prop} {σ:St} {X:Type} (vals:X→List D) (J:X→Prop)
  (run:∀K:St→Prop,(∀x σ',J x→subP lo (frzT fz σ') (updT E lo c (addR nr (killR kl (frzT fz σ))) drop names (vals x))→K σ')→vc E rd lo (ciN E inl n) c (thenQ K Q) σ)
  (cont:∀x,J x→Q .normal (updT E lo c (addR nr (killR kl (frzT fz σ))) drop names (vals x))):Leaf E.E rd lo c Q σ:=by
 refine ⟨fun C S hS hlo hrd=>?_⟩
 obtain ⟨e,S1,C1,σ1,k1,k2,k3,k4⟩:=vc_ok hE (ciN_ok hE hinl n) c _ σ (run (fun σ'=>∃x,J x∧Sub lo σ' (updT E lo c (addR nr (killR kl (frzT fz σ))) drop names (vals x))) fun x σ' h1 h2=>⟨x,h1,(subP_ok h2).frz fz⟩) C S hS hlo hrd
 cases e with
 |normal=>
  obtain ⟨x,hx,hs⟩:=k4
  obtain ⟨C2,s1,s2⟩:=hs _ C1 S1 k2 k3.m.le
  exact ⟨.normal,S1,C2,_,k1,s1,k3.trans s2,cont x hx⟩
 |ret=>exact ⟨_,S1,C1,σ1,k1,k2,k3,k4⟩
 |exit i=>exact ⟨_,S1,C1,σ1,k1,k2,k3,k4⟩
theorem loopBJ {E:Env} (hE:EnvOk E) (js:List Nat) {inl:Nat→Option Func} (hinl:∀f fn,inl f=some fn→E.E.fn f=some fn∧E.E.ext f=none) {rd:Option Nat} {lo:Nat} (n:Nat) (fz drop:List Nat) (names:List (Nat×List Nat)) {c:Code} {Q:Ex→St→Prop} {σ:St} {X:Type} (vals:X→List D) (Inv:X→Prop) (μ:X→Nat) (x0:X) (h0:Inv x0)
  (hs:subP lo (frzT fz σ) (updT E lo c (frzT fz σ) drop names (vals x0)))
  (round:∀x,Inv x→∀K:St→Prop,(∀x' σ',Inv x'→μ x' < μ x→subP lo (frzT fz σ') (updT E lo c (frzT fz σ) drop names (vals x'))→K σ')→vcJ E rd lo (ciN E inl n) js c (endQ K Q) (updT E lo c (frzT fz σ) drop names (vals x))) :
  Leaf E.E rd lo (.loop c) Q σ:=by
 refine ⟨loop_ok (fun x=>updT E lo c (frzT fz σ) drop names (vals x)) Inv μ x0 h0 ((subP_ok hs).frz fz) (fun _=>updT_lo) fun x hx=>?_⟩
 have e:loopQ lo (fun x=>updT E lo c (frzT fz σ) drop names (vals x)) Inv μ Q x=endQ (fun σ'=>∃x',Inv x'∧μ x' < μ x∧Sub lo σ' (updT E lo c (frzT fz σ) drop names (vals x'))) Q:=by
  funext e σ'
  cases e<;>rfl
 rw [e]
 exact vcJ_ok hE (ciN_ok hE hinl n) js c _ _ (round x hx _ fun x' σ' h1 h2 h3=>⟨x',h1,h2,(subP_ok h3).frz fz⟩)
def fnVCJ (js:List Nat) (b0 n0:Nat) (E:Env) (inl:Nat→Option Func) (n:Nat) (fn:Func) (sg:Sig) (r:Nat→Nat→D) (ds:List (List D)):Prop:=
 match fn.body with
 |some c=>match argsSV b0 sg.params ds with
  |some vs=>match bleN vs.length fn.ntmps with
   |true=>vcJ E none 0 (ciN E inl n) js c (retX E fn sg r) ⟨fn.ntmps,enterS 0 vs,[],n0,[]⟩
   |false=>False
  |none=>False
 |none=>False
theorem of_vcGJ {E:Env} (hE:EnvOk E) (js:List Nat) {inl:Nat→Option Func} (hinl:∀f fn,inl f=some fn→E.E.fn f=some fn∧E.E.ext f=none) (n:Nat) {f:Nat} {fn:Func} {sg:Sig} {pre:List (List D)→Prop} {res:List (List D)→Nat→Nat→D} (hf:E.E.fn f=some fn∧E.E.ext f=none)
  (b0 n0:Nat) (hb0:b0≤n0) (h:allA sg.params fun ds=>pre ds→fnVCJ js b0 n0 E inl n fn sg (res ds) ds) {ds:List (List D)} (hpre:pre ds) {g:Nat→Option O} {bar nx:Nat} {hp:T O} {args:List V} (C:Cx E.E.ro) (hCg:C.g=g) (hM:MSim C [] n0 bar hp.get nx)
  (hargs:ArgsFz E.E.ro C.g (C.bd b0) sg.params ds args) :
  ∃(vs:List V) (h':T O) (nx':Nat) (g':Nat→Option O),Evt (fun n=>∀k,callF E.E (cx E.E n) bar hp nx f args k=k (CX.one vs) h' nx')∧nx≤nx'∧(∀id,id < nx→h'.get id=hp.get id)∧(∀id o,g id=some o→g' id=some o)∧
   (∀id o,g' id=some o→(id < nx'∧h'.get id=some o)∧(g id=some o∨nx≤id))∧ResFz E.E.ro g' nx' (res ds) sg.results 0 vs:=by
 subst hCg
 have hvc:=allA_ok h hargs hpre
 unfold fnVCJ at hvc
 split at hvc
 ·rename_i c hc
  split at hvc
  ·rename_i vs hvs
   split at hvc
   ·rename_i hle
    simp only [bleN_iff] at hle
    have hrel:RvSL C n0 vs args:=argsSV_ok hb0 hvs hargs
    obtain ⟨t',t1,t2⟩:=enter_ok (C:=C) (n:=n0) _ _ 0 .e [] hrel (fun t s h=>by simp [look] at h) (fun j s h=>by simp [look] at h)
    obtain ⟨e,S',C',σ',k1,k2,k3,k4⟩:=vcJ_ok hE (ciN_ok hE hinl n) js (rd:=none) (lo:=0) c _ _ hvc C ⟨fn.ntmps,bar,t',hp,nx,[]⟩ ⟨rfl,fun j s hl=>.inr (t2 j s hl),hM,.nil,fun d hd=>by cases hd⟩ (Nat.zero_le _) (fun l hl=>by cases hl)
    have none0:∀id,¬OwnId C [] id:=fun id h=>by obtain ⟨_,_,hl,_⟩:=h;simp [look] at hl
    have fin:retRP E fn sg (res ds) σ'→(e=.normal∨e=.ret)→∃(vs:List V) (h':T O) (nx':Nat) (g':Nat→Option O),Evt (fun n=>∀k,callF E.E (cx E.E n) bar hp nx f args k=k (CX.one vs) h' nx')∧nx≤nx'∧(∀id,id < nx→h'.get id=hp.get id)∧(∀id o,C.g id=some o→g' id=some o)∧
      (∀id o,g' id=some o→(id < nx'∧h'.get id=some o)∧(C.g id=some o∨nx≤id))∧ResFz E.E.ro g' nx' (res ds) sg.results 0 vs:=by
     intro hr he
     unfold retRP at hr
     split at hr
     ·rename_i objs ho
      split at hr
      ·rename_i rs hrs
       unfold retD at hr
       split at hr
       ·rename_i ds' hds
        obtain ⟨h',t1',t2',t3'⟩:=take_ok S'.df σ'.df σ'.objs objs S'.h ho k2.m k2.df k2.dflt
        obtain ⟨x,x1,x2⟩:=resAll_ok (σ:=σ'.mem objs σ'.next) hE t2' k2.regs fn.results.toList hrs
        obtain ⟨C2,m2,e2⟩:=t2'.frzL rs
        have hA:=argsD_ok (σ:=σ'.mem (frzL objs rs) σ'.next) m2 (fun _ _ h=>h) (fun e=>by cases e) hds (RvSL.ag e2.ag (Nat.le_refl _) _ _ x1)
        have hext:MExt C [] 0 hp.get nx C2 (frzL objs rs) σ'.next h'.get S'.nx:=yext (k3.m.took t3' (fun i hi=>(k3.df i hi).resolve_left (by intro h;cases h))) (MExt.refl _ _ _ _ _) ((MExt.refl _ _ _ _ _).less (Nat.zero_le _)) e2
        have hbar':S'.bar=bar:=k3.bar
        refine ⟨x,h',S'.nx,C2.g,k1.mono fun n hn k=>?_,hext.nxle,fun id hid=>hext.keep id hid (none0 id),fun id o hgo=>hext.ag.g id o hgo,fun id o hgo=>⟨m2.fz id o hgo,?_⟩,eqRes_ok (allP_ok _ hr) hA⟩
        ·have hlen:Nat.ble (CX.len args) fn.ntmps=true:=bleT (by rw [len_eq,hrel.length];exact hle)
         have hn':cx E.E n none c ⟨fn.ntmps,bar,t',hp,nx,[]⟩=some (e,S'):=hn
         have hrun:outV (takeDf bar S'.df S'.h fun h=>resultsX E.E S'.regs h fn.results.toList fun l=>retV (CX.one l) h S'.nx) k=k (CX.one x) h' S'.nx:=by
          rw [←hbar',t1',x2];rfl
         simp only [callF,hf.1,hf.2,hc,hlen,t1,hn']
         rcases he with rfl |rfl<;>exact hrun
        ·rcases hext.g id o hgo with h |h |h
         ·exact .inl h
         ·exact absurd h (none0 id)
         ·exact .inr h
       ·exact hr.out.elim
      ·exact hr.out.elim
     ·exact hr.out.elim
    cases e with
    |normal=>exact fin k4 (.inl rfl)
    |ret=>exact fin k4 (.inr rfl)
    |exit i=>exact (StuckR.out k4).elim
   ·exact hvc.elim
  ·exact hvc.elim
 ·exact hvc.elim
theorem PureC.of_vcJ {E:Env} (hE:EnvOk E) (js:List Nat) {inl:Nat→Option Func} (hinl:∀f fn,inl f=some fn→E.E.fn f=some fn∧E.E.ext f=none) (n:Nat) {f:Nat} {fn:Func} {sg:Sig} {pre:List (List D)→Prop} {res:List (List D)→Nat→Nat→D} (hf:E.E.fn f=some fn∧E.E.ext f=none)
  (h:allA sg.params fun ds=>pre ds→fnVCJ js 1 1 E inl n fn sg (res ds) ds):PureC E.E f sg pre res:=by
 intro ds hpre g bar nx hp args hg hbar hargs
 refine of_vcGJ hE js hinl n hf 1 1 (Nat.le_refl _) h hpre (bar:=bar) ⟨fun _=>0,fun _=>.nils,g,fun b=>if b=0 then 0 else nx⟩ rfl ?_ hargs
 exact ⟨fun _ _ h=>by simp [look] at h,fun _ _ h=>by simp [look] at h,fun _ _ h=>by simp [look] at h,fun _ _ _ _ h=>by simp [look] at h,hg,fun b _=>by show (if b=0 then 0 else nx)≤nx;split<;>omega,rfl,hbar,rfl⟩
theorem PureC0.of_vcJ {E:Env} (hE:EnvOk E) (js:List Nat) {inl:Nat→Option Func} (hinl:∀f fn,inl f=some fn→E.E.fn f=some fn∧E.E.ext f=none) (n:Nat) {f:Nat} {fn:Func} {sg:Sig} {pre:List (List D)→Prop} {res:List (List D)→Nat→Nat→D} (hf:E.E.fn f=some fn∧E.E.ext f=none)
  (h:allA sg.params fun ds=>pre ds→fnVCJ js 0 0 E inl n fn sg (res ds) ds):PureC0 E.E f sg pre res:=by
 intro ds hpre args hargs
 obtain ⟨vs,h',nx',g',c1,_,_,_,_,c6⟩:=of_vcGJ hE js hinl n hf 0 0 (Nat.le_refl _) h hpre (bar:=0) (hp:=.e) (nx:=0) ⟨fun _=>0,fun _=>.nils,fun _=>none,fun _=>0⟩ rfl
  ⟨fun _ _ h=>by simp [look] at h,fun _ _ h=>by simp [look] at h,fun _ _ h=>by simp [look] at h,fun _ _ _ _ h=>by simp [look] at h,fun _ _ h=>(by cases h),fun _ _=>Nat.le_refl _,rfl,Nat.le_refl _,rfl⟩ hargs
 exact ⟨vs,h',nx',g',c1,c6⟩
end HX

namespace HX
open Go Go.Proofs CX
set_option maxHeartbeats 4000000 in
set_option maxRecDepth 100000 in
theorem walk35 {ro A pre fn} (hE:EnvOk ⟨A,(cxE ro),ksF,sigL [],pre,fn⟩) {P:List (List D)→Prop} {res:List (List D)→Nat→Nat→D}
  (hv:∀(a0_0:Int) (a0_1:Int) (a0_2:Int) (a1:Rows) (a2:Rows) (a3:Int),ShR [.int .u8] a1→ShR [.int .u8] a2→P [[.i a0_0,.i a0_1,.i a0_2],[.l a1],[.l a2],[.i a3]]→V35 a0_0 a0_1 a0_2 a1 a2 a3 (res [[.i a0_0,.i a0_1,.i a0_2],[.l a1],[.l a2],[.i a3]])) :
  PureC (cxE ro) 35 ⟨[(true,[.int .i64,.int .i64,.int .i64]),(false,[.sl [.int .u8]]),(false,[.sl [.int .u8]]),(false,[.int .i64])],[(false,[.sl [.sl [.int .i64]]])],false⟩ P res:=by
 have h:=hE.A
 simp only [] at h
 have hinl:∀f fn,inlL [] f=some fn→(cxE ro).fn f=some fn∧(cxE ro).ext f=none:=Inls.ok (by repeat (first |exact .nil |refine .cons rfl rfl ?_))
 refine PureC.of_vcJ hE [18,19] hinl 6 (f:=35) (fn:=Try.f35) ⟨rfl,rfl⟩ ?_
 intro a0_0 a0_1 a0_2 a1 ha1 a2 ha2 a3 hP
 obtain ⟨R,hR⟩:∃R,res [[.i a0_0,.i a0_1,.i a0_2],[.l a1],[.l a2],[.i a3]]=R:=⟨_,rfl⟩
 rw [hR]
 have hV:=hv a0_0 a0_1 a0_2 a1 a2 a3 ha1 ha2 hP
 rw [hR] at hV
 clear hR hP hv
 cbv
 repeat' first|(refine Br.mk (fun _=>?_) (fun _=>?_)<;>cbv)|(refine NilB.mk (fun _=>?_) ?_<;>cbv)|refine And.intro ?_ ?_|exact True.intro
 ·subst h;exact hV.g0
 ·subst h;exact hV.g1
 ·subst h;exact hV.g2
 ·subst h;exact hV.g3
 ·subst h;exact hV.g4
 ·refine Leaf.gen fun σz hσz=>?_
  obtain ⟨I0,m0,i0,c0⟩:V35l0 a0_0 a0_1 a0_2 a1 a2 a3 R:=by subst h;exact hV.l0
  refine loopBJ hE [18,19] hinl 6 [] [] [(2,[])] (fun x:Int×Rows=>[.i x.1,.l x.2]) (fun x=>I0 x.1 x.2) (fun x=>m0 x.1 x.2) (0,A.rep (A.toNat (A.mul a0_0 a0_1)) [D.i 0]) (by subst h;exact i0) ?_ ?_<;>subst hσz
  ·clear hE hinl hV;cbv;(try repeat' first|rfl|assumption|constructor)
  ·intro ⟨b0,b1⟩ hI0 K0 hK0
   have h0:=c0 _ _ hI0
   cbv
   repeat' first|(refine Br.mk (fun _=>?_) (fun _=>?_)<;>cbv)|(refine NilB.mk (fun _=>?_) ?_<;>cbv)|refine And.intro ?_ ?_|exact True.intro
   ·next a b=>subst h;exact h0.g6 (dt a) (dt b)
   ·next a b=>subst h;exact h0.g7 (dt a) (dt b)
   ·next a b=>subst h;exact h0.g8 (dt a) (dt b)
   ·next a b=>subst h;exact h0.g9 (dt a) (dt b)
   ·next a b=>subst h;exact h0.g10 (dt a) (dt b)
   ·next a b=>subst h;exact h0.g11 (dt a) (dt b)
   ·next a b=>subst h;exact h0.g12 (dt a) (dt b)
   ·next a b=>subst h;exact h0.g13 (dt a) (dt b)
   ·next a b=>subst h;exact h0.g14 (dt a) (dt b)
   ·rename_i p15a p15b
    refine hK0 (A.add b0 1,A.set b1 (A.toNat b0) [D.i (A.di (A.get a1 (A.toNat (A.tmod b0 (A.nat (A.len a1)))) 0))]) _ ?_ ?_ ?_
    ·subst h;exact (h0.n15 (dt p15a) (dt p15b)).1
    ·subst h;exact (h0.n15 (dt p15a) (dt p15b)).2
    ·clear hE hinl hV hK0;cbv;(try repeat' first|rfl|assumption|constructor)
   ·next a b=>subst h;exact h0.g16 (dt a) (df b)
   ·rename_i p17a p17b
    refine hK0 (A.add b0 1,b1) _ ?_ ?_ ?_
    ·subst h;exact (h0.n17 (dt p17a) (df p17b)).1
    ·subst h;exact (h0.n17 (dt p17a) (df p17b)).2
    ·clear hE hinl hV hK0;cbv;(try repeat' first|rfl|assumption|constructor)
   ·rename_i p18a
    refine Leaf.gen fun σz hσz=>?_
    obtain ⟨I1,m1,i1,c1⟩:V35l1 a0_0 a0_1 a0_2 a2 a3 R b1:=by subst h;exact h0.l1 (df p18a)
    refine loopBJ hE [18,19] hinl 6 [11] [] [] (fun x:Rows×Rows×Int=>[.l x.1,.l x.2.1,.i x.2.2]) (fun x=>I1 x.1 x.2.1 x.2.2) (fun x=>m1 x.1 x.2.1 x.2.2) ([],b1,0) (by subst h;exact i1) ?_ ?_<;>subst hσz
    ·clear hE hinl hV;cbv;(try repeat' first|rfl|assumption|constructor)
    ·intro ⟨d0,d1,d2⟩ hI1 K1 hK1
     have h1:=c1 _ _ _ hI1
     cbv
     repeat' first|(refine Br.mk (fun _=>?_) (fun _=>?_)<;>cbv)|(refine NilB.mk (fun _=>?_) ?_<;>cbv)|refine And.intro ?_ ?_|exact True.intro
     ·next a=>subst h;exact h1.g19 (dt a)
     ·next a=>subst h;exact h1.g20 (dt a)
     ·next a=>subst h;exact h1.g21 (dt a)
     ·next a=>subst h;exact h1.g22 (dt a)
     ·rename_i p23a
      refine Leaf.gen fun σz hσz=>?_
      obtain ⟨I2,m2,i2,c2⟩:V35l2 a0_0 a0_1 a0_2 a2 d0 d1 d2 I1 m1:=by subst h;exact h1.l2 (dt p23a)
      refine loopBJ hE [18,19] hinl 6 [] [] [(6,[])] (fun x:Int×Rows=>[.i x.1,.l x.2]) (fun x=>I2 x.1 x.2) (fun x=>m2 x.1 x.2) (0,A.rep (A.toNat (A.mul a0_0 a0_1)) [D.i 0]) (by subst h;exact i2) ?_ ?_<;>subst hσz
      ·clear hE hinl hV;cbv;(try repeat' first|rfl|assumption|constructor)
      ·intro ⟨e0,e1⟩ hI2 K2 hK2
       have h2:=c2 _ _ hI2
       cbv
       repeat' first|(refine Br.mk (fun _=>?_) (fun _=>?_)<;>cbv)|(refine NilB.mk (fun _=>?_) ?_<;>cbv)|refine And.intro ?_ ?_|exact True.intro
       ·next a=>subst h;exact h2.g24 (dt a)
       ·next a=>subst h;exact h2.g25 (dt a)
       ·next a=>subst h;exact h2.g26 (dt a)
       ·next a=>subst h;exact h2.g24 (dt a)
       ·next a=>subst h;exact h2.g28 (dt a)
       ·next a=>subst h;exact h2.g29 (dt a)
       ·rename_i p30a
        refine Leaf.gen fun σz hσz=>?_
        obtain ⟨I3,r3,c3⟩:V35j3 a0_0 a0_1 a0_2 a2 d1 d2 e0 e1 I2 m2:=by subst h;exact h2.l3 (dt p30a)
        refine joinR hE hinl 6 [] [] [] [(65,SV.bool false)] [] (fun x:Bool=>[.b x]) (fun x=>I3 x) ?_ ?_<;>subst hσz
        ·intro K3 hK3
         cbv
         repeat' first|(refine Br.mk (fun _=>?_) (fun _=>?_)<;>cbv)|(refine NilB.mk (fun _=>?_) ?_<;>cbv)|refine And.intro ?_ ?_|exact True.intro
         ·rename_i p31a
          refine hK3 (A.lt 0 (A.nat (A.len a2))) _ ?_ ?_
          ·subst h;exact r3.n31 (dt p31a)
          ·clear hE hinl hV hK3;cbv;(try repeat' first|rfl|assumption|constructor)
         ·rename_i p32a
          refine hK3 (false) _ ?_ ?_
          ·subst h;exact r3.n32 (df p32a)
          ·clear hE hinl hV hK3;cbv;(try repeat' first|rfl|assumption|constructor)
        ·intro f0 hI3
         have h3:=c3 _ hI3
         cbv
         repeat' first|(refine Br.mk (fun _=>?_) (fun _=>?_)<;>cbv)|(refine NilB.mk (fun _=>?_) ?_<;>cbv)|refine And.intro ?_ ?_|exact True.intro
         ·refine Leaf.gen fun σz hσz=>?_
          obtain ⟨I4,r4,c4⟩:V35j4 a0_0 a0_1 a0_2 a2 d1 d2 e0 e1 f0 I2 m2:=by subst h;exact h3.l4
          refine joinB hE hinl 6 [65] [] [] [(6,[])] (fun x:Rows=>[.l x]) (fun x=>I4 x) ?_ ?_<;>subst hσz
          ·intro K4 hK4
           cbv
           repeat' first|(refine Br.mk (fun _=>?_) (fun _=>?_)<;>cbv)|(refine NilB.mk (fun _=>?_) ?_<;>cbv)|refine And.intro ?_ ?_|exact True.intro
           ·next a=>subst h;exact r4.g34 a
           ·next a=>subst h;exact r4.g35 a
           ·next a=>subst h;exact r4.g36 a
           ·next a=>subst h;exact r4.g36 a
           ·next a=>subst h;exact r4.g38 a
           ·next a=>subst h;exact r4.g39 a
           ·next a=>subst h;exact r4.g40 a
           ·next a=>subst h;exact r4.g41 a
           ·next a=>subst h;exact r4.g42 a
           ·next a=>subst h;exact r4.g43 a
           ·next a=>subst h;exact r4.g44 a
           ·next a=>subst h;exact r4.g45 a
           ·next a=>subst h;exact r4.g46 a
           ·next a=>subst h;exact r4.g47 a
           ·next a=>subst h;exact r4.g48 a
           ·next a=>subst h;exact r4.g49 a
           ·next a=>subst h;exact r4.g34 a
           ·next a=>subst h;exact r4.g35 a
           ·next a=>subst h;exact r4.g36 a
           ·rename_i p53a
            refine hK4 (A.set (A.set e1 (A.toNat e0) [D.i (A.di (A.get d1 (A.toNat e0) 0))]) (A.toNat e0) [D.i (A.add (A.di (A.get (A.set e1 (A.toNat e0) [D.i (A.di (A.get d1 (A.toNat e0) 0))]) (A.toNat e0) 0)) (A.sub (A.tmod (A.di (A.get a2 (A.toNat (A.tmod (A.add (A.mul d2 (A.mul a0_0 a0_1)) e0) (A.nat (A.len a2)))) 0)) (A.add (A.mul 2 a0_2) 1)) a0_2))]) _ ?_ ?_
            ·subst h;exact r4.n53 p53a
            ·clear hE hinl hV hK4;cbv;(try repeat' first|rfl|assumption|constructor)
           ·rename_i p54a
            refine hK4 (A.set e1 (A.toNat e0) [D.i (A.di (A.get d1 (A.toNat e0) 0))]) _ ?_ ?_
            ·subst h;exact r4.n54 p54a
            ·clear hE hinl hV hK4;cbv;(try repeat' first|rfl|assumption|constructor)
          ·intro j0 hI4
           have h4:=c4 _ hI4
           cbv
           repeat' first|(refine Br.mk (fun _=>?_) (fun _=>?_)<;>cbv)|(refine NilB.mk (fun _=>?_) ?_<;>cbv)|refine And.intro ?_ ?_|exact True.intro
           ·subst h;exact h4.g55
           ·subst h;exact h4.g56
           ·subst h;exact h4.g57
           ·subst h;exact h4.g55
           ·subst h;exact h4.g56
           ·subst h;exact h4.g57
           ·subst h;exact h4.g61
           ·refine hK2 (A.add e0 1,A.set j0 (A.toNat e0) [D.i (A.min (A.max (A.di (A.get j0 (A.toNat e0) 0)) 0) 255)]) _ ?_ ?_ ?_
            ·subst h;exact (h4.n62).1
            ·subst h;exact (h4.n62).2
            ·clear hE hinl hV hK2;cbv;(try repeat' first|rfl|assumption|constructor)
       ·next a=>subst h;exact h2.g63 (df a)
       ·next a=>subst h;exact h2.g64 (df a)
       ·rename_i p65a
        refine hK1 (A.app d0 [[D.l e1]],e1,A.add d2 1) _ ?_ ?_ ?_
        ·subst h;exact (h2.n65 (df p65a)).1
        ·subst h;exact (h2.n65 (df p65a)).2
        ·clear hE hinl hV hK1;cbv;(try repeat' first|rfl|assumption|constructor)
     ·next a=>subst h;exact h1.g66 (df a)
end HX

namespace HX
open Go Go.Proofs CX
abbrev tru:List (List D)→Prop:=fun _=>True
def r50:List (List D)→Nat→Nat→D
 |[[.i a],[.i b],[.i c]],_,_=>.b (inB a b c)
 |_,_,_=>.nil
def r100:List (List D)→Nat→Nat→D
 |[[.i a],[.i b]],_,_=>.i (cmpI a b)
 |_,_,_=>.nil
def r76:List (List D)→Nat→Nat→D
 |[[.i a,.i b],[.i c,.i d]],_,_=>.i (cmpE a b c d)
 |_,_,_=>.nil
def r71:List (List D)→Nat→Nat→D
 |[[.l l],[.i a,.i b]],_,_=>.i (folE l a b)
 |_,_,_=>.nil
def r51:List (List D)→Nat→Nat→D
 |[[.l l]],_,_=>.i (chkE l)
 |_,_,_=>.nil
def p52:List (List D)→Prop
 |[[.i w,.i h,.i _]]=>(1≤w∧w≤32)∧1≤h∧h≤32
 |_=>False
def r52:List (List D)→Nat→Nat→D
 |[[.i w,.i h,.i _]],_,_=>.i (w * h)
 |_,_,_=>.nil
def p46:List (List D)→Prop
 |[[.i w,.i h,.i _],[.l _]]=>(1≤w∧w≤32)∧1≤h∧h≤32
 |_=>False
noncomputable def r46:List (List D)→Nat→Nat→D
 |[[.i w,.i h,.i _],[.l f]],_,_=>.i (frE w h f)
 |_,_,_=>.nil
noncomputable def r14:List (List D)→Nat→Nat→D
 |[[.i w,.i h,.i s],[.l F]],0,_=>.l (wtR w h s F)
 |[[.i w,.i h,.i s],[.l F]],_,_=>.i (wtE w h s F)
 |_,_,_=>.nil
noncomputable def r18:List (List D)→Nat→Nat→D
 |[[.i w,.i h,.i s],[.l f],[.l l],[.i T]],0,_=>.l (rbR w h s f l T)
 |[[.i w,.i h,.i s],[.l f],[.l l],[.i T]],_,_=>.i (rbE w h s f l T)
 |_,_,_=>.nil
def p35:List (List D)→Prop
 |[[.i w,.i h,.i s],[.l a],[.l m],[.i n]]=>(1≤w∧w≤32)∧(1≤h∧h≤32)∧(1≤s∧s≤128)∧(0≤n∧n≤256)∧Byt a∧Byt m
 |_=>False
def r35:List (List D)→Nat→Nat→D
 |[[.i w,.i h,.i s],[.l a],[.l m],[.i n]],_,_=>.l (fl s (w * h) a m n.toNat).2
 |_,_,_=>.nil
noncomputable def c50:Ctr:=⟨50,⟨[(false,[.int .i64]),(false,[.int .i64]),(false,[.int .i64])],[(false,[.bool])],false⟩,tru,r50⟩
noncomputable def c100:Ctr:=⟨100,⟨[(false,[.int .i64]),(false,[.int .i64])],[(false,[.int .i64])],false⟩,tru,r100⟩
noncomputable def c76:Ctr:=⟨76,⟨[(true,[.int .i64,.int .i64]),(true,[.int .i64,.int .i64])],[(false,[.int .i64])],false⟩,tru,r76⟩
noncomputable def c71:Ctr:=⟨71,⟨[(false,[.sl [.int .i64,.int .i64]]),(true,[.int .i64,.int .i64])],[(false,[.int .i64])],false⟩,tru,r71⟩
noncomputable def c51:Ctr:=⟨51,⟨[(false,[.sl [.int .i64,.int .i64]])],[(false,[.int .i64])],false⟩,tru,r51⟩
noncomputable def c52:Ctr:=⟨52,⟨[(true,[.int .i64,.int .i64,.int .i64])],[(false,[.int .i64])],false⟩,p52,r52⟩
noncomputable def c46:Ctr:=⟨46,⟨[(true,[.int .i64,.int .i64,.int .i64]),(false,[.sl [.int .i64]])],[(false,[.int .i64])],false⟩,p46,r46⟩
noncomputable def c14:Ctr:=⟨14,⟨[(true,[.int .i64,.int .i64,.int .i64]),(false,[.sl [.sl [.int .i64]]])],[(false,[.sl [.int .i64,.int .i64]]),(false,[.int .i64])],false⟩,tru,r14⟩
noncomputable def c18:Ctr:=⟨18,⟨[(true,[.int .i64,.int .i64,.int .i64]),(false,[.sl [.int .i64]]),(false,[.sl [.int .i64,.int .i64]]),(false,[.int .i64])],[(false,[.sl [.sl [.int .i64]]]),(false,[.int .i64])],false⟩,tru,r18⟩
noncomputable def c35:Ctr:=⟨35,⟨[(true,[.int .i64,.int .i64,.int .i64]),(false,[.sl [.int .u8]]),(false,[.sl [.int .u8]]),(false,[.int .i64])],[(false,[.sl [.sl [.int .i64]]])],false⟩,p35,r35⟩
noncomputable def c13:Ctr:=⟨13,⟨[],[(false,[.bool])],false⟩,tru,(fun _ _ _=>.b true)⟩
section
variable (ro:Addr→Option V)
theorem k50:PureC (cxE ro) c50.f c50.sg c50.pre c50.res:=walk50 (envL (l:=[]) .nil) fun _ _ _ _=>law50 rfl
theorem k100:PureC (cxE ro) c100.f c100.sg c100.pre c100.res:=walk100 (envL (l:=[]) .nil) fun _ _ _=>law100 rfl
theorem k76:PureC (cxE ro) c76.f c76.sg c76.pre c76.res:=walk76 (envL (l:=[c100]) (.cons (k100 ro) .nil)) fun _ _ _ _ _=>⟨_,_,law76 (fun _=>trivial) (fun _ _=>rfl) rfl⟩
theorem k71:PureC (cxE ro) c71.f c71.sg c71.pre c71.res:=walk71 (envL (l:=[c50,c76]) (.cons (k50 ro) (.cons (k76 ro) .nil))) fun _ _ _ ha _=>law71 (fun _=>trivial) (fun _ _ _=>rfl) (fun _=>trivial) (fun _ _ _ _=>rfl) (by have:=ha.2;omega) rfl
theorem k51:PureC (cxE ro) c51.f c51.sg c51.pre c51.res:=walk51 (envL (l:=[c71]) (.cons (k71 ro) .nil)) fun _ _ _=>⟨_,_,law51 (fun _=>trivial) (fun _ _ _=>rfl) rfl⟩
theorem k52:PureC (cxE ro) c52.f c52.sg c52.pre c52.res:=walk52 (envL (l:=[]) .nil) fun _ _ _ h=>law52 h.1 h.2 rfl
theorem k46:PureC (cxE ro) c46.f c46.sg c46.pre c46.res:=walk46 (envL (l:=[c50,c52]) (.cons (k50 ro) (.cons (k52 ro) .nil))) fun _ _ _ _ _ h=>⟨_,_,law46 (fun _=>trivial) (fun _ _ _=>rfl) (fun _ _ _ h1 h2=>⟨h1,h2⟩) (fun _ _ _=>rfl) h.1 h.2 rfl⟩
theorem k14:PureC (cxE ro) c14.f c14.sg c14.pre c14.res:=walk14 (envL (l:=[c46,c50]) (.cons (k46 ro) (.cons (k50 ro) .nil))) fun _ _ _ _ _ _=>law14 (fun _=>trivial) (fun _ _ _=>rfl) (fun _ _ _ _ h1 h2=>⟨h1,h2⟩) (fun _ _ _ _=>rfl) rfl rfl
theorem k18:PureC (cxE ro) c18.f c18.sg c18.pre c18.res:=walk18 (envL (l:=[c46,c50,c51,c52]) (.cons (k46 ro) (.cons (k50 ro) (.cons (k51 ro) (.cons (k52 ro) .nil))))) fun _ _ _ _ _ _ _ _ _=>law18 (fun _=>trivial) (fun _ _ _=>rfl) (fun _ _ _ _ h1 h2=>⟨h1,h2⟩) (fun _ _ _ _=>rfl) (fun _=>trivial) (fun _=>rfl) (fun _ _ _ h1 h2=>⟨h1,h2⟩) (fun _ _ _=>rfl) rfl rfl
theorem k35:PureC (cxE ro) c35.f c35.sg c35.pre c35.res:=walk35 (envL (l:=[]) .nil) fun _ _ _ _ _ _ _ _ h=>law35 h.1 h.2.1 h.2.2.1 h.2.2.2.1 h.2.2.2.2.1 h.2.2.2.2.2 rfl
theorem k13:PureC (cxE ro) c13.f c13.sg c13.pre c13.res:=works_pure
end
noncomputable def l6:List Ctr:=[c13,c14,c18,c35]
theorem k_l6 (ro:Addr→Option V):Ctrs (cxE ro) l6:=(.cons (k13 ro) (.cons (k14 ro) (.cons (k18 ro) (.cons (k35 ro) .nil))))
end HX

namespace HX
open Go Go.Proofs CX
theorem byt_of {l:Rows} (h:∀row∈l,RngL [.int .u8] row):Byt l:=fun i hi=>by
 have m:l.getD i []∈l:=by rw [List.getD_eq_getElem?_getD,List.getElem?_eq_getElem hi];exact List.getElem_mem hi
 have k:=h _ m
 show 0≤((l.getD i []).getD 0 .nil).int∧((l.getD i []).getD 0 .nil).int≤255
 cases e:l.getD i [] with
 |nil=>exact ⟨by decide,by decide⟩
 |cons d r=>rw [e] at k;exact k.1
theorem law6' {a0 a1 a2 a5:Int} {a3 a4:Rows} (h:RngAll [(false,[.int .u8]),(false,[.int .u8]),(false,[.int .u8]),(false,[.sl [.int .u8]]),(false,[.sl [.int .u8]]),(false,[.int .u8])] [[.i a0],[.i a1],[.i a2],[.l a3],[.l a4],[.i a5]]) :
  V6 (preOf l6) (resOf l6) a0 a1 a2 a3 a4 a5 (fun _ _=>.b true):=by
 obtain ⟨⟨h0,_⟩,⟨h1,_⟩,⟨h2,_⟩,⟨h3,_⟩,⟨h4,_⟩,⟨h5,_⟩,_⟩:=h
 exact law6 trivial rfl (fun _ _ _ _=>trivial) (fun _ _ _ _=>⟨rfl,rfl⟩) (fun _ _ _ _ _ _=>trivial) (fun _ _ _ _ _ _=>⟨rfl,rfl⟩) (fun _ _ _ _ _ _ h1 h2 h3 h4 h5 h6=>⟨h1,h2,h3,h4,h5,h6⟩) (fun _ _ _ _ _ _=>rfl) h0 h1 h2 h5 (byt_of h3) (byt_of h4) rfl
end HX

namespace Go.Proofs.Ytmnaiddobipclaa.senseLevels
open Go.ChangeShapes Go.WideShapes Go.ChangeAt Go.RowKit HX
def ps:List (Bool×List Kd):=[(false,[.int .u8]),(false,[.int .u8]),(false,[.int .u8]),(false,[.sl [.int .u8]]),(false,[.sl [.int .u8]]),(false,[.int .u8])]
theorem law (ro:Addr→Option CX.V):PureC0 (cxE ro) 6 ⟨ps,[(false,[.bool])],false⟩ (RngAll ps) trueRes:=walk6 (envL (l:=l6) (k_l6 ro)) fun _ _ _ _ _ _ _ _ h=>law6' h
theorem lenN {α β:Type} {F:List α→β} {G:List α→β} (h:∀a b c d e f,F [a,b,c,d,e,f]=G [a,b,c,d,e,f]):∀ds:List α,ds.length=6→F ds=G ds
 |[a,b,c,d,e,f],_=>h a b c d e f
set_option maxRecDepth 100000 in
set_option maxHeartbeats 400000 in
theorem lifted (os:Os) (started:os.Started) (H:Type) (enc:TypeId×Value→H) :
  ReturnsInHanded {} Try.checked os 6 .any (Rows.senseLevelsSpec.pre6 enc Try.prog Try.f6 Rows.senseLevelsRow.domain false) (Rows.senseLevelsSpec.post enc Try.prog Try.f6 false true false false):=by
 refine returnsInHanded_of_change (C:=Try.checked) own started (by kernel_rfl) Try.func6
  (ChangeSpec.witness6 (enc:=enc) (C:=Try.checked) false ⟨#[],#[.int .u8 0,.int .u8 0,.int .u8 0,.slice none 0 0,.slice none 0 0,.int .u8 0],[]⟩ 8 (by kernel_rfl) (by kernel_rfl) (by kernel_rfl) (by kernel_rfl)) ?_
 intro W base args ds gs before hval hW _ _
 exact said (f:=Try.f6) (s:=Rows.senseLevelsSpec) (n:=8) (tb:=4) cxE_ok law (by kernel_rfl) laid (by kernel_rfl) rfl Try.underlying4
  (lenN (F:=Rows.senseLevelsSpec.fn H) (G:=fun ds=>⟨[.lit (.bool true)],ds,[]⟩) fun _ _ _ _ _ _=>rfl) rfl W base args ds gs before hval hW
theorem holds:Rows.SenseLevelsSaid:=
 OpenClaim.holds_of_wide 6 Try.f6 rfl rfl rfl rfl rfl rfl rfl ⟨rfl,rfl,rfl,rfl,rfl⟩ rfl rfl rfl rfl rfl (by kernel_rfl) Try.func6 (by kernel_rfl)
  (of_decide_eq_true (by kernel_rfl)) (by unfold Func.isWrapper;first |(rw [if_pos (by decide +kernel)];kernel_rfl) |(rw [if_neg (by decide +kernel)];exact ⟨rfl,rfl⟩))
  (fun os started H enc _=>lifted os started H enc)
end Go.Proofs.Ytmnaiddobipclaa.senseLevels
