/-
  Texts of the executors: W11, HxEnv, CxClose, HxBase, HxClose, HxOwn, HxCtr, PkD, PkB, V92, V63, PkL, PkM, V67, V72, V17, V50, V100, V76, V71, V51, V27, V38, PkN.
-/
import Derived.Test.YtmnaiddobipclaaSenseRecords7
import Derived.WalkKit
import Derived.ProofKit
import Derived.JoinedCond
import Derived.RowKit3
import Derived.ChangeArms
import Derived.ChangeCalls
import Derived.WideKeyArgs
set_option linter.all false
namespace HX
open Go Go.Proofs CX
set_option maxHeartbeats 4000000 in
set_option maxRecDepth 100000 in
set_option cbv.maxSteps 3000000 in
theorem walk11 {ro A pre fn} (hE:EnvOk ⟨A,(cxE ro),ksF,sigL [(13,⟨[],[(false,[.bool])],false⟩),(28,⟨[(false,[.sl [.int .i64,.int .i64]])],[(false,[.sl [.int .u8]]),(false,[.int .i64])],false⟩),(40,⟨[(true,[.int .i64,.int .i64]),(true,[.int .i64,.int .i64]),(false,[.bool])],[(false,[.int .i64])],false⟩),(63,⟨[(false,[.sl [.int .i64,.int .i64]])],[(false,[.sl [.int .u8]])],false⟩),(71,⟨[(false,[.sl [.int .i64,.int .i64]]),(true,[.int .i64,.int .i64])],[(false,[.int .i64])],false⟩)],pre,fn⟩) {P:List (List D)→Prop} {res:List (List D)→Nat→Nat→D}
  (hv:∀(a0:Rows),ShR [.int .i64,.int .i64] a0→P [[.l a0]]→V11 pre fn a0 (res [[.l a0]])) :
  PureC0 (cxE ro) 11 ⟨[(false,[.sl [.int .i64,.int .i64]])],[(false,[.bool])],false⟩ P res:=by
 have h:=hE.A
 simp only [] at h
 have hinl:∀f fn,inlL [(39,Try.f39),(41,Try.f41),(42,Try.f42),(43,Try.f43),(82,Try.f82)] f=some fn→(cxE ro).fn f=some fn∧(cxE ro).ext f=none:=Inls.ok (by repeat (first |exact .nil |refine .cons rfl rfl ?_))
 refine PureC0.of_vc hE hinl 6 (f:=11) (fn:=Try.f11) ⟨rfl,rfl⟩ ?_
 intro a0 ha0 hP
 obtain ⟨R,hR⟩:∃R,res [[.l a0]]=R:=⟨_,rfl⟩
 rw [hR]
 have hV:=hv a0 ha0 hP
 rw [hR] at hV
 clear hR hP hv
 cbv
 repeat' first|(refine Br.mk (fun _=>?_) (fun _=>?_)<;>cbv)|(refine NilB.mk (fun _=>?_) ?_<;>cbv)|refine And.intro ?_ ?_|exact True.intro
 ·rename_i p0a
  subst h;exact hV.g0 (dt p0a)
 ·rename_i p1a
  subst h;exact hV.g1 (dt p1a)
 ·rename_i p2a
  refine Leaf.gen fun σz hσz=>?_
  obtain ⟨I0,m0,i0,c0⟩:V11l0 pre fn a0 R:=by subst h;exact hV.l0 (df p2a)
  refine loopB hE hinl 6 [] [2] [(0,[0,26])] (fun x:Rows×Int×Bool×Rows=>[.l x.1,.i x.2.1,D.l [[.b x.2.2.1,.l x.2.2.2]]]) (fun x=>I0 x.1 x.2.1 x.2.2.1 x.2.2.2) (fun x=>m0 x.1 x.2.1 x.2.2.1 x.2.2.2) ([],0,true,[]) (by subst h;exact i0) ?_ ?_<;>subst hσz
  ·clear hE hinl hV;cbv;(try repeat' first|rfl|assumption|constructor)
  ·intro ⟨b0,b1,b2,b3⟩ hI0 K0 hK0
   have h0:=c0 _ _ _ _ hI0
   cbv
   repeat' first|(refine Br.mk (fun _=>?_) (fun _=>?_)<;>cbv)|(refine NilB.mk (fun _=>?_) ?_<;>cbv)|refine And.intro ?_ ?_|exact True.intro
   ·rename_i p3a p3b
    subst h;exact h0.g3 (dt p3a) (dt p3b)
   ·rename_i p4a p4b
    subst h;exact h0.g4 (dt p4a) (dt p4b)
   ·rename_i p5a p5b
    subst h;exact h0.g5 (dt p5a) (dt p5b)
   ·rename_i p6a p6b
    subst h;exact h0.g6 (dt p6a) (dt p6b)
   ·rename_i p7a p7b
    subst h;exact h0.g7 (dt p7a) (dt p7b)
   ·rename_i p8a p8b
    subst h;exact h0.g8 (dt p8a) (dt p8b)
   ·rename_i p9a p9b
    subst h;exact h0.g9 (dt p9a) (dt p9b)
   ·rename_i p10a p10b
    subst h;exact h0.g10 (dt p10a) (dt p10b)
   ·rename_i p11a p11b
    subst h;exact h0.g7 (dt p11a) (dt p11b)
   ·rename_i p12a p12b
    subst h;exact h0.g8 (dt p12a) (dt p12b)
   ·rename_i p13a p13b
    subst h;exact h0.g9 (dt p13a) (dt p13b)
   ·rename_i p14a p14b p14c p14d p14e
    subst h;exact h0.g14 (dt p14a) (dt p14b) (nt p14c) (nt p14d) (df (nt p14e))
   ·rename_i p15a p15b p15c p15d p15e p15f
    subst h;exact h0.g15 (dt p15a) (dt p15b) (nt p15c) (nt p15d) (dt (nf p15e)) (dt p15f)
   ·rename_i p16a p16b p16c p16d p16e p16f
    subst h;exact h0.g16 (dt p16a) (dt p16b) (nt p16c) (nt p16d) (dt (nf p16e)) (dt p16f)
   ·rename_i p17a p17b p17c p17d p17e p17f
    subst h;exact h0.g17 (dt p17a) (dt p17b) (nt p17c) (nt p17d) (dt (nf p17e)) (dt p17f)
   ·rename_i p18a p18b p18c p18d p18e p18f
    subst h;exact h0.g18 (dt p18a) (dt p18b) (nt p18c) (nt p18d) (dt (nf p18e)) (dt p18f)
   ·rename_i p19a p19b p19c p19d p19e p19f p19g p19h p19i
    subst h;exact h0.g19 (dt p19a) (dt p19b) (nt p19c) (nt p19d) (dt (nf p19e)) (dt p19f) (nt p19g) (nt p19h) (df (nt p19i))
   ·rename_i p20a p20b p20c p20d p20e p20f p20g p20h p20i
    subst h;exact h0.g20 (dt p20a) (dt p20b) (nt p20c) (nt p20d) (dt (nf p20e)) (dt p20f) (nt p20g) (nt p20h) (dt (nf p20i))
   ·rename_i p21a p21b p21c p21d p21e p21f p21g p21h p21i
    refine hK0 (A.app b0 [[D.i (A.di (A.get a0 (A.toNat b1) 0)),D.i (A.di (A.get a0 (A.toNat b1) 1))]],A.add b1 1,b2,b3) _ ?_ ?_ ?_
    ·subst h;exact (h0.n21 (dt p21a) (dt p21b) (nt p21c) (nt p21d) (dt (nf p21e)) (dt p21f) (nt p21g) (nt p21h) (dt (nf p21i))).1
    ·subst h;exact (h0.n21 (dt p21a) (dt p21b) (nt p21c) (nt p21d) (dt (nf p21e)) (dt p21f) (nt p21g) (nt p21h) (dt (nf p21i))).2
    ·clear hE hinl hV hK0;cbv;(try repeat' first|rfl|assumption|constructor)
   ·rename_i p22a p22b p22c p22d p22e p22f p22g p22h p22i
    subst h;exact h0.g22 (dt p22a) (dt p22b) (nt p22c) (nt p22d) (dt (nf p22e)) (dt p22f) (nt p22g) (nf p22h) (df (nt p22i))
   ·rename_i p23a p23b p23c p23d p23e p23f p23g p23h p23i
    subst h;exact h0.g23 (dt p23a) (dt p23b) (nt p23c) (nt p23d) (dt (nf p23e)) (dt p23f) (nt p23g) (nf p23h) (dt (nf p23i))
   ·rename_i p24a p24b p24c p24d p24e p24f p24g p24h p24i
    refine hK0 (A.app b0 [[D.i (A.di (A.get a0 (A.toNat b1) 0)),D.i (A.di (A.get a0 (A.toNat b1) 1))]],A.add b1 1,b2,b3) _ ?_ ?_ ?_
    ·subst h;exact (h0.n24 (dt p24a) (dt p24b) (nt p24c) (nt p24d) (dt (nf p24e)) (dt p24f) (nt p24g) (nf p24h) (dt (nf p24i))).1
    ·subst h;exact (h0.n24 (dt p24a) (dt p24b) (nt p24c) (nt p24d) (dt (nf p24e)) (dt p24f) (nt p24g) (nf p24h) (dt (nf p24i))).2
    ·clear hE hinl hV hK0;cbv;(try repeat' first|rfl|assumption|constructor)
   ·rename_i p25a p25b p25c p25d p25e p25f p25g p25h
    exfalso;subst h;simp [Ar.std] at p25g
   ·rename_i p26a p26b p26c p26d p26e p26f p26g p26h
    exfalso;subst h;simp [Ar.std] at p26g
   ·rename_i p27a p27b p27c p27d p27e p27f p27g p27h
    exfalso;subst h;simp [Ar.std] at p27g
   ·rename_i p28a p28b p28c p28d p28e p28f p28g p28h p28i
    subst h;exact h0.g28 (dt p28a) (dt p28b) (nt p28c) (nt p28d) (dt (nf p28e)) (df p28f) (nt p28g) (nt p28h) (df (nt p28i))
   ·rename_i p29a p29b p29c p29d p29e p29f p29g p29h p29i
    subst h;exact h0.g29 (dt p29a) (dt p29b) (nt p29c) (nt p29d) (dt (nf p29e)) (df p29f) (nt p29g) (nt p29h) (dt (nf p29i))
   ·rename_i p30a p30b p30c p30d p30e p30f p30g p30h p30i
    refine hK0 (b0,A.add b1 1,b2,b3) _ ?_ ?_ ?_
    ·subst h;exact (h0.n30 (dt p30a) (dt p30b) (nt p30c) (nt p30d) (dt (nf p30e)) (df p30f) (nt p30g) (nt p30h) (dt (nf p30i))).1
    ·subst h;exact (h0.n30 (dt p30a) (dt p30b) (nt p30c) (nt p30d) (dt (nf p30e)) (df p30f) (nt p30g) (nt p30h) (dt (nf p30i))).2
    ·clear hE hinl hV hK0;cbv;(try repeat' first|rfl|assumption|constructor)
   ·rename_i p31a p31b p31c p31d p31e p31f p31g p31h p31i
    subst h;exact h0.g31 (dt p31a) (dt p31b) (nt p31c) (nt p31d) (dt (nf p31e)) (df p31f) (nt p31g) (nf p31h) (df (nt p31i))
   ·rename_i p32a p32b p32c p32d p32e p32f p32g p32h p32i
    subst h;exact h0.g32 (dt p32a) (dt p32b) (nt p32c) (nt p32d) (dt (nf p32e)) (df p32f) (nt p32g) (nf p32h) (dt (nf p32i))
   ·rename_i p33a p33b p33c p33d p33e p33f p33g p33h p33i
    refine hK0 (b0,A.add b1 1,b2,b3) _ ?_ ?_ ?_
    ·subst h;exact (h0.n33 (dt p33a) (dt p33b) (nt p33c) (nt p33d) (dt (nf p33e)) (df p33f) (nt p33g) (nf p33h) (dt (nf p33i))).1
    ·subst h;exact (h0.n33 (dt p33a) (dt p33b) (nt p33c) (nt p33d) (dt (nf p33e)) (df p33f) (nt p33g) (nf p33h) (dt (nf p33i))).2
    ·clear hE hinl hV hK0;cbv;(try repeat' first|rfl|assumption|constructor)
   ·rename_i p34a p34b p34c p34d p34e p34f p34g p34h
    exfalso;subst h;simp [Ar.std] at p34g
   ·rename_i p35a p35b p35c p35d p35e p35f p35g p35h
    exfalso;subst h;simp [Ar.std] at p35g
   ·rename_i p36a p36b p36c p36d p36e p36f p36g p36h
    exfalso;subst h;simp [Ar.std] at p36g
   ·rename_i p37a p37b p37c p37d p37e p37f
    subst h;exact h0.g37 (dt p37a) (dt p37b) (nt p37c) (nf p37d) (dt p37e) (df (nt p37f))
   ·rename_i p38a p38b p38c p38d p38e p38f p38g
    subst h;exact h0.g38 (dt p38a) (dt p38b) (nt p38c) (nf p38d) (dt p38e) (dt (nf p38f)) (dt p38g)
   ·rename_i p39a p39b p39c p39d p39e p39f p39g
    subst h;exact h0.g39 (dt p39a) (dt p39b) (nt p39c) (nf p39d) (dt p39e) (dt (nf p39f)) (dt p39g)
   ·rename_i p40a p40b p40c p40d p40e p40f p40g
    subst h;exact h0.g40 (dt p40a) (dt p40b) (nt p40c) (nf p40d) (dt p40e) (dt (nf p40f)) (dt p40g)
   ·rename_i p41a p41b p41c p41d p41e p41f p41g
    subst h;exact h0.g41 (dt p41a) (dt p41b) (nt p41c) (nf p41d) (dt p41e) (dt (nf p41f)) (dt p41g)
   ·rename_i p42a p42b p42c p42d p42e p42f p42g p42h p42i p42j
    subst h;exact h0.g42 (dt p42a) (dt p42b) (nt p42c) (nf p42d) (dt p42e) (dt (nf p42f)) (dt p42g) (nt p42h) (nt p42i) (df (nt p42j))
   ·rename_i p43a p43b p43c p43d p43e p43f p43g p43h p43i p43j
    subst h;exact h0.g43 (dt p43a) (dt p43b) (nt p43c) (nf p43d) (dt p43e) (dt (nf p43f)) (dt p43g) (nt p43h) (nt p43i) (dt (nf p43j))
   ·rename_i p44a p44b p44c p44d p44e p44f p44g p44h p44i p44j
    refine hK0 (A.app b0 [[D.i (A.di (A.get a0 (A.toNat b1) 0)),D.i (A.di (A.get a0 (A.toNat b1) 1))]],A.add b1 1,b2,b3) _ ?_ ?_ ?_
    ·subst h;exact (h0.n44 (dt p44a) (dt p44b) (nt p44c) (nf p44d) (dt p44e) (dt (nf p44f)) (dt p44g) (nt p44h) (nt p44i) (dt (nf p44j))).1
    ·subst h;exact (h0.n44 (dt p44a) (dt p44b) (nt p44c) (nf p44d) (dt p44e) (dt (nf p44f)) (dt p44g) (nt p44h) (nt p44i) (dt (nf p44j))).2
    ·clear hE hinl hV hK0;cbv;(try repeat' first|rfl|assumption|constructor)
   ·rename_i p45a p45b p45c p45d p45e p45f p45g p45h p45i p45j
    subst h;exact h0.g45 (dt p45a) (dt p45b) (nt p45c) (nf p45d) (dt p45e) (dt (nf p45f)) (dt p45g) (nt p45h) (nf p45i) (df (nt p45j))
   ·rename_i p46a p46b p46c p46d p46e p46f p46g p46h p46i p46j
    subst h;exact h0.g46 (dt p46a) (dt p46b) (nt p46c) (nf p46d) (dt p46e) (dt (nf p46f)) (dt p46g) (nt p46h) (nf p46i) (dt (nf p46j))
   ·rename_i p47a p47b p47c p47d p47e p47f p47g p47h p47i p47j
    refine hK0 (A.app b0 [[D.i (A.di (A.get a0 (A.toNat b1) 0)),D.i (A.di (A.get a0 (A.toNat b1) 1))]],A.add b1 1,b2,b3) _ ?_ ?_ ?_
    ·subst h;exact (h0.n47 (dt p47a) (dt p47b) (nt p47c) (nf p47d) (dt p47e) (dt (nf p47f)) (dt p47g) (nt p47h) (nf p47i) (dt (nf p47j))).1
    ·subst h;exact (h0.n47 (dt p47a) (dt p47b) (nt p47c) (nf p47d) (dt p47e) (dt (nf p47f)) (dt p47g) (nt p47h) (nf p47i) (dt (nf p47j))).2
    ·clear hE hinl hV hK0;cbv;(try repeat' first|rfl|assumption|constructor)
   ·rename_i p48a p48b p48c p48d p48e p48f p48g p48h p48i
    exfalso;subst h;simp [Ar.std] at p48h
   ·rename_i p49a p49b p49c p49d p49e p49f p49g p49h p49i
    exfalso;subst h;simp [Ar.std] at p49h
   ·rename_i p50a p50b p50c p50d p50e p50f p50g p50h p50i
    exfalso;subst h;simp [Ar.std] at p50h
   ·rename_i p51a p51b p51c p51d p51e p51f p51g p51h p51i p51j
    subst h;exact h0.g51 (dt p51a) (dt p51b) (nt p51c) (nf p51d) (dt p51e) (dt (nf p51f)) (df p51g) (nt p51h) (nt p51i) (df (nt p51j))
   ·rename_i p52a p52b p52c p52d p52e p52f p52g p52h p52i p52j
    subst h;exact h0.g52 (dt p52a) (dt p52b) (nt p52c) (nf p52d) (dt p52e) (dt (nf p52f)) (df p52g) (nt p52h) (nt p52i) (dt (nf p52j))
   ·rename_i p53a p53b p53c p53d p53e p53f p53g p53h p53i p53j
    refine hK0 (b0,A.add b1 1,b2,b3) _ ?_ ?_ ?_
    ·subst h;exact (h0.n53 (dt p53a) (dt p53b) (nt p53c) (nf p53d) (dt p53e) (dt (nf p53f)) (df p53g) (nt p53h) (nt p53i) (dt (nf p53j))).1
    ·subst h;exact (h0.n53 (dt p53a) (dt p53b) (nt p53c) (nf p53d) (dt p53e) (dt (nf p53f)) (df p53g) (nt p53h) (nt p53i) (dt (nf p53j))).2
    ·clear hE hinl hV hK0;cbv;(try repeat' first|rfl|assumption|constructor)
   ·rename_i p54a p54b p54c p54d p54e p54f p54g p54h p54i p54j
    subst h;exact h0.g54 (dt p54a) (dt p54b) (nt p54c) (nf p54d) (dt p54e) (dt (nf p54f)) (df p54g) (nt p54h) (nf p54i) (df (nt p54j))
   ·rename_i p55a p55b p55c p55d p55e p55f p55g p55h p55i p55j
    subst h;exact h0.g55 (dt p55a) (dt p55b) (nt p55c) (nf p55d) (dt p55e) (dt (nf p55f)) (df p55g) (nt p55h) (nf p55i) (dt (nf p55j))
   ·rename_i p56a p56b p56c p56d p56e p56f p56g p56h p56i p56j
    refine hK0 (b0,A.add b1 1,b2,b3) _ ?_ ?_ ?_
    ·subst h;exact (h0.n56 (dt p56a) (dt p56b) (nt p56c) (nf p56d) (dt p56e) (dt (nf p56f)) (df p56g) (nt p56h) (nf p56i) (dt (nf p56j))).1
    ·subst h;exact (h0.n56 (dt p56a) (dt p56b) (nt p56c) (nf p56d) (dt p56e) (dt (nf p56f)) (df p56g) (nt p56h) (nf p56i) (dt (nf p56j))).2
    ·clear hE hinl hV hK0;cbv;(try repeat' first|rfl|assumption|constructor)
   ·rename_i p57a p57b p57c p57d p57e p57f p57g p57h p57i
    exfalso;subst h;simp [Ar.std] at p57h
   ·rename_i p58a p58b p58c p58d p58e p58f p58g p58h p58i
    exfalso;subst h;simp [Ar.std] at p58h
   ·rename_i p59a p59b p59c p59d p59e p59f p59g p59h p59i
    exfalso;subst h;simp [Ar.std] at p59h
   ·rename_i p60a p60b p60c p60d p60e
    subst h;exact h0.g60 (dt p60a) (dt p60b) (nt p60c) (nf p60d) (df p60e)
   ·rename_i p61a p61b p61c p61d p61e p61f
    subst h;exact h0.g61 (dt p61a) (dt p61b) (nt p61c) (nf p61d) (df p61e) (dt p61f)
   ·rename_i p62a p62b p62c p62d p62e p62f p62g
    subst h;exact h0.g62 (dt p62a) (dt p62b) (nt p62c) (nf p62d) (df p62e) (dt p62f) (df (nt p62g))
   ·rename_i p63a p63b p63c p63d p63e p63f p63g p63h
    subst h;exact h0.g63 (dt p63a) (dt p63b) (nt p63c) (nf p63d) (df p63e) (dt p63f) (dt (nf p63g)) (dt p63h)
   ·rename_i p64a p64b p64c p64d p64e p64f p64g p64h
    subst h;exact h0.g64 (dt p64a) (dt p64b) (nt p64c) (nf p64d) (df p64e) (dt p64f) (dt (nf p64g)) (dt p64h)
   ·rename_i p65a p65b p65c p65d p65e p65f p65g p65h
    subst h;exact h0.g65 (dt p65a) (dt p65b) (nt p65c) (nf p65d) (df p65e) (dt p65f) (dt (nf p65g)) (dt p65h)
   ·rename_i p66a p66b p66c p66d p66e p66f p66g p66h
    subst h;exact h0.g66 (dt p66a) (dt p66b) (nt p66c) (nf p66d) (df p66e) (dt p66f) (dt (nf p66g)) (dt p66h)
   ·rename_i p67a p67b p67c p67d p67e p67f p67g p67h p67i p67j p67k
    subst h;exact h0.g67 (dt p67a) (dt p67b) (nt p67c) (nf p67d) (df p67e) (dt p67f) (dt (nf p67g)) (dt p67h) (nt p67i) (nt p67j) (df (nt p67k))
   ·rename_i p68a p68b p68c p68d p68e p68f p68g p68h p68i p68j p68k
    subst h;exact h0.g68 (dt p68a) (dt p68b) (nt p68c) (nf p68d) (df p68e) (dt p68f) (dt (nf p68g)) (dt p68h) (nt p68i) (nt p68j) (dt (nf p68k))
   ·rename_i p69a p69b p69c p69d p69e p69f p69g p69h p69i p69j p69k
    refine hK0 (A.app b0 [[D.i (A.di (A.get a0 (A.toNat b1) 0)),D.i (A.di (A.get a0 (A.toNat b1) 1))]],A.add b1 1,b2,A.app b3 [[D.i (A.di (A.get a0 (A.toNat b1) 0)),D.i (A.di (A.get a0 (A.toNat b1) 1))]]) _ ?_ ?_ ?_
    ·subst h;exact (h0.n69 (dt p69a) (dt p69b) (nt p69c) (nf p69d) (df p69e) (dt p69f) (dt (nf p69g)) (dt p69h) (nt p69i) (nt p69j) (dt (nf p69k))).1
    ·subst h;exact (h0.n69 (dt p69a) (dt p69b) (nt p69c) (nf p69d) (df p69e) (dt p69f) (dt (nf p69g)) (dt p69h) (nt p69i) (nt p69j) (dt (nf p69k))).2
    ·clear hE hinl hV hK0;cbv;(try repeat' first|rfl|assumption|constructor)
   ·rename_i p70a p70b p70c p70d p70e p70f p70g p70h p70i p70j p70k
    subst h;exact h0.g70 (dt p70a) (dt p70b) (nt p70c) (nf p70d) (df p70e) (dt p70f) (dt (nf p70g)) (dt p70h) (nt p70i) (nf p70j) (df (nt p70k))
   ·rename_i p71a p71b p71c p71d p71e p71f p71g p71h p71i p71j p71k
    subst h;exact h0.g71 (dt p71a) (dt p71b) (nt p71c) (nf p71d) (df p71e) (dt p71f) (dt (nf p71g)) (dt p71h) (nt p71i) (nf p71j) (dt (nf p71k))
   ·rename_i p72a p72b p72c p72d p72e p72f p72g p72h p72i p72j p72k
    refine hK0 (A.app b0 [[D.i (A.di (A.get a0 (A.toNat b1) 0)),D.i (A.di (A.get a0 (A.toNat b1) 1))]],A.add b1 1,b2,A.app b3 [[D.i (A.di (A.get a0 (A.toNat b1) 0)),D.i (A.di (A.get a0 (A.toNat b1) 1))]]) _ ?_ ?_ ?_
    ·subst h;exact (h0.n72 (dt p72a) (dt p72b) (nt p72c) (nf p72d) (df p72e) (dt p72f) (dt (nf p72g)) (dt p72h) (nt p72i) (nf p72j) (dt (nf p72k))).1
    ·subst h;exact (h0.n72 (dt p72a) (dt p72b) (nt p72c) (nf p72d) (df p72e) (dt p72f) (dt (nf p72g)) (dt p72h) (nt p72i) (nf p72j) (dt (nf p72k))).2
    ·clear hE hinl hV hK0;cbv;(try repeat' first|rfl|assumption|constructor)
   ·rename_i p73a p73b p73c p73d p73e p73f p73g p73h p73i p73j
    exfalso;subst h;simp [Ar.std] at p73i
   ·rename_i p74a p74b p74c p74d p74e p74f p74g p74h p74i p74j
    exfalso;subst h;simp [Ar.std] at p74i
   ·rename_i p75a p75b p75c p75d p75e p75f p75g p75h p75i p75j
    exfalso;subst h;simp [Ar.std] at p75i
   ·rename_i p76a p76b p76c p76d p76e p76f p76g p76h p76i p76j p76k
    subst h;exact h0.g76 (dt p76a) (dt p76b) (nt p76c) (nf p76d) (df p76e) (dt p76f) (dt (nf p76g)) (df p76h) (nt p76i) (nt p76j) (df (nt p76k))
   ·rename_i p77a p77b p77c p77d p77e p77f p77g p77h p77i p77j p77k
    subst h;exact h0.g77 (dt p77a) (dt p77b) (nt p77c) (nf p77d) (df p77e) (dt p77f) (dt (nf p77g)) (df p77h) (nt p77i) (nt p77j) (dt (nf p77k))
   ·rename_i p78a p78b p78c p78d p78e p78f p78g p78h p78i p78j p78k
    refine hK0 (b0,A.add b1 1,b2,A.app b3 [[D.i (A.di (A.get a0 (A.toNat b1) 0)),D.i (A.di (A.get a0 (A.toNat b1) 1))]]) _ ?_ ?_ ?_
    ·subst h;exact (h0.n78 (dt p78a) (dt p78b) (nt p78c) (nf p78d) (df p78e) (dt p78f) (dt (nf p78g)) (df p78h) (nt p78i) (nt p78j) (dt (nf p78k))).1
    ·subst h;exact (h0.n78 (dt p78a) (dt p78b) (nt p78c) (nf p78d) (df p78e) (dt p78f) (dt (nf p78g)) (df p78h) (nt p78i) (nt p78j) (dt (nf p78k))).2
    ·clear hE hinl hV hK0;cbv;(try repeat' first|rfl|assumption|constructor)
   ·rename_i p79a p79b p79c p79d p79e p79f p79g p79h p79i p79j p79k
    subst h;exact h0.g79 (dt p79a) (dt p79b) (nt p79c) (nf p79d) (df p79e) (dt p79f) (dt (nf p79g)) (df p79h) (nt p79i) (nf p79j) (df (nt p79k))
   ·rename_i p80a p80b p80c p80d p80e p80f p80g p80h p80i p80j p80k
    subst h;exact h0.g80 (dt p80a) (dt p80b) (nt p80c) (nf p80d) (df p80e) (dt p80f) (dt (nf p80g)) (df p80h) (nt p80i) (nf p80j) (dt (nf p80k))
   ·rename_i p81a p81b p81c p81d p81e p81f p81g p81h p81i p81j p81k
    refine hK0 (b0,A.add b1 1,b2,A.app b3 [[D.i (A.di (A.get a0 (A.toNat b1) 0)),D.i (A.di (A.get a0 (A.toNat b1) 1))]]) _ ?_ ?_ ?_
    ·subst h;exact (h0.n81 (dt p81a) (dt p81b) (nt p81c) (nf p81d) (df p81e) (dt p81f) (dt (nf p81g)) (df p81h) (nt p81i) (nf p81j) (dt (nf p81k))).1
    ·subst h;exact (h0.n81 (dt p81a) (dt p81b) (nt p81c) (nf p81d) (df p81e) (dt p81f) (dt (nf p81g)) (df p81h) (nt p81i) (nf p81j) (dt (nf p81k))).2
    ·clear hE hinl hV hK0;cbv;(try repeat' first|rfl|assumption|constructor)
   ·rename_i p82a p82b p82c p82d p82e p82f p82g p82h p82i p82j
    exfalso;subst h;simp [Ar.std] at p82i
   ·rename_i p83a p83b p83c p83d p83e p83f p83g p83h p83i p83j
    exfalso;subst h;simp [Ar.std] at p83i
   ·rename_i p84a p84b p84c p84d p84e p84f p84g p84h p84i p84j
    exfalso;subst h;simp [Ar.std] at p84i
   ·rename_i p85a p85b p85c p85d p85e p85f p85g
    subst h;exact h0.g85 (dt p85a) (dt p85b) (nt p85c) (nf p85d) (df p85e) (df p85f) (df (nt p85g))
   ·rename_i p86a p86b p86c p86d p86e p86f p86g p86h
    subst h;exact h0.g86 (dt p86a) (dt p86b) (nt p86c) (nf p86d) (df p86e) (df p86f) (dt (nf p86g)) (dt p86h)
   ·rename_i p87a p87b p87c p87d p87e p87f p87g p87h
    subst h;exact h0.g87 (dt p87a) (dt p87b) (nt p87c) (nf p87d) (df p87e) (df p87f) (dt (nf p87g)) (dt p87h)
   ·rename_i p88a p88b p88c p88d p88e p88f p88g p88h
    subst h;exact h0.g88 (dt p88a) (dt p88b) (nt p88c) (nf p88d) (df p88e) (df p88f) (dt (nf p88g)) (dt p88h)
   ·rename_i p89a p89b p89c p89d p89e p89f p89g p89h
    subst h;exact h0.g89 (dt p89a) (dt p89b) (nt p89c) (nf p89d) (df p89e) (df p89f) (dt (nf p89g)) (dt p89h)
   ·rename_i p90a p90b p90c p90d p90e p90f p90g p90h p90i p90j p90k
    subst h;exact h0.g90 (dt p90a) (dt p90b) (nt p90c) (nf p90d) (df p90e) (df p90f) (dt (nf p90g)) (dt p90h) (nt p90i) (nt p90j) (df (nt p90k))
   ·rename_i p91a p91b p91c p91d p91e p91f p91g p91h p91i p91j p91k
    subst h;exact h0.g91 (dt p91a) (dt p91b) (nt p91c) (nf p91d) (df p91e) (df p91f) (dt (nf p91g)) (dt p91h) (nt p91i) (nt p91j) (dt (nf p91k))
   ·rename_i p92a p92b p92c p92d p92e p92f p92g p92h p92i p92j p92k
    refine hK0 (A.app b0 [[D.i (A.di (A.get a0 (A.toNat b1) 0)),D.i (A.di (A.get a0 (A.toNat b1) 1))]],A.add b1 1,b2,b3) _ ?_ ?_ ?_
    ·subst h;exact (h0.n92 (dt p92a) (dt p92b) (nt p92c) (nf p92d) (df p92e) (df p92f) (dt (nf p92g)) (dt p92h) (nt p92i) (nt p92j) (dt (nf p92k))).1
    ·subst h;exact (h0.n92 (dt p92a) (dt p92b) (nt p92c) (nf p92d) (df p92e) (df p92f) (dt (nf p92g)) (dt p92h) (nt p92i) (nt p92j) (dt (nf p92k))).2
    ·clear hE hinl hV hK0;cbv;(try repeat' first|rfl|assumption|constructor)
   ·rename_i p93a p93b p93c p93d p93e p93f p93g p93h p93i p93j p93k
    subst h;exact h0.g93 (dt p93a) (dt p93b) (nt p93c) (nf p93d) (df p93e) (df p93f) (dt (nf p93g)) (dt p93h) (nt p93i) (nf p93j) (df (nt p93k))
   ·rename_i p94a p94b p94c p94d p94e p94f p94g p94h p94i p94j p94k
    subst h;exact h0.g94 (dt p94a) (dt p94b) (nt p94c) (nf p94d) (df p94e) (df p94f) (dt (nf p94g)) (dt p94h) (nt p94i) (nf p94j) (dt (nf p94k))
   ·rename_i p95a p95b p95c p95d p95e p95f p95g p95h p95i p95j p95k
    refine hK0 (A.app b0 [[D.i (A.di (A.get a0 (A.toNat b1) 0)),D.i (A.di (A.get a0 (A.toNat b1) 1))]],A.add b1 1,b2,b3) _ ?_ ?_ ?_
    ·subst h;exact (h0.n95 (dt p95a) (dt p95b) (nt p95c) (nf p95d) (df p95e) (df p95f) (dt (nf p95g)) (dt p95h) (nt p95i) (nf p95j) (dt (nf p95k))).1
    ·subst h;exact (h0.n95 (dt p95a) (dt p95b) (nt p95c) (nf p95d) (df p95e) (df p95f) (dt (nf p95g)) (dt p95h) (nt p95i) (nf p95j) (dt (nf p95k))).2
    ·clear hE hinl hV hK0;cbv;(try repeat' first|rfl|assumption|constructor)
   ·rename_i p96a p96b p96c p96d p96e p96f p96g p96h p96i p96j
    exfalso;subst h;simp [Ar.std] at p96i
   ·rename_i p97a p97b p97c p97d p97e p97f p97g p97h p97i p97j
    exfalso;subst h;simp [Ar.std] at p97i
   ·rename_i p98a p98b p98c p98d p98e p98f p98g p98h p98i p98j
    exfalso;subst h;simp [Ar.std] at p98i
   ·rename_i p99a p99b p99c p99d p99e p99f p99g p99h p99i p99j p99k
    subst h;exact h0.g99 (dt p99a) (dt p99b) (nt p99c) (nf p99d) (df p99e) (df p99f) (dt (nf p99g)) (df p99h) (nt p99i) (nt p99j) (df (nt p99k))
   ·rename_i p100a p100b p100c p100d p100e p100f p100g p100h p100i p100j p100k
    subst h;exact h0.g100 (dt p100a) (dt p100b) (nt p100c) (nf p100d) (df p100e) (df p100f) (dt (nf p100g)) (df p100h) (nt p100i) (nt p100j) (dt (nf p100k))
   ·rename_i p101a p101b p101c p101d p101e p101f p101g p101h p101i p101j p101k
    refine hK0 (b0,A.add b1 1,b2,b3) _ ?_ ?_ ?_
    ·subst h;exact (h0.n101 (dt p101a) (dt p101b) (nt p101c) (nf p101d) (df p101e) (df p101f) (dt (nf p101g)) (df p101h) (nt p101i) (nt p101j) (dt (nf p101k))).1
    ·subst h;exact (h0.n101 (dt p101a) (dt p101b) (nt p101c) (nf p101d) (df p101e) (df p101f) (dt (nf p101g)) (df p101h) (nt p101i) (nt p101j) (dt (nf p101k))).2
    ·clear hE hinl hV hK0;cbv;(try repeat' first|rfl|assumption|constructor)
   ·rename_i p102a p102b p102c p102d p102e p102f p102g p102h p102i p102j p102k
    subst h;exact h0.g102 (dt p102a) (dt p102b) (nt p102c) (nf p102d) (df p102e) (df p102f) (dt (nf p102g)) (df p102h) (nt p102i) (nf p102j) (df (nt p102k))
   ·rename_i p103a p103b p103c p103d p103e p103f p103g p103h p103i p103j p103k
    subst h;exact h0.g103 (dt p103a) (dt p103b) (nt p103c) (nf p103d) (df p103e) (df p103f) (dt (nf p103g)) (df p103h) (nt p103i) (nf p103j) (dt (nf p103k))
   ·rename_i p104a p104b p104c p104d p104e p104f p104g p104h p104i p104j p104k
    refine hK0 (b0,A.add b1 1,b2,b3) _ ?_ ?_ ?_
    ·subst h;exact (h0.n104 (dt p104a) (dt p104b) (nt p104c) (nf p104d) (df p104e) (df p104f) (dt (nf p104g)) (df p104h) (nt p104i) (nf p104j) (dt (nf p104k))).1
    ·subst h;exact (h0.n104 (dt p104a) (dt p104b) (nt p104c) (nf p104d) (df p104e) (df p104f) (dt (nf p104g)) (df p104h) (nt p104i) (nf p104j) (dt (nf p104k))).2
    ·clear hE hinl hV hK0;cbv;(try repeat' first|rfl|assumption|constructor)
   ·rename_i p105a p105b p105c p105d p105e p105f p105g p105h p105i p105j
    exfalso;subst h;simp [Ar.std] at p105i
   ·rename_i p106a p106b p106c p106d p106e p106f p106g p106h p106i p106j
    exfalso;subst h;simp [Ar.std] at p106i
   ·rename_i p107a p107b p107c p107d p107e p107f p107g p107h p107i p107j
    exfalso;subst h;simp [Ar.std] at p107i
   ·rename_i p108a p108b p108c p108d
    exfalso;subst h;simp [Ar.std] at p108c
   ·rename_i p109a p109b p109c p109d p109e
    exfalso;subst h;simp [Ar.std] at p109c
   ·rename_i p110a p110b p110c p110d p110e
    exfalso;subst h;simp [Ar.std] at p110c
   ·rename_i p111a p111b p111c p111d p111e
    exfalso;subst h;simp [Ar.std] at p111c
   ·rename_i p112a p112b p112c p112d p112e
    exfalso;subst h;simp [Ar.std] at p112c
   ·rename_i p113a p113b p113c p113d p113e p113f p113g p113h
    exfalso;subst h;simp [Ar.std] at p113c
   ·rename_i p114a p114b p114c p114d p114e p114f p114g p114h
    exfalso;subst h;simp [Ar.std] at p114c
   ·rename_i p115a p115b p115c p115d p115e p115f p115g p115h
    exfalso;subst h;simp [Ar.std] at p115c
   ·rename_i p116a p116b p116c p116d p116e p116f p116g p116h
    exfalso;subst h;simp [Ar.std] at p116c
   ·rename_i p117a p117b p117c p117d p117e p117f p117g p117h
    exfalso;subst h;simp [Ar.std] at p117c
   ·rename_i p118a p118b p118c p118d p118e p118f p118g p118h
    exfalso;subst h;simp [Ar.std] at p118c
   ·rename_i p119a p119b p119c p119d p119e p119f p119g
    exfalso;subst h;simp [Ar.std] at p119c
   ·rename_i p120a p120b p120c p120d p120e p120f p120g
    exfalso;subst h;simp [Ar.std] at p120c
   ·rename_i p121a p121b p121c p121d p121e p121f p121g
    exfalso;subst h;simp [Ar.std] at p121c
   ·rename_i p122a p122b p122c p122d p122e p122f p122g p122h
    exfalso;subst h;simp [Ar.std] at p122c
   ·rename_i p123a p123b p123c p123d p123e p123f p123g p123h
    exfalso;subst h;simp [Ar.std] at p123c
   ·rename_i p124a p124b p124c p124d p124e p124f p124g p124h
    exfalso;subst h;simp [Ar.std] at p124c
   ·rename_i p125a p125b p125c p125d p125e p125f p125g p125h
    exfalso;subst h;simp [Ar.std] at p125c
   ·rename_i p126a p126b p126c p126d p126e p126f p126g p126h
    exfalso;subst h;simp [Ar.std] at p126c
   ·rename_i p127a p127b p127c p127d p127e p127f p127g p127h
    exfalso;subst h;simp [Ar.std] at p127c
   ·rename_i p128a p128b p128c p128d p128e p128f p128g
    exfalso;subst h;simp [Ar.std] at p128c
   ·rename_i p129a p129b p129c p129d p129e p129f p129g
    exfalso;subst h;simp [Ar.std] at p129c
   ·rename_i p130a p130b p130c p130d p130e p130f p130g
    exfalso;subst h;simp [Ar.std] at p130c
   ·rename_i p131a p131b
    subst h;exact h0.g131 (dt p131a) (df p131b)
   ·rename_i p132a p132b
    subst h;exact h0.g132 (dt p132a) (df p132b)
   ·rename_i p133a p133b
    subst h;exact h0.g133 (dt p133a) (df p133b)
   ·rename_i p134a p134b
    subst h;exact h0.g134 (dt p134a) (df p134b)
   ·rename_i p135a p135b
    subst h;exact h0.g131 (dt p135a) (df p135b)
   ·rename_i p136a p136b
    subst h;exact h0.g132 (dt p136a) (df p136b)
   ·rename_i p137a p137b
    subst h;exact h0.g133 (dt p137a) (df p137b)
   ·rename_i p138a p138b p138c p138d p138e
    subst h;exact h0.g138 (dt p138a) (df p138b) (nt p138c) (nt p138d) (df (nt p138e))
   ·rename_i p139a p139b p139c p139d p139e p139f
    subst h;exact h0.g139 (dt p139a) (df p139b) (nt p139c) (nt p139d) (dt (nf p139e)) (dt p139f)
   ·rename_i p140a p140b p140c p140d p140e p140f
    subst h;exact h0.g140 (dt p140a) (df p140b) (nt p140c) (nt p140d) (dt (nf p140e)) (dt p140f)
   ·rename_i p141a p141b p141c p141d p141e p141f
    subst h;exact h0.g141 (dt p141a) (df p141b) (nt p141c) (nt p141d) (dt (nf p141e)) (dt p141f)
   ·rename_i p142a p142b p142c p142d p142e p142f
    subst h;exact h0.g142 (dt p142a) (df p142b) (nt p142c) (nt p142d) (dt (nf p142e)) (dt p142f)
   ·rename_i p143a p143b p143c p143d p143e p143f p143g p143h p143i
    subst h;exact h0.g143 (dt p143a) (df p143b) (nt p143c) (nt p143d) (dt (nf p143e)) (dt p143f) (nt p143g) (nt p143h) (df (nt p143i))
   ·rename_i p144a p144b p144c p144d p144e p144f p144g p144h p144i
    subst h;exact h0.g144 (dt p144a) (df p144b) (nt p144c) (nt p144d) (dt (nf p144e)) (dt p144f) (nt p144g) (nt p144h) (dt (nf p144i))
   ·rename_i p145a p145b p145c p145d p145e p145f p145g p145h p145i
    refine hK0 (A.app b0 [[D.i (A.di (A.get a0 (A.toNat b1) 0)),D.i (A.di (A.get a0 (A.toNat b1) 1))]],A.add b1 1,b2,b3) _ ?_ ?_ ?_
    ·subst h;exact (h0.n145 (dt p145a) (df p145b) (nt p145c) (nt p145d) (dt (nf p145e)) (dt p145f) (nt p145g) (nt p145h) (dt (nf p145i))).1
    ·subst h;exact (h0.n145 (dt p145a) (df p145b) (nt p145c) (nt p145d) (dt (nf p145e)) (dt p145f) (nt p145g) (nt p145h) (dt (nf p145i))).2
    ·clear hE hinl hV hK0;cbv;(try repeat' first|rfl|assumption|constructor)
   ·rename_i p146a p146b p146c p146d p146e p146f p146g p146h p146i
    subst h;exact h0.g146 (dt p146a) (df p146b) (nt p146c) (nt p146d) (dt (nf p146e)) (dt p146f) (nt p146g) (nf p146h) (df (nt p146i))
   ·rename_i p147a p147b p147c p147d p147e p147f p147g p147h p147i
    subst h;exact h0.g147 (dt p147a) (df p147b) (nt p147c) (nt p147d) (dt (nf p147e)) (dt p147f) (nt p147g) (nf p147h) (dt (nf p147i))
   ·rename_i p148a p148b p148c p148d p148e p148f p148g p148h p148i
    refine hK0 (A.app b0 [[D.i (A.di (A.get a0 (A.toNat b1) 0)),D.i (A.di (A.get a0 (A.toNat b1) 1))]],A.add b1 1,b2,b3) _ ?_ ?_ ?_
    ·subst h;exact (h0.n148 (dt p148a) (df p148b) (nt p148c) (nt p148d) (dt (nf p148e)) (dt p148f) (nt p148g) (nf p148h) (dt (nf p148i))).1
    ·subst h;exact (h0.n148 (dt p148a) (df p148b) (nt p148c) (nt p148d) (dt (nf p148e)) (dt p148f) (nt p148g) (nf p148h) (dt (nf p148i))).2
    ·clear hE hinl hV hK0;cbv;(try repeat' first|rfl|assumption|constructor)
   ·rename_i p149a p149b p149c p149d p149e p149f p149g p149h
    exfalso;subst h;simp [Ar.std] at p149g
   ·rename_i p150a p150b p150c p150d p150e p150f p150g p150h
    exfalso;subst h;simp [Ar.std] at p150g
   ·rename_i p151a p151b p151c p151d p151e p151f p151g p151h
    exfalso;subst h;simp [Ar.std] at p151g
   ·rename_i p152a p152b p152c p152d p152e p152f p152g p152h p152i
    subst h;exact h0.g152 (dt p152a) (df p152b) (nt p152c) (nt p152d) (dt (nf p152e)) (df p152f) (nt p152g) (nt p152h) (df (nt p152i))
   ·rename_i p153a p153b p153c p153d p153e p153f p153g p153h p153i
    subst h;exact h0.g153 (dt p153a) (df p153b) (nt p153c) (nt p153d) (dt (nf p153e)) (df p153f) (nt p153g) (nt p153h) (dt (nf p153i))
   ·rename_i p154a p154b p154c p154d p154e p154f p154g p154h p154i
    refine hK0 (b0,A.add b1 1,b2,b3) _ ?_ ?_ ?_
    ·subst h;exact (h0.n154 (dt p154a) (df p154b) (nt p154c) (nt p154d) (dt (nf p154e)) (df p154f) (nt p154g) (nt p154h) (dt (nf p154i))).1
    ·subst h;exact (h0.n154 (dt p154a) (df p154b) (nt p154c) (nt p154d) (dt (nf p154e)) (df p154f) (nt p154g) (nt p154h) (dt (nf p154i))).2
    ·clear hE hinl hV hK0;cbv;(try repeat' first|rfl|assumption|constructor)
   ·rename_i p155a p155b p155c p155d p155e p155f p155g p155h p155i
    subst h;exact h0.g155 (dt p155a) (df p155b) (nt p155c) (nt p155d) (dt (nf p155e)) (df p155f) (nt p155g) (nf p155h) (df (nt p155i))
   ·rename_i p156a p156b p156c p156d p156e p156f p156g p156h p156i
    subst h;exact h0.g156 (dt p156a) (df p156b) (nt p156c) (nt p156d) (dt (nf p156e)) (df p156f) (nt p156g) (nf p156h) (dt (nf p156i))
   ·rename_i p157a p157b p157c p157d p157e p157f p157g p157h p157i
    refine hK0 (b0,A.add b1 1,b2,b3) _ ?_ ?_ ?_
    ·subst h;exact (h0.n157 (dt p157a) (df p157b) (nt p157c) (nt p157d) (dt (nf p157e)) (df p157f) (nt p157g) (nf p157h) (dt (nf p157i))).1
    ·subst h;exact (h0.n157 (dt p157a) (df p157b) (nt p157c) (nt p157d) (dt (nf p157e)) (df p157f) (nt p157g) (nf p157h) (dt (nf p157i))).2
    ·clear hE hinl hV hK0;cbv;(try repeat' first|rfl|assumption|constructor)
   ·rename_i p158a p158b p158c p158d p158e p158f p158g p158h
    exfalso;subst h;simp [Ar.std] at p158g
   ·rename_i p159a p159b p159c p159d p159e p159f p159g p159h
    exfalso;subst h;simp [Ar.std] at p159g
   ·rename_i p160a p160b p160c p160d p160e p160f p160g p160h
    exfalso;subst h;simp [Ar.std] at p160g
   ·rename_i p161a p161b p161c p161d p161e p161f
    subst h;exact h0.g161 (dt p161a) (df p161b) (nt p161c) (nf p161d) (dt p161e) (df (nt p161f))
   ·rename_i p162a p162b p162c p162d p162e p162f p162g
    subst h;exact h0.g162 (dt p162a) (df p162b) (nt p162c) (nf p162d) (dt p162e) (dt (nf p162f)) (dt p162g)
   ·rename_i p163a p163b p163c p163d p163e p163f p163g
    subst h;exact h0.g163 (dt p163a) (df p163b) (nt p163c) (nf p163d) (dt p163e) (dt (nf p163f)) (dt p163g)
   ·rename_i p164a p164b p164c p164d p164e p164f p164g
    subst h;exact h0.g164 (dt p164a) (df p164b) (nt p164c) (nf p164d) (dt p164e) (dt (nf p164f)) (dt p164g)
   ·rename_i p165a p165b p165c p165d p165e p165f p165g
    subst h;exact h0.g165 (dt p165a) (df p165b) (nt p165c) (nf p165d) (dt p165e) (dt (nf p165f)) (dt p165g)
   ·rename_i p166a p166b p166c p166d p166e p166f p166g p166h p166i p166j
    subst h;exact h0.g166 (dt p166a) (df p166b) (nt p166c) (nf p166d) (dt p166e) (dt (nf p166f)) (dt p166g) (nt p166h) (nt p166i) (df (nt p166j))
   ·rename_i p167a p167b p167c p167d p167e p167f p167g p167h p167i p167j
    subst h;exact h0.g167 (dt p167a) (df p167b) (nt p167c) (nf p167d) (dt p167e) (dt (nf p167f)) (dt p167g) (nt p167h) (nt p167i) (dt (nf p167j))
   ·rename_i p168a p168b p168c p168d p168e p168f p168g p168h p168i p168j
    refine hK0 (A.app b0 [[D.i (A.di (A.get a0 (A.toNat b1) 0)),D.i (A.di (A.get a0 (A.toNat b1) 1))]],A.add b1 1,b2,b3) _ ?_ ?_ ?_
    ·subst h;exact (h0.n168 (dt p168a) (df p168b) (nt p168c) (nf p168d) (dt p168e) (dt (nf p168f)) (dt p168g) (nt p168h) (nt p168i) (dt (nf p168j))).1
    ·subst h;exact (h0.n168 (dt p168a) (df p168b) (nt p168c) (nf p168d) (dt p168e) (dt (nf p168f)) (dt p168g) (nt p168h) (nt p168i) (dt (nf p168j))).2
    ·clear hE hinl hV hK0;cbv;(try repeat' first|rfl|assumption|constructor)
   ·rename_i p169a p169b p169c p169d p169e p169f p169g p169h p169i p169j
    subst h;exact h0.g169 (dt p169a) (df p169b) (nt p169c) (nf p169d) (dt p169e) (dt (nf p169f)) (dt p169g) (nt p169h) (nf p169i) (df (nt p169j))
   ·rename_i p170a p170b p170c p170d p170e p170f p170g p170h p170i p170j
    subst h;exact h0.g170 (dt p170a) (df p170b) (nt p170c) (nf p170d) (dt p170e) (dt (nf p170f)) (dt p170g) (nt p170h) (nf p170i) (dt (nf p170j))
   ·rename_i p171a p171b p171c p171d p171e p171f p171g p171h p171i p171j
    refine hK0 (A.app b0 [[D.i (A.di (A.get a0 (A.toNat b1) 0)),D.i (A.di (A.get a0 (A.toNat b1) 1))]],A.add b1 1,b2,b3) _ ?_ ?_ ?_
    ·subst h;exact (h0.n171 (dt p171a) (df p171b) (nt p171c) (nf p171d) (dt p171e) (dt (nf p171f)) (dt p171g) (nt p171h) (nf p171i) (dt (nf p171j))).1
    ·subst h;exact (h0.n171 (dt p171a) (df p171b) (nt p171c) (nf p171d) (dt p171e) (dt (nf p171f)) (dt p171g) (nt p171h) (nf p171i) (dt (nf p171j))).2
    ·clear hE hinl hV hK0;cbv;(try repeat' first|rfl|assumption|constructor)
   ·rename_i p172a p172b p172c p172d p172e p172f p172g p172h p172i
    exfalso;subst h;simp [Ar.std] at p172h
   ·rename_i p173a p173b p173c p173d p173e p173f p173g p173h p173i
    exfalso;subst h;simp [Ar.std] at p173h
   ·rename_i p174a p174b p174c p174d p174e p174f p174g p174h p174i
    exfalso;subst h;simp [Ar.std] at p174h
   ·rename_i p175a p175b p175c p175d p175e p175f p175g p175h p175i p175j
    subst h;exact h0.g175 (dt p175a) (df p175b) (nt p175c) (nf p175d) (dt p175e) (dt (nf p175f)) (df p175g) (nt p175h) (nt p175i) (df (nt p175j))
   ·rename_i p176a p176b p176c p176d p176e p176f p176g p176h p176i p176j
    subst h;exact h0.g176 (dt p176a) (df p176b) (nt p176c) (nf p176d) (dt p176e) (dt (nf p176f)) (df p176g) (nt p176h) (nt p176i) (dt (nf p176j))
   ·rename_i p177a p177b p177c p177d p177e p177f p177g p177h p177i p177j
    refine hK0 (b0,A.add b1 1,b2,b3) _ ?_ ?_ ?_
    ·subst h;exact (h0.n177 (dt p177a) (df p177b) (nt p177c) (nf p177d) (dt p177e) (dt (nf p177f)) (df p177g) (nt p177h) (nt p177i) (dt (nf p177j))).1
    ·subst h;exact (h0.n177 (dt p177a) (df p177b) (nt p177c) (nf p177d) (dt p177e) (dt (nf p177f)) (df p177g) (nt p177h) (nt p177i) (dt (nf p177j))).2
    ·clear hE hinl hV hK0;cbv;(try repeat' first|rfl|assumption|constructor)
   ·rename_i p178a p178b p178c p178d p178e p178f p178g p178h p178i p178j
    subst h;exact h0.g178 (dt p178a) (df p178b) (nt p178c) (nf p178d) (dt p178e) (dt (nf p178f)) (df p178g) (nt p178h) (nf p178i) (df (nt p178j))
   ·rename_i p179a p179b p179c p179d p179e p179f p179g p179h p179i p179j
    subst h;exact h0.g179 (dt p179a) (df p179b) (nt p179c) (nf p179d) (dt p179e) (dt (nf p179f)) (df p179g) (nt p179h) (nf p179i) (dt (nf p179j))
   ·rename_i p180a p180b p180c p180d p180e p180f p180g p180h p180i p180j
    refine hK0 (b0,A.add b1 1,b2,b3) _ ?_ ?_ ?_
    ·subst h;exact (h0.n180 (dt p180a) (df p180b) (nt p180c) (nf p180d) (dt p180e) (dt (nf p180f)) (df p180g) (nt p180h) (nf p180i) (dt (nf p180j))).1
    ·subst h;exact (h0.n180 (dt p180a) (df p180b) (nt p180c) (nf p180d) (dt p180e) (dt (nf p180f)) (df p180g) (nt p180h) (nf p180i) (dt (nf p180j))).2
    ·clear hE hinl hV hK0;cbv;(try repeat' first|rfl|assumption|constructor)
   ·rename_i p181a p181b p181c p181d p181e p181f p181g p181h p181i
    exfalso;subst h;simp [Ar.std] at p181h
   ·rename_i p182a p182b p182c p182d p182e p182f p182g p182h p182i
    exfalso;subst h;simp [Ar.std] at p182h
   ·rename_i p183a p183b p183c p183d p183e p183f p183g p183h p183i
    exfalso;subst h;simp [Ar.std] at p183h
   ·rename_i p184a p184b p184c p184d p184e
    subst h;exact h0.g184 (dt p184a) (df p184b) (nt p184c) (nf p184d) (df p184e)
   ·rename_i p185a p185b p185c p185d p185e p185f
    subst h;exact h0.g185 (dt p185a) (df p185b) (nt p185c) (nf p185d) (df p185e) (dt p185f)
   ·rename_i p186a p186b p186c p186d p186e p186f p186g
    subst h;exact h0.g186 (dt p186a) (df p186b) (nt p186c) (nf p186d) (df p186e) (dt p186f) (df (nt p186g))
   ·rename_i p187a p187b p187c p187d p187e p187f p187g p187h
    subst h;exact h0.g187 (dt p187a) (df p187b) (nt p187c) (nf p187d) (df p187e) (dt p187f) (dt (nf p187g)) (dt p187h)
   ·rename_i p188a p188b p188c p188d p188e p188f p188g p188h
    subst h;exact h0.g188 (dt p188a) (df p188b) (nt p188c) (nf p188d) (df p188e) (dt p188f) (dt (nf p188g)) (dt p188h)
   ·rename_i p189a p189b p189c p189d p189e p189f p189g p189h
    subst h;exact h0.g189 (dt p189a) (df p189b) (nt p189c) (nf p189d) (df p189e) (dt p189f) (dt (nf p189g)) (dt p189h)
   ·rename_i p190a p190b p190c p190d p190e p190f p190g p190h
    subst h;exact h0.g190 (dt p190a) (df p190b) (nt p190c) (nf p190d) (df p190e) (dt p190f) (dt (nf p190g)) (dt p190h)
   ·rename_i p191a p191b p191c p191d p191e p191f p191g p191h p191i p191j p191k
    subst h;exact h0.g191 (dt p191a) (df p191b) (nt p191c) (nf p191d) (df p191e) (dt p191f) (dt (nf p191g)) (dt p191h) (nt p191i) (nt p191j) (df (nt p191k))
   ·rename_i p192a p192b p192c p192d p192e p192f p192g p192h p192i p192j p192k
    subst h;exact h0.g192 (dt p192a) (df p192b) (nt p192c) (nf p192d) (df p192e) (dt p192f) (dt (nf p192g)) (dt p192h) (nt p192i) (nt p192j) (dt (nf p192k))
   ·rename_i p193a p193b p193c p193d p193e p193f p193g p193h p193i p193j p193k
    refine hK0 (A.app b0 [[D.i (A.di (A.get a0 (A.toNat b1) 0)),D.i (A.di (A.get a0 (A.toNat b1) 1))]],A.add b1 1,b2,A.app b3 [[D.i (A.di (A.get a0 (A.toNat b1) 0)),D.i (A.di (A.get a0 (A.toNat b1) 1))]]) _ ?_ ?_ ?_
    ·subst h;exact (h0.n193 (dt p193a) (df p193b) (nt p193c) (nf p193d) (df p193e) (dt p193f) (dt (nf p193g)) (dt p193h) (nt p193i) (nt p193j) (dt (nf p193k))).1
    ·subst h;exact (h0.n193 (dt p193a) (df p193b) (nt p193c) (nf p193d) (df p193e) (dt p193f) (dt (nf p193g)) (dt p193h) (nt p193i) (nt p193j) (dt (nf p193k))).2
    ·clear hE hinl hV hK0;cbv;(try repeat' first|rfl|assumption|constructor)
   ·rename_i p194a p194b p194c p194d p194e p194f p194g p194h p194i p194j p194k
    subst h;exact h0.g194 (dt p194a) (df p194b) (nt p194c) (nf p194d) (df p194e) (dt p194f) (dt (nf p194g)) (dt p194h) (nt p194i) (nf p194j) (df (nt p194k))
   ·rename_i p195a p195b p195c p195d p195e p195f p195g p195h p195i p195j p195k
    subst h;exact h0.g195 (dt p195a) (df p195b) (nt p195c) (nf p195d) (df p195e) (dt p195f) (dt (nf p195g)) (dt p195h) (nt p195i) (nf p195j) (dt (nf p195k))
   ·rename_i p196a p196b p196c p196d p196e p196f p196g p196h p196i p196j p196k
    refine hK0 (A.app b0 [[D.i (A.di (A.get a0 (A.toNat b1) 0)),D.i (A.di (A.get a0 (A.toNat b1) 1))]],A.add b1 1,b2,A.app b3 [[D.i (A.di (A.get a0 (A.toNat b1) 0)),D.i (A.di (A.get a0 (A.toNat b1) 1))]]) _ ?_ ?_ ?_
    ·subst h;exact (h0.n196 (dt p196a) (df p196b) (nt p196c) (nf p196d) (df p196e) (dt p196f) (dt (nf p196g)) (dt p196h) (nt p196i) (nf p196j) (dt (nf p196k))).1
    ·subst h;exact (h0.n196 (dt p196a) (df p196b) (nt p196c) (nf p196d) (df p196e) (dt p196f) (dt (nf p196g)) (dt p196h) (nt p196i) (nf p196j) (dt (nf p196k))).2
    ·clear hE hinl hV hK0;cbv;(try repeat' first|rfl|assumption|constructor)
   ·rename_i p197a p197b p197c p197d p197e p197f p197g p197h p197i p197j
    exfalso;subst h;simp [Ar.std] at p197i
   ·rename_i p198a p198b p198c p198d p198e p198f p198g p198h p198i p198j
    exfalso;subst h;simp [Ar.std] at p198i
   ·rename_i p199a p199b p199c p199d p199e p199f p199g p199h p199i p199j
    exfalso;subst h;simp [Ar.std] at p199i
   ·rename_i p200a p200b p200c p200d p200e p200f p200g p200h p200i p200j p200k
    subst h;exact h0.g200 (dt p200a) (df p200b) (nt p200c) (nf p200d) (df p200e) (dt p200f) (dt (nf p200g)) (df p200h) (nt p200i) (nt p200j) (df (nt p200k))
   ·rename_i p201a p201b p201c p201d p201e p201f p201g p201h p201i p201j p201k
    subst h;exact h0.g201 (dt p201a) (df p201b) (nt p201c) (nf p201d) (df p201e) (dt p201f) (dt (nf p201g)) (df p201h) (nt p201i) (nt p201j) (dt (nf p201k))
   ·rename_i p202a p202b p202c p202d p202e p202f p202g p202h p202i p202j p202k
    refine hK0 (b0,A.add b1 1,b2,A.app b3 [[D.i (A.di (A.get a0 (A.toNat b1) 0)),D.i (A.di (A.get a0 (A.toNat b1) 1))]]) _ ?_ ?_ ?_
    ·subst h;exact (h0.n202 (dt p202a) (df p202b) (nt p202c) (nf p202d) (df p202e) (dt p202f) (dt (nf p202g)) (df p202h) (nt p202i) (nt p202j) (dt (nf p202k))).1
    ·subst h;exact (h0.n202 (dt p202a) (df p202b) (nt p202c) (nf p202d) (df p202e) (dt p202f) (dt (nf p202g)) (df p202h) (nt p202i) (nt p202j) (dt (nf p202k))).2
    ·clear hE hinl hV hK0;cbv;(try repeat' first|rfl|assumption|constructor)
   ·rename_i p203a p203b p203c p203d p203e p203f p203g p203h p203i p203j p203k
    subst h;exact h0.g203 (dt p203a) (df p203b) (nt p203c) (nf p203d) (df p203e) (dt p203f) (dt (nf p203g)) (df p203h) (nt p203i) (nf p203j) (df (nt p203k))
   ·rename_i p204a p204b p204c p204d p204e p204f p204g p204h p204i p204j p204k
    subst h;exact h0.g204 (dt p204a) (df p204b) (nt p204c) (nf p204d) (df p204e) (dt p204f) (dt (nf p204g)) (df p204h) (nt p204i) (nf p204j) (dt (nf p204k))
   ·rename_i p205a p205b p205c p205d p205e p205f p205g p205h p205i p205j p205k
    refine hK0 (b0,A.add b1 1,b2,A.app b3 [[D.i (A.di (A.get a0 (A.toNat b1) 0)),D.i (A.di (A.get a0 (A.toNat b1) 1))]]) _ ?_ ?_ ?_
    ·subst h;exact (h0.n205 (dt p205a) (df p205b) (nt p205c) (nf p205d) (df p205e) (dt p205f) (dt (nf p205g)) (df p205h) (nt p205i) (nf p205j) (dt (nf p205k))).1
    ·subst h;exact (h0.n205 (dt p205a) (df p205b) (nt p205c) (nf p205d) (df p205e) (dt p205f) (dt (nf p205g)) (df p205h) (nt p205i) (nf p205j) (dt (nf p205k))).2
    ·clear hE hinl hV hK0;cbv;(try repeat' first|rfl|assumption|constructor)
   ·rename_i p206a p206b p206c p206d p206e p206f p206g p206h p206i p206j
    exfalso;subst h;simp [Ar.std] at p206i
   ·rename_i p207a p207b p207c p207d p207e p207f p207g p207h p207i p207j
    exfalso;subst h;simp [Ar.std] at p207i
   ·rename_i p208a p208b p208c p208d p208e p208f p208g p208h p208i p208j
    exfalso;subst h;simp [Ar.std] at p208i
   ·rename_i p209a p209b p209c p209d p209e p209f p209g
    subst h;exact h0.g209 (dt p209a) (df p209b) (nt p209c) (nf p209d) (df p209e) (df p209f) (df (nt p209g))
   ·rename_i p210a p210b p210c p210d p210e p210f p210g p210h
    subst h;exact h0.g210 (dt p210a) (df p210b) (nt p210c) (nf p210d) (df p210e) (df p210f) (dt (nf p210g)) (dt p210h)
   ·rename_i p211a p211b p211c p211d p211e p211f p211g p211h
    subst h;exact h0.g211 (dt p211a) (df p211b) (nt p211c) (nf p211d) (df p211e) (df p211f) (dt (nf p211g)) (dt p211h)
   ·rename_i p212a p212b p212c p212d p212e p212f p212g p212h
    subst h;exact h0.g212 (dt p212a) (df p212b) (nt p212c) (nf p212d) (df p212e) (df p212f) (dt (nf p212g)) (dt p212h)
   ·rename_i p213a p213b p213c p213d p213e p213f p213g p213h
    subst h;exact h0.g213 (dt p213a) (df p213b) (nt p213c) (nf p213d) (df p213e) (df p213f) (dt (nf p213g)) (dt p213h)
   ·rename_i p214a p214b p214c p214d p214e p214f p214g p214h p214i p214j p214k
    subst h;exact h0.g214 (dt p214a) (df p214b) (nt p214c) (nf p214d) (df p214e) (df p214f) (dt (nf p214g)) (dt p214h) (nt p214i) (nt p214j) (df (nt p214k))
   ·rename_i p215a p215b p215c p215d p215e p215f p215g p215h p215i p215j p215k
    subst h;exact h0.g215 (dt p215a) (df p215b) (nt p215c) (nf p215d) (df p215e) (df p215f) (dt (nf p215g)) (dt p215h) (nt p215i) (nt p215j) (dt (nf p215k))
   ·rename_i p216a p216b p216c p216d p216e p216f p216g p216h p216i p216j p216k
    refine hK0 (A.app b0 [[D.i (A.di (A.get a0 (A.toNat b1) 0)),D.i (A.di (A.get a0 (A.toNat b1) 1))]],A.add b1 1,b2,b3) _ ?_ ?_ ?_
    ·subst h;exact (h0.n216 (dt p216a) (df p216b) (nt p216c) (nf p216d) (df p216e) (df p216f) (dt (nf p216g)) (dt p216h) (nt p216i) (nt p216j) (dt (nf p216k))).1
    ·subst h;exact (h0.n216 (dt p216a) (df p216b) (nt p216c) (nf p216d) (df p216e) (df p216f) (dt (nf p216g)) (dt p216h) (nt p216i) (nt p216j) (dt (nf p216k))).2
    ·clear hE hinl hV hK0;cbv;(try repeat' first|rfl|assumption|constructor)
   ·rename_i p217a p217b p217c p217d p217e p217f p217g p217h p217i p217j p217k
    subst h;exact h0.g217 (dt p217a) (df p217b) (nt p217c) (nf p217d) (df p217e) (df p217f) (dt (nf p217g)) (dt p217h) (nt p217i) (nf p217j) (df (nt p217k))
   ·rename_i p218a p218b p218c p218d p218e p218f p218g p218h p218i p218j p218k
    subst h;exact h0.g218 (dt p218a) (df p218b) (nt p218c) (nf p218d) (df p218e) (df p218f) (dt (nf p218g)) (dt p218h) (nt p218i) (nf p218j) (dt (nf p218k))
   ·rename_i p219a p219b p219c p219d p219e p219f p219g p219h p219i p219j p219k
    refine hK0 (A.app b0 [[D.i (A.di (A.get a0 (A.toNat b1) 0)),D.i (A.di (A.get a0 (A.toNat b1) 1))]],A.add b1 1,b2,b3) _ ?_ ?_ ?_
    ·subst h;exact (h0.n219 (dt p219a) (df p219b) (nt p219c) (nf p219d) (df p219e) (df p219f) (dt (nf p219g)) (dt p219h) (nt p219i) (nf p219j) (dt (nf p219k))).1
    ·subst h;exact (h0.n219 (dt p219a) (df p219b) (nt p219c) (nf p219d) (df p219e) (df p219f) (dt (nf p219g)) (dt p219h) (nt p219i) (nf p219j) (dt (nf p219k))).2
    ·clear hE hinl hV hK0;cbv;(try repeat' first|rfl|assumption|constructor)
   ·rename_i p220a p220b p220c p220d p220e p220f p220g p220h p220i p220j
    exfalso;subst h;simp [Ar.std] at p220i
   ·rename_i p221a p221b p221c p221d p221e p221f p221g p221h p221i p221j
    exfalso;subst h;simp [Ar.std] at p221i
   ·rename_i p222a p222b p222c p222d p222e p222f p222g p222h p222i p222j
    exfalso;subst h;simp [Ar.std] at p222i
   ·rename_i p223a p223b p223c p223d p223e p223f p223g p223h p223i p223j p223k
    subst h;exact h0.g223 (dt p223a) (df p223b) (nt p223c) (nf p223d) (df p223e) (df p223f) (dt (nf p223g)) (df p223h) (nt p223i) (nt p223j) (df (nt p223k))
   ·rename_i p224a p224b p224c p224d p224e p224f p224g p224h p224i p224j p224k
    subst h;exact h0.g224 (dt p224a) (df p224b) (nt p224c) (nf p224d) (df p224e) (df p224f) (dt (nf p224g)) (df p224h) (nt p224i) (nt p224j) (dt (nf p224k))
   ·rename_i p225a p225b p225c p225d p225e p225f p225g p225h p225i p225j p225k
    refine hK0 (b0,A.add b1 1,b2,b3) _ ?_ ?_ ?_
    ·subst h;exact (h0.n225 (dt p225a) (df p225b) (nt p225c) (nf p225d) (df p225e) (df p225f) (dt (nf p225g)) (df p225h) (nt p225i) (nt p225j) (dt (nf p225k))).1
    ·subst h;exact (h0.n225 (dt p225a) (df p225b) (nt p225c) (nf p225d) (df p225e) (df p225f) (dt (nf p225g)) (df p225h) (nt p225i) (nt p225j) (dt (nf p225k))).2
    ·clear hE hinl hV hK0;cbv;(try repeat' first|rfl|assumption|constructor)
   ·rename_i p226a p226b p226c p226d p226e p226f p226g p226h p226i p226j p226k
    subst h;exact h0.g226 (dt p226a) (df p226b) (nt p226c) (nf p226d) (df p226e) (df p226f) (dt (nf p226g)) (df p226h) (nt p226i) (nf p226j) (df (nt p226k))
   ·rename_i p227a p227b p227c p227d p227e p227f p227g p227h p227i p227j p227k
    subst h;exact h0.g227 (dt p227a) (df p227b) (nt p227c) (nf p227d) (df p227e) (df p227f) (dt (nf p227g)) (df p227h) (nt p227i) (nf p227j) (dt (nf p227k))
   ·rename_i p228a p228b p228c p228d p228e p228f p228g p228h p228i p228j p228k
    refine hK0 (b0,A.add b1 1,b2,b3) _ ?_ ?_ ?_
    ·subst h;exact (h0.n228 (dt p228a) (df p228b) (nt p228c) (nf p228d) (df p228e) (df p228f) (dt (nf p228g)) (df p228h) (nt p228i) (nf p228j) (dt (nf p228k))).1
    ·subst h;exact (h0.n228 (dt p228a) (df p228b) (nt p228c) (nf p228d) (df p228e) (df p228f) (dt (nf p228g)) (df p228h) (nt p228i) (nf p228j) (dt (nf p228k))).2
    ·clear hE hinl hV hK0;cbv;(try repeat' first|rfl|assumption|constructor)
   ·rename_i p229a p229b p229c p229d p229e p229f p229g p229h p229i p229j
    exfalso;subst h;simp [Ar.std] at p229i
   ·rename_i p230a p230b p230c p230d p230e p230f p230g p230h p230i p230j
    exfalso;subst h;simp [Ar.std] at p230i
   ·rename_i p231a p231b p231c p231d p231e p231f p231g p231h p231i p231j
    exfalso;subst h;simp [Ar.std] at p231i
   ·rename_i p232a p232b p232c p232d
    exfalso;subst h;simp [Ar.std] at p232c
   ·rename_i p233a p233b p233c p233d p233e
    exfalso;subst h;simp [Ar.std] at p233c
   ·rename_i p234a p234b p234c p234d p234e
    exfalso;subst h;simp [Ar.std] at p234c
   ·rename_i p235a p235b p235c p235d p235e
    exfalso;subst h;simp [Ar.std] at p235c
   ·rename_i p236a p236b p236c p236d p236e
    exfalso;subst h;simp [Ar.std] at p236c
   ·rename_i p237a p237b p237c p237d p237e p237f p237g p237h
    exfalso;subst h;simp [Ar.std] at p237c
   ·rename_i p238a p238b p238c p238d p238e p238f p238g p238h
    exfalso;subst h;simp [Ar.std] at p238c
   ·rename_i p239a p239b p239c p239d p239e p239f p239g p239h
    exfalso;subst h;simp [Ar.std] at p239c
   ·rename_i p240a p240b p240c p240d p240e p240f p240g p240h
    exfalso;subst h;simp [Ar.std] at p240c
   ·rename_i p241a p241b p241c p241d p241e p241f p241g p241h
    exfalso;subst h;simp [Ar.std] at p241c
   ·rename_i p242a p242b p242c p242d p242e p242f p242g p242h
    exfalso;subst h;simp [Ar.std] at p242c
   ·rename_i p243a p243b p243c p243d p243e p243f p243g
    exfalso;subst h;simp [Ar.std] at p243c
   ·rename_i p244a p244b p244c p244d p244e p244f p244g
    exfalso;subst h;simp [Ar.std] at p244c
   ·rename_i p245a p245b p245c p245d p245e p245f p245g
    exfalso;subst h;simp [Ar.std] at p245c
   ·rename_i p246a p246b p246c p246d p246e p246f p246g p246h
    exfalso;subst h;simp [Ar.std] at p246c
   ·rename_i p247a p247b p247c p247d p247e p247f p247g p247h
    exfalso;subst h;simp [Ar.std] at p247c
   ·rename_i p248a p248b p248c p248d p248e p248f p248g p248h
    exfalso;subst h;simp [Ar.std] at p248c
   ·rename_i p249a p249b p249c p249d p249e p249f p249g p249h
    exfalso;subst h;simp [Ar.std] at p249c
   ·rename_i p250a p250b p250c p250d p250e p250f p250g p250h
    exfalso;subst h;simp [Ar.std] at p250c
   ·rename_i p251a p251b p251c p251d p251e p251f p251g p251h
    exfalso;subst h;simp [Ar.std] at p251c
   ·rename_i p252a p252b p252c p252d p252e p252f p252g
    exfalso;subst h;simp [Ar.std] at p252c
   ·rename_i p253a p253b p253c p253d p253e p253f p253g
    exfalso;subst h;simp [Ar.std] at p253c
   ·rename_i p254a p254b p254c p254d p254e p254f p254g
    exfalso;subst h;simp [Ar.std] at p254c
   ·rename_i p255a p255b p255c
    subst h;exact h0.g255 (df p255a) (nt p255b) (nt p255c)
   ·rename_i p256a p256b p256c
    subst h;exact h0.g256 (df p256a) (nt p256b) (nt p256c)
   ·rename_i p257a p257b p257c
    subst h;exact h0.g257 (df p257a) (nt p257b) (nt p257c)
   ·rename_i p258a p258b p258c p258d p258e
    subst h;exact h0.g258 (df p258a) (nt p258b) (nt p258c) (dt p258d) (dt p258e)
   ·rename_i p259a p259b p259c p259d p259e
    subst h;exact h0.g259 (df p259a) (nt p259b) (nt p259c) (dt p259d) (dt p259e)
   ·rename_i p260a p260b p260c p260d p260e
    subst h;exact h0.g260 (df p260a) (nt p260b) (nt p260c) (dt p260d) (df p260e)
   ·rename_i p261a p261b p261c p261d
    subst h;exact h0.g261 (df p261a) (nt p261b) (nt p261c) (df p261d)
   ·rename_i p262a p262b p262c
    subst h;exact h0.g262 (df p262a) (nt p262b) (nf p262c)
   ·rename_i p263a p263b p263c
    subst h;exact h0.g263 (df p263a) (nt p263b) (nf p263c)
   ·rename_i p264a p264b p264c
    subst h;exact h0.g264 (df p264a) (nt p264b) (nf p264c)
   ·rename_i p265a p265b p265c
    subst h;exact h0.g265 (df p265a) (nt p265b) (nf p265c)
   ·rename_i p266a p266b p266c p266d p266e
    subst h;exact h0.g266 (df p266a) (nt p266b) (nf p266c) (dt p266d) (dt p266e)
   ·rename_i p267a p267b p267c p267d p267e
    subst h;exact h0.g267 (df p267a) (nt p267b) (nf p267c) (dt p267d) (dt p267e)
   ·rename_i p268a p268b p268c p268d p268e
    subst h;exact h0.g268 (df p268a) (nt p268b) (nf p268c) (dt p268d) (df p268e)
   ·rename_i p269a p269b p269c p269d
    subst h;exact h0.g269 (df p269a) (nt p269b) (nf p269c) (df p269d)
   ·rename_i p270a p270b
    exfalso;subst h;simp [Ar.std] at p270b
   ·rename_i p271a p271b
    exfalso;subst h;simp [Ar.std] at p271b
   ·rename_i p272a p272b
    exfalso;subst h;simp [Ar.std] at p272b
   ·rename_i p273a p273b p273c p273d
    exfalso;subst h;simp [Ar.std] at p273b
   ·rename_i p274a p274b p274c p274d
    exfalso;subst h;simp [Ar.std] at p274b
   ·rename_i p275a p275b p275c p275d
    exfalso;subst h;simp [Ar.std] at p275b
   ·rename_i p276a p276b p276c
    exfalso;subst h;simp [Ar.std] at p276b
end HX

namespace HX
open Go Go.Proofs CX
theorem tyB_ok:tyB.All (fun t ty=>CX.env.T t=some ty):=by
 unfold tyB
 simp only [BT.All,true_and,and_true]
 repeat' apply And.intro
 all_goals rfl
theorem cxE_ok (ro:Addr→Option V):CX.EnvOk (cxE ro) Try.prog:=by
 refine ⟨fun t ty h=>CX.env_ok.T t ty (tyB_ok.get h),fun f fn h=>CX.env_ok.fn f fn h,CX.env_ok.mixed,fun f b h w=>?_,fun f _ _ _ _ _ _ h=>?_,fun f h=>?_⟩
 rotate_left
 ·simp only [cxE,extF] at h
  split at h<;>cases h
 ·simp only [cxE,extF] at h
  split at h<;>cases h
 simp only [cxE,extF] at h
 split at h
 ·rename_i hb
  simp only [beqN_iff] at hb
  simp only [Option.some.injEq,CX.Ext.bool.injEq] at h
  subst hb h
  exact (CX.works_ok w).mono fun e w' ⟨h1,h2,h3,h4,h5,h6⟩=>⟨h1,h2,h3,h4,h5,h6⟩
 ·cases h
theorem hxT {ro:Addr→Option V}:TOk (cxE ro):=TOk.of (cxE_ok ro)
theorem hxEnv {ro:Addr→Option V} {sig:Nat→Option Sig} {pre:Nat→List (List D)→Prop} {fn:Nat→List (List D)→Nat→Nat→D} (h:∀f sg,sig f=some sg→PureC (cxE ro) f sg (pre f) (fn f)):EnvOk ⟨Ar.std,cxE ro,ksF,sig,pre,fn⟩:=⟨rfl,hxT,h⟩
theorem works_pure {ro:Addr→Option V}:PureC (cxE ro) 13 ⟨[],[(false,[.bool])],false⟩ (fun _=>True) (fun _ _ _=>.b true):=by
 intro ds _ g bar nx h args hg hbar ha
 cases args with
 |cons _ _=>cases ds<;>simp [ArgsFz] at ha
 |nil=>
  have hfn:∃fn c,(cxE ro).fn 13=some fn∧fn.body=some c:=⟨_,_,rfl,rfl⟩
  obtain ⟨fn,c,h1,h2⟩:=hfn
  refine ⟨[.bool true],h,nx,g,Evt.of fun n k=>?_,Nat.le_refl _,fun _ _=>rfl,fun _ _ h=>h,fun id o hgo=>⟨hg id o hgo,.inl hgo⟩,⟨[.bool true],rfl,fun j k hj=>?_,_,rfl,rfl⟩,trivial⟩
  ·have hx:(cxE ro).ext 13=some (.bool true):=rfl
   simp only [callF,h1,h2,hx]
   rfl
  ·cases j with
   |zero=>
    simp only [List.getElem?_cons_zero,Option.some.injEq] at hj
    subst hj
    exact ⟨_,rfl,by simp only [FzC];exact ⟨⟨_,rfl⟩,rfl⟩⟩
   |succ j=>simp at hj
theorem call_ro {P:Program} {E:CX.Env} (hE:CX.EnvOk E P) {f:FuncId} {n:Nat} {v:V} {args:List V} {xs:List Value} {h':T O} {nx':Nat} {w:World} (hro:RoAt E.ro w) (ha:RvL (fun _=>none) 0 args xs)
  (h:callF E (cx E n) 0 .e 0 f args (fun v h nx=>retV v h nx)=retV v h' nx') :
  Calls P f xs.toArray w fun e w'=>∃u ρ n,e=.returned u∧Rv ρ n v u∧Kept w w':=by
 obtain ⟨v',g',n',fn,h1,_,_,h2⟩:=callF_ok hE (cx_ok hE n).1 (ρ:=fun _=>none) (n:=0) (bar:=0) (g:=.e) (w:=w) (xs:=xs) ⟨hro,fun a v h id o L _ _ hL=>by cases hL⟩ ⟨fun id o h=>by simp [T.get] at h,fun id o id' o' h=>by simp [T.get] at h,fun _ _=>rfl,fun _ _ h=>by cases h⟩ ha h
 have e:v'=v:=by
  simp only [retV,Option.some.injEq,Prod.mk.injEq,CX.St.mk.injEq,CX.T.n.injEq,true_and,and_true] at h1
  exact h1.1
 subst e
 refine (callsIn_wide.1 (h2 none)).mono fun e w' he=>?_
 obtain ⟨u,ρ',rfl,d1,_,_,_,d5⟩:=he
 refine ⟨u,ρ',n',rfl,d1,d5.os,d5.tape,d5.output,d5.size,fun b hb=>d5.keep b hb ?_⟩
 rintro ⟨id,o,L,_,h,_⟩
 simp [T.get] at h
end HX

namespace CX
open Go Go.ChangeShapes Go.WideShapes
theorem Kept.frozen {w w':World} (h:Kept w w') {a:Addr} (ha:a.block < w.heap.size):w'.frozen? a=w.frozen? a:=by
 simp only [World.frozen?,h.2.2.2.2 a.block ha]
theorem Kept.but {w w':World} (h:Kept w w') (may:MemPlace→Prop):w.keptBut w' may:=by
 refine ⟨h.1,h.2.2.1,fun i hi=>?_⟩
 rw [h.2.2.2.2 i hi]
 obtain ⟨o,ho⟩:∃o,w.heap[i]?=some o:=⟨w.heap[i],by simp [hi]⟩
 rw [ho]
 cases o with
 |cells c t fr=>exact ⟨rfl,rfl,rfl,fun _ _=>rfl⟩
 |map es c=>exact .inr ⟨rfl,rfl⟩
 |_=>rfl
section
variable {H:Type} {enc:TypeId×Value→H} {P:Program}
theorem post_kept {f:Func} {s:ChangeSpec} {apart fresh handsOn again:Bool} {W W':World} {args:Array Value} {v:Value} {ds gs:List (DataW H)} {before pa pv:List MemPlace}
  (hW:DataW.Whole enc P f.params.toList s.vars apart W args.toList ds gs before)
  (hres:∀(b:Nat) (sp:Nat→Bool) (hd:Bool),DataW.TrodAll enc P W' b sp hd f.resultTypes.toList (v.resultList f.resultTypes.size) (s.fn H (ds++gs)).results [])
  (hargs:∀sp:Nat→Bool,(∀p∈before,sp p.block=true)→DataW.TrodAll enc P W' 0 sp true f.params.toList args.toList (s.fn H (ds++gs)).args pa)
  (hvars:∀sp:Nat→Bool,(∀p∈before,sp p.block=true)→DataW.TrodVars enc P W' sp s.vars (s.fn H (ds++gs)).vars pv)
  (hps:before=pa++pv) (hk:Kept W W')
  (hok:∀(j:Nat) (t:TypeId) (r:Value),f.resultTypes[j]?=some t→(v.resultList f.resultTypes.size)[j]?=some r→Value.okWide P W' .any 0 t r) :
  s.post enc P f apart fresh handsOn again W args v W':=by
 have hold:∀p∈before,(fun b=>decide (b < W.heap.size)) p.block=true:=fun p hp=>by simpa using hW.lt p hp
 have hlt:=hW.lt
 refine ⟨ds,gs,before,[],pa,pv,hW,hres _ _ _,hargs _ hold,hvars _ hold,World.keptBut_mono (fun p hp=>⟨hp,?_⟩) (hk.but (·∈before)),fun _=>?_⟩
 ·rw [hps,List.mem_append] at hp
  exact Or.inr hp
 ·obtain ⟨_,_,_,_,_,hz,hn⟩:=hW
  refine ⟨hok,_,_,([]++pa)++pv,⟨[]++pa,pv,trodAll_append (hargs _ (fun _ _=>rfl)) (hres _ _ _),hvars _ (fun _ _=>rfl),rfl,?_,?_⟩,?_⟩
  ·intro b off hp
   have hp':MemPlace.cell b off∈before:=by rw [hps];simpa using hp
   rw [hk.frozen (hlt _ hp')]
   exact hz b off hp'
  ·intro ha
   have:=hn ha
   rw [hps] at this
   simpa using this
  ·intro p hp _
   rw [hps]
   simpa using hp
end
end CX

namespace HB
open Go Go.ChangeShapes Go.WideShapes Go.ChangeAt Go.RowKit
theorem add_block (a:Addr) (n:Nat):(a.add n).block=a.block:=by unfold Addr.add;split<;>rfl
theorem addr_add2 (a:Addr) (i c:Nat):(a.add i).add c=a.add (i+c):=by
 unfold Addr.add
 by_cases hi:i=0
 ·subst hi;simp
 ·by_cases hc:c=0
  ·subst hc;simp [hi]
  ·simp [hi,hc,Nat.add_assoc]
theorem mapM_at {α β:Type} {f:α→Option β}:∀{l:List α} {r:List β},l.mapM f=some r→r.length=l.length∧∀(i:Nat) (h:i < l.length),∃y,f l[i]=some y∧r[i]?=some y
 |[],r,h=>by
  simp only [List.mapM_nil,Option.pure_def,Option.some.injEq] at h
  subst h
  exact ⟨rfl,fun i h=>by simp at h⟩
 |x :: xs,r,h=>by
  rw [List.mapM_cons] at h
  cases hx:f x with
  |none=>simp [hx] at h
  |some y=>
   cases hxs:xs.mapM f with
   |none=>simp [hx,hxs] at h
   |some ys=>
    simp only [hx,hxs,Option.bind_eq_bind,Option.bind_some,Option.pure_def,Option.some.injEq] at h
    subst h
    obtain ⟨h1,h2⟩:=mapM_at hxs
    refine ⟨by simp [h1],fun i hi=>?_⟩
    cases i with
    |zero=>exact ⟨y,by simpa using hx,by simp⟩
    |succ i=>
     obtain ⟨z,e1,e2⟩:=h2 i (by simpa using hi)
     exact ⟨z,by simpa using e1,by simpa using e2⟩
theorem cells_get {w:World} {base:Nat} {a:Addr} {n:Nat} {cs:List Value} (h:w.cells? base a n=some cs):cs.length=n∧(0 < n→a.block < w.heap.size)∧∀c,c < n→w.cell? (a.add c)=cs[c]?:=by
 unfold World.cells? at h
 split at h
 ·obtain ⟨h1,h2⟩:=mapM_at h
  rw [List.length_range] at h1
  have key:∀c,c < n→w.cell? (a.add c)=cs[c]?:=fun c hc=>by
   obtain ⟨y,e1,e2⟩:=h2 c (by simpa using hc)
   rw [List.getElem_range] at e1
   rw [e1,e2]
  refine ⟨h1,fun h0=>?_,key⟩
  obtain ⟨y,e1,_⟩:=h2 0 (by simpa using h0)
  rw [List.getElem_range] at e1
  rcases Nat.lt_or_ge a.block w.heap.size with hb |hb
  ·exact hb
  ·exfalso
   unfold World.cell? at e1
   rw [add_block] at e1
   rw [Array.getElem?_eq_none (by omega)] at e1
   cases e1
 ·cases h
section
variable {H:Type} {enc:TypeId×Value→H} {P:Program} {w:World} {base:Nat} {spare:Nat→Bool} {held:Bool}
theorem wf_rng {k:IntKind} {n:Int} (h:(Lit.int k n).wf=true):k.min≤n∧n≤k.max:=by
 simpa [Lit.wf] using h
theorem trod_array {t e:TypeId} {n m:Nat} {cs:List Value} {x:DataW H×List MemPlace} (ht:P.underlying t=some (.array n e)) (h:DataW.trod enc P w base spare held (m+1) t cs=some x) :
  cs.length=P.cellsOf t∧∀i,i < n→∃y,DataW.trod enc P w base spare held m e ((cs.drop (i * P.cellsOf e)).take (P.cellsOf e))=some y:=by
 unfold DataW.trod at h
 rw [ht] at h
 split at h<;>simp_all
 obtain ⟨hl,h⟩:=h
 obtain ⟨a,h,_⟩:=h
 obtain ⟨h1,h2⟩:=mapM_at h
 intro i hi
 obtain ⟨y,e1,_⟩:=h2 i (by simpa using hi)
 rw [List.getElem_range] at e1
 exact ⟨y.1,y.2,by simpa using e1⟩
def isAgg (P:Program) (t:TypeId):Bool:=match P.underlying t with
 |some (.struct _)=>true
 |some (.array _ _)=>true
 |_=>false
theorem Kept_same {W W':World} (h:CX.Kept W W') {p:MemPlace} (hp:p.block < W.heap.size):W.sameAt W' p:=by
 cases p with
 |cell b off=>
  simp only [World.sameAt,World.cell?]
  rw [h.2.2.2.2 b hp]
 |map b=>exact h.2.2.2.2 b hp
theorem args_stay (hl:laidOutB P=true) {W W':World} {sp:Nat→Bool}:∀{ts:List TypeId} {vs:List Value} {ds:List (DataW H)} {ps:List MemPlace},(ts.all fun t=>P.readableRec t && decide (t < P.types.size))=true→
  DataW.TrodAll enc P W base (fun _=>true) true ts vs ds ps→(∀p∈ps,W.sameAt W' p)→(∀p∈ps,sp p.block=true)→DataW.TrodAll enc P W' base sp true ts vs ds ps
 |[],vs,ds,ps,_,h,_,_=>by
  obtain ⟨rfl,rfl,rfl⟩:=trodAll_nil h
  exact trodAll_mk0
 |t :: ts,[],ds,ps,_,h,_,_=>by simp [DataW.TrodAll] at h
 |t :: ts,v :: vs,[],ps,_,h,_,_=>by simp [DataW.TrodAll] at h
 |t :: ts,v :: vs,d :: ds,ps,hr,h,h1,h2=>by
  obtain ⟨p,q,ha,hb,rfl⟩:=h
  simp only [List.all_cons,Bool.and_eq_true,decide_eq_true_eq] at hr
  exact ⟨p,q,Go.WideElems.Trod_stays hl hr.1.1 hr.1.2 ha (fun x hx=>h1 x (by simp [hx])) (fun x hx=>h2 x (by simp [hx])),
   args_stay hl (by simpa using hr.2) hb (fun x hx=>h1 x (by simp [hx])) (fun x hx=>h2 x (by simp [hx])),rfl⟩
end
end HB

namespace HX
open Go Go.Proofs Go.ChangeShapes Go.WideShapes Go.ChangeAt Go.RowKit CX
def descF (g:TypeId→Option (List Kd)) (P:Program):List Field→Nat→Option (List Kd)
 |[],_=>some []
 |f :: r,off=>match g f.type with
  |some ks=>match beqN f.offset off && beqN (P.cellsOf f.type) ks.length with
   |true=>match descF g P r (off+ks.length) with
    |some ks'=>some (ks++ks')
    |none=>none
   |false=>none
  |none=>none
def repK (ks:List Kd):Nat→List Kd
 |0=>[]
 |n+1=>ks++repK ks n
def desc (P:Program):Nat→TypeId→Option (List Kd)
 |0,_=>none
 |n+1,t=>match P.underlying t with
  |some .bool=>some [.bool]
  |some (.int k)=>some [.int k]
  |some .string=>some [.str]
  |some (.slice e)=>match desc P n e with
   |some (k :: ks)=>match beqN (P.cellsOf e) (ks.length+1) with
    |true=>some [.sl (k :: ks)]
    |false=>none
   |_=>none
  |some (.struct fs)=>match descF (desc P n) P fs.toList 0 with
   |some ks=>match beqN (P.cellsOf t) ks.length with
    |true=>some ks
    |false=>none
   |none=>none
  |some (.array m e)=>match desc P n e with
   |some ks=>match beqN (P.cellsOf e) ks.length && beqN (P.cellsOf t) (repK ks m).length with
    |true=>some (repK ks m)
    |false=>none
   |none=>none
  |_=>none
mutual
def RngK:Kd→D→Prop
 |.int k,d=>k.min≤d.int∧d.int≤k.max
 |.str,d=>∀b∈d.str,b < 256
 |.sl ks,d=>∀row∈d.rows,RngL ks row
 |_,_=>True
def RngL:List Kd→List D→Prop
 |k :: ks,d :: ds=>RngK k d∧RngL ks ds
 |_,_=>True
end
mutual
def RdK (w:World):Kd→D→Value→Prop
 |.int k,d,u=>(∃n,d=.i n)∧u=.int k d.int
 |.bool,d,u=>(∃b,d=.b b)∧u=.bool d.boo
 |.str,d,u=>(∃s,d=.s s)∧u=.string (bytesOf d.str)
 |.fnc _,_,_=>False
 |.pt _,_,_=>False
 |.sl ks,d,u=>(∃rows,d=.l rows∧LenR ks rows)∧0 < ks.length∧((d.rows=[]∧u=.slice none 0 0)∨∃a cap,u=.slice (some a) d.rows.length cap∧d.rows.length≤cap∧
   ∀i row,d.rows[i]?=some row→∃cs:List Value,(∀c,c < ks.length→w.cell? (a.add (i * ks.length+c))=cs[c]?)∧RdL w ks row cs)
def RdL (w:World):List Kd→List D→List Value→Prop
 |[],[],[]=>True
 |k :: ks,d :: ds,c :: cs=>RdK w k d c∧RdL w ks ds cs
 |_,_,_=>False
end
def Holds (w:World) (ks:List Kd) (cs:List Value):Prop:=∃l,RdL w ks l cs∧RngL ks l
theorem RdL.append {w:World}:∀{ks ks':List Kd} {l l':List D} {cs cs':List Value},RdL w ks l cs→RdL w ks' l' cs'→RdL w (ks++ks') (l++l') (cs++cs')
 |[],_,[],_,[],_,_,h=>h
 |_ :: _,_,_ :: _,_,_ :: _,_,h,h'=>by
  simp only [RdL,List.cons_append] at h ⊢
  exact ⟨h.1,RdL.append h.2 h'⟩
 |[],_,[],_,_ :: _,_,h,_=>by simp [RdL] at h
 |[],_,_ :: _,_,_,_,h,_=>by simp [RdL] at h
 |_ :: _,_,[],_,_,_,h,_=>by simp [RdL] at h
 |_ :: _,_,_ :: _,_,[],_,h,_=>by simp [RdL] at h
theorem RdL.len {w:World}:∀{ks:List Kd} {l:List D} {cs:List Value},RdL w ks l cs→l.length=ks.length∧cs.length=ks.length
 |[],[],[],_=>⟨rfl,rfl⟩
 |_ :: _,_ :: _,_ :: _,h=>by
  simp only [RdL] at h
  have:=RdL.len h.2
  exact ⟨by simp [this.1],by simp [this.2]⟩
 |[],[],_ :: _,h=>by simp [RdL] at h
 |[],_ :: _,_,h=>by simp [RdL] at h
 |_ :: _,[],_,h=>by simp [RdL] at h
 |_ :: _,_ :: _,[],h=>by simp [RdL] at h
theorem RngL.append:∀{ks ks':List Kd} {l l':List D},l.length=ks.length→RngL ks l→RngL ks' l'→RngL (ks++ks') (l++l')
 |[],_,[],_,_,_,h=>h
 |_ :: _,_,_ :: _,_,hl,h,h'=>by
  simp only [RngL,List.cons_append] at h ⊢
  exact ⟨h.1,RngL.append (by simpa using hl) h.2 h'⟩
 |[],_,_ :: _,_,hl,_,_=>by simp at hl
 |_ :: _,_,[],_,hl,_,_=>by simp at hl
theorem Holds.append {w:World} {ks ks':List Kd} {cs cs':List Value} (h:Holds w ks cs) (h':Holds w ks' cs'):Holds w (ks++ks') (cs++cs'):=by
 obtain ⟨l,a,b⟩:=h
 obtain ⟨l',a',b'⟩:=h'
 exact ⟨l++l',a.append a',b.append a.len.1 b'⟩
theorem Holds.nil {w:World}:Holds w [] []:=⟨[],trivial,trivial⟩
section
variable {H:Type} {enc:TypeId×Value→H} {P:Program} {w:World} {base:Nat} {spare:Nat→Bool} {held:Bool}
theorem holds_one {k:Kd} {d:D} {u:Value} (h:RdK w k d u) (hr:RngK k d):Holds w [k] [u]:=⟨[d],⟨h,trivial⟩,⟨hr,trivial⟩⟩
theorem holds_rep {ks:List Kd} {cs:List Value} (m:Nat) (hl:cs.length=(repK ks m).length) (h:∀i,i < m→Holds w ks ((cs.drop (i * ks.length)).take ks.length)):Holds w (repK ks m) cs:=by
 induction m generalizing cs with
 |zero=>
  have:cs=[]:=List.length_eq_zero_iff.1 (by simpa [repK] using hl)
  subst this
  exact Holds.nil
 |succ m ih=>
  have e:cs=cs.take ks.length++cs.drop ks.length:=(List.take_append_drop _ _).symm
  rw [e]
  refine Holds.append (by simpa using h 0 (by omega)) (ih ?_ fun i hi=>?_)
  ·simp only [List.length_drop,hl,repK,List.length_append]
   omega
  ·have:=h (i+1) (by omega)
   rwa [List.drop_drop,show ks.length+i * ks.length=(i+1) * ks.length by rw [Nat.add_mul];omega]
theorem holds_fields {g:TypeId→Option (List Kd)} {cs:List Value}:∀(fs:List Field) (off:Nat) (ks:List Kd),descF g P fs off=some ks→cs.length=off+ks.length→
  (∀f∈fs,∀ks',g f.type=some ks'→Holds w ks' ((cs.drop f.offset).take (P.cellsOf f.type)))→Holds w ks (cs.drop off)
 |[],off,ks,h,hl,_=>by
  simp only [descF,Option.some.injEq] at h
  subst h
  have:cs.drop off=[]:=List.drop_eq_nil_of_le (by simp at hl;omega)
  rw [this]
  exact Holds.nil
 |f :: r,off,ks,h,hl,hf=>by
  simp only [descF] at h
  split at h
  ·rename_i ks1 hk
   split at h
   ·rename_i hb
    simp only [Bool.and_eq_true,beqN_iff] at hb
    split at h
    ·rename_i ks2 hks2
     simp only [Option.some.injEq] at h
     subst h
     have e:cs.drop off=(cs.drop off).take ks1.length++(cs.drop off).drop ks1.length:=(List.take_append_drop _ _).symm
     rw [e]
     refine Holds.append ?_ ?_
     ·have:=hf f (by simp) ks1 hk
      rwa [hb.1,hb.2] at this
     ·rw [List.drop_drop]
      exact holds_fields r (off+ks1.length) ks2 hks2 (by rw [hl,List.length_append];omega) (fun f' hf'=>hf f' (by simp [hf']))
    ·cases h
   ·cases h
  ·cases h
theorem bytes_of (z:ByteArray):bytesOf (z.data.toList.map UInt8.toNat)=z:=by
 obtain ⟨d⟩:=z
 simp only [bytesOf,List.map_map]
 congr 1
 have:(UInt8.ofNat∘UInt8.toNat)=id:=by funext x;simp
 rw [this]
 simp
theorem holds_of_trod:∀(n:Nat) (t:TypeId) (ks:List Kd),desc P n t=some ks→∀(m:Nat) (cs:List Value) (x:DataW H×List MemPlace),DataW.trod enc P w base spare held m t cs=some x→Holds w ks cs
 |0,_,_,h,_,_,_,_=>by simp [desc] at h
 |n+1,t,ks,h,m,cs,x,hx=>by
  unfold desc at h
  split at h
  ·rename_i hu
   simp only [Option.some.injEq] at h
   subst h
   obtain ⟨b,rfl,_⟩:=DataW.trod_bool hu hx
   exact holds_one (d:=.b b) ⟨⟨_,rfl⟩,rfl⟩ trivial
  ·rename_i k hu
   simp only [Option.some.injEq] at h
   subst h
   obtain ⟨z,rfl,_,hw⟩:=DataW.trod_int hu hx
   exact holds_one (d:=.i z) ⟨⟨_,rfl⟩,rfl⟩ (HB.wf_rng hw)
  ·rename_i hu
   simp only [Option.some.injEq] at h
   subst h
   obtain ⟨z,rfl,_,_⟩:=DataW.trod_string hu hx
   refine holds_one (d:=.s (z.data.toList.map UInt8.toNat)) ⟨⟨_,rfl⟩,?_⟩ ?_
   ·show Value.string z=.string (bytesOf (z.data.toList.map UInt8.toNat))
    rw [bytes_of]
   ·intro b hb
    obtain ⟨x,_,rfl⟩:=List.mem_map.1 (show b∈z.data.toList.map UInt8.toNat from hb)
    exact x.toNat_lt
  ·rename_i e hu
   split at h
   ·rename_i k ks' hd
    split at h
    ·rename_i hb
     have hb:P.cellsOf e=ks'.length+1:=by rw [beqN_iff] at hb;exact hb
     simp only [Option.some.injEq] at h
     subst h
     rcases DataW.trod_slice hu hx with ⟨rfl,_⟩ |⟨a,len,cap,elems,rest,m',rfl,rfl,_,_,h2,h3,h4,h5,_,_⟩
     ·exact holds_one (d:=.l []) ⟨⟨_,rfl,fun _ h=>(by cases h),by simp⟩,by simp,.inl ⟨rfl,rfl⟩⟩ (fun _ h=>(by cases h))
     ·have row:∀i,i < len→∃l cs',(∀c,c < ks'.length+1→w.cell? (a.add (i * (ks'.length+1)+c))=cs'[c]?)∧RdL w (k :: ks') l cs'∧RngL (k :: ks') l:=by
       intro i hi
       have e1:=h5 i hi
       rw [List.getElem?_eq_getElem (by omega)] at e1
       obtain ⟨cs',c1,c2⟩:=Option.bind_eq_some_iff.1 e1
       obtain ⟨d1,d2,d3⟩:=HB.cells_get c1
       rw [hb] at d1 d2 d3 c1
       obtain ⟨l,g1,g2⟩:=holds_of_trod n e (k :: ks') hd m' cs' _ c2
       refine ⟨l,cs',fun c hc=>?_,g1,g2⟩
       rw [←d3 c hc,HB.addr_add2]
      let rows:Rows:=(List.range len).map fun i=>if h:i < len then Classical.choose (row i h) else []
      have hlen:rows.length=len:=by simp [rows]
      have hget:∀i r,rows[i]?=some r→∃h:i < len,r=Classical.choose (row i h):=by
       intro i r hr
       have hi:i < len:=by rw [←hlen];exact (List.getElem?_eq_some_iff.1 hr).1
       refine ⟨hi,?_⟩
       simp only [rows,List.getElem?_map,List.getElem?_range hi,Option.map_some,Option.some.injEq] at hr
       rw [←hr,dif_pos hi]
      refine holds_one (d:=.l rows) ⟨⟨_,rfl,fun r hr=>?_,?_⟩,by simp,.inr ⟨a,cap,?_,?_,fun i r hr=>?_⟩⟩ (fun r hr=>?_)
      ·obtain ⟨i,hi⟩:=List.getElem?_of_mem hr
       obtain ⟨h,rfl⟩:=hget i r hi
       obtain ⟨_,_,h6,_⟩:=Classical.choose_spec (row i h)
       exact h6.len.1
      ·have h3:cap≤9223372036854775807:=h3
       rw [hlen];omega
      ·show Value.slice (some a) len cap=.slice (some a) rows.length cap
       rw [hlen]
      ·show rows.length≤cap
       rw [hlen];exact h2
      ·obtain ⟨h,rfl⟩:=hget i r hr
       obtain ⟨cs',h5',h6,_⟩:=Classical.choose_spec (row i h)
       exact ⟨cs',fun c hc=>h5' c (by simpa using hc),h6⟩
      ·obtain ⟨i,hi⟩:=List.getElem?_of_mem (show r∈rows from hr)
       obtain ⟨h,rfl⟩:=hget i r hi
       obtain ⟨_,_,_,h7⟩:=Classical.choose_spec (row i h)
       exact h7
    ·cases h
   ·cases h
  ·rename_i fs hu
   split at h
   ·rename_i ks' hd
    split at h
    ·rename_i hb
     rw [beqN_iff] at hb
     simp only [Option.some.injEq] at h
     subst h
     obtain ⟨xs,m',rfl,_,hl,hxs,hf⟩:=DataW.trod_struct hu hx
     have:=holds_fields (w:=w) (cs:=cs) fs.toList 0 ks' hd (by rw [hl,hb];simp) (fun f hm ks1 hk1=>?_)
     ·simpa using this
     ·obtain ⟨i,hi,rfl⟩:=List.mem_iff_getElem.1 hm
      have hi':i < fs.size:=by simpa using hi
      have e1:=hf i fs[i] (by simp [hi'])
      rw [List.getElem?_eq_getElem (by omega)] at e1
      have e2:fs.toList[i]=fs[i]:=by simp
      rw [e2] at hk1 ⊢
      exact holds_of_trod n _ ks1 hk1 m' _ _ e1
    ·cases h
   ·cases h
  ·rename_i m0 e hu
   split at h
   ·rename_i ks' hd
    split at h
    ·rename_i hb
     simp only [Bool.and_eq_true,beqN_iff] at hb
     simp only [Option.some.injEq] at h
     subst h
     cases m with
     |zero=>simp [DataW.trod] at hx
     |succ m'=>
      obtain ⟨hl,hi⟩:=HB.trod_array hu hx
      refine holds_rep m0 (by rw [hl,hb.2]) fun i h=>?_
      obtain ⟨y,hy⟩:=hi i h
      rw [hb.1] at hy
      exact holds_of_trod n e ks' hd m' _ y hy
    ·cases h
   ·cases h
  ·cases h
def strOf (z:ByteArray):List Nat:=z.data.toList.map UInt8.toNat
def valOf:Value→Option V
 |.int k n=>some (.int k n)
 |.bool b=>some (.bool b)
 |.string z=>some (.str (strOf z))
 |.slice none 0 0=>some .nils
 |.slice (some a) n cap=>if n≤cap then some (.rslc a n cap) else none
 |_=>none
noncomputable def roOf (w:World) (a:Addr):Option V:=match w.cell? a with
 |some u=>valOf u
 |none=>none
theorem valOf_rv {u:Value} {v:V} (h:valOf u=some v):one1 v=true∧∀ρ n,Rv ρ n v u:=by
 unfold valOf at h
 split at h
 ·cases h;exact ⟨rfl,fun _ _=>by simp only [Rv]⟩
 ·cases h;exact ⟨rfl,fun _ _=>by simp only [Rv]⟩
 ·cases h
  rename_i z
  refine ⟨rfl,fun _ _=>?_⟩
  simp only [Rv]
  refine ⟨fun b hb=>?_,by rw [strOf,bytes_of]⟩
  obtain ⟨x,_,rfl⟩:=List.mem_map.1 (show b∈z.data.toList.map UInt8.toNat from hb)
  exact x.toNat_lt
 ·cases h;exact ⟨rfl,fun _ _=>by simp only [Rv]⟩
 ·split at h
  ·rename_i hle
   cases h
   exact ⟨rfl,fun _ _=>by simp only [Rv];exact ⟨hle,trivial⟩⟩
  ·cases h
 ·cases h
theorem roOf_ok (w:World):RoAt (roOf w) w:=by
 intro a v h
 unfold roOf at h
 split at h
 ·rename_i u hu
  obtain ⟨h1,h2⟩:=valOf_rv h
  exact ⟨h1,u,hu,fun ρ n=>h2 ρ n⟩
 ·cases h
theorem str_bytes {s:List Nat} (h:∀b∈s,b < 256):strOf (bytesOf s)=s:=by
 simp only [strOf,bytesOf,List.map_map]
 induction s with
 |nil=>rfl
 |cons b s ih=>
  have hb:=h b (.head _)
  simp only [List.map_cons,Function.comp_apply,UInt8.toNat_ofNat',List.cons.injEq]
  exact ⟨Nat.mod_eq_of_lt hb,ih fun x hx=>h x (.tail _ hx)⟩
mutual
theorem rdK_fz {g:Nat→Option O} {B:Nat}:∀(k:Kd) (d:D) (u:Value),RdK w k d u→RngK k d→∃v,valOf u=some v∧FzC (roOf w) g B k d v
 |.int k,d,u,h,_=>by
  simp only [RdK] at h
  obtain ⟨⟨n,rfl⟩,rfl⟩:=h
  exact ⟨_,rfl,by simp only [FzC];exact ⟨⟨_,rfl⟩,trivial⟩⟩
 |.bool,d,u,h,_=>by
  simp only [RdK] at h
  obtain ⟨⟨n,rfl⟩,rfl⟩:=h
  exact ⟨_,rfl,by simp only [FzC];exact ⟨⟨_,rfl⟩,trivial⟩⟩
 |.str,d,u,h,hr=>by
  simp only [RdK] at h
  obtain ⟨⟨n,rfl⟩,rfl⟩:=h
  simp only [RngK,D.str] at hr
  refine ⟨_,rfl,?_⟩
  simp only [FzC,D.str,str_bytes hr]
  exact ⟨⟨_,rfl⟩,trivial⟩
 |.sl ks,d,u,h,hr=>by
  simp only [RdK] at h
  obtain ⟨⟨rows,rfl,hl⟩,hpos,h⟩:=h
  simp only [RngK,D.rows] at hr h
  rcases h with ⟨rfl,rfl⟩ |⟨a,cap,rfl,hcap,hrow⟩
  ·exact ⟨.nils,rfl,by simp only [FzC];exact ⟨⟨_,rfl,hl⟩,.inl ⟨rfl,trivial⟩⟩⟩
  ·refine ⟨.rslc a rows.length cap,by simp only [valOf];rw [if_pos hcap],?_⟩
   simp only [FzC,D.rows]
   refine ⟨⟨_,rfl,hl⟩,.inr (.inr ⟨a,cap,rfl,hpos,hcap,fun i hi=>?_⟩)⟩
   obtain ⟨cs,c1,c2⟩:=hrow i rows[i] (List.getElem?_eq_getElem hi)
   have hg:=hr rows[i] (List.getElem_mem hi)
   refine FzR.of _ _ _ _ fun j k hk=>?_
   have hj:j < ks.length:=(List.getElem?_eq_some_iff.1 hk).1
   obtain ⟨v,e1,e2⟩:=rdL_fz (g:=g) (B:=B) ks rows[i] cs c2 hg j k hk
   refine ⟨v,?_,?_⟩
   ·simp only [roOf,Nat.zero_add,c1 j hj]
    revert e1
    cases cs[j]? with
    |none=>intro e1;cases e1
    |some u=>intro e1;exact e1
   ·have:gt rows i (0+j)=rows[i].getD j .nil:=by simp [gt,List.getD_eq_getElem?_getD,hi]
    rw [this];exact e2
theorem rdL_fz {g:Nat→Option O} {B:Nat}:∀(ks:List Kd) (l:List D) (cs:List Value),RdL w ks l cs→RngL ks l→∀j k,ks[j]?=some k→∃v,(cs[j]?).bind valOf=some v∧FzC (roOf w) g B k (l.getD j .nil) v
 |[],_,_,_,_,j,k,hk=>by simp at hk
 |k0 :: ks,d :: l,c :: cs,h,hr,0,k,hk=>by
  simp only [RdL] at h
  simp only [RngL] at hr
  simp only [List.getElem?_cons_zero,Option.some.injEq] at hk
  subst hk
  obtain ⟨v,a,b⟩:=rdK_fz (g:=g) (B:=B) k0 d c h.1 hr.1
  exact ⟨v,by simpa using a,by simpa using b⟩
 |k0 :: ks,d :: l,c :: cs,h,hr,j+1,k,hk=>by
  simp only [RdL] at h
  simp only [RngL] at hr
  obtain ⟨v,a,b⟩:=rdL_fz (g:=g) (B:=B) ks l cs h.2 hr.2 j k (by simpa using hk)
  exact ⟨v,by simpa using a,by simpa using b⟩
 |_ :: _,[],_,h,_,_,_,_=>by simp [RdL] at h
 |_ :: _,_ :: _,[],h,_,_,_,_=>by simp [RdL] at h
end
theorem rdL_vals {g:Nat→Option O} {B:Nat} {ρ:Nm} {n:Nat}:∀(ks:List Kd) (l:List D) (cs:List Value),RdL w ks l cs→RngL ks l→
  ∃x:List V,x.length=ks.length∧(∀j k,ks[j]?=some k→∃u,x[j]?=some u∧FzC (roOf w) g B k (l.getD j .nil) u)∧RvL ρ n x cs
 |[],[],[],_,_=>⟨[],rfl,fun j k h=>by simp at h,by simp [RvL]⟩
 |k :: ks,d :: l,c :: cs,h,hr=>by
  simp only [RdL] at h
  simp only [RngL] at hr
  obtain ⟨v,a,b⟩:=rdK_fz (g:=g) (B:=B) k d c h.1 hr.1
  obtain ⟨x,e1,e2,e3⟩:=rdL_vals (g:=g) (B:=B) (ρ:=ρ) (n:=n) ks l cs h.2 hr.2
  refine ⟨v :: x,by simp [e1],fun j k' hk=>?_,by simp only [RvL];exact ⟨(valOf_rv a).2 ρ n,e3⟩⟩
  cases j with
  |zero=>
   simp only [List.getElem?_cons_zero,Option.some.injEq] at hk
   subst hk
   exact ⟨v,rfl,by simpa using b⟩
  |succ j=>simpa using e2 j k' (by simpa using hk)
 |[],[],_ :: _,h,_=>by simp [RdL] at h
 |[],_ :: _,_,h,_=>by simp [RdL] at h
 |_ :: _,[],_,h,_=>by simp [RdL] at h
 |_ :: _,_ :: _,[],h,_=>by simp [RdL] at h
def descAll (P:Program) (n:Nat):List TypeId→Option (List (Bool×List Kd))
 |[]=>some []
 |t :: r=>match desc P n t,descAll P n r with
  |some ks,some l=>some ((HB.isAgg P t,ks) :: l)
  |_,_=>none
def RngAll:List (Bool×List Kd)→List (List D)→Prop
 |(_,ks) :: r,d :: ds=>RngL ks d∧RngAll r ds
 |_,_=>True
def trueRes (_:List (List D)) (_ _:Nat):D:=.b true
def ArgsRd (w:World):List (Bool×List Kd)→List (List D)→List Value→Prop
 |[],[],[]=>True
 |(g,ks) :: r,d :: ds,v :: vs=>(RdL w ks d v.cells.toList∧(g=true→v=.agg (v.cells.toList).toArray)∧(g=false→v.cells.toList=[v]))∧ArgsRd w r ds vs
 |_,_,_=>False
theorem args_fz {g:Nat→Option O} {B:Nat} {ρ:Nm} {n:Nat}:∀(ps:List (Bool×List Kd)) (ds:List (List D)) (vs:List Value),ArgsRd w ps ds vs→RngAll ps ds→∃x:List V,ArgsFz (roOf w) g B ps ds x∧RvL ρ n x vs
 |[],[],[],_,_=>⟨[],trivial,by simp [RvL]⟩
 |(a,ks) :: ps,d :: ds,v :: vs,h,hr=>by
  obtain ⟨⟨h1,h2,h3⟩,h4⟩:=h
  obtain ⟨x,e1,e2,e3⟩:=rdL_vals (g:=g) (B:=B) (ρ:=ρ) (n:=n) ks d _ h1 hr.1
  obtain ⟨xs,f1,f2⟩:=args_fz (g:=g) (B:=B) (ρ:=ρ) (n:=n) ps ds vs h4 hr.2
  cases a with
  |true=>exact ⟨.agg x :: xs,⟨h1.len.1,⟨x,e1,e2,rfl⟩,f1⟩,by simp only [RvL,Rv];exact ⟨⟨_,e3,h2 rfl⟩,f2⟩⟩
  |false=>
   rw [h3 rfl] at e3
   match x,e3 with
   |[y],e3=>
    simp only [RvL,and_true] at e3
    exact ⟨y :: xs,⟨h1.len.1,⟨[y],e1,e2,y,rfl,rfl⟩,f1⟩,by simp only [RvL];exact ⟨e3,f2⟩⟩
   |[],e3=>simp [RvL] at e3
   |_ :: _ :: _,e3=>simp [RvL] at e3
 |[],[],_ :: _,h,_=>h.elim
 |[],_ :: _,_,h,_=>h.elim
 |_ :: _,[],_,h,_=>h.elim
 |_ :: _,_ :: _,[],h,_=>h.elim
theorem shape_of {r:Reach} {n:Nat} {t:TypeId} {ks:List Kd} {v:Value} (hd:desc P n t=some ks) (h:Value.okWide P w r base t v) :
  (HB.isAgg P t=true→v=.agg (v.cells.toList).toArray)∧(HB.isAgg P t=false→v.cells.toList=[v]):=by
 cases n with
 |zero=>simp [desc] at hd
 |succ n=>
  unfold desc at hd
  unfold HB.isAgg
  split at hd
  ·rename_i hu
   obtain ⟨b,rfl⟩:=okWide_bool hu h
   rw [hu]
   exact ⟨fun h=>(by cases h),fun _=>rfl⟩
  ·rename_i k hu
   obtain ⟨z,rfl⟩:=okWide_int hu h
   rw [hu]
   exact ⟨fun h=>(by cases h),fun _=>rfl⟩
  ·rename_i hu
   obtain ⟨z,rfl⟩:=okWide_string hu h
   rw [hu]
   exact ⟨fun h=>(by cases h),fun _=>rfl⟩
  ·rename_i e hu
   obtain ⟨a,l,c,rfl⟩:=okWide_slice hu h
   rw [hu]
   exact ⟨fun h=>(by cases h),fun _=>rfl⟩
  ·rename_i fs hu
   obtain ⟨cs,rfl,_⟩:=okWide_struct hu h
   rw [hu]
   exact ⟨fun _=>by simp [Value.cells],fun h=>by cases h⟩
  ·rename_i m e hu
   have:∃cs,v=.agg cs:=by
    unfold Value.okWide at h
    rw [hu] at h
    obtain ⟨cs,hc,_⟩:=h
    exact ⟨cs,hc⟩
   obtain ⟨cs,rfl⟩:=this
   rw [hu]
   exact ⟨fun _=>by simp [Value.cells],fun h=>by cases h⟩
  ·cases hd
theorem args_read {r:Reach} {n:Nat}:∀(ts:List TypeId) (params:List (Bool×List Kd)) (vs:List Value) (ds:List (DataW H)) (ps:List MemPlace),descAll P n ts=some params→
  (∀(j:Nat) t v,ts[j]?=some t→vs[j]?=some v→Value.okWide P w r base t v)→DataW.TrodAll enc P w 0 spare held ts vs ds ps→
  ∃dss,ArgsRd w params dss vs∧RngAll params dss
 |[],params,vs,ds,ps,hd,_,h=>by
  simp only [descAll,Option.some.injEq] at hd
  subst hd
  obtain ⟨rfl,_,_⟩:=trodAll_nil h
  exact ⟨[],trivial,trivial⟩
 |t :: ts,params,vs,ds,ps,hd,hok,h=>by
  unfold descAll at hd
  split at hd
  ·rename_i ks l hks hl
   simp only [Option.some.injEq] at hd
   subst hd
   cases vs with
   |nil=>simp [DataW.TrodAll] at h
   |cons v vs=>
    cases ds with
    |nil=>simp [DataW.TrodAll] at h
    |cons d ds=>
     obtain ⟨p,q,⟨m,hm⟩,h2,_⟩:=h
     obtain ⟨f,g1,g2⟩:=holds_of_trod n t ks hks m _ _ hm
     obtain ⟨dss,i1,i2⟩:=args_read ts l vs ds q hl (fun j t' v' ht hv=>hok (j+1) t' v' (by simpa using ht) (by simpa using hv)) h2
     obtain ⟨s1,s2⟩:=shape_of hks (hok 0 t v (by simp) (by simp))
     exact ⟨f :: dss,⟨⟨g1,s1,s2⟩,i1⟩,g2,i2⟩
  ·cases hd
end
section
variable {H:Type} {enc:TypeId×Value→H} {P:Program}
theorem said {fnum:FuncId} {f:Func} {s:ChangeSpec} {fresh handsOn again:Bool} {n:Nat} {params:List (Bool×List Kd)} {tb:TypeId}
  (hE:∀ro,CX.EnvOk (cxE ro) P) (hpure:∀ro,PureC0 (cxE ro) fnum ⟨params,[(false,[.bool])],false⟩ (RngAll params) trueRes) (hd:descAll P n f.params.toList=some params) (hl:laidOutB P=true)
  (hr:(f.params.toList.all fun t=>P.readableRec t && decide (t < P.types.size))=true) (hres:f.resultTypes=#[tb]) (hb:P.underlying tb=some .bool)
  (hs:∀ds:List (DataW H),ds.length=f.params.toList.length→s.fn H ds=⟨[.lit (.bool true)],ds,[]⟩) (hv:s.vars=[]) {apart:Bool} (W:World) (base:Nat) (args:Array Value) (ds gs:List (DataW H)) (before:List MemPlace)
  (hval:∀(j:Nat) t v,f.params[j]?=some t→args[j]?=some v→Value.okWide P W .any base t v) (hW:DataW.Whole enc P f.params.toList s.vars apart W args.toList ds gs before) :
  Calls P fnum args W fun e W'=>∃v,e=.returned v∧s.post enc P f apart fresh handsOn again W args v W':=by
 have hW':=hW
 obtain ⟨p,q,hA,hV,rfl,_,_⟩:=hW
 rw [hv] at hV
 obtain ⟨rfl,rfl⟩:=trodVars_none hV
 obtain ⟨dss,h1,h2⟩:=args_read (r:=.any) (base:=base) f.params.toList params args.toList ds p hd (fun j t v ht hv=>hval j t v (by simpa using ht) (by simpa using hv)) hA
 have hlen:=(trodAll_length hA).2
 have hfn:s.fn H (ds++[])=⟨[.lit (.bool true)],ds,[]⟩:=by rw [List.append_nil];exact hs ds hlen
 obtain ⟨xs,x1,x2⟩:=args_fz (g:=fun _=>none) (B:=0) (ρ:=fun _=>none) (n:=0) params dss args.toList h1 h2
 obtain ⟨vs,h',nx',g',⟨n0,hrun⟩,hresF⟩:=hpure (roOf W) dss h2 xs x1
 have hvs:vs=[.bool true]:=by
  match vs,hresF with
  |[v],hresF=>
   obtain ⟨⟨x,_,e2,u,rfl,rfl⟩,_⟩:=hresF
   obtain ⟨u,e3,e4⟩:=e2 0 .bool rfl
   simp only [List.getElem?_cons_zero,Option.some.injEq] at e3
   subst e3
   simp only [FzC] at e4
   rw [e4.2];rfl
  |[],hresF=>simp [ResFz] at hresF
  |_ :: _ :: _,hresF=>simp [ResFz] at hresF
 subst hvs
 have hcall:=call_ro (hE (roOf W)) (w:=W) (roOf_ok W) x2 (hrun n0 (Nat.le_refl _) retV)
 rw [show args.toList.toArray=args by simp] at hcall
 refine hcall.mono fun e W' h=>?_
 obtain ⟨u,ρ,m,rfl,hu,hk⟩:=h
 simp only [CX.one,Rv] at hu
 subst hu
 have hlt:=hW'.lt
 simp only [List.append_nil] at hW' hlt
 refine ⟨_,rfl,CX.post_kept (pa:=p) (pv:=[]) hW' (fun b sp hd=>?_) (fun sp hsp=>?_) (fun sp _=>?_) (by simp) hk (ok_one hres rfl (okWide_bool_mk hb _))⟩
 ·rw [hfn,hres]
  exact trodAll_mk1 (shut_bool hb _)
 ·rw [hfn]
  exact HB.args_stay hl hr hA (fun x hx=>HB.Kept_same hk (hlt x hx)) (fun x hx=>hsp x hx)
 ·rw [hfn,hv]
  rfl
end
end HX

namespace HX
open Go Go.Proofs
theorem own:ownKnob Try.prog.godebug=none:=by kernel_rfl
theorem laid:laidOutB Try.prog=true:=by kernel_rfl
end HX

namespace HX
open Go Go.Proofs CX
inductive Ctrs (E:CX.Env):List Ctr→Prop
 |nil:Ctrs E []
 |cons {c:Ctr} {l:List Ctr} (h:PureC E c.f c.sg c.pre c.res) (r:Ctrs E l):Ctrs E (c :: l)
theorem Ctrs.find {E:CX.Env}:∀{l:List Ctr},Ctrs E l→∀{f:Nat} {sg:Sig},sigL (sigs l) f=some sg→PureC E f sg (preOf l f) (resOf l f)
 |[],_,f,sg,h=>by simp [sigL,sigs,look] at h
 |c :: l,.cons h1 h2,f,sg,h=>by
  simp only [sigL,sigs,List.map_cons] at h
  rw [look_cons] at h
  split at h
  ·rename_i e
   simp only [Option.some.injEq] at h
   subst e h
   have e1:preOf (c :: l) c.f=c.pre:=by funext ds;simp [preOf,ctrOf]
   have e2:resOf (c :: l) c.f=c.res:=by funext ds;simp [resOf,ctrOf]
   rw [e1,e2];exact h1
  ·rename_i e
   have e1:preOf (c :: l) f=preOf l f:=by funext ds;simp [preOf,ctrOf,e]
   have e2:resOf (c :: l) f=resOf l f:=by funext ds;simp [resOf,ctrOf,e]
   rw [e1,e2]
   exact h2.find h
theorem envL {ro:Addr→Option V} {l:List Ctr} (h:Ctrs (cxE ro) l):EnvOk ⟨Ar.std,cxE ro,ksF,sigL (sigs l),preOf l,resOf l⟩:=hxEnv fun _ _ hs=>h.find hs
end HX

namespace HX
open Go Go.Proofs CX
theorem wrap64 {n:Int} (h1:-9223372036854775808≤n) (h2:n≤9223372036854775807):IntKind.wrap .i64 n=n:=by
 simp [IntKind.wrap,IntKind.bits,IntKind.signed];omega
theorem shr_eq {v k:Int} (hk:0≤k) (h2:k≤64):Ar.std.shr .i64 v k=v / 2 ^ k.toNat:=by
 show v.fdiv (2 ^ (Nat.min k.toNat 64))=_
 rw [show Nat.min k.toNat 64=k.toNat from Nat.min_eq_left (by omega),Int.fdiv_eq_ediv_of_nonneg _ (Int.le_of_lt (Int.pow_pos (by omega)))]
theorem shr_bd {v k:Int} (hv:0≤v) (hk:0≤k) (h2:k≤64):0≤Ar.std.shr .i64 v k∧Ar.std.shr .i64 v k≤v:=by
 rw [shr_eq hk h2]
 exact ⟨Int.ediv_nonneg hv (Int.le_of_lt (Int.pow_pos (by omega))),Int.ediv_le_self _ hv⟩
theorem pow_le (m:Nat) (h:m≤24):(1:Int)≤2 ^ m∧(2:Int) ^ m≤16777216:=by
 have h0:(0:Int) < 2 ^ m:=Int.pow_pos (by omega)
 refine ⟨by omega,?_⟩
 have:(2:Nat) ^ m≤2 ^ 24:=Nat.pow_le_pow_right (by omega) h
 have:(2:Int) ^ m=((2 ^ m:Nat):Int):=by rw [Int.natCast_pow];rfl
 omega
theorem shl_one {k:Int} (h1:0≤k) (h2:k≤24):Ar.std.shl .i64 1 k=2 ^ k.toNat:=by
 show IntKind.wrap .i64 (1 * 2 ^ (Nat.min k.toNat 64))=_
 rw [show Nat.min k.toNat 64=k.toNat from Nat.min_eq_left (by omega),Int.one_mul]
 have:=pow_le k.toNat (by omega)
 exact wrap64 (by omega) (by omega)
noncomputable def lowG (a n:Int):Nat→Nat
 |0=>24
 |f+1=>if Ar.std.shl .i64 n ((23 - f:Nat):Int) < a then lowG a n f else 23 - f
noncomputable def lowK (m:Int×Int):Nat:=lowG m.1 m.2 24
theorem lowG_le (a n:Int):∀f,lowG a n f≤24
 |0=>Nat.le_refl _
 |f+1=>by
  rw [lowG]
  split
  ·exact lowG_le a n f
  ·omega
theorem lowK_le (m:Int×Int):lowK m≤24:=lowG_le _ _ _
def lrn (m:Int×Int) (v:Int):Int×Int:=if m.2+1=64 then (Int.tdiv (m.1+v) 2,Int.tdiv (m.2+1) 2) else (m.1+v,m.2+1)
structure MOk (m:Int×Int):Prop where
 a0:0≤m.1
 a1:m.1≤8589934592 * m.2
 n0:1≤m.2
 n1:m.2≤63
theorem MOk.lrn {m:Int×Int} (h:MOk m) {v:Int} (h0:0≤v) (h1:v≤8589934592):MOk (lrn m v):=by
 have:=h.a0;have:=h.a1;have:=h.n0;have:=h.n1
 unfold HX.lrn
 split
 ·refine ⟨?_,?_,?_,?_⟩<;>simp only []<;>(try rw [Int.tdiv_eq_ediv_of_nonneg (by omega)])<;>(try rw [Int.tdiv_eq_ediv_of_nonneg (by omega)])<;>omega
 ·refine ⟨?_,?_,?_,?_⟩<;>simp only []<;>omega
theorem mok_1:MOk (4,1):=⟨by decide,by decide,by decide,by decide⟩
noncomputable def bitB (v k:Int):Int:=Ar.std.wrap .u8 (Ar.std.bit .and .i64 (Ar.std.shr .i64 v k) 1)
noncomputable def orL (o:Rows) (b sh:Int):Rows:=List.set o (Int.toNat ((o.length:Int) - 1)) [D.i (Ar.std.bit .or .u8 (D.int (gt o (Int.toNat ((o.length:Int) - 1)) 0)) (Ar.std.shl .u8 b sh))]
noncomputable def put1 (s:Rows×Int) (v k:Int):Rows×Int:=if s.2=0 then (orL (s.1++[[D.i 0]]) (bitB v k) (8 - 1),8 - 1) else (orL s.1 (bitB v k) (s.2 - 1),s.2 - 1)
noncomputable def putN (v:Int):Nat→Rows×Int→Rows×Int
 |0,s=>s
 |n+1,s=>putN v n (put1 s v n)
noncomputable def wrS (m:Int×Int) (v:Int) (s:Rows×Int):Rows×Int:=
 if Ar.std.shr .i64 v (lowK m:Int) < 24 then putN v (lowK m) (putN (Ar.std.shl .i64 1 (Ar.std.shr .i64 v (lowK m:Int)+1) - 2) (Ar.std.shr .i64 v (lowK m:Int)+1).toNat s)
 else putN v 31 (putN 16777215 24 s)
structure Wf (s:Rows×Int):Prop where
 pos:0 < s.1.length
 r0:0≤s.2
 r7:s.2≤7
def bitsN (s:Rows×Int):Int:=8 * s.1.length - s.2
theorem orL_len (o:Rows) (b sh:Int):(orL o b sh).length=o.length:=by simp [orL]
theorem put1_wf {s:Rows×Int} (h:Wf s) (v k:Int):Wf (put1 s v k)∧bitsN (put1 s v k)=bitsN s+1:=by
 obtain ⟨h1,h2,h3⟩:=h
 unfold put1 bitsN
 split
 ·refine ⟨⟨?_,?_,?_⟩,?_⟩<;>simp only [orL_len,List.length_append,List.length_cons,List.length_nil]<;>omega
 ·refine ⟨⟨?_,?_,?_⟩,?_⟩<;>simp only [orL_len]<;>omega
theorem putN_wf (v:Int):∀(n:Nat) {s:Rows×Int},Wf s→Wf (putN v n s)∧bitsN (putN v n s)=bitsN s+n
 |0,s,h=>⟨h,by simp [putN]⟩
 |n+1,s,h=>by
  obtain ⟨a,b⟩:=put1_wf h v n
  obtain ⟨c,d⟩:=putN_wf v n a
  exact ⟨c,by rw [putN,d,b];omega⟩
theorem wrS_wf {m:Int×Int} {v:Int} (hv:0≤v) {s:Rows×Int} (h:Wf s):Wf (wrS m v s)∧bitsN s≤bitsN (wrS m v s)∧bitsN (wrS m v s)≤bitsN s+55:=by
 have hk:=lowK_le m
 have hq:=shr_bd (v:=v) (k:=(lowK m:Int)) hv (by omega) (by omega)
 unfold wrS
 split
 ·obtain ⟨a,b⟩:=putN_wf (Ar.std.shl .i64 1 (Ar.std.shr .i64 v (lowK m:Int)+1) - 2) (Ar.std.shr .i64 v (lowK m:Int)+1).toNat h
  obtain ⟨c,d⟩:=putN_wf v (lowK m) a
  exact ⟨c,by rw [d,b];omega,by rw [d,b];omega⟩
 ·obtain ⟨a,b⟩:=putN_wf 16777215 24 h
  obtain ⟨c,d⟩:=putN_wf v 31 a
  exact ⟨c,by rw [d,b];omega,by rw [d,b];omega⟩
def eT (l:Rows) (i:Nat):Int:=(gt l i 0).int
def eI (l:Rows) (i:Nat):Int:=(gt l i 1).int
structure PkS where
 o:Rows
 r:Int
 t:Int×Int
 d:Int×Int
 bt:Int
 bi:Int
def gapE (l:Rows) (q:Nat) (bt:Int):Int:=if 0 < q then eT l q - bt else eT l q
def plcE (l:Rows) (q:Nat) (bt bi:Int):Int:=if eT l q=bt then eI l q - (bi+1) else eI l q
noncomputable def hdrP (l:Rows):Rows:=[[D.i 71],[D.i 83],[D.i (Ar.std.wrap .u8 (Ar.std.shr .i64 (l.length:Int) 16))],[D.i (Ar.std.wrap .u8 (Ar.std.shr .i64 (l.length:Int) 8))],[D.i (Ar.std.wrap .u8 (l.length:Int))]]
noncomputable def pkS (l:Rows):Nat→PkS
 |0=>⟨hdrP l,0,(4,1),(4,1),-1,0⟩
 |q+1=>
  let s:=pkS l q
  let w:=wrS s.t (gapE l q s.bt) (s.o,s.r)
  let w2:=wrS s.d (plcE l q s.bt s.bi) w
  ⟨w2.1,w2.2,lrn s.t (gapE l q s.bt),lrn s.d (plcE l q s.bt s.bi),eT l q,eI l q⟩
structure EvOk' (l:Rows):Prop where
 rt:∀i,i < l.length→0≤eT l i∧eT l i≤1073741824
 ri:∀i,i < l.length→0≤eI l i∧eI l i≤65535
 up:∀i,i+1 < l.length→eT l i < eT l (i+1)∨(eT l i=eT l (i+1)∧eI l i < eI l (i+1))
theorem pk_before (l:Rows) (q:Nat):(pkS l q).bt=(if q=0 then -1 else eT l (q - 1))∧(pkS l q).bi=(if q=0 then 0 else eI l (q - 1)):=by
 cases q with
 |zero=>exact ⟨rfl,rfl⟩
 |succ q=>exact ⟨rfl,rfl⟩
theorem gap_bd {l:Rows} (h:EvOk' l) {q:Nat} (hq:q < l.length):(0≤gapE l q (pkS l q).bt∧gapE l q (pkS l q).bt≤1073741825)∧0≤plcE l q (pkS l q).bt (pkS l q).bi∧plcE l q (pkS l q).bt (pkS l q).bi≤65535:=by
 obtain ⟨e1,e2⟩:=pk_before l q
 have:=h.rt q hq
 have:=h.ri q hq
 rw [e1,e2]
 unfold gapE plcE
 by_cases e:q=0
 ·subst e
  simp only [if_pos,Nat.lt_irrefl,if_false]
  rw [if_neg (by omega)]
  omega
 ·obtain ⟨p,rfl⟩:∃p,q=p+1:=⟨q - 1,by omega⟩
  have:=h.rt p (by omega)
  have:=h.ri p (by omega)
  have:=h.up p hq
  simp only [Nat.add_sub_cancel,if_neg (show ¬p+1=0 by omega)]
  rw [if_pos (by omega)]
  split<;>omega
theorem pk_ok {l:Rows} (h:EvOk' l):∀q,q≤l.length→Wf ((pkS l q).o,(pkS l q).r)∧40≤bitsN ((pkS l q).o,(pkS l q).r)∧bitsN ((pkS l q).o,(pkS l q).r)≤40+110 * q∧MOk (pkS l q).t∧MOk (pkS l q).d
 |0,_=>⟨⟨by simp [pkS,hdrP],by simp [pkS],by simp [pkS]⟩,by simp [pkS,hdrP,bitsN],by simp [pkS,hdrP,bitsN],mok_1,mok_1⟩
 |q+1,hq=>by
  obtain ⟨h1,h2,h3,h4,h5⟩:=pk_ok h q (by omega)
  obtain ⟨g1,g2⟩:=gap_bd h (q:=q) (by omega)
  obtain ⟨a1,a2,a3⟩:=wrS_wf (m:=(pkS l q).t) g1.1 h1
  obtain ⟨b1,b2,b3⟩:=wrS_wf (m:=(pkS l q).d) g2.1 a1
  exact ⟨b1,by show _≤bitsN (wrS _ _ _);omega,by show bitsN (wrS _ _ _)≤_;omega,h4.lrn g1.1 (by omega),h5.lrn g2.1 (by omega)⟩
end HX

namespace HX
open Go Go.Proofs CX
theorem wrapU8 {n:Int} (h1:0≤n) (h2:n≤255):IntKind.wrap .u8 n=n:=by
 simp [IntKind.wrap,IntKind.bits,IntKind.signed];omega
theorem wrapU8_rng (n:Int):0≤IntKind.wrap .u8 n∧IntKind.wrap .u8 n≤255:=by
 simp [IntKind.wrap,IntKind.bits,IntKind.signed];omega
theorem toNat_ofInt {n:Nat} {x:Int} (h1:0≤x) (h2:x < 2 ^ n):(BitVec.ofInt n x).toNat=x.toNat:=by
 rw [BitVec.toNat_ofInt,Int.emod_eq_of_lt h1 (by simpa using h2)]
theorem and1_i64 {x:Int} (h1:0≤x) (h2:x≤9223372036854775807):Ar.std.bit .and .i64 x 1=x % 2:=by
 show IntKind.wrap .i64 ((BitVec.ofInt 64 x &&& BitVec.ofInt 64 1).toNat:Int)=_
 have e:(BitVec.ofInt 64 x &&& BitVec.ofInt 64 1).toNat=x.toNat % 2:=by
  rw [BitVec.toNat_and,toNat_ofInt h1 (by omega),toNat_ofInt (by omega) (by decide),show (1:Int).toNat=1 from rfl,Nat.and_one_is_mod]
 rw [e,wrap64 (by omega) (by omega)]
 omega
theorem and1_u8 {x:Int} (h1:0≤x) (h2:x≤255):Ar.std.bit .and .u8 x 1=x % 2:=by
 show IntKind.wrap .u8 ((BitVec.ofInt 8 x &&& BitVec.ofInt 8 1).toNat:Int)=_
 have e:(BitVec.ofInt 8 x &&& BitVec.ofInt 8 1).toNat=x.toNat % 2:=by
  rw [BitVec.toNat_and,toNat_ofInt h1 (by omega),toNat_ofInt (by omega) (by decide),show (1:Int).toNat=1 from rfl,Nat.and_one_is_mod]
 rw [e,wrapU8 (by omega) (by omega)]
 omega
theorem or_add {a b i:Nat} (h:b < 2 ^ i):(a * 2 ^ i) ||| b=a * 2 ^ i+b:=by
 rw [←Nat.shiftLeft_eq,Nat.shiftLeft_add_eq_or_of_lt h]
theorem or_u8 {a b:Int} {s:Nat} (hs:s≤7) (h1:0≤a) (h2:a≤255) (h3:a % 2 ^ (s+1)=0) (b0:0≤b) (b1:b≤1):Ar.std.bit .or .u8 a (Ar.std.shl .u8 b s)=a+b * 2 ^ s:=by
 have hp:(2:Nat) ^ s≤128:=Nat.pow_le_pow_right (by omega:0 < 2) hs
 have hpi:(2:Int) ^ s=((2 ^ s:Nat):Int):=by rw [Int.natCast_pow];rfl
 have hpi1:(2:Int) ^ (s+1)=((2 ^ (s+1):Nat):Int):=by rw [Int.natCast_pow];rfl
 have hbs:0≤b * 2 ^ s∧b * 2 ^ s≤128:=by
  rcases (show b=0∨b=1 by omega) with rfl |rfl<;>rw [hpi]<;>omega
 have e0:Ar.std.shl .u8 b s=b * 2 ^ s:=by
  show IntKind.wrap .u8 (b * 2 ^ (Nat.min (s:Int).toNat 8))=_
  rw [show Nat.min (s:Int).toNat 8=s from Nat.min_eq_left (by omega),wrapU8 (by omega) (by omega)]
 rw [e0]
 show IntKind.wrap .u8 ((BitVec.ofInt 8 a ||| BitVec.ofInt 8 (b * 2 ^ s)).toNat:Int)=_
 obtain ⟨m,hm⟩:∃m:Nat,a.toNat=m * 2 ^ (s+1):=by
  refine ⟨a.toNat / 2 ^ (s+1),?_⟩
  have:a.toNat % 2 ^ (s+1)=0:=by
   rw [hpi1,show a=((a.toNat:Nat):Int) by omega] at h3
   exact_mod_cast h3
  have:=Nat.div_add_mod a.toNat (2 ^ (s+1))
  rw [Nat.mul_comm];omega
 have hb:(b * 2 ^ s).toNat < 2 ^ (s+1):=by
  rw [Nat.pow_succ]
  rcases (show b=0∨b=1 by omega) with rfl |rfl<;>rw [hpi]<;>omega
 have hsum:a+b * 2 ^ s≤255:=by
  -- a is a multiple of 2^(s+1) below 256
  have h8:∃n:Nat,256=n * 2 ^ (s+1):=⟨2 ^ (7 - s),by rw [←Nat.pow_add,show 7 - s+(s+1)=8 by omega]⟩
  obtain ⟨n,hn⟩:=h8
  have hlt:m < n:=by
   refine Nat.lt_of_mul_lt_mul_right (a:=2 ^ (s+1)) ?_
   omega
  have:(m+1) * 2 ^ (s+1)≤n * 2 ^ (s+1):=Nat.mul_le_mul_right _ hlt
  rw [Nat.add_mul] at this
  omega
 have e:(BitVec.ofInt 8 a ||| BitVec.ofInt 8 (b * 2 ^ s)).toNat=(a+b * 2 ^ s).toNat:=by
  rw [BitVec.toNat_or,toNat_ofInt h1 (by omega),toNat_ofInt hbs.1 (by omega),hm,or_add hb]
  omega
 rw [e,wrapU8 (by omega) (by omega)]
 omega
theorem shr_u8 {x:Int} {s:Nat} (hs:s≤7):Ar.std.shr .u8 x s=x / 2 ^ s:=by
 show x.fdiv (2 ^ (Nat.min (s:Int).toNat 8))=_
 rw [show Nat.min (s:Int).toNat 8=s from Nat.min_eq_left (by omega),Int.fdiv_eq_ediv_of_nonneg _ (Int.le_of_lt (Int.pow_pos (by omega)))]
theorem bitB_eq {v k:Int} (hv:0≤v) (hv2:v≤9223372036854775807) (hk:0≤k) (h2:k≤64):bitB v k=v / 2 ^ k.toNat % 2:=by
 have:=shr_bd (v:=v) hv hk h2
 rw [bitB,and1_i64 this.1 (by omega),shr_eq hk h2]
 exact wrapU8 (by omega) (by omega)
def bAt (l:Rows) (p:Nat):Int:=(gt l (p / 8) 0).int / 2 ^ (7 - p % 8) % 2
theorem bAt_rng (l:Rows) (p:Nat):0≤bAt l p∧bAt l p≤1:=by unfold bAt;omega
end HX

namespace HX
open Go Go.Proofs CX
structure V92 (a0_0:Int) (a0_1:Int) (R:Nat→Nat→D) (I0:Int→Prop) (m0:Int→Nat):Prop where
 i0:I0 0
 g1:∀x0_0,I0 x0_0→(x0_0 < 24)→0≤x0_0
 g2:∀x0_0,I0 x0_0→(x0_0 < 24)→((Ar.std.shl IntKind.i64 a0_1 x0_0) < a0_0)→-9223372036854775808≤(x0_0+1)∧(x0_0+1)≤9223372036854775807
 n3:∀x0_0,I0 x0_0→(x0_0 < 24)→((Ar.std.shl IntKind.i64 a0_1 x0_0) < a0_0)→I0 (x0_0+1)∧m0 (x0_0+1) < m0 x0_0
 g4:∀x0_0,I0 x0_0→(x0_0 < 24)→(¬(Ar.std.shl IntKind.i64 a0_1 x0_0) < a0_0)→R 0 0=D.i x0_0
 g5:∀x0_0,I0 x0_0→(¬x0_0 < 24)→R 0 0=D.i x0_0
end HX

namespace HX
open Go Go.Proofs CX
abbrev vZ63 (x:Int):=-9223372036854775808≤x∧x≤9223372036854775807
structure V63r1 (a0:Rows) (b0:Int) (b7:Int) (I1:Int→Prop):Prop where
 g7:(0 < b0)→vZ63 (((D.int (gt a0 b0.toNat 0)) - b7))
 n8:(0 < b0)→I1 ((D.int (gt a0 b0.toNat 0)) - b7)
 n9:(¬0 < b0)→I1 (D.int (gt a0 b0.toNat 0))
structure V63r2 (a0:Rows) (b0:Int) (b7:Int) (b8:Int) (I2:Int→Prop):Prop where
 g11:((D.int (gt a0 b0.toNat 0))=b7)→vZ63 ((b8+1))
 g12:((D.int (gt a0 b0.toNat 0))=b7)→vZ63 (((D.int (gt a0 b0.toNat 1)) - (b8+1)))
 n13:((D.int (gt a0 b0.toNat 0))=b7)→I2 ((D.int (gt a0 b0.toNat 1)) - (b8+1))
 n14:(¬(D.int (gt a0 b0.toNat 0))=b7)→I2 (D.int (gt a0 b0.toNat 1))
structure V63c5 (b3:Int) (b4:Int) (d0:Int) (k0:Int) (k1:Rows) (k2:Int) (I3:Rows→Int→Int→Int→Prop) (I5:Int→Rows→Int→Prop) (m5:Int→Rows→Int→Nat):Prop where
 g53:(0≤k0)→(k2=0)→(k1.length+(List.length ([[D.i 0]]:Rows))) * 1≤4294967296∧(k1.length+(List.length ([[D.i 0]]:Rows)))≤4294967296
 g54:(0≤k0)→(k2=0)→vZ63 (((8 - 1):Int))
 g55:(0≤k0)→(k2=0)→vZ63 (((((k1++[[D.i 0]])).length:Int) - 1))
 g56:(0≤k0)→(k2=0)→0≤((((k1++[[D.i 0]])).length:Int) - 1)
 g57:(0≤k0)→(k2=0)→((((k1++[[D.i 0]])).length:Int) - 1) < (((k1++[[D.i 0]])).length:Int)
 g58:(0≤k0)→(k2=0)→(((Int.toNat ((((k1++[[D.i 0]])).length:Int) - 1):Nat):Int)) < (((k1++[[D.i 0]])).length:Int)
 g60:(0≤k0)→(k2=0)→0≤k0
 g61:(0≤k0)→(k2=0)→(0:Int)≤(8 - 1)
 g65:(0≤k0)→(k2=0)→vZ63 ((k0 - 1))
 n66:(0≤k0)→(k2=0)→I5 (k0 - 1) (List.set (k1++[[D.i 0]]) (Int.toNat ((((k1++[[D.i 0]])).length:Int) - 1)) [D.i (Ar.std.bit BinOp.or IntKind.u8 (D.int (gt (k1++[[D.i 0]]) (Int.toNat ((((k1++[[D.i 0]])).length:Int) - 1)) 0)) (Ar.std.shl IntKind.u8 (Ar.std.wrap IntKind.u8 (Ar.std.bit BinOp.and IntKind.i64 (Ar.std.shr IntKind.i64 d0 k0) 1)) (8 - 1)))]) (8 - 1)∧m5 (k0 - 1) (List.set (k1++[[D.i 0]]) (Int.toNat ((((k1++[[D.i 0]])).length:Int) - 1)) [D.i (Ar.std.bit BinOp.or IntKind.u8 (D.int (gt (k1++[[D.i 0]]) (Int.toNat ((((k1++[[D.i 0]])).length:Int) - 1)) 0)) (Ar.std.shl IntKind.u8 (Ar.std.wrap IntKind.u8 (Ar.std.bit BinOp.and IntKind.i64 (Ar.std.shr IntKind.i64 d0 k0) 1)) (8 - 1)))]) (8 - 1) < m5 k0 k1 k2
 g67:(0≤k0)→(¬k2=0)→vZ63 ((k2 - 1))
 g68:(0≤k0)→(¬k2=0)→vZ63 (((k1.length:Int) - 1))
 g69:(0≤k0)→(¬k2=0)→0≤((k1.length:Int) - 1)
 g70:(0≤k0)→(¬k2=0)→((k1.length:Int) - 1) < (k1.length:Int)
 g71:(0≤k0)→(¬k2=0)→(((Int.toNat ((k1.length:Int) - 1):Nat):Int)) < (k1.length:Int)
 g73:(0≤k0)→(¬k2=0)→0≤k0
 g74:(0≤k0)→(¬k2=0)→0≤(k2 - 1)
 g78:(0≤k0)→(¬k2=0)→vZ63 ((k0 - 1))
 n79:(0≤k0)→(¬k2=0)→I5 (k0 - 1) (List.set k1 (Int.toNat ((k1.length:Int) - 1)) [D.i (Ar.std.bit BinOp.or IntKind.u8 (D.int (gt k1 (Int.toNat ((k1.length:Int) - 1)) 0)) (Ar.std.shl IntKind.u8 (Ar.std.wrap IntKind.u8 (Ar.std.bit BinOp.and IntKind.i64 (Ar.std.shr IntKind.i64 d0 k0) 1)) (k2 - 1)))]) (k2 - 1)∧m5 (k0 - 1) (List.set k1 (Int.toNat ((k1.length:Int) - 1)) [D.i (Ar.std.bit BinOp.or IntKind.u8 (D.int (gt k1 (Int.toNat ((k1.length:Int) - 1)) 0)) (Ar.std.shl IntKind.u8 (Ar.std.wrap IntKind.u8 (Ar.std.bit BinOp.and IntKind.i64 (Ar.std.shr IntKind.i64 d0 k0) 1)) (k2 - 1)))]) (k2 - 1) < m5 k0 k1 k2
 g80:(¬0≤k0)→vZ63 ((b3+d0))
 g81:(¬0≤k0)→vZ63 ((b4+1))
 g82:(¬0≤k0)→((b4+1)=64)→(2:Int)≠0
 g83:(¬0≤k0)→((b4+1)=64)→vZ63 ((Int.tdiv (b3+d0) 2))
 g85:(¬0≤k0)→((b4+1)=64)→vZ63 ((Int.tdiv (b4+1) 2))
 n86:(¬0≤k0)→((b4+1)=64)→I3 k1 k2 (Int.tdiv (b3+d0) 2) (Int.tdiv (b4+1) 2)
 n87:(¬0≤k0)→(¬(b4+1)=64)→I3 k1 k2 (b3+d0) (b4+1)
abbrev V63l5 (fn:Nat→List (List D)→Nat→Nat→D) (b3:Int) (b4:Int) (d0:Int) (j1:Rows) (j2:Int) (I3:Rows→Int→Int→Int→Prop):Prop:=∃(I5:Int→Rows→Int→Prop) (m5:Int→Rows→Int→Nat),I5 ((D.int (fn 92 [[D.i b3,D.i b4]] 0 0)) - 1) j1 j2∧∀k0 k1 k2,I5 k0 k1 k2→V63c5 b3 b4 d0 k0 k1 k2 I3 I5 m5
structure V63c4 (fn:Nat→List (List D)→Nat→Nat→D) (b3:Int) (b4:Int) (d0:Int) (j0:Int) (j1:Rows) (j2:Int) (I3:Rows→Int→Int→Int→Prop) (I4:Int→Rows→Int→Prop) (m4:Int→Rows→Int→Nat):Prop where
 g24:(0≤j0)→(j2=0)→(j1.length+(List.length ([[D.i 0]]:Rows))) * 1≤4294967296∧(j1.length+(List.length ([[D.i 0]]:Rows)))≤4294967296
 g25:(0≤j0)→(j2=0)→vZ63 (((8 - 1):Int))
 g26:(0≤j0)→(j2=0)→vZ63 (((((j1++[[D.i 0]])).length:Int) - 1))
 g27:(0≤j0)→(j2=0)→0≤((((j1++[[D.i 0]])).length:Int) - 1)
 g28:(0≤j0)→(j2=0)→((((j1++[[D.i 0]])).length:Int) - 1) < (((j1++[[D.i 0]])).length:Int)
 g29:(0≤j0)→(j2=0)→(((Int.toNat ((((j1++[[D.i 0]])).length:Int) - 1):Nat):Int)) < (((j1++[[D.i 0]])).length:Int)
 g31:(0≤j0)→(j2=0)→0≤j0
 g32:(0≤j0)→(j2=0)→(0:Int)≤(8 - 1)
 g36:(0≤j0)→(j2=0)→vZ63 ((j0 - 1))
 n37:(0≤j0)→(j2=0)→I4 (j0 - 1) (List.set (j1++[[D.i 0]]) (Int.toNat ((((j1++[[D.i 0]])).length:Int) - 1)) [D.i (Ar.std.bit BinOp.or IntKind.u8 (D.int (gt (j1++[[D.i 0]]) (Int.toNat ((((j1++[[D.i 0]])).length:Int) - 1)) 0)) (Ar.std.shl IntKind.u8 (Ar.std.wrap IntKind.u8 (Ar.std.bit BinOp.and IntKind.i64 (Ar.std.shr IntKind.i64 ((Ar.std.shl IntKind.i64 1 ((Ar.std.shr IntKind.i64 d0 (D.int (fn 92 [[D.i b3,D.i b4]] 0 0)))+1)) - 2) j0) 1)) (8 - 1)))]) (8 - 1)∧m4 (j0 - 1) (List.set (j1++[[D.i 0]]) (Int.toNat ((((j1++[[D.i 0]])).length:Int) - 1)) [D.i (Ar.std.bit BinOp.or IntKind.u8 (D.int (gt (j1++[[D.i 0]]) (Int.toNat ((((j1++[[D.i 0]])).length:Int) - 1)) 0)) (Ar.std.shl IntKind.u8 (Ar.std.wrap IntKind.u8 (Ar.std.bit BinOp.and IntKind.i64 (Ar.std.shr IntKind.i64 ((Ar.std.shl IntKind.i64 1 ((Ar.std.shr IntKind.i64 d0 (D.int (fn 92 [[D.i b3,D.i b4]] 0 0)))+1)) - 2) j0) 1)) (8 - 1)))]) (8 - 1) < m4 j0 j1 j2
 g38:(0≤j0)→(¬j2=0)→vZ63 ((j2 - 1))
 g39:(0≤j0)→(¬j2=0)→vZ63 (((j1.length:Int) - 1))
 g40:(0≤j0)→(¬j2=0)→0≤((j1.length:Int) - 1)
 g41:(0≤j0)→(¬j2=0)→((j1.length:Int) - 1) < (j1.length:Int)
 g42:(0≤j0)→(¬j2=0)→(((Int.toNat ((j1.length:Int) - 1):Nat):Int)) < (j1.length:Int)
 g44:(0≤j0)→(¬j2=0)→0≤j0
 g45:(0≤j0)→(¬j2=0)→0≤(j2 - 1)
 g49:(0≤j0)→(¬j2=0)→vZ63 ((j0 - 1))
 n50:(0≤j0)→(¬j2=0)→I4 (j0 - 1) (List.set j1 (Int.toNat ((j1.length:Int) - 1)) [D.i (Ar.std.bit BinOp.or IntKind.u8 (D.int (gt j1 (Int.toNat ((j1.length:Int) - 1)) 0)) (Ar.std.shl IntKind.u8 (Ar.std.wrap IntKind.u8 (Ar.std.bit BinOp.and IntKind.i64 (Ar.std.shr IntKind.i64 ((Ar.std.shl IntKind.i64 1 ((Ar.std.shr IntKind.i64 d0 (D.int (fn 92 [[D.i b3,D.i b4]] 0 0)))+1)) - 2) j0) 1)) (j2 - 1)))]) (j2 - 1)∧m4 (j0 - 1) (List.set j1 (Int.toNat ((j1.length:Int) - 1)) [D.i (Ar.std.bit BinOp.or IntKind.u8 (D.int (gt j1 (Int.toNat ((j1.length:Int) - 1)) 0)) (Ar.std.shl IntKind.u8 (Ar.std.wrap IntKind.u8 (Ar.std.bit BinOp.and IntKind.i64 (Ar.std.shr IntKind.i64 ((Ar.std.shl IntKind.i64 1 ((Ar.std.shr IntKind.i64 d0 (D.int (fn 92 [[D.i b3,D.i b4]] 0 0)))+1)) - 2) j0) 1)) (j2 - 1)))]) (j2 - 1) < m4 j0 j1 j2
 g51:(¬0≤j0)→vZ63 (((D.int (fn 92 [[D.i b3,D.i b4]] 0 0)) - 1))
 l5:(¬0≤j0)→V63l5 fn b3 b4 d0 j1 j2 I3
abbrev V63l4 (fn:Nat→List (List D)→Nat→Nat→D) (b1:Rows) (b2:Int) (b3:Int) (b4:Int) (d0:Int) (I3:Rows→Int→Int→Int→Prop):Prop:=∃(I4:Int→Rows→Int→Prop) (m4:Int→Rows→Int→Nat),I4 (((Ar.std.shr IntKind.i64 d0 (D.int (fn 92 [[D.i b3,D.i b4]] 0 0)))+1) - 1) b1 b2∧∀j0 j1 j2,I4 j0 j1 j2→V63c4 fn b3 b4 d0 j0 j1 j2 I3 I4 m4
abbrev V63l7 (b3:Int) (b4:Int) (d0:Int) (o1:Rows) (o2:Int) (I3:Rows→Int→Int→Int→Prop):Prop:=∃(I7:Int→Rows→Int→Prop) (m7:Int→Rows→Int→Nat),I7 (31 - 1) o1 o2∧∀q0 q1 q2,I7 q0 q1 q2→V63c5 b3 b4 d0 q0 q1 q2 I3 I7 m7
structure V63c6 (b3:Int) (b4:Int) (d0:Int) (o0:Int) (o1:Rows) (o2:Int) (I3:Rows→Int→Int→Int→Prop) (I6:Int→Rows→Int→Prop) (m6:Int→Rows→Int→Nat):Prop where
 g90:(0≤o0)→(o2=0)→(o1.length+(List.length ([[D.i 0]]:Rows))) * 1≤4294967296∧(o1.length+(List.length ([[D.i 0]]:Rows)))≤4294967296
 g91:(0≤o0)→(o2=0)→vZ63 (((8 - 1):Int))
 g92:(0≤o0)→(o2=0)→vZ63 (((((o1++[[D.i 0]])).length:Int) - 1))
 g93:(0≤o0)→(o2=0)→0≤((((o1++[[D.i 0]])).length:Int) - 1)
 g94:(0≤o0)→(o2=0)→((((o1++[[D.i 0]])).length:Int) - 1) < (((o1++[[D.i 0]])).length:Int)
 g95:(0≤o0)→(o2=0)→(((Int.toNat ((((o1++[[D.i 0]])).length:Int) - 1):Nat):Int)) < (((o1++[[D.i 0]])).length:Int)
 g97:(0≤o0)→(o2=0)→0≤o0
 g98:(0≤o0)→(o2=0)→(0:Int)≤(8 - 1)
 g102:(0≤o0)→(o2=0)→vZ63 ((o0 - 1))
 n103:(0≤o0)→(o2=0)→I6 (o0 - 1) (List.set (o1++[[D.i 0]]) (Int.toNat ((((o1++[[D.i 0]])).length:Int) - 1)) [D.i (Ar.std.bit BinOp.or IntKind.u8 (D.int (gt (o1++[[D.i 0]]) (Int.toNat ((((o1++[[D.i 0]])).length:Int) - 1)) 0)) (Ar.std.shl IntKind.u8 (Ar.std.wrap IntKind.u8 (Ar.std.bit BinOp.and IntKind.i64 (Ar.std.shr IntKind.i64 16777215 o0) 1)) (8 - 1)))]) (8 - 1)∧m6 (o0 - 1) (List.set (o1++[[D.i 0]]) (Int.toNat ((((o1++[[D.i 0]])).length:Int) - 1)) [D.i (Ar.std.bit BinOp.or IntKind.u8 (D.int (gt (o1++[[D.i 0]]) (Int.toNat ((((o1++[[D.i 0]])).length:Int) - 1)) 0)) (Ar.std.shl IntKind.u8 (Ar.std.wrap IntKind.u8 (Ar.std.bit BinOp.and IntKind.i64 (Ar.std.shr IntKind.i64 16777215 o0) 1)) (8 - 1)))]) (8 - 1) < m6 o0 o1 o2
 g104:(0≤o0)→(¬o2=0)→vZ63 ((o2 - 1))
 g105:(0≤o0)→(¬o2=0)→vZ63 (((o1.length:Int) - 1))
 g106:(0≤o0)→(¬o2=0)→0≤((o1.length:Int) - 1)
 g107:(0≤o0)→(¬o2=0)→((o1.length:Int) - 1) < (o1.length:Int)
 g108:(0≤o0)→(¬o2=0)→(((Int.toNat ((o1.length:Int) - 1):Nat):Int)) < (o1.length:Int)
 g110:(0≤o0)→(¬o2=0)→0≤o0
 g111:(0≤o0)→(¬o2=0)→0≤(o2 - 1)
 g115:(0≤o0)→(¬o2=0)→vZ63 ((o0 - 1))
 n116:(0≤o0)→(¬o2=0)→I6 (o0 - 1) (List.set o1 (Int.toNat ((o1.length:Int) - 1)) [D.i (Ar.std.bit BinOp.or IntKind.u8 (D.int (gt o1 (Int.toNat ((o1.length:Int) - 1)) 0)) (Ar.std.shl IntKind.u8 (Ar.std.wrap IntKind.u8 (Ar.std.bit BinOp.and IntKind.i64 (Ar.std.shr IntKind.i64 16777215 o0) 1)) (o2 - 1)))]) (o2 - 1)∧m6 (o0 - 1) (List.set o1 (Int.toNat ((o1.length:Int) - 1)) [D.i (Ar.std.bit BinOp.or IntKind.u8 (D.int (gt o1 (Int.toNat ((o1.length:Int) - 1)) 0)) (Ar.std.shl IntKind.u8 (Ar.std.wrap IntKind.u8 (Ar.std.bit BinOp.and IntKind.i64 (Ar.std.shr IntKind.i64 16777215 o0) 1)) (o2 - 1)))]) (o2 - 1) < m6 o0 o1 o2
 g117:(¬0≤o0)→vZ63 (((31 - 1):Int))
 l7:(¬0≤o0)→V63l7 b3 b4 d0 o1 o2 I3
abbrev V63l6 (b1:Rows) (b2:Int) (b3:Int) (b4:Int) (d0:Int) (I3:Rows→Int→Int→Int→Prop):Prop:=∃(I6:Int→Rows→Int→Prop) (m6:Int→Rows→Int→Nat),I6 (24 - 1) b1 b2∧∀o0 o1 o2,I6 o0 o1 o2→V63c6 b3 b4 d0 o0 o1 o2 I3 I6 m6
structure V63r3 (pre:Nat→List (List D)→Prop) (fn:Nat→List (List D)→Nat→Nat→D) (b1:Rows) (b2:Int) (b3:Int) (b4:Int) (d0:Int) (I3:Rows→Int→Int→Int→Prop):Prop where
 g16:pre 92 [[D.i b3,D.i b4]]
 g17:0≤(D.int (fn 92 [[D.i b3,D.i b4]] 0 0))
 g18:((Ar.std.shr IntKind.i64 d0 (D.int (fn 92 [[D.i b3,D.i b4]] 0 0))) < 24)→vZ63 (((Ar.std.shr IntKind.i64 d0 (D.int (fn 92 [[D.i b3,D.i b4]] 0 0)))+1))
 g19:((Ar.std.shr IntKind.i64 d0 (D.int (fn 92 [[D.i b3,D.i b4]] 0 0))) < 24)→0≤((Ar.std.shr IntKind.i64 d0 (D.int (fn 92 [[D.i b3,D.i b4]] 0 0)))+1)
 g20:((Ar.std.shr IntKind.i64 d0 (D.int (fn 92 [[D.i b3,D.i b4]] 0 0))) < 24)→vZ63 (((Ar.std.shl IntKind.i64 1 ((Ar.std.shr IntKind.i64 d0 (D.int (fn 92 [[D.i b3,D.i b4]] 0 0)))+1)) - 2))
 g22:((Ar.std.shr IntKind.i64 d0 (D.int (fn 92 [[D.i b3,D.i b4]] 0 0))) < 24)→vZ63 ((((Ar.std.shr IntKind.i64 d0 (D.int (fn 92 [[D.i b3,D.i b4]] 0 0)))+1) - 1))
 g88:(¬(Ar.std.shr IntKind.i64 d0 (D.int (fn 92 [[D.i b3,D.i b4]] 0 0))) < 24)→vZ63 (((24 - 1):Int))
 l4:((Ar.std.shr IntKind.i64 d0 (D.int (fn 92 [[D.i b3,D.i b4]] 0 0))) < 24)→V63l4 fn b1 b2 b3 b4 d0 I3
 l6:(¬(Ar.std.shr IntKind.i64 d0 (D.int (fn 92 [[D.i b3,D.i b4]] 0 0))) < 24)→V63l6 b1 b2 b3 b4 d0 I3
structure V63c8 (a0:Rows) (b0:Int) (b1:Rows) (b2:Int) (b3:Int) (b4:Int) (b5:Int) (b6:Int) (b7:Int) (b8:Int) (f2:Int) (f3:Int) (r0:Rows) (r1:Int) (r2:Int) (r3:Int) (I0:Int→Rows→Int→Int→Int→Int→Int→Int→Int→Prop) (m0:Int→Rows→Int→Int→Int→Int→Int→Int→Int→Nat):Prop where
 g293:vZ63 ((b0+1))
 n294:I0 (b0+1) r0 r1 f2 f3 r2 r3 (D.int (gt a0 b0.toNat 0)) (D.int (gt a0 b0.toNat 1))∧m0 (b0+1) r0 r1 f2 f3 r2 r3 (D.int (gt a0 b0.toNat 0)) (D.int (gt a0 b0.toNat 1)) < m0 b0 b1 b2 b3 b4 b5 b6 b7 b8
abbrev V63j8 (pre:Nat→List (List D)→Prop) (fn:Nat→List (List D)→Nat→Nat→D) (a0:Rows) (b0:Int) (b1:Rows) (b2:Int) (b3:Int) (b4:Int) (b5:Int) (b6:Int) (b7:Int) (b8:Int) (e0:Int) (f0:Rows) (f1:Int) (f2:Int) (f3:Int) (I0:Int→Rows→Int→Int→Int→Int→Int→Int→Int→Prop) (m0:Int→Rows→Int→Int→Int→Int→Int→Int→Int→Nat):Prop:=∃(I8:Rows→Int→Int→Int→Prop),V63r3 pre fn f0 f1 b5 b6 e0 I8∧∀r0 r1 r2 r3,I8 r0 r1 r2 r3→V63c8 a0 b0 b1 b2 b3 b4 b5 b6 b7 b8 f2 f3 r0 r1 r2 r3 I0 m0
structure V63c3 (pre:Nat→List (List D)→Prop) (fn:Nat→List (List D)→Nat→Nat→D) (a0:Rows) (b0:Int) (b1:Rows) (b2:Int) (b3:Int) (b4:Int) (b5:Int) (b6:Int) (b7:Int) (b8:Int) (e0:Int) (f0:Rows) (f1:Int) (f2:Int) (f3:Int) (I0:Int→Rows→Int→Int→Int→Int→Int→Int→Int→Prop) (m0:Int→Rows→Int→Int→Int→Int→Int→Int→Int→Nat):Prop where
 l8:V63j8 pre fn a0 b0 b1 b2 b3 b4 b5 b6 b7 b8 e0 f0 f1 f2 f3 I0 m0
abbrev V63j3 (pre:Nat→List (List D)→Prop) (fn:Nat→List (List D)→Nat→Nat→D) (a0:Rows) (b0:Int) (b1:Rows) (b2:Int) (b3:Int) (b4:Int) (b5:Int) (b6:Int) (b7:Int) (b8:Int) (d0:Int) (e0:Int) (I0:Int→Rows→Int→Int→Int→Int→Int→Int→Int→Prop) (m0:Int→Rows→Int→Int→Int→Int→Int→Int→Int→Nat):Prop:=∃(I3:Rows→Int→Int→Int→Prop),V63r3 pre fn b1 b2 b3 b4 d0 I3∧∀f0 f1 f2 f3,I3 f0 f1 f2 f3→V63c3 pre fn a0 b0 b1 b2 b3 b4 b5 b6 b7 b8 e0 f0 f1 f2 f3 I0 m0
structure V63c2 (pre:Nat→List (List D)→Prop) (fn:Nat→List (List D)→Nat→Nat→D) (a0:Rows) (b0:Int) (b1:Rows) (b2:Int) (b3:Int) (b4:Int) (b5:Int) (b6:Int) (b7:Int) (b8:Int) (d0:Int) (e0:Int) (I0:Int→Rows→Int→Int→Int→Int→Int→Int→Int→Prop) (m0:Int→Rows→Int→Int→Int→Int→Int→Int→Int→Nat):Prop where
 l3:V63j3 pre fn a0 b0 b1 b2 b3 b4 b5 b6 b7 b8 d0 e0 I0 m0
abbrev V63j2 (pre:Nat→List (List D)→Prop) (fn:Nat→List (List D)→Nat→Nat→D) (a0:Rows) (b0:Int) (b1:Rows) (b2:Int) (b3:Int) (b4:Int) (b5:Int) (b6:Int) (b7:Int) (b8:Int) (d0:Int) (I0:Int→Rows→Int→Int→Int→Int→Int→Int→Int→Prop) (m0:Int→Rows→Int→Int→Int→Int→Int→Int→Int→Nat):Prop:=∃(I2:Int→Prop),V63r2 a0 b0 b7 b8 I2∧∀e0,I2 e0→V63c2 pre fn a0 b0 b1 b2 b3 b4 b5 b6 b7 b8 d0 e0 I0 m0
structure V63c1 (pre:Nat→List (List D)→Prop) (fn:Nat→List (List D)→Nat→Nat→D) (a0:Rows) (b0:Int) (b1:Rows) (b2:Int) (b3:Int) (b4:Int) (b5:Int) (b6:Int) (b7:Int) (b8:Int) (d0:Int) (I0:Int→Rows→Int→Int→Int→Int→Int→Int→Int→Prop) (m0:Int→Rows→Int→Int→Int→Int→Int→Int→Int→Nat):Prop where
 l2:V63j2 pre fn a0 b0 b1 b2 b3 b4 b5 b6 b7 b8 d0 I0 m0
abbrev V63j1 (pre:Nat→List (List D)→Prop) (fn:Nat→List (List D)→Nat→Nat→D) (a0:Rows) (b0:Int) (b1:Rows) (b2:Int) (b3:Int) (b4:Int) (b5:Int) (b6:Int) (b7:Int) (b8:Int) (I0:Int→Rows→Int→Int→Int→Int→Int→Int→Int→Prop) (m0:Int→Rows→Int→Int→Int→Int→Int→Int→Int→Nat):Prop:=∃(I1:Int→Prop),V63r1 a0 b0 b7 I1∧∀d0,I1 d0→V63c1 pre fn a0 b0 b1 b2 b3 b4 b5 b6 b7 b8 d0 I0 m0
structure V63c0 (pre:Nat→List (List D)→Prop) (fn:Nat→List (List D)→Nat→Nat→D) (a0:Rows) (R:Nat→Nat→D) (b0:Int) (b1:Rows) (b2:Int) (b3:Int) (b4:Int) (b5:Int) (b6:Int) (b7:Int) (b8:Int) (I0:Int→Rows→Int→Int→Int→Int→Int→Int→Int→Prop) (m0:Int→Rows→Int→Int→Int→Int→Int→Int→Int→Nat):Prop where
 g3:(b0 < (a0.length:Int))→0≤b0
 g4:(b0 < (a0.length:Int))→b0 < (a0.length:Int)
 g5:(b0 < (a0.length:Int))→(((Int.toNat b0:Nat):Int)) < (a0.length:Int)
 g295:(¬b0 < (a0.length:Int))→pre 67 [[D.l b1]]
 g296:(¬b0 < (a0.length:Int))→(b1.length+(List.length ([[D.i (D.int (fn 67 [[D.l b1]] 0 0))],[D.i (D.int (fn 67 [[D.l b1]] 0 1))]]:Rows))) * 1≤4294967296∧(b1.length+(List.length ([[D.i (D.int (fn 67 [[D.l b1]] 0 0))],[D.i (D.int (fn 67 [[D.l b1]] 0 1))]]:Rows)))≤4294967296
 g297:(¬b0 < (a0.length:Int))→R 0 0=D.l (b1++[[D.i (D.int (fn 67 [[D.l b1]] 0 0))],[D.i (D.int (fn 67 [[D.l b1]] 0 1))]])
 l1:(b0 < (a0.length:Int))→V63j1 pre fn a0 b0 b1 b2 b3 b4 b5 b6 b7 b8 I0 m0
abbrev V63l0 (pre:Nat→List (List D)→Prop) (fn:Nat→List (List D)→Nat→Nat→D) (a0:Rows) (R:Nat→Nat→D):Prop:=∃(I0:Int→Rows→Int→Int→Int→Int→Int→Int→Int→Prop) (m0:Int→Rows→Int→Int→Int→Int→Int→Int→Int→Nat),I0 0 [[D.i 71],[D.i 83],[D.i (Ar.std.wrap IntKind.u8 (Ar.std.shr IntKind.i64 (a0.length:Int) 16))],[D.i (Ar.std.wrap IntKind.u8 (Ar.std.shr IntKind.i64 (a0.length:Int) 8))],[D.i (Ar.std.wrap IntKind.u8 (a0.length:Int))]] 0 4 1 4 1 (-1) 0∧∀b0 b1 b2 b3 b4 b5 b6 b7 b8,I0 b0 b1 b2 b3 b4 b5 b6 b7 b8→V63c0 pre fn a0 R b0 b1 b2 b3 b4 b5 b6 b7 b8 I0 m0
structure V63 (pre:Nat→List (List D)→Prop) (fn:Nat→List (List D)→Nat→Nat→D) (a0:Rows) (R:Nat→Nat→D):Prop where
 g0:(0:Int)≤16
 g1:(0:Int)≤8
 l0:V63l0 pre fn a0 R
end HX

namespace HX
open Go Go.Proofs CX
theorem law92 {a n:Int} {R:Nat→Nat→D} (hR:R 0 0=.i (lowK (a,n))):V92 a n R (fun k=>∃f:Nat,f≤24∧k=(24 - f:Nat)∧lowG a n 24=lowG a n f) (fun k=>(24 - k).toNat):=by
 have hR':R 0 0=.i (lowG a n 24):=hR
 constructor
 case i0=>exact ⟨24,Nat.le_refl _,rfl,rfl⟩
 all_goals (intro k hI;obtain ⟨f,h1,h2,h3⟩:=hI;subst h2)
 case g1 |g2=>intros;omega
 case n3=>
  intro hk hs
  obtain ⟨g,rfl⟩:∃g,f=g+1:=⟨f - 1,by omega⟩
  refine ⟨⟨g,by omega,by omega,?_⟩,by omega⟩
  rw [h3,lowG,if_pos (by rw [show 23 - g=24 - (g+1) by omega];exact hs)]
 case g4=>
  intro hk hs
  obtain ⟨g,rfl⟩:∃g,f=g+1:=⟨f - 1,by omega⟩
  rw [hR',h3,lowG,if_neg (by rw [show 23 - g=24 - (g+1) by omega];exact hs)]
  congr 2
  omega
 case g5=>
  intro hk
  obtain rfl:f=0:=by omega
  rw [hR',h3]
  rfl
structure LI (v:Int) (N:Nat) (s0:Rows×Int) (k:Int) (s:Rows×Int):Prop where
 lo:-1≤k
 hi:k+1≤N
 wf:Wf s
 bits:bitsN s+(k+1)=bitsN s0+N
 to:putN v (k+1).toNat s=putN v N s0
theorem LI.start {v:Int} {N:Nat} {s0:Rows×Int} (h:Wf s0) {k:Int} (e:k+1=N):LI v N s0 k s0:=
 ⟨by omega,by omega,h,by omega,by rw [show (k+1).toNat=N by omega]⟩
theorem LI.step {v:Int} {N:Nat} {s0:Rows×Int} {k:Int} {s:Rows×Int} (h:LI v N s0 k s) (hk:0≤k):LI v N s0 (k - 1) (put1 s v k):=by
 obtain ⟨h1,h2,h3,h4,h5⟩:=h
 obtain ⟨a,b⟩:=put1_wf h3 v k
 refine ⟨by omega,by omega,a,by omega,?_⟩
 rw [←h5,show (k+1).toNat=(k - 1+1).toNat+1 by omega,putN,show (((k - 1+1).toNat:Nat):Int)=k by omega]
theorem LI.stop {v:Int} {N:Nat} {s0:Rows×Int} {k:Int} {s:Rows×Int} (h:LI v N s0 k s) (hk:¬0≤k):s=putN v N s0:=by
 have:=h.lo
 rw [←h.to,show (k+1).toNat=0 by omega,putN]
theorem put1_0 {o:Rows} {r v k:Int} (h:r=0):put1 (o,r) v k=(orL (o++[[D.i 0]]) (bitB v k) (8 - 1),8 - 1):=if_pos h
theorem put1_1 {o:Rows} {r v k:Int} (h:¬r=0):put1 (o,r) v k=(orL o (bitB v k) (r - 1),r - 1):=if_neg h
theorem law63r {pre:Nat→List (List D)→Prop} {fn:Nat→List (List D)→Nat→Nat→D} (hp92:∀x,pre 92 x) (hf92:∀a n,fn 92 [[.i a,.i n]] 0 0=.i (lowK (a,n)))
  {o:Rows} {r a n v:Int} (hw:Wf (o,r)) (hb:bitsN (o,r)≤20000000000) (hm:MOk (a,n)) (h0:0≤v) (h1:v≤8589934592) :
  V63r3 pre fn o r a n v (fun o' r' a' n'=>(o',r')=wrS (a,n) v (o,r)∧(a',n')=lrn (a,n) v):=by
 have hi:∀n:Int,(D.i n).int=n:=fun _=>rfl
 have hk:=lowK_le (a,n)
 have hq:=shr_bd (v:=v) (k:=(lowK (a,n):Int)) h0 (by omega) (by omega)
 have a0:=hm.a0;have a1:=hm.a1;have n0:=hm.n0;have n1:=hm.n1
 simp only [] at a0 a1 n0 n1
 obtain ⟨K,hK⟩:∃K,lowK (a,n)=K:=⟨_,rfl⟩
 obtain ⟨q,hqe⟩:∃q,Ar.std.shr .i64 v (K:Int)=q:=⟨_,rfl⟩
 rw [hK] at hk hq
 rw [hqe] at hq
 have lrn_y:n+1=64→(Int.tdiv (a+v) 2,Int.tdiv (n+1) 2)=lrn (a,n) v:=fun h=>(if_pos h).symm
 have lrn_n:¬n+1=64→(a+v,n+1)=lrn (a,n) v:=fun h=>(if_neg h).symm
 have lenB:∀{x:Rows} {y:Int},Wf (x,y)→bitsN (x,y)≤20000000100→0 < x.length∧x.length≤2500000014∧0≤y∧y≤7:=fun {x y} w b=>by
  have:=w.pos;have:=w.r0;have:=w.r7
  simp only [bitsN] at *
  omega
 have shl1:q < 24→Ar.std.shl .i64 1 (q+1)=2 ^ (q+1).toNat∧(1:Int)≤2 ^ (q+1).toNat∧(2:Int) ^ (q+1).toNat≤16777216:=fun h=>⟨shl_one (by omega) (by omega),pow_le _ (by omega)⟩
 have wl:wrS (a,n) v (o,r)=if q < 24 then putN v K (putN (Ar.std.shl .i64 1 (q+1) - 2) (q+1).toNat (o,r)) else putN v 31 (putN 16777215 24 (o,r)):=by rw [←hqe,←hK];rfl
 have td:Int.tdiv (a+v) 2=(a+v) / 2:=Int.tdiv_eq_ediv_of_nonneg (by omega)
 have td2:Int.tdiv (n+1) 2=(n+1) / 2:=Int.tdiv_eq_ediv_of_nonneg (by omega)
 constructor
 all_goals (try simp only [hf92,hi,hK,hqe])
 case g16=>exact hp92 _
 case l4=>
  intro hq24
  rw [if_pos hq24] at wl
  have sh:=shl1 hq24
  obtain ⟨w,hwe⟩:∃w,Ar.std.shl .i64 1 (q+1) - 2=w:=⟨_,rfl⟩
  rw [hwe] at wl
  obtain ⟨w1,w2⟩:=putN_wf w (q+1).toNat hw
  refine ⟨fun k x y=>LI w (q+1).toNat (o,r) k (x,y),fun k _ _=>(k+1).toNat,?_,fun k x y hI=>?_⟩
  ·simp only [hf92,hi,hK,hqe];exact LI.start hw (by omega)
  ·have lb:=lenB hI.wf (by have:=hI.bits;have:=hI.lo;omega)
   have i1:=hI.lo
   have i2:=hI.hi
   constructor
   all_goals (try simp only [hf92,hi,hK,hqe,hwe,vZ63])
   case n37=>intro h1 h2;have:=hI.step h1;rw [put1_0 h2] at this;exact ⟨this,by omega⟩
   case n50=>intro h1 h2;have:=hI.step h1;rw [put1_1 h2] at this;exact ⟨this,by omega⟩
   case l5=>
    intro hs
    have st:=hI.stop hs
    rw [←st] at w1 w2 wl
    refine ⟨fun k x' y'=>LI v K (x,y) k (x',y'),fun k _ _=>(k+1).toNat,?_,fun k x' y' hI=>?_⟩
    ·simp only [hf92,hi,hK];exact LI.start w1 (by omega)
    ·have lb:=lenB hI.wf (by have:=hI.bits;have:=hI.lo;omega)
     have i1:=hI.lo
     have i2:=hI.hi
     constructor
     all_goals (try simp only [vZ63])
     case n66=>intro h1 h2;have:=hI.step h1;rw [put1_0 h2] at this;exact ⟨this,by omega⟩
     case n79=>intro h1 h2;have:=hI.step h1;rw [put1_1 h2] at this;exact ⟨this,by omega⟩
     case n86=>intro h1 h2;exact ⟨by rw [wl];exact hI.stop h1,lrn_y h2⟩
     case n87=>intro h1 h2;exact ⟨by rw [wl];exact hI.stop h1,lrn_n h2⟩
     all_goals (try simp only [List.length_append,List.length_cons,List.length_nil])
     all_goals (intros;omega)
   all_goals (try simp only [List.length_append,List.length_cons,List.length_nil])
   all_goals (intros;omega)
 case l6=>
  intro hq24
  rw [if_neg hq24] at wl
  obtain ⟨w1,w2⟩:=putN_wf 16777215 24 hw
  refine ⟨fun k x y=>LI 16777215 24 (o,r) k (x,y),fun k _ _=>(k+1).toNat,LI.start hw (by omega),fun k x y hI=>?_⟩
  have lb:=lenB hI.wf (by have:=hI.bits;have:=hI.lo;omega)
  have i1:=hI.lo
  have i2:=hI.hi
  constructor
  all_goals (try simp only [vZ63])
  case n103 |n116=>
   intro h1 h2;have:=hI.step h1
   first |rw [put1_0 h2] at this |rw [put1_1 h2] at this
   exact ⟨this,by omega⟩
  case l7=>
   intro hs
   have st:=hI.stop hs
   rw [←st] at w1 w2 wl
   refine ⟨fun k x' y'=>LI v 31 (x,y) k (x',y'),fun k _ _=>(k+1).toNat,LI.start w1 (by omega),fun k x' y' hI=>?_⟩
   have lb:=lenB hI.wf (by have:=hI.bits;have:=hI.lo;omega)
   have i1:=hI.lo
   have i2:=hI.hi
   constructor
   all_goals (try simp only [vZ63])
   case n66 |n79=>
    intro h1 h2;have:=hI.step h1
    first |rw [put1_0 h2] at this |rw [put1_1 h2] at this
    exact ⟨this,by omega⟩
   case n86=>intro h1 h2;exact ⟨by rw [wl];exact hI.stop h1,lrn_y h2⟩
   case n87=>intro h1 h2;exact ⟨by rw [wl];exact hI.stop h1,lrn_n h2⟩
   all_goals (try simp only [List.length_append,List.length_cons,List.length_nil])
   all_goals (intros;omega)
  all_goals (try simp only [List.length_append,List.length_cons,List.length_nil])
  all_goals (intros;omega)
 case g20=>intro h;have:=shl1 h;simp only [vZ63];omega
 all_goals (try simp only [vZ63])
 all_goals (intros;omega)
end HX

namespace HX
open Go Go.Proofs CX
def sumS (l:Rows):Nat→Int×Int
 |0=>(0,0)
 |q+1=>(Int.tmod ((sumS l q).1+(gt l q 0).int) 255,Int.tmod ((sumS l q).2+Int.tmod ((sumS l q).1+(gt l q 0).int) 255) 255)
noncomputable def sum0 (l:Rows):Int:=Ar.std.wrap .u8 (sumS l l.length).1
noncomputable def sum1 (l:Rows):Int:=Ar.std.wrap .u8 (sumS l l.length).2
noncomputable def packP (l:Rows):Rows:=(pkS l l.length).o++[[.i (sum0 (pkS l l.length).o)],[.i (sum1 (pkS l l.length).o)]]
theorem law63 {pre:Nat→List (List D)→Prop} {fn:Nat→List (List D)→Nat→Nat→D} (hp92:∀x,pre 92 x) (hf92:∀a n,fn 92 [[.i a,.i n]] 0 0=.i (lowK (a,n)))
  (hp67:∀l:Rows,(∀i,i < l.length→0≤(gt l i 0).int∧(gt l i 0).int≤255)→l.length≤4000000000→pre 67 [[.l l]]) (hf67:∀l,fn 67 [[.l l]] 0 0=.i (sum0 l)∧fn 67 [[.l l]] 0 1=.i (sum1 l))
  {a0:Rows} (hl:a0.length≤65536) (he:EvOk' a0) (hby:∀q,q≤a0.length→∀i,i < (pkS a0 q).o.length→0≤(gt (pkS a0 q).o i 0).int∧(gt (pkS a0 q).o i 0).int≤255) {R:Nat→Nat→D} (hR:R 0 0=.l (packP a0)):V63 pre fn a0 R:=by
 have hi:∀n:Int,(D.i n).int=n:=fun _=>rfl
 refine ⟨by decide,by decide,fun i o r ta tn da dn bt bi=>∃q:Nat,i=q∧q≤a0.length∧(⟨o,r,(ta,tn),(da,dn),bt,bi⟩:PkS)=pkS a0 q,fun i _ _ _ _ _ _ _ _=>(a0.length - i).toNat,⟨0,rfl,by omega,rfl⟩,?_⟩
 intro i o r ta tn da dn bt bi hI
 obtain ⟨q,hq,hql,hs⟩:=hI
 subst hq
 obtain ⟨w,b1,b2,m1,m2⟩:=pk_ok he q hql
 have hb':=hby q hql
 have ho:(pkS a0 q).o=o:=by rw [←hs]
 have hr:(pkS a0 q).r=r:=by rw [←hs]
 have ht:(pkS a0 q).t=(ta,tn):=by rw [←hs]
 have hd:(pkS a0 q).d=(da,dn):=by rw [←hs]
 have hbt:(pkS a0 q).bt=bt:=by rw [←hs]
 have hbi:(pkS a0 q).bi=bi:=by rw [←hs]
 rw [ho] at hb'
 rw [ho,hr] at w b1 b2
 rw [ht] at m1
 rw [hd] at m2
 have lo:o.length≤1000000:=by
  have:=w.r7;have:=w.r0
  simp only [bitsN] at b2 this
  omega
 constructor
 case l1=>
  intro hx
  obtain ⟨g1,g2⟩:=gap_bd he (q:=q) (by omega)
  rw [hbt] at g1
  rw [hbt,hbi] at g2
  have tq:=he.rt q (by omega)
  have iq:=he.ri q (by omega)
  have bb:=pk_before a0 q
  rw [hbt,hbi] at bb
  have bt1:-1≤bt∧bt≤1073741824∧0≤bi∧bi≤65535:=by
   rw [bb.1,bb.2]
   split
   ·omega
   ·have:=he.rt (q - 1) (by omega);have:=he.ri (q - 1) (by omega);omega
  have e1:(D.int (gt a0 ((q:Int)).toNat 0))=eT a0 q:=by rw [Int.toNat_natCast];rfl
  have e2:(D.int (gt a0 ((q:Int)).toNat 1))=eI a0 q:=by rw [Int.toNat_natCast];rfl
  refine ⟨fun d=>d=gapE a0 q bt,?_,fun d hd0=>⟨⟨fun e=>e=plcE a0 q bt bi,?_,fun e he0=>⟨⟨fun o' r' a' n'=>(o',r')=wrS (ta,tn) d (o,r)∧(a',n')=lrn (ta,tn) d,?_,fun o' r' a' n' h3=>⟨⟨fun o2 r2 a2 n2=>(o2,r2)=wrS (da,dn) e (o',r')∧(a2,n2)=lrn (da,dn) e,?_,fun o2 r2 a2 n2 h4=>?_⟩⟩⟩⟩⟩⟩⟩
  ·constructor
   all_goals (try simp only [vZ63,e1])
   ·intros;omega
   ·intro h;rw [gapE,if_pos (by omega)]
   ·intro h;rw [gapE,if_neg (by omega)]
  ·constructor
   all_goals (try simp only [vZ63,e1,e2])
   ·intros;omega
   ·intros;omega
   ·intro h;rw [plcE,if_pos h]
   ·intro h;rw [plcE,if_neg h]
  ·subst hd0
   exact law63r hp92 hf92 w (by omega) m1 g1.1 (by omega)
  ·obtain ⟨h31,h32⟩:=h3
   subst hd0 he0
   obtain ⟨w1,w2,w3⟩:=wrS_wf (m:=(ta,tn)) g1.1 w
   rw [←h31] at w1 w2 w3
   exact law63r hp92 hf92 w1 (by omega) m2 g2.1 (by omega)
  ·obtain ⟨h31,h32⟩:=h3
   obtain ⟨h41,h42⟩:=h4
   subst hd0 he0
   constructor
   ·simp only [vZ63];omega
   ·refine ⟨⟨q+1,by omega,by omega,?_⟩,by omega⟩
    rw [e1,e2,pkS]
    simp only [ho,hr,ht,hd,hbt,hbi]
    rw [←h31,←h41,←h32,←h42]
 all_goals intro hx
 case g295=>exact hp67 _ hb' (by omega)
 case g296=>simp only [List.length_cons,List.length_nil];omega
 case g297=>
  obtain rfl:q=a0.length:=by omega
  rw [(hf67 o).1,(hf67 o).2,hR,packP,ho]
  rfl
 all_goals omega
end HX

namespace HX
open Go Go.Proofs CX
structure V67 (a0:Rows) (R:Nat→Nat→D) (I0:Int→Int→Int→Prop) (m0:Int→Int→Int→Nat):Prop where
 i0:I0 0 0 0
 g1:∀x0_0 x0_1 x0_2,I0 x0_0 x0_1 x0_2→(x0_2 < (a0.length:Int))→0≤x0_2
 g2:∀x0_0 x0_1 x0_2,I0 x0_0 x0_1 x0_2→(x0_2 < (a0.length:Int))→x0_2 < (a0.length:Int)
 g3:∀x0_0 x0_1 x0_2,I0 x0_0 x0_1 x0_2→(x0_2 < (a0.length:Int))→(((Int.toNat x0_2:Nat):Int)) < (a0.length:Int)
 g4:∀x0_0 x0_1 x0_2,I0 x0_0 x0_1 x0_2→(x0_2 < (a0.length:Int))→-9223372036854775808≤(D.int (gt a0 x0_2.toNat 0))∧(D.int (gt a0 x0_2.toNat 0))≤9223372036854775807
 g5:∀x0_0 x0_1 x0_2,I0 x0_0 x0_1 x0_2→(x0_2 < (a0.length:Int))→-9223372036854775808≤(x0_0+(D.int (gt a0 x0_2.toNat 0)))∧(x0_0+(D.int (gt a0 x0_2.toNat 0)))≤9223372036854775807
 g6:∀x0_0 x0_1 x0_2,I0 x0_0 x0_1 x0_2→(x0_2 < (a0.length:Int))→(255:Int)≠0
 g7:∀x0_0 x0_1 x0_2,I0 x0_0 x0_1 x0_2→(x0_2 < (a0.length:Int))→-9223372036854775808≤(x0_1+(Int.tmod (x0_0+(D.int (gt a0 x0_2.toNat 0))) 255))∧(x0_1+(Int.tmod (x0_0+(D.int (gt a0 x0_2.toNat 0))) 255))≤9223372036854775807
 g9:∀x0_0 x0_1 x0_2,I0 x0_0 x0_1 x0_2→(x0_2 < (a0.length:Int))→-9223372036854775808≤(x0_2+1)∧(x0_2+1)≤9223372036854775807
 n10:∀x0_0 x0_1 x0_2,I0 x0_0 x0_1 x0_2→(x0_2 < (a0.length:Int))→I0 (Int.tmod (x0_0+(D.int (gt a0 x0_2.toNat 0))) 255) (Int.tmod (x0_1+(Int.tmod (x0_0+(D.int (gt a0 x0_2.toNat 0))) 255)) 255) (x0_2+1)∧m0 (Int.tmod (x0_0+(D.int (gt a0 x0_2.toNat 0))) 255) (Int.tmod (x0_1+(Int.tmod (x0_0+(D.int (gt a0 x0_2.toNat 0))) 255)) 255) (x0_2+1) < m0 x0_0 x0_1 x0_2
 g11:∀x0_0 x0_1 x0_2,I0 x0_0 x0_1 x0_2→(¬x0_2 < (a0.length:Int))→R 0 0=D.i (Ar.std.wrap IntKind.u8 x0_0)
 g12:∀x0_0 x0_1 x0_2,I0 x0_0 x0_1 x0_2→(¬x0_2 < (a0.length:Int))→R 0 1=D.i (Ar.std.wrap IntKind.u8 x0_1)
end HX

namespace HX
open Go Go.Proofs CX
structure V72 (a0:Rows) (a1:Rows) (R:Nat→Nat→D) (I0:Bool→Int→Prop) (m0:Bool→Int→Nat):Prop where
 g0:(¬(a0.length:Int)=(a1.length:Int))→R 0 0=D.b false
 i0:((a0.length:Int)=(a1.length:Int))→I0 false 0
 g2:∀x0_0 x0_1,I0 x0_0 x0_1→((a0.length:Int)=(a1.length:Int))→(x0_1 < (a0.length:Int))→0≤x0_1
 g3:∀x0_0 x0_1,I0 x0_0 x0_1→((a0.length:Int)=(a1.length:Int))→(x0_1 < (a0.length:Int))→x0_1 < (a0.length:Int)
 g4:∀x0_0 x0_1,I0 x0_0 x0_1→((a0.length:Int)=(a1.length:Int))→(x0_1 < (a0.length:Int))→(((Int.toNat x0_1:Nat):Int)) < (a0.length:Int)
 g6:∀x0_0 x0_1,I0 x0_0 x0_1→((a0.length:Int)=(a1.length:Int))→(x0_1 < (a0.length:Int))→x0_1 < (a1.length:Int)
 g7:∀x0_0 x0_1,I0 x0_0 x0_1→((a0.length:Int)=(a1.length:Int))→(x0_1 < (a0.length:Int))→(((Int.toNat x0_1:Nat):Int)) < (a1.length:Int)
 g8:∀x0_0 x0_1,I0 x0_0 x0_1→((a0.length:Int)=(a1.length:Int))→(x0_1 < (a0.length:Int))→(¬(D.int (gt a0 x0_1.toNat 0))=(D.int (gt a1 x0_1.toNat 0)))→R 0 0=D.b false
 g9:∀x0_0 x0_1,I0 x0_0 x0_1→((a0.length:Int)=(a1.length:Int))→(x0_1 < (a0.length:Int))→((D.int (gt a0 x0_1.toNat 0))=(D.int (gt a1 x0_1.toNat 0)))→-9223372036854775808≤(x0_1+1)∧(x0_1+1)≤9223372036854775807
 n10:∀x0_0 x0_1,I0 x0_0 x0_1→((a0.length:Int)=(a1.length:Int))→(x0_1 < (a0.length:Int))→((D.int (gt a0 x0_1.toNat 0))=(D.int (gt a1 x0_1.toNat 0)))→I0 x0_0 (x0_1+1)∧m0 x0_0 (x0_1+1) < m0 x0_0 x0_1
 g11:∀x0_0 x0_1,I0 x0_0 x0_1→((a0.length:Int)=(a1.length:Int))→(¬x0_1 < (a0.length:Int))→R 0 0=D.b true
end HX

namespace HX
open Go Go.Proofs CX
structure V17 (a0:Rows) (a1:Rows) (R:Nat→Nat→D) (I0:Bool→Int→Prop) (m0:Bool→Int→Nat):Prop where
 g0:(¬(a0.length:Int)=(a1.length:Int))→R 0 0=D.b false
 i0:((a0.length:Int)=(a1.length:Int))→I0 false 0
 g2:∀x0_0 x0_1,I0 x0_0 x0_1→((a0.length:Int)=(a1.length:Int))→(x0_1 < (a0.length:Int))→0≤x0_1
 g3:∀x0_0 x0_1,I0 x0_0 x0_1→((a0.length:Int)=(a1.length:Int))→(x0_1 < (a0.length:Int))→x0_1 < (a0.length:Int)
 g4:∀x0_0 x0_1,I0 x0_0 x0_1→((a0.length:Int)=(a1.length:Int))→(x0_1 < (a0.length:Int))→(((Int.toNat x0_1:Nat):Int)) < (a0.length:Int)
 g6:∀x0_0 x0_1,I0 x0_0 x0_1→((a0.length:Int)=(a1.length:Int))→(x0_1 < (a0.length:Int))→x0_1 < (a1.length:Int)
 g7:∀x0_0 x0_1,I0 x0_0 x0_1→((a0.length:Int)=(a1.length:Int))→(x0_1 < (a0.length:Int))→(((Int.toNat x0_1:Nat):Int)) < (a1.length:Int)
 g8:∀x0_0 x0_1,I0 x0_0 x0_1→((a0.length:Int)=(a1.length:Int))→(x0_1 < (a0.length:Int))→((¬(D.int (gt a0 x0_1.toNat 0))=(D.int (gt a1 x0_1.toNat 0)))∨(¬(D.int (gt a0 x0_1.toNat 1))=(D.int (gt a1 x0_1.toNat 1))))→R 0 0=D.b false
 g9:∀x0_0 x0_1,I0 x0_0 x0_1→((a0.length:Int)=(a1.length:Int))→(x0_1 < (a0.length:Int))→((D.int (gt a0 x0_1.toNat 0))=(D.int (gt a1 x0_1.toNat 0))∧(D.int (gt a0 x0_1.toNat 1))=(D.int (gt a1 x0_1.toNat 1)))→-9223372036854775808≤(x0_1+1)∧(x0_1+1)≤9223372036854775807
 n10:∀x0_0 x0_1,I0 x0_0 x0_1→((a0.length:Int)=(a1.length:Int))→(x0_1 < (a0.length:Int))→((D.int (gt a0 x0_1.toNat 0))=(D.int (gt a1 x0_1.toNat 0))∧(D.int (gt a0 x0_1.toNat 1))=(D.int (gt a1 x0_1.toNat 1)))→I0 x0_0 (x0_1+1)∧m0 x0_0 (x0_1+1) < m0 x0_0 x0_1
 g11:∀x0_0 x0_1,I0 x0_0 x0_1→((a0.length:Int)=(a1.length:Int))→(¬x0_1 < (a0.length:Int))→R 0 0=D.b true
end HX

namespace HX
open Go Go.Proofs CX
structure V50 (a0:Int) (a1:Int) (a2:Int) (R:Nat→Nat→D)  : Prop where
 g0:(a1≤a0)→R 0 0=D.b (decide (a0≤a2))
 g1:(¬a1≤a0)→R 0 0=D.b false
end HX

namespace HX
open Go Go.Proofs CX
structure V100 (a0:Int) (a1:Int) (R:Nat→Nat→D)  : Prop where
 g0:(¬a0=a0)→(¬a1=a1)→R 0 0=D.i 0
 g1:(¬a0=a0)→(a1=a1)→R 0 0=D.i (-1)
 g2:(a0=a0)→(¬a1=a1)→R 0 0=D.i 1
 g3:(a0=a0)→(a1=a1)→(a0 < a1)→R 0 0=D.i (-1)
 g4:(a0=a0)→(a1=a1)→(¬a0 < a1)→(a1 < a0)→R 0 0=D.i 1
 g5:(a0=a0)→(a1=a1)→(¬a0 < a1)→(¬a1 < a0)→R 0 0=D.i 0
end HX

namespace HX
open Go Go.Proofs CX
structure V76 (pre:Nat→List (List D)→Prop) (fn:Nat→List (List D)→Nat→Nat→D) (a0_0:Int) (a0_1:Int) (a1_0:Int) (a1_1:Int) (R:Nat→Nat→D) (I0:Int→Int→Prop) (m0:Int→Int→Nat):Prop where
 g0:pre 100 [[D.i a0_0],[D.i a1_0]]
 g1:pre 100 [[D.i a0_1],[D.i a1_1]]
 i0:I0 0 0
 g3:∀x0_0 x0_1,I0 x0_0 x0_1→(x0_1 < (([[D.i (D.int (fn 100 [[D.i a0_0],[D.i a1_0]] 0 0))],[D.i (D.int (fn 100 [[D.i a0_1],[D.i a1_1]] 0 0))]]).length:Int))→0≤x0_1
 g4:∀x0_0 x0_1,I0 x0_0 x0_1→(x0_1 < (([[D.i (D.int (fn 100 [[D.i a0_0],[D.i a1_0]] 0 0))],[D.i (D.int (fn 100 [[D.i a0_1],[D.i a1_1]] 0 0))]]).length:Int))→x0_1 < (([[D.i (D.int (fn 100 [[D.i a0_0],[D.i a1_0]] 0 0))],[D.i (D.int (fn 100 [[D.i a0_1],[D.i a1_1]] 0 0))]]).length:Int)
 g5:∀x0_0 x0_1,I0 x0_0 x0_1→(x0_1 < (([[D.i (D.int (fn 100 [[D.i a0_0],[D.i a1_0]] 0 0))],[D.i (D.int (fn 100 [[D.i a0_1],[D.i a1_1]] 0 0))]]).length:Int))→(((Int.toNat x0_1:Nat):Int)) < (([[D.i (D.int (fn 100 [[D.i a0_0],[D.i a1_0]] 0 0))],[D.i (D.int (fn 100 [[D.i a0_1],[D.i a1_1]] 0 0))]]).length:Int)
 g6:∀x0_0 x0_1,I0 x0_0 x0_1→(x0_1 < (([[D.i (D.int (fn 100 [[D.i a0_0],[D.i a1_0]] 0 0))],[D.i (D.int (fn 100 [[D.i a0_1],[D.i a1_1]] 0 0))]]).length:Int))→(¬(D.int (gt [[D.i (D.int (fn 100 [[D.i a0_0],[D.i a1_0]] 0 0))],[D.i (D.int (fn 100 [[D.i a0_1],[D.i a1_1]] 0 0))]] x0_1.toNat 0))=0)→R 0 0=D.i (D.int (gt [[D.i (D.int (fn 100 [[D.i a0_0],[D.i a1_0]] 0 0))],[D.i (D.int (fn 100 [[D.i a0_1],[D.i a1_1]] 0 0))]] x0_1.toNat 0))
 g7:∀x0_0 x0_1,I0 x0_0 x0_1→(x0_1 < (([[D.i (D.int (fn 100 [[D.i a0_0],[D.i a1_0]] 0 0))],[D.i (D.int (fn 100 [[D.i a0_1],[D.i a1_1]] 0 0))]]).length:Int))→((D.int (gt [[D.i (D.int (fn 100 [[D.i a0_0],[D.i a1_0]] 0 0))],[D.i (D.int (fn 100 [[D.i a0_1],[D.i a1_1]] 0 0))]] x0_1.toNat 0))=0)→-9223372036854775808≤(x0_1+1)∧(x0_1+1)≤9223372036854775807
 n8:∀x0_0 x0_1,I0 x0_0 x0_1→(x0_1 < (([[D.i (D.int (fn 100 [[D.i a0_0],[D.i a1_0]] 0 0))],[D.i (D.int (fn 100 [[D.i a0_1],[D.i a1_1]] 0 0))]]).length:Int))→((D.int (gt [[D.i (D.int (fn 100 [[D.i a0_0],[D.i a1_0]] 0 0))],[D.i (D.int (fn 100 [[D.i a0_1],[D.i a1_1]] 0 0))]] x0_1.toNat 0))=0)→I0 x0_0 (x0_1+1)∧m0 x0_0 (x0_1+1) < m0 x0_0 x0_1
 g9:∀x0_0 x0_1,I0 x0_0 x0_1→(¬x0_1 < (([[D.i (D.int (fn 100 [[D.i a0_0],[D.i a1_0]] 0 0))],[D.i (D.int (fn 100 [[D.i a0_1],[D.i a1_1]] 0 0))]]).length:Int))→R 0 0=D.i 0
end HX

namespace HX
open Go Go.Proofs CX
structure V71 (pre:Nat→List (List D)→Prop) (fn:Nat→List (List D)→Nat→Nat→D) (a0:Rows) (a1_0:Int) (a1_1:Int) (R:Nat→Nat→D)  : Prop where
 g0:pre 50 [[D.i a1_0],[D.i 0],[D.i 1073741824]]
 g1:(D.boo (fn 50 [[D.i a1_0],[D.i 0],[D.i 1073741824]] 0 0)=false)→R 0 0=D.i 3
 g2:(D.boo (fn 50 [[D.i a1_0],[D.i 0],[D.i 1073741824]] 0 0)=true)→pre 50 [[D.i a1_1],[D.i 0],[D.i 65535]]
 g3:(D.boo (fn 50 [[D.i a1_0],[D.i 0],[D.i 1073741824]] 0 0)=true)→(D.boo (fn 50 [[D.i a1_1],[D.i 0],[D.i 65535]] 0 0)=false)→R 0 0=D.i 3
 g4:(D.boo (fn 50 [[D.i a1_0],[D.i 0],[D.i 1073741824]] 0 0)=true)→(D.boo (fn 50 [[D.i a1_1],[D.i 0],[D.i 65535]] 0 0)=true)→(0 < (a0.length:Int))→-9223372036854775808≤((a0.length:Int) - 1)∧((a0.length:Int) - 1)≤9223372036854775807
 g5:(D.boo (fn 50 [[D.i a1_0],[D.i 0],[D.i 1073741824]] 0 0)=true)→(D.boo (fn 50 [[D.i a1_1],[D.i 0],[D.i 65535]] 0 0)=true)→(0 < (a0.length:Int))→0≤((a0.length:Int) - 1)
 g6:(D.boo (fn 50 [[D.i a1_0],[D.i 0],[D.i 1073741824]] 0 0)=true)→(D.boo (fn 50 [[D.i a1_1],[D.i 0],[D.i 65535]] 0 0)=true)→(0 < (a0.length:Int))→((a0.length:Int) - 1) < (a0.length:Int)
 g7:(D.boo (fn 50 [[D.i a1_0],[D.i 0],[D.i 1073741824]] 0 0)=true)→(D.boo (fn 50 [[D.i a1_1],[D.i 0],[D.i 65535]] 0 0)=true)→(0 < (a0.length:Int))→(((Int.toNat ((a0.length:Int) - 1):Nat):Int)) < (a0.length:Int)
 g8:(D.boo (fn 50 [[D.i a1_0],[D.i 0],[D.i 1073741824]] 0 0)=true)→(D.boo (fn 50 [[D.i a1_1],[D.i 0],[D.i 65535]] 0 0)=true)→(0 < (a0.length:Int))→pre 76 [[D.i (D.int (gt a0 (Int.toNat ((a0.length:Int) - 1)) 0)),D.i (D.int (gt a0 (Int.toNat ((a0.length:Int) - 1)) 1))],[D.i a1_0,D.i a1_1]]
 g9:(D.boo (fn 50 [[D.i a1_0],[D.i 0],[D.i 1073741824]] 0 0)=true)→(D.boo (fn 50 [[D.i a1_1],[D.i 0],[D.i 65535]] 0 0)=true)→(0 < (a0.length:Int))→(0≤(D.int (fn 76 [[D.i (D.int (gt a0 (Int.toNat ((a0.length:Int) - 1)) 0)),D.i (D.int (gt a0 (Int.toNat ((a0.length:Int) - 1)) 1))],[D.i a1_0,D.i a1_1]] 0 0)))→R 0 0=D.i 2
 g10:(D.boo (fn 50 [[D.i a1_0],[D.i 0],[D.i 1073741824]] 0 0)=true)→(D.boo (fn 50 [[D.i a1_1],[D.i 0],[D.i 65535]] 0 0)=true)→(0 < (a0.length:Int))→(¬0≤(D.int (fn 76 [[D.i (D.int (gt a0 (Int.toNat ((a0.length:Int) - 1)) 0)),D.i (D.int (gt a0 (Int.toNat ((a0.length:Int) - 1)) 1))],[D.i a1_0,D.i a1_1]] 0 0)))→R 0 0=D.i 0
 g11:(D.boo (fn 50 [[D.i a1_0],[D.i 0],[D.i 1073741824]] 0 0)=true)→(D.boo (fn 50 [[D.i a1_1],[D.i 0],[D.i 65535]] 0 0)=true)→(¬0 < (a0.length:Int))→R 0 0=D.i 0
end HX

namespace HX
open Go Go.Proofs CX
structure V51 (pre:Nat→List (List D)→Prop) (fn:Nat→List (List D)→Nat→Nat→D) (a0:Rows) (R:Nat→Nat→D) (I0:Int→Int→Prop) (m0:Int→Int→Nat):Prop where
 g0:(65536 < (a0.length:Int))→R 0 0=D.i 9
 i0:(¬65536 < (a0.length:Int))→I0 0 0
 g2:∀x0_0 x0_1,I0 x0_0 x0_1→(¬65536 < (a0.length:Int))→(x0_1 < (a0.length:Int))→0≤x0_1
 g3:∀x0_0 x0_1,I0 x0_0 x0_1→(¬65536 < (a0.length:Int))→(x0_1 < (a0.length:Int))→x0_1 < (a0.length:Int)
 g4:∀x0_0 x0_1,I0 x0_0 x0_1→(¬65536 < (a0.length:Int))→(x0_1 < (a0.length:Int))→(((Int.toNat x0_1:Nat):Int)) < (a0.length:Int)
 g6:∀x0_0 x0_1,I0 x0_0 x0_1→(¬65536 < (a0.length:Int))→(x0_1 < (a0.length:Int))→x0_1≤(a0.length:Int)
 g7:∀x0_0 x0_1,I0 x0_0 x0_1→(¬65536 < (a0.length:Int))→(x0_1 < (a0.length:Int))→pre 71 [[D.l (List.take x0_1.toNat (List.drop 0 a0))],[D.i (D.int (gt a0 x0_1.toNat 0)),D.i (D.int (gt a0 x0_1.toNat 1))]]
 g8:∀x0_0 x0_1,I0 x0_0 x0_1→(¬65536 < (a0.length:Int))→(x0_1 < (a0.length:Int))→(¬(D.int (fn 71 [[D.l (List.take x0_1.toNat (List.drop 0 a0))],[D.i (D.int (gt a0 x0_1.toNat 0)),D.i (D.int (gt a0 x0_1.toNat 1))]] 0 0))=0)→R 0 0=D.i (D.int (fn 71 [[D.l (List.take x0_1.toNat (List.drop 0 a0))],[D.i (D.int (gt a0 x0_1.toNat 0)),D.i (D.int (gt a0 x0_1.toNat 1))]] 0 0))
 g9:∀x0_0 x0_1,I0 x0_0 x0_1→(¬65536 < (a0.length:Int))→(x0_1 < (a0.length:Int))→((D.int (fn 71 [[D.l (List.take x0_1.toNat (List.drop 0 a0))],[D.i (D.int (gt a0 x0_1.toNat 0)),D.i (D.int (gt a0 x0_1.toNat 1))]] 0 0))=0)→-9223372036854775808≤(x0_1+1)∧(x0_1+1)≤9223372036854775807
 n10:∀x0_0 x0_1,I0 x0_0 x0_1→(¬65536 < (a0.length:Int))→(x0_1 < (a0.length:Int))→((D.int (fn 71 [[D.l (List.take x0_1.toNat (List.drop 0 a0))],[D.i (D.int (gt a0 x0_1.toNat 0)),D.i (D.int (gt a0 x0_1.toNat 1))]] 0 0))=0)→I0 x0_0 (x0_1+1)∧m0 x0_0 (x0_1+1) < m0 x0_0 x0_1
 g11:∀x0_0 x0_1,I0 x0_0 x0_1→(¬65536 < (a0.length:Int))→(¬x0_1 < (a0.length:Int))→R 0 0=D.i 0
end HX

namespace HX
open Go Go.Proofs CX
structure V27 (pre:Nat→List (List D)→Prop) (fn:Nat→List (List D)→Nat→Nat→D) (a0:Rows) (R:Nat→Nat→D)  : Prop where
 g0:pre 51 [[D.l a0]]
 g1:(¬(D.int (fn 51 [[D.l a0]] 0 0))=0)→R 0 0=D.l []
 g2:(¬(D.int (fn 51 [[D.l a0]] 0 0))=0)→R 1 0=D.i (D.int (fn 51 [[D.l a0]] 0 0))
 g3:((D.int (fn 51 [[D.l a0]] 0 0))=0)→pre 63 [[D.l a0]]
 g4:((D.int (fn 51 [[D.l a0]] 0 0))=0)→R 0 0=D.l (D.rows (fn 63 [[D.l a0]] 0 0))
 g5:((D.int (fn 51 [[D.l a0]] 0 0))=0)→R 1 0=D.i 0
end HX

namespace HX
open Go Go.Proofs CX
structure V38 (a0:Rows) (a1:Int) (R:Nat→Nat→D) (I0:Int→Int→Rows→Int→Prop) (m0:Int→Int→Rows→Int→Nat):Prop where
 i0:I0 (-1) 0 [] 0
 g1:∀x0_0 x0_1 x0_2 x0_3,I0 x0_0 x0_1 x0_2 x0_3→(x0_3 < (a0.length:Int))→0≤x0_3
 g2:∀x0_0 x0_1 x0_2 x0_3,I0 x0_0 x0_1 x0_2 x0_3→(x0_3 < (a0.length:Int))→x0_3 < (a0.length:Int)
 g3:∀x0_0 x0_1 x0_2 x0_3,I0 x0_0 x0_1 x0_2 x0_3→(x0_3 < (a0.length:Int))→(((Int.toNat x0_3:Nat):Int)) < (a0.length:Int)
 g4:∀x0_0 x0_1 x0_2 x0_3,I0 x0_0 x0_1 x0_2 x0_3→(x0_3 < (a0.length:Int))→(Ar.std.wrap IntKind.u32 (a1+1))≠0
 g5:∀x0_0 x0_1 x0_2 x0_3,I0 x0_0 x0_1 x0_2 x0_3→(x0_3 < (a0.length:Int))→-9223372036854775808≤(Int.tmod (D.int (gt a0 x0_3.toNat 0)) (Ar.std.wrap IntKind.u32 (a1+1)))∧(Int.tmod (D.int (gt a0 x0_3.toNat 0)) (Ar.std.wrap IntKind.u32 (a1+1)))≤9223372036854775807
 g6:∀x0_0 x0_1 x0_2 x0_3,I0 x0_0 x0_1 x0_2 x0_3→(x0_3 < (a0.length:Int))→((Int.tmod (D.int (gt a0 x0_3.toNat 0)) (Ar.std.wrap IntKind.u32 (a1+1)))=0)→-9223372036854775808≤(x0_0+1)∧(x0_0+1)≤9223372036854775807
 g7:∀x0_0 x0_1 x0_2 x0_3,I0 x0_0 x0_1 x0_2 x0_3→(x0_3 < (a0.length:Int))→((Int.tmod (D.int (gt a0 x0_3.toNat 0)) (Ar.std.wrap IntKind.u32 (a1+1)))=0)→(100:Int)≠0
 g8:∀x0_0 x0_1 x0_2 x0_3,I0 x0_0 x0_1 x0_2 x0_3→(x0_3 < (a0.length:Int))→((Int.tmod (D.int (gt a0 x0_3.toNat 0)) (Ar.std.wrap IntKind.u32 (a1+1)))=0)→-9223372036854775808≤(Int.tmod (D.int (gt a0 x0_3.toNat 1)) 100)∧(Int.tmod (D.int (gt a0 x0_3.toNat 1)) 100)≤9223372036854775807
 g9:∀x0_0 x0_1 x0_2 x0_3,I0 x0_0 x0_1 x0_2 x0_3→(x0_3 < (a0.length:Int))→((Int.tmod (D.int (gt a0 x0_3.toNat 0)) (Ar.std.wrap IntKind.u32 (a1+1)))=0)→-9223372036854775808≤((x0_0+1)+(Int.tmod (D.int (gt a0 x0_3.toNat 1)) 100))∧((x0_0+1)+(Int.tmod (D.int (gt a0 x0_3.toNat 1)) 100))≤9223372036854775807
 g10:∀x0_0 x0_1 x0_2 x0_3,I0 x0_0 x0_1 x0_2 x0_3→(x0_3 < (a0.length:Int))→((Int.tmod (D.int (gt a0 x0_3.toNat 0)) (Ar.std.wrap IntKind.u32 (a1+1)))=0)→(((x0_0+1)+(Int.tmod (D.int (gt a0 x0_3.toNat 1)) 100))≤65535)→(100:Int)≠0
 g11:∀x0_0 x0_1 x0_2 x0_3,I0 x0_0 x0_1 x0_2 x0_3→(x0_3 < (a0.length:Int))→((Int.tmod (D.int (gt a0 x0_3.toNat 0)) (Ar.std.wrap IntKind.u32 (a1+1)))=0)→(((x0_0+1)+(Int.tmod (D.int (gt a0 x0_3.toNat 1)) 100))≤65535)→-9223372036854775808≤(Int.tmod (D.int (gt a0 x0_3.toNat 1)) 100)∧(Int.tmod (D.int (gt a0 x0_3.toNat 1)) 100)≤9223372036854775807
 g12:∀x0_0 x0_1 x0_2 x0_3,I0 x0_0 x0_1 x0_2 x0_3→(x0_3 < (a0.length:Int))→((Int.tmod (D.int (gt a0 x0_3.toNat 0)) (Ar.std.wrap IntKind.u32 (a1+1)))=0)→(((x0_0+1)+(Int.tmod (D.int (gt a0 x0_3.toNat 1)) 100))≤65535)→-9223372036854775808≤(1+(Int.tmod (D.int (gt a0 x0_3.toNat 1)) 100))∧(1+(Int.tmod (D.int (gt a0 x0_3.toNat 1)) 100))≤9223372036854775807
 g13:∀x0_0 x0_1 x0_2 x0_3,I0 x0_0 x0_1 x0_2 x0_3→(x0_3 < (a0.length:Int))→((Int.tmod (D.int (gt a0 x0_3.toNat 0)) (Ar.std.wrap IntKind.u32 (a1+1)))=0)→(((x0_0+1)+(Int.tmod (D.int (gt a0 x0_3.toNat 1)) 100))≤65535)→-9223372036854775808≤(x0_0+(1+(Int.tmod (D.int (gt a0 x0_3.toNat 1)) 100)))∧(x0_0+(1+(Int.tmod (D.int (gt a0 x0_3.toNat 1)) 100)))≤9223372036854775807
 g14:∀x0_0 x0_1 x0_2 x0_3,I0 x0_0 x0_1 x0_2 x0_3→(x0_3 < (a0.length:Int))→((Int.tmod (D.int (gt a0 x0_3.toNat 0)) (Ar.std.wrap IntKind.u32 (a1+1)))=0)→(((x0_0+1)+(Int.tmod (D.int (gt a0 x0_3.toNat 1)) 100))≤65535)→(1073741824 < x0_1)→R 0 0=D.l x0_2
 g15:∀x0_0 x0_1 x0_2 x0_3,I0 x0_0 x0_1 x0_2 x0_3→(x0_3 < (a0.length:Int))→((Int.tmod (D.int (gt a0 x0_3.toNat 0)) (Ar.std.wrap IntKind.u32 (a1+1)))=0)→(((x0_0+1)+(Int.tmod (D.int (gt a0 x0_3.toNat 1)) 100))≤65535)→(¬1073741824 < x0_1)→(x0_2.length+(List.length ([[D.i x0_1,D.i (x0_0+(1+(Int.tmod (D.int (gt a0 x0_3.toNat 1)) 100)))]]:Rows))) * 16≤4294967296∧(x0_2.length+(List.length ([[D.i x0_1,D.i (x0_0+(1+(Int.tmod (D.int (gt a0 x0_3.toNat 1)) 100)))]]:Rows)))≤4294967296
 g16:∀x0_0 x0_1 x0_2 x0_3,I0 x0_0 x0_1 x0_2 x0_3→(x0_3 < (a0.length:Int))→((Int.tmod (D.int (gt a0 x0_3.toNat 0)) (Ar.std.wrap IntKind.u32 (a1+1)))=0)→(((x0_0+1)+(Int.tmod (D.int (gt a0 x0_3.toNat 1)) 100))≤65535)→(¬1073741824 < x0_1)→-9223372036854775808≤(x0_3+1)∧(x0_3+1)≤9223372036854775807
 n17:∀x0_0 x0_1 x0_2 x0_3,I0 x0_0 x0_1 x0_2 x0_3→(x0_3 < (a0.length:Int))→((Int.tmod (D.int (gt a0 x0_3.toNat 0)) (Ar.std.wrap IntKind.u32 (a1+1)))=0)→(((x0_0+1)+(Int.tmod (D.int (gt a0 x0_3.toNat 1)) 100))≤65535)→(¬1073741824 < x0_1)→I0 (x0_0+(1+(Int.tmod (D.int (gt a0 x0_3.toNat 1)) 100))) x0_1 (x0_2++[[D.i x0_1,D.i (x0_0+(1+(Int.tmod (D.int (gt a0 x0_3.toNat 1)) 100)))]]) (x0_3+1)∧m0 (x0_0+(1+(Int.tmod (D.int (gt a0 x0_3.toNat 1)) 100))) x0_1 (x0_2++[[D.i x0_1,D.i (x0_0+(1+(Int.tmod (D.int (gt a0 x0_3.toNat 1)) 100)))]]) (x0_3+1) < m0 x0_0 x0_1 x0_2 x0_3
 g18:∀x0_0 x0_1 x0_2 x0_3,I0 x0_0 x0_1 x0_2 x0_3→(x0_3 < (a0.length:Int))→((Int.tmod (D.int (gt a0 x0_3.toNat 0)) (Ar.std.wrap IntKind.u32 (a1+1)))=0)→(¬((x0_0+1)+(Int.tmod (D.int (gt a0 x0_3.toNat 1)) 100))≤65535)→-9223372036854775808≤(x0_1+(mxI 1 (Int.tmod (D.int (gt a0 x0_3.toNat 0)) (Ar.std.wrap IntKind.u32 (a1+1)))))∧(x0_1+(mxI 1 (Int.tmod (D.int (gt a0 x0_3.toNat 0)) (Ar.std.wrap IntKind.u32 (a1+1)))))≤9223372036854775807
 g19:∀x0_0 x0_1 x0_2 x0_3,I0 x0_0 x0_1 x0_2 x0_3→(x0_3 < (a0.length:Int))→((Int.tmod (D.int (gt a0 x0_3.toNat 0)) (Ar.std.wrap IntKind.u32 (a1+1)))=0)→(¬((x0_0+1)+(Int.tmod (D.int (gt a0 x0_3.toNat 1)) 100))≤65535)→(65536:Int)≠0
 g20:∀x0_0 x0_1 x0_2 x0_3,I0 x0_0 x0_1 x0_2 x0_3→(x0_3 < (a0.length:Int))→((Int.tmod (D.int (gt a0 x0_3.toNat 0)) (Ar.std.wrap IntKind.u32 (a1+1)))=0)→(¬((x0_0+1)+(Int.tmod (D.int (gt a0 x0_3.toNat 1)) 100))≤65535)→-9223372036854775808≤(Int.tmod (D.int (gt a0 x0_3.toNat 1)) 65536)∧(Int.tmod (D.int (gt a0 x0_3.toNat 1)) 65536)≤9223372036854775807
 g21:∀x0_0 x0_1 x0_2 x0_3,I0 x0_0 x0_1 x0_2 x0_3→(x0_3 < (a0.length:Int))→((Int.tmod (D.int (gt a0 x0_3.toNat 0)) (Ar.std.wrap IntKind.u32 (a1+1)))=0)→(¬((x0_0+1)+(Int.tmod (D.int (gt a0 x0_3.toNat 1)) 100))≤65535)→(1073741824 < (x0_1+(mxI 1 (Int.tmod (D.int (gt a0 x0_3.toNat 0)) (Ar.std.wrap IntKind.u32 (a1+1))))))→R 0 0=D.l x0_2
 g22:∀x0_0 x0_1 x0_2 x0_3,I0 x0_0 x0_1 x0_2 x0_3→(x0_3 < (a0.length:Int))→((Int.tmod (D.int (gt a0 x0_3.toNat 0)) (Ar.std.wrap IntKind.u32 (a1+1)))=0)→(¬((x0_0+1)+(Int.tmod (D.int (gt a0 x0_3.toNat 1)) 100))≤65535)→(¬1073741824 < (x0_1+(mxI 1 (Int.tmod (D.int (gt a0 x0_3.toNat 0)) (Ar.std.wrap IntKind.u32 (a1+1))))))→(x0_2.length+(List.length ([[D.i (x0_1+(mxI 1 (Int.tmod (D.int (gt a0 x0_3.toNat 0)) (Ar.std.wrap IntKind.u32 (a1+1))))),D.i (Int.tmod (D.int (gt a0 x0_3.toNat 1)) 65536)]]:Rows))) * 16≤4294967296∧(x0_2.length+(List.length ([[D.i (x0_1+(mxI 1 (Int.tmod (D.int (gt a0 x0_3.toNat 0)) (Ar.std.wrap IntKind.u32 (a1+1))))),D.i (Int.tmod (D.int (gt a0 x0_3.toNat 1)) 65536)]]:Rows)))≤4294967296
 g23:∀x0_0 x0_1 x0_2 x0_3,I0 x0_0 x0_1 x0_2 x0_3→(x0_3 < (a0.length:Int))→((Int.tmod (D.int (gt a0 x0_3.toNat 0)) (Ar.std.wrap IntKind.u32 (a1+1)))=0)→(¬((x0_0+1)+(Int.tmod (D.int (gt a0 x0_3.toNat 1)) 100))≤65535)→(¬1073741824 < (x0_1+(mxI 1 (Int.tmod (D.int (gt a0 x0_3.toNat 0)) (Ar.std.wrap IntKind.u32 (a1+1))))))→-9223372036854775808≤(x0_3+1)∧(x0_3+1)≤9223372036854775807
 n24:∀x0_0 x0_1 x0_2 x0_3,I0 x0_0 x0_1 x0_2 x0_3→(x0_3 < (a0.length:Int))→((Int.tmod (D.int (gt a0 x0_3.toNat 0)) (Ar.std.wrap IntKind.u32 (a1+1)))=0)→(¬((x0_0+1)+(Int.tmod (D.int (gt a0 x0_3.toNat 1)) 100))≤65535)→(¬1073741824 < (x0_1+(mxI 1 (Int.tmod (D.int (gt a0 x0_3.toNat 0)) (Ar.std.wrap IntKind.u32 (a1+1))))))→I0 (Int.tmod (D.int (gt a0 x0_3.toNat 1)) 65536) (x0_1+(mxI 1 (Int.tmod (D.int (gt a0 x0_3.toNat 0)) (Ar.std.wrap IntKind.u32 (a1+1))))) (x0_2++[[D.i (x0_1+(mxI 1 (Int.tmod (D.int (gt a0 x0_3.toNat 0)) (Ar.std.wrap IntKind.u32 (a1+1))))),D.i (Int.tmod (D.int (gt a0 x0_3.toNat 1)) 65536)]]) (x0_3+1)∧m0 (Int.tmod (D.int (gt a0 x0_3.toNat 1)) 65536) (x0_1+(mxI 1 (Int.tmod (D.int (gt a0 x0_3.toNat 0)) (Ar.std.wrap IntKind.u32 (a1+1))))) (x0_2++[[D.i (x0_1+(mxI 1 (Int.tmod (D.int (gt a0 x0_3.toNat 0)) (Ar.std.wrap IntKind.u32 (a1+1))))),D.i (Int.tmod (D.int (gt a0 x0_3.toNat 1)) 65536)]]) (x0_3+1) < m0 x0_0 x0_1 x0_2 x0_3
 g25:∀x0_0 x0_1 x0_2 x0_3,I0 x0_0 x0_1 x0_2 x0_3→(x0_3 < (a0.length:Int))→(¬(Int.tmod (D.int (gt a0 x0_3.toNat 0)) (Ar.std.wrap IntKind.u32 (a1+1)))=0)→-9223372036854775808≤(x0_1+(mxI 1 (Int.tmod (D.int (gt a0 x0_3.toNat 0)) (Ar.std.wrap IntKind.u32 (a1+1)))))∧(x0_1+(mxI 1 (Int.tmod (D.int (gt a0 x0_3.toNat 0)) (Ar.std.wrap IntKind.u32 (a1+1)))))≤9223372036854775807
 g26:∀x0_0 x0_1 x0_2 x0_3,I0 x0_0 x0_1 x0_2 x0_3→(x0_3 < (a0.length:Int))→(¬(Int.tmod (D.int (gt a0 x0_3.toNat 0)) (Ar.std.wrap IntKind.u32 (a1+1)))=0)→(65536:Int)≠0
 g27:∀x0_0 x0_1 x0_2 x0_3,I0 x0_0 x0_1 x0_2 x0_3→(x0_3 < (a0.length:Int))→(¬(Int.tmod (D.int (gt a0 x0_3.toNat 0)) (Ar.std.wrap IntKind.u32 (a1+1)))=0)→-9223372036854775808≤(Int.tmod (D.int (gt a0 x0_3.toNat 1)) 65536)∧(Int.tmod (D.int (gt a0 x0_3.toNat 1)) 65536)≤9223372036854775807
 g28:∀x0_0 x0_1 x0_2 x0_3,I0 x0_0 x0_1 x0_2 x0_3→(x0_3 < (a0.length:Int))→(¬(Int.tmod (D.int (gt a0 x0_3.toNat 0)) (Ar.std.wrap IntKind.u32 (a1+1)))=0)→(1073741824 < (x0_1+(mxI 1 (Int.tmod (D.int (gt a0 x0_3.toNat 0)) (Ar.std.wrap IntKind.u32 (a1+1))))))→R 0 0=D.l x0_2
 g29:∀x0_0 x0_1 x0_2 x0_3,I0 x0_0 x0_1 x0_2 x0_3→(x0_3 < (a0.length:Int))→(¬(Int.tmod (D.int (gt a0 x0_3.toNat 0)) (Ar.std.wrap IntKind.u32 (a1+1)))=0)→(¬1073741824 < (x0_1+(mxI 1 (Int.tmod (D.int (gt a0 x0_3.toNat 0)) (Ar.std.wrap IntKind.u32 (a1+1))))))→(x0_2.length+(List.length ([[D.i (x0_1+(mxI 1 (Int.tmod (D.int (gt a0 x0_3.toNat 0)) (Ar.std.wrap IntKind.u32 (a1+1))))),D.i (Int.tmod (D.int (gt a0 x0_3.toNat 1)) 65536)]]:Rows))) * 16≤4294967296∧(x0_2.length+(List.length ([[D.i (x0_1+(mxI 1 (Int.tmod (D.int (gt a0 x0_3.toNat 0)) (Ar.std.wrap IntKind.u32 (a1+1))))),D.i (Int.tmod (D.int (gt a0 x0_3.toNat 1)) 65536)]]:Rows)))≤4294967296
 g30:∀x0_0 x0_1 x0_2 x0_3,I0 x0_0 x0_1 x0_2 x0_3→(x0_3 < (a0.length:Int))→(¬(Int.tmod (D.int (gt a0 x0_3.toNat 0)) (Ar.std.wrap IntKind.u32 (a1+1)))=0)→(¬1073741824 < (x0_1+(mxI 1 (Int.tmod (D.int (gt a0 x0_3.toNat 0)) (Ar.std.wrap IntKind.u32 (a1+1))))))→-9223372036854775808≤(x0_3+1)∧(x0_3+1)≤9223372036854775807
 n31:∀x0_0 x0_1 x0_2 x0_3,I0 x0_0 x0_1 x0_2 x0_3→(x0_3 < (a0.length:Int))→(¬(Int.tmod (D.int (gt a0 x0_3.toNat 0)) (Ar.std.wrap IntKind.u32 (a1+1)))=0)→(¬1073741824 < (x0_1+(mxI 1 (Int.tmod (D.int (gt a0 x0_3.toNat 0)) (Ar.std.wrap IntKind.u32 (a1+1))))))→I0 (Int.tmod (D.int (gt a0 x0_3.toNat 1)) 65536) (x0_1+(mxI 1 (Int.tmod (D.int (gt a0 x0_3.toNat 0)) (Ar.std.wrap IntKind.u32 (a1+1))))) (x0_2++[[D.i (x0_1+(mxI 1 (Int.tmod (D.int (gt a0 x0_3.toNat 0)) (Ar.std.wrap IntKind.u32 (a1+1))))),D.i (Int.tmod (D.int (gt a0 x0_3.toNat 1)) 65536)]]) (x0_3+1)∧m0 (Int.tmod (D.int (gt a0 x0_3.toNat 1)) 65536) (x0_1+(mxI 1 (Int.tmod (D.int (gt a0 x0_3.toNat 0)) (Ar.std.wrap IntKind.u32 (a1+1))))) (x0_2++[[D.i (x0_1+(mxI 1 (Int.tmod (D.int (gt a0 x0_3.toNat 0)) (Ar.std.wrap IntKind.u32 (a1+1))))),D.i (Int.tmod (D.int (gt a0 x0_3.toNat 1)) 65536)]]) (x0_3+1) < m0 x0_0 x0_1 x0_2 x0_3
 g32:∀x0_0 x0_1 x0_2 x0_3,I0 x0_0 x0_1 x0_2 x0_3→(¬x0_3 < (a0.length:Int))→R 0 0=D.l x0_2
end HX

namespace HX
open Go Go.Proofs CX
def byL (l:Rows):Prop:=∀i,i < l.length→0≤(gt l i 0).int∧(gt l i 0).int≤255
theorem sumS_bd {l:Rows} (h:byL l):∀q,q≤l.length→(0≤(sumS l q).1∧(sumS l q).1≤254)∧0≤(sumS l q).2∧(sumS l q).2≤254
 |0,_=>by simp [sumS]
 |q+1,hq=>by
  obtain ⟨a,b⟩:=sumS_bd h q (by omega)
  have c:=h q (by omega)
  simp only [sumS]
  rw [Int.tmod_eq_emod_of_nonneg (a:=(sumS l q).1+(gt l q 0).int) (by omega)]
  rw [Int.tmod_eq_emod_of_nonneg (a:=(sumS l q).2+_) (by omega)]
  omega
theorem law67 {a0 : Rows} (hb : byL a0) (hl : a0.length ≤ 4000000000) {R : Nat → Nat → D} (h0 : R 0 0 = .i (sum0 a0)) (h1 : R 0 1 = .i (sum1 a0)) :
    V67 a0 R (fun s t i=>∃q:Nat,i=q∧q≤a0.length∧(s,t)=sumS a0 q) (fun _ _ i=>(a0.length - i).toNat):=by
  constructor
  case i0=>exact ⟨0,rfl,by omega,rfl⟩
  all_goals (intro s t i hI; obtain ⟨q, hq, hql, e⟩ := hI; subst hq; have bd := sumS_bd hb q hql; have e1 : (sumS a0 q).1 = s := by rw [← e]
             have e2:(sumS a0 q).2=t:=by rw [←e]
             rw [e1,e2] at bd;(try simp only [Int.toNat_natCast]);intro hx)
  case g11=>rw [h0,sum0,←e1,show q=a0.length by omega]
  case g12=>rw [h1,sum1,←e2,show q=a0.length by omega]
  case n10=>exact ⟨⟨q+1,by omega,by omega,by rw [sumS,e1,e2]⟩,by omega⟩
  all_goals (try (have c:=hb q (by omega)))
  case g7=>
    rw [Int.tmod_eq_emod_of_nonneg (by omega)]
    omega
  all_goals omega
def inB (a b c:Int):Bool:=decide (b≤a∧a≤c)
theorem law50 {a b c:Int} {R:Nat→Nat→D} (hR:R 0 0=.b (inB a b c)):V50 a b c R:=by
 constructor
 ·intro h;rw [hR,inB];congr 1;exact decide_eq_decide.2 ⟨fun h=>h.2,fun h2=>⟨h,h2⟩⟩
 ·intro h;rw [hR,inB,decide_eq_false fun h2=>h h2.1]
def cmpI (a b:Int):Int:=if a < b then -1 else if b < a then 1 else 0
theorem law100 {a b:Int} {R:Nat→Nat→D} (hR:R 0 0=.i (cmpI a b)):V100 a b R:=by
 constructor
 case g0=>intro h;exact absurd rfl h
 case g1=>intro h;exact absurd rfl h
 case g2=>intro _ h;exact absurd rfl h
 case g3=>intro _ _ h;rw [hR,cmpI,if_pos h]
 case g4=>intro _ _ h h2;rw [hR,cmpI,if_neg h,if_pos h2]
 case g5=>intro _ _ h h2;rw [hR,cmpI,if_neg h,if_neg h2]
def cmpE (t i t2 i2:Int):Int:=if cmpI t t2=0 then cmpI i i2 else cmpI t t2
theorem law76 {pre:Nat→List (List D)→Prop} {fn:Nat→List (List D)→Nat→Nat→D} (hp:∀x,pre 100 x) (hf:∀a b,fn 100 [[.i a],[.i b]] 0 0=.i (cmpI a b)) {t i t2 i2:Int} {R:Nat→Nat→D} (hR:R 0 0=.i (cmpE t i t2 i2)) :
  V76 pre fn t i t2 i2 R (fun _ k=>k=0∨(k=1∧cmpI t t2=0)∨(k=2∧cmpI t t2=0∧cmpI i i2=0)) (fun _ k=>(2 - k).toNat):=by
 have hi:∀n:Int,(D.i n).int=n:=fun _=>rfl
 constructor
 all_goals (try simp only [hf,hi,List.length_cons,List.length_nil])
 case g0 |g1=>exact hp _
 case i0=>left;trivial
 all_goals (intro u k hI)
 case g6=>
  intro hk h
  rcases hI with rfl |⟨rfl,e⟩ |⟨rfl,e,e2⟩
  ·have h:¬cmpI t t2=0:=h
   rw [hR,cmpE,if_neg h]
   rfl
  ·rw [hR,cmpE,if_pos e]
   rfl
  ·omega
 case n8=>
  intro hk h
  rcases hI with rfl |⟨rfl,e⟩ |⟨rfl,e,e2⟩
  ·exact ⟨.inr (.inl ⟨rfl,h⟩),by omega⟩
  ·exact ⟨.inr (.inr ⟨rfl,e,h⟩),by omega⟩
  ·omega
 case g9=>
  intro hk
  rcases hI with rfl |⟨rfl,e⟩ |⟨rfl,e,e2⟩
  ·omega
  ·omega
  ·rw [hR,cmpE,if_pos e,e2]
 all_goals (intros;omega)
def folE (l:Rows) (t i:Int):Int:=
 if ¬(inB t 0 1073741824=true∧inB i 0 65535=true) then 3 else if 0 < l.length∧0≤cmpE (eT l (l.length - 1)) (eI l (l.length - 1)) t i then 2 else 0
theorem law71 {pre:Nat→List (List D)→Prop} {fn:Nat→List (List D)→Nat→Nat→D} (hp50:∀x,pre 50 x) (hf50:∀a b c,fn 50 [[.i a],[.i b],[.i c]] 0 0=.b (inB a b c))
  (hp76:∀x,pre 76 x) (hf76:∀a b c d,fn 76 [[.i a,.i b],[.i c,.i d]] 0 0=.i (cmpE a b c d)) {l:Rows} (hl:(l.length:Int)≤9223372036854775807) {t i:Int} {R:Nat→Nat→D} (hR:R 0 0=.i (folE l t i)):V71 pre fn l t i R:=by
 have hi:∀n:Int,(D.i n).int=n:=fun _=>rfl
 have hb:∀n:Bool,(D.b n).boo=n:=fun _=>rfl
 constructor
 all_goals (try simp only [hf50,hf76,hi,hb])
 case g0=>exact hp50 _
 case g1=>intro h;rw [hR,folE,if_pos fun h2=>by rw [h] at h2;cases h2.1]
 case g2=>intro _;exact hp50 _
 case g3=>intro _ h;rw [hR,folE,if_pos fun h2=>by rw [h] at h2;cases h2.2]
 all_goals (intro h1 h2 h3)
 case g8=>exact hp76 _
 case g9=>
  intro h4
  rw [show ((l.length:Int) - 1).toNat=l.length - 1 by omega] at h4
  have h4:0≤cmpE (eT l (l.length - 1)) (eI l (l.length - 1)) t i:=h4
  rw [hR,folE,if_neg fun h=>h ⟨h1,h2⟩,if_pos ⟨by omega,h4⟩]
 case g10=>
  intro h4
  rw [show ((l.length:Int) - 1).toNat=l.length - 1 by omega] at h4
  have h4:¬0≤cmpE (eT l (l.length - 1)) (eI l (l.length - 1)) t i:=h4
  rw [hR,folE,if_neg fun h=>h ⟨h1,h2⟩,if_neg fun h=>h4 h.2]
 case g11=>rw [hR,folE,if_neg fun h=>h ⟨h1,h2⟩,if_neg fun h=>h3 (by omega)]
 all_goals omega
def chkG (l:Rows):Nat→Int
 |0=>0
 |f+1=>if folE (l.take (l.length - (f+1))) (eT l (l.length - (f+1))) (eI l (l.length - (f+1)))=0 then chkG l f else folE (l.take (l.length - (f+1))) (eT l (l.length - (f+1))) (eI l (l.length - (f+1)))
def chkE (l:Rows):Int:=if 65536 < l.length then 9 else chkG l l.length
noncomputable def pacL (l:Rows):Rows:=if chkE l=0 then packP l else []
end HX
