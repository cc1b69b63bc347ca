/-
  Texts of the executors: W52, W46, W14.
-/
import Derived.Test.YtmnaiddobipclaaSenseLevels9
set_option linter.all false
namespace HX
open Go Go.Proofs CX
set_option maxHeartbeats 4000000 in
set_option maxRecDepth 100000 in
theorem walk52 {ro A pre fn} (hE:EnvOk ⟨A,(cxE ro),ksF,sigL [],pre,fn⟩) {P:List (List D)→Prop} {res:List (List D)→Nat→Nat→D}
  (hv:∀(a0_0:Int) (a0_1:Int) (a0_2:Int),P [[.i a0_0,.i a0_1,.i a0_2]]→V52 a0_0 a0_1 a0_2 (res [[.i a0_0,.i a0_1,.i a0_2]]) ) :
  PureC (cxE ro) 52 ⟨[(true,[.int .i64,.int .i64,.int .i64])],[(false,[.int .i64])],false⟩ P res:=by
 have h:=hE.A
 simp only [] at h
 have hinl:∀f fn,inlL [] f=some fn→(cxE ro).fn f=some fn∧(cxE ro).ext f=none:=Inls.ok (by repeat (first |exact .nil |refine .cons rfl rfl ?_))
 refine PureC.of_vc hE hinl 6 (f:=52) (fn:=Try.f52) ⟨rfl,rfl⟩ ?_
 intro a0_0 a0_1 a0_2 hP
 obtain ⟨R,hR⟩:∃R,res [[.i a0_0,.i a0_1,.i a0_2]]=R:=⟨_,rfl⟩
 rw [hR]
 have hV:=hv a0_0 a0_1 a0_2  hP
 rw [hR] at hV
 clear hR hP hv
 cbv
 repeat' first|(refine Br.mk (fun _=>?_) (fun _=>?_)<;>cbv)|(refine NilB.mk (fun _=>?_) ?_<;>cbv)|refine And.intro ?_ ?_|exact True.intro
 ·subst h;exact hV.g0
 ·subst h;exact hV.g1
end HX

namespace HX
open Go Go.Proofs CX
set_option maxHeartbeats 4000000 in
set_option maxRecDepth 100000 in
theorem walk46 {ro A pre fn} (hE:EnvOk ⟨A,(cxE ro),ksF,sigL [(50,⟨[(false,[.int .i64]),(false,[.int .i64]),(false,[.int .i64])],[(false,[.bool])],false⟩),(52,⟨[(true,[.int .i64,.int .i64,.int .i64])],[(false,[.int .i64])],false⟩)],pre,fn⟩) {P:List (List D)→Prop} {res:List (List D)→Nat→Nat→D}
  (hv:∀(a0_0:Int) (a0_1:Int) (a0_2:Int) (a1:Rows),ShR [.int .i64] a1→P [[.i a0_0,.i a0_1,.i a0_2],[.l a1]]→∃(I0:Int→Int→Prop) (m0:Int→Int→Nat),V46 pre fn a0_0 a0_1 a0_2 a1 (res [[.i a0_0,.i a0_1,.i a0_2],[.l a1]]) I0 m0) :
  PureC (cxE ro) 46 ⟨[(true,[.int .i64,.int .i64,.int .i64]),(false,[.sl [.int .i64]])],[(false,[.int .i64])],false⟩ P res:=by
 have h:=hE.A
 simp only [] at h
 have hinl:∀f fn,inlL [(60,Try.f60),(61,Try.f61),(85,Try.f85),(86,Try.f86)] f=some fn→(cxE ro).fn f=some fn∧(cxE ro).ext f=none:=Inls.ok (by repeat (first |exact .nil |refine .cons rfl rfl ?_))
 refine PureC.of_vc hE hinl 6 (f:=46) (fn:=Try.f46) ⟨rfl,rfl⟩ ?_
 intro a0_0 a0_1 a0_2 a1 ha1 hP
 obtain ⟨R,hR⟩:∃R,res [[.i a0_0,.i a0_1,.i a0_2],[.l a1]]=R:=⟨_,rfl⟩
 rw [hR]
 obtain ⟨I0,m0,hV⟩:=hv a0_0 a0_1 a0_2 a1 ha1 hP
 rw [hR] at hV
 clear hR hP hv
 cbv
 repeat' first|(refine Br.mk (fun _=>?_) (fun _=>?_)<;>cbv)|(refine NilB.mk (fun _=>?_) ?_<;>cbv)|refine And.intro ?_ ?_|exact True.intro
 ·subst h;exact hV.g0
 ·rename_i hp1_0
  subst h;exact hV.g1 (df (nt hp1_0))
 ·rename_i hp2_0
  refine Leaf.gen fun σz hσz=>?_
  refine loopB hE hinl 6 [] [] [] (fun x:Int×Int=>[.i x.1,.i x.2]) (fun x=>I0 x.1 x.2) (fun x=>m0 x.1 x.2) (0,0) (by subst h;exact hV.i0 (dt (nf hp2_0))) ?_ ?_<;>subst hσz
  ·clear hE hinl hV;cbv;(try repeat' first|rfl|assumption|constructor)
  ·intro ⟨x0_0,x0_1⟩ hI0 K0 hK0
   cbv
   repeat' first|(refine Br.mk (fun _=>?_) (fun _=>?_)<;>cbv)|(refine NilB.mk (fun _=>?_) ?_<;>cbv)|refine And.intro ?_ ?_|exact True.intro
   ·rename_i hp3_0
    subst h;exact hV.g3 _ _ hI0 (dt (nf hp2_0)) (dt hp3_0)
   ·rename_i hp4_0
    subst h;exact hV.g4 _ _ hI0 (dt (nf hp2_0)) (dt hp4_0)
   ·rename_i hp5_0
    subst h;exact hV.g5 _ _ hI0 (dt (nf hp2_0)) (dt hp5_0)
   ·rename_i hp6_0
    subst h;exact hV.g6 _ _ hI0 (dt (nf hp2_0)) (dt hp6_0)
   ·rename_i hp7_0 hp7_1 hp7_2
    subst h;exact hV.g7 _ _ hI0 (dt (nf hp2_0)) (dt hp7_0) (nt hp7_1) (dt hp7_2)
   ·rename_i hp8_0 hp8_1 hp8_2
    subst h;exact hV.g8 _ _ hI0 (dt (nf hp2_0)) (dt hp8_0) (nt hp8_1) (df hp8_2)
   ·rename_i hp9_0 hp9_1
    subst h;exact hV.g9 _ _ hI0 (dt (nf hp2_0)) (dt hp9_0) (nf hp9_1)
   ·rename_i hp10_0 hp10_1
    refine hK0 (x0_0,A.add x0_1 1) _ ?_ ?_ ?_
    ·subst h;exact (hV.n10 _ _ hI0 (dt (nf hp2_0)) (dt hp10_0) (nf hp10_1)).1
    ·subst h;exact (hV.n10 _ _ hI0 (dt (nf hp2_0)) (dt hp10_0) (nf hp10_1)).2
    ·clear hE hinl hV hK0;cbv;(try repeat' first|rfl|assumption|constructor)
   ·rename_i hp11_0 hp11_1
    exfalso;subst h;simp [Ar.std] at hp11_1
   ·rename_i hp12_0 hp12_1
    subst h;exact hV.g12 _ _ hI0 (dt (nf hp2_0)) (df hp12_0)
end HX

namespace HX
open Go Go.Proofs CX
set_option maxHeartbeats 4000000 in
set_option maxRecDepth 100000 in
theorem walk14 {ro A pre fn} (hE:EnvOk ⟨A,(cxE ro),ksF,sigL [(46,⟨[(true,[.int .i64,.int .i64,.int .i64]),(false,[.sl [.int .i64]])],[(false,[.int .i64])],false⟩),(50,⟨[(false,[.int .i64]),(false,[.int .i64]),(false,[.int .i64])],[(false,[.bool])],false⟩)],pre,fn⟩) {P:List (List D)→Prop} {res:List (List D)→Nat→Nat→D}
  (hv:∀(a0_0:Int) (a0_1:Int) (a0_2:Int) (a1:Rows),ShR [.sl [.int .i64]] a1→P [[.i a0_0,.i a0_1,.i a0_2],[.l a1]]→V14 pre fn a0_0 a0_1 a0_2 a1 (res [[.i a0_0,.i a0_1,.i a0_2],[.l a1]])) :
  PureC (cxE ro) 14 ⟨[(true,[.int .i64,.int .i64,.int .i64]),(false,[.sl [.sl [.int .i64]]])],[(false,[.sl [.int .i64,.int .i64]]),(false,[.int .i64])],false⟩ P res:=by
 have h:=hE.A
 simp only [] at h
 have hinl:∀f fn,inlL [(45,Try.f45),(47,Try.f47)] f=some fn→(cxE ro).fn f=some fn∧(cxE ro).ext f=none:=Inls.ok (by repeat (first |exact .nil |refine .cons rfl rfl ?_))
 refine PureC.of_vc hE hinl 6 (f:=14) (fn:=Try.f14) ⟨rfl,rfl⟩ ?_
 intro a0_0 a0_1 a0_2 a1 ha1 hP
 obtain ⟨R,hR⟩:∃R,res [[.i a0_0,.i a0_1,.i a0_2],[.l a1]]=R:=⟨_,rfl⟩
 rw [hR]
 have hV:=hv a0_0 a0_1 a0_2 a1 ha1 hP
 rw [hR] at hV
 clear hR hP hv
 cbv
 repeat' first|(refine Br.mk (fun _=>?_) (fun _=>?_)<;>cbv)|(refine NilB.mk (fun _=>?_) ?_<;>cbv)|refine And.intro ?_ ?_|exact True.intro
 ·subst h;exact hV.g0
 ·next a b=>subst h;exact hV.g1 (nt a)
 ·next a b=>subst h;exact hV.g2 (nt a)
 ·rename_i p3a p3b p3c
  exfalso;subst h;simp [Ar.std] at p3b
 ·rename_i p4a p4b p4c
  exfalso;subst h;simp [Ar.std] at p4b
 ·rename_i p5a p5b p5c
  exfalso;subst h;simp [Ar.std] at p5b
 ·next a=>subst h;exact hV.g6 (nf a)
 ·next a b c=>subst h;exact hV.g7 (nf a) (nt b)
 ·next a b c=>subst h;exact hV.g8 (nf a) (nt b)
 ·rename_i p9a p9b p9c p9d
  exfalso;subst h;simp [Ar.std] at p9c
 ·rename_i p10a p10b p10c p10d
  exfalso;subst h;simp [Ar.std] at p10c
 ·rename_i p11a p11b p11c p11d
  exfalso;subst h;simp [Ar.std] at p11c
 ·next a b=>subst h;exact hV.g12 (nf a) (nf b)
 ·next a b c d=>subst h;exact hV.g13 (nf a) (nf b) (nt c)
 ·next a b c d=>subst h;exact hV.g14 (nf a) (nf b) (nt c)
 ·rename_i p15a p15b p15c p15d p15e
  exfalso;subst h;simp [Ar.std] at p15d
 ·rename_i p16a p16b p16c p16d p16e
  exfalso;subst h;simp [Ar.std] at p16d
 ·rename_i p17a p17b p17c p17d p17e
  exfalso;subst h;simp [Ar.std] at p17d
 ·rename_i p18a p18b p18c p18d
  exfalso;subst h;simp [Ar.std] at p18d
 ·rename_i p19a p19b p19c p19d
  exfalso;subst h;simp [Ar.std] at p19d
 ·next a b c d e=>subst h;exact hV.g20 (nf a) (nf b) (nf c) (dt e)
 ·next a b c d e=>subst h;exact hV.g21 (nf a) (nf b) (nf c) (dt e)
 ·rename_i p22a p22b p22c p22d p22e
  refine Leaf.gen fun σz hσz=>?_
  obtain ⟨I0,m0,i0,c0⟩:V14l0 pre fn a0_0 a0_1 a0_2 a1 R:=by subst h;exact hV.l0 (nf p22a) (nf p22b) (nf p22c) (df p22e)
  refine loopB hE hinl 6 [] [] [] (fun x:Rows×Int×Int=>[.l x.1,.i x.2.1,.i x.2.2]) (fun x=>I0 x.1 x.2.1 x.2.2) (fun x=>m0 x.1 x.2.1 x.2.2) ([],0,0) (by subst h;exact i0) ?_ ?_<;>subst hσz
  ·clear hE hinl hV;cbv;(try repeat' first|rfl|assumption|constructor)
  ·intro ⟨b0,b1,b2⟩ hI0 K0 hK0
   have h0:=c0 _ _ _ hI0
   cbv
   repeat' first|(refine Br.mk (fun _=>?_) (fun _=>?_)<;>cbv)|(refine NilB.mk (fun _=>?_) ?_<;>cbv)|refine And.intro ?_ ?_|exact True.intro
   ·next a=>subst h;exact h0.g23 (dt a)
   ·next a=>subst h;exact h0.g24 (dt a)
   ·next a=>subst h;exact h0.g25 (dt a)
   ·next a=>subst h;exact h0.g26 (dt a)
   ·next a b=>subst h;exact h0.g27 (dt a) (df (nt b))
   ·next a b=>subst h;exact h0.g28 (dt a) (df (nt b))
   ·next a b=>subst h;exact h0.g29 (dt a) (dt (nf b))
   ·rename_i p30a p30b
    refine hK0 (b0,b1,A.add b2 1) _ ?_ ?_ ?_
    ·subst h;exact (h0.n30 (dt p30a) (dt (nf p30b))).1
    ·subst h;exact (h0.n30 (dt p30a) (dt (nf p30b))).2
    ·clear hE hinl hV hK0;cbv;(try repeat' first|rfl|assumption|constructor)
   ·next a b=>subst h;exact h0.g31 (df a) (dt b)
   ·next a b=>subst h;exact h0.g32 (df a) (dt b)
   ·next a b=>subst h;exact h0.g33 (df a) (df b)
   ·next a b=>subst h;exact h0.g34 (df a) (df b)
   ·next a b=>subst h;exact h0.g35 (df a) (df b)
   ·rename_i p36a p36b p36c
    refine Leaf.gen fun σz hσz=>?_
    obtain ⟨I1,m1,i1,c1⟩:V14l1 a1 R:=by subst h;exact h0.l1 (df p36a) (df p36b) p36c
    refine loopB hE hinl 6 [] [] [] (fun x:Rows×Int=>[.l x.1,.i x.2]) (fun x=>I1 x.1 x.2) (fun x=>m1 x.1 x.2) ([],0) (by subst h;exact i1) ?_ ?_<;>subst hσz
    ·clear hE hinl hV;cbv;(try repeat' first|rfl|assumption|constructor)
    ·intro ⟨d0,d1⟩ hI1 K1 hK1
     have h1:=c1 _ _ hI1
     cbv
     repeat' first|(refine Br.mk (fun _=>?_) (fun _=>?_)<;>cbv)|(refine NilB.mk (fun _=>?_) ?_<;>cbv)|refine And.intro ?_ ?_|exact True.intro
     ·next a=>subst h;exact h1.g37 (dt a)
     ·next a=>subst h;exact h1.g38 (dt a)
     ·next a=>subst h;exact h1.g39 (dt a)
     ·rename_i p40a
      refine Leaf.gen fun σz hσz=>?_
      obtain ⟨I2,m2,i2,c2⟩:V14l2 a1 d0 d1 I1 m1:=by subst h;exact h1.l2 (dt p40a)
      refine loopB hE hinl 6 [] [] [] (fun x:Rows×Int=>[.l x.1,.i x.2]) (fun x=>I2 x.1 x.2) (fun x=>m2 x.1 x.2) (d0,0) (by subst h;exact i2) ?_ ?_<;>subst hσz
      ·clear hE hinl hV;cbv;(try repeat' first|rfl|assumption|constructor)
      ·intro ⟨e0,e1⟩ hI2 K2 hK2
       have h2:=c2 _ _ hI2
       cbv
       repeat' first|(refine Br.mk (fun _=>?_) (fun _=>?_)<;>cbv)|(refine NilB.mk (fun _=>?_) ?_<;>cbv)|refine And.intro ?_ ?_|exact True.intro
       ·next a=>subst h;exact h2.g41 (dt a)
       ·next a=>subst h;exact h2.g42 (dt a)
       ·next a=>subst h;exact h2.g43 (dt a)
       ·next a=>subst h;exact (h2.g44 (dt a)).elim
       ·next a=>subst h;exact h2.g45 (df a)
       ·rename_i p46a
        refine hK1 (e0,A.add d1 1) _ ?_ ?_ ?_
        ·subst h;exact (h2.n46 (df p46a)).1
        ·subst h;exact (h2.n46 (df p46a)).2
        ·clear hE hinl hV hK1;cbv;(try repeat' first|rfl|assumption|constructor)
     ·next a b=>subst h;exact h1.g47 (df a) (dt b)
     ·next a b=>subst h;exact h1.g48 (df a) (dt b)
     ·next a b=>subst h;exact h1.g49 (df a) (df b)
     ·next a b=>subst h;exact h1.g50 (df a) (df b)
   ·next a b=>subst h;exact h0.g51 (df a) (df b)
   ·rename_i p52a p52b
    refine Leaf.gen fun σz hσz=>?_
    obtain ⟨I3,m3,i3,c3⟩:V14l3 a0_2 a1 R:=by subst h;exact h0.l3 (df p52a) (df p52b)
    refine loopB hE hinl 6 [] [] [(9,[])] (fun x:Rows×Int×Rows=>[.l x.1,.i x.2.1,.l x.2.2]) (fun x=>I3 x.1 x.2.1 x.2.2) (fun x=>m3 x.1 x.2.1 x.2.2) ([],0,A.app [] (A.dl (A.get a1 (A.toNat 0) 0))) (by subst h;exact i3) ?_ ?_<;>subst hσz
    ·clear hE hinl hV;cbv;(try repeat' first|rfl|assumption|constructor)
    ·intro ⟨f0,f1,f2⟩ hI3 K3 hK3
     have h3:=c3 _ _ _ hI3
     cbv
     repeat' first|(refine Br.mk (fun _=>?_) (fun _=>?_)<;>cbv)|(refine NilB.mk (fun _=>?_) ?_<;>cbv)|refine And.intro ?_ ?_|exact True.intro
     ·next a=>subst h;exact h3.g53 (dt a)
     ·next a=>subst h;exact h3.g54 (dt a)
     ·next a=>subst h;exact h3.g55 (dt a)
     ·rename_i p56a
      refine Leaf.gen fun σz hσz=>?_
      obtain ⟨I4,m4,i4,c4⟩:V14l4 a0_2 a1 f0 f1 f2 I3 m3:=by subst h;exact h3.l4 (dt p56a)
      refine loopB hE hinl 6 [] [] [(9,[])] (fun x:Rows×Int×Rows=>[.l x.1,.i x.2.1,.l x.2.2]) (fun x=>I4 x.1 x.2.1 x.2.2) (fun x=>m4 x.1 x.2.1 x.2.2) (f0,0,f2) (by subst h;exact i4) ?_ ?_<;>subst hσz
      ·clear hE hinl hV;cbv;(try repeat' first|rfl|assumption|constructor)
      ·intro ⟨j0,j1,j2⟩ hI4 K4 hK4
       have h4:=c4 _ _ _ hI4
       cbv
       repeat' first|(refine Br.mk (fun _=>?_) (fun _=>?_)<;>cbv)|(refine NilB.mk (fun _=>?_) ?_<;>cbv)|refine And.intro ?_ ?_|exact True.intro
       ·next a=>subst h;exact h4.g57 (dt a)
       ·next a=>subst h;exact h4.g58 (dt a)
       ·next a=>subst h;exact h4.g59 (dt a)
       ·next a=>subst h;exact h4.g57 (dt a)
       ·next a=>subst h;exact h4.g61 (dt a)
       ·next a=>subst h;exact h4.g62 (dt a)
       ·next a=>subst h;exact h4.g62 (dt a)
       ·next a=>subst h;exact h4.g64 (dt a)
       ·next a b=>subst h;exact h4.g65 (dt a) (dt b)
       ·next a b=>subst h;exact h4.g66 (dt a) (dt b)
       ·next a b=>subst h;exact h4.g67 (dt a) (dt b)
       ·next a b=>subst h;exact h4.g68 (dt a) (dt b)
       ·next a b=>subst h;exact h4.g69 (dt a) (dt b)
       ·next a b=>subst h;exact h4.g70 (dt a) (dt b)
       ·next a b=>subst h;exact h4.g70 (dt a) (dt b)
       ·next a b=>subst h;exact h4.g72 (dt a) (dt b)
       ·next a b=>subst h;exact h4.g68 (dt a) (dt b)
       ·next a b=>subst h;exact h4.g69 (dt a) (dt b)
       ·next a b=>subst h;exact h4.g70 (dt a) (dt b)
       ·next a b=>subst h;exact h4.g76 (dt a) (dt b)
       ·rename_i p77a p77b
        refine hK4 (A.app j0 [[D.i f1,D.i (A.add (A.mul 2 j1) 1)]],A.add j1 1,A.set j2 (A.toNat j1) [D.i (A.add (A.di (A.get j2 (A.toNat j1) 0)) a0_2)]) _ ?_ ?_ ?_
        ·subst h;exact (h4.n77 (dt p77a) (dt p77b)).1
        ·subst h;exact (h4.n77 (dt p77a) (dt p77b)).2
        ·clear hE hinl hV hK4;cbv;(try repeat' first|rfl|assumption|constructor)
       ·next a b=>subst h;exact h4.g78 (dt a) (df b)
       ·next a b=>subst h;exact h4.g79 (dt a) (df b)
       ·next a b=>subst h;exact h4.g80 (dt a) (df b)
       ·next a b=>subst h;exact h4.g80 (dt a) (df b)
       ·next a b=>subst h;exact h4.g82 (dt a) (df b)
       ·next a b c=>subst h;exact h4.g83 (dt a) (df b) (dt c)
       ·next a b c=>subst h;exact h4.g84 (dt a) (df b) (dt c)
       ·next a b c=>subst h;exact h4.g85 (dt a) (df b) (dt c)
       ·next a b c=>subst h;exact h4.g86 (dt a) (df b) (dt c)
       ·next a b c=>subst h;exact h4.g87 (dt a) (df b) (dt c)
       ·next a b c=>subst h;exact h4.g87 (dt a) (df b) (dt c)
       ·next a b c=>subst h;exact h4.g89 (dt a) (df b) (dt c)
       ·next a b c=>subst h;exact h4.g85 (dt a) (df b) (dt c)
       ·next a b c=>subst h;exact h4.g86 (dt a) (df b) (dt c)
       ·next a b c=>subst h;exact h4.g87 (dt a) (df b) (dt c)
       ·next a b c=>subst h;exact h4.g93 (dt a) (df b) (dt c)
       ·rename_i p94a p94b p94c
        refine hK4 (A.app j0 [[D.i f1,D.i (A.mul 2 j1)]],A.add j1 1,A.set j2 (A.toNat j1) [D.i (A.sub (A.di (A.get j2 (A.toNat j1) 0)) a0_2)]) _ ?_ ?_ ?_
        ·subst h;exact (h4.n94 (dt p94a) (df p94b) (dt p94c)).1
        ·subst h;exact (h4.n94 (dt p94a) (df p94b) (dt p94c)).2
        ·clear hE hinl hV hK4;cbv;(try repeat' first|rfl|assumption|constructor)
       ·next a b c=>subst h;exact h4.g95 (dt a) (df b) (df c)
       ·rename_i p96a p96b p96c
        refine hK4 (j0,A.add j1 1,j2) _ ?_ ?_ ?_
        ·subst h;exact (h4.n96 (dt p96a) (df p96b) (df p96c)).1
        ·subst h;exact (h4.n96 (dt p96a) (df p96b) (df p96c)).2
        ·clear hE hinl hV hK4;cbv;(try repeat' first|rfl|assumption|constructor)
       ·next a=>subst h;exact h4.g97 (df a)
       ·rename_i p98a
        refine hK3 (j0,A.add f1 1,j2) _ ?_ ?_ ?_
        ·subst h;exact (h4.n98 (df p98a)).1
        ·subst h;exact (h4.n98 (df p98a)).2
        ·clear hE hinl hV hK3;cbv;(try repeat' first|rfl|assumption|constructor)
     ·next a b=>subst h;exact h3.g99 (df a) (dt b)
     ·next a b=>subst h;exact h3.g100 (df a) (dt b)
     ·next a b=>subst h;exact h3.g101 (df a) (df b)
     ·next a b=>subst h;exact h3.g102 (df a) (df b)
end HX
