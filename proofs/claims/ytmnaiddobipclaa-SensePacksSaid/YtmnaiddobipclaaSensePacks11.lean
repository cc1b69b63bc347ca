/-
  Texts of the executors: W29, W53, W40, W89, W65, W66, W54.
-/
import Derived.Test.YtmnaiddobipclaaSensePacks10
set_option linter.all false
noncomputable section
namespace HX
open Go Go.Proofs CX
set_option maxHeartbeats 4000000 in
set_option maxRecDepth 100000 in
set_option cbv.maxSteps 3000000 in
theorem walk29 {ro A pre fn} (hE:EnvOk ⟨A,(cxE ro),ksF,sigL [(63,⟨[(false,[.sl [.int .i64,.int .i64]])],[(false,[.sl [.int .u8]])],false⟩),(67,⟨[(false,[.sl [.int .u8]])],[(true,[.int .u8,.int .u8])],false⟩),(71,⟨[(false,[.sl [.int .i64,.int .i64]]),(true,[.int .i64,.int .i64])],[(false,[.int .i64])],false⟩),(72,⟨[(false,[.sl [.int .u8]]),(false,[.sl [.int .u8]])],[(false,[.bool])],false⟩),(92,⟨[(true,[.int .i64,.int .i64])],[(false,[.int .i64])],false⟩)],pre,fn⟩) {P:List (List D)->Prop} {res:List (List D)->Nat->Nat->D}
  (hv:∀(a0:Rows),ShR [.int .u8] a0->P [[.l a0]]->V29 pre fn a0 (res [[.l a0]])) :
  PureC (cxE ro) 29 ⟨[(false,[.sl [.int .u8]])],[(false,[.sl [.int .i64,.int .i64]]),(false,[.int .i64])],false⟩ P res:=by
 have h:=hE.A
 simp only [] at h
 have hinl:∀f fn,inlL [(68,Try.f68),(69,Try.f69),(70,Try.f70),(91,Try.f91),(93,Try.f93)] f=some fn->(cxE ro).fn f=some fn/\(cxE ro).ext f=none:=Inls.ok (by repeat (first |exact .nil |refine .cons rfl rfl ?_))
 refine PureC.of_vcJ hE [11,12] hinl 6 (f:=29) (fn:=Try.f29) ⟨rfl,rfl⟩ ?_
 intro a0 ha0 hP
 obtain ⟨R,hR⟩:∃R,res [[.l a0]]=R:=⟨_,rfl⟩
 rw [hR]
 have hV:=hv a0 ha0 hP
 rw [hR] at hV
 clear hR hP hv
 cbv
 repeat' first|(refine Br.mk (fun _=>?_) (fun _=>?_)<;>cbv)|(refine NilB.mk (fun _=>?_) ?_<;>cbv)|refine And.intro ?_ ?_|exact True.intro
 ·subst h;exact hV.g0
 ·next a=>subst h;exact hV.g1 (dt a)
 ·next a=>subst h;exact hV.g2 (dt a)
 ·next a=>subst h;exact hV.g3 (df a)
 ·next a=>subst h;exact hV.g4 (df a)
 ·next a=>subst h;exact hV.g5 (df a)
 ·next a=>subst h;exact hV.g6 (df a)
 ·next a=>subst h;exact hV.g3 (df a)
 ·next a=>subst h;exact hV.g4 (df a)
 ·next a=>subst h;exact hV.g9 (df a)
 ·next a b=>subst h;exact hV.g10 (df a) ((and_f (nt b)).imp (fun h=>(df h)) (fun h=>(df h)))
 ·next a b=>subst h;exact hV.g11 (df a) ((and_f (nt b)).imp (fun h=>(df h)) (fun h=>(df h)))
 ·next a b=>subst h;exact hV.g12 (df a) ⟨(dt (and_t (nf b)).1),(dt (and_t (nf b)).2)⟩
 ·next a b=>subst h;exact hV.g13 (df a) ⟨(dt (and_t (nf b)).1),(dt (and_t (nf b)).2)⟩
 ·next a b=>subst h;exact hV.g14 (df a) ⟨(dt (and_t (nf b)).1),(dt (and_t (nf b)).2)⟩
 ·next a b=>subst h;exact hV.g15 (df a) ⟨(dt (and_t (nf b)).1),(dt (and_t (nf b)).2)⟩
 ·next a b=>subst h;exact hV.g16 (df a) ⟨(dt (and_t (nf b)).1),(dt (and_t (nf b)).2)⟩
 ·next a b=>subst h;exact hV.g17 (df a) ⟨(dt (and_t (nf b)).1),(dt (and_t (nf b)).2)⟩
 ·next a b=>subst h;exact hV.g18 (df a) ⟨(dt (and_t (nf b)).1),(dt (and_t (nf b)).2)⟩
 ·next a b=>subst h;exact hV.g19 (df a) ⟨(dt (and_t (nf b)).1),(dt (and_t (nf b)).2)⟩
 ·next a b=>subst h;exact hV.g20 (df a) ⟨(dt (and_t (nf b)).1),(dt (and_t (nf b)).2)⟩
 ·next a b=>subst h;exact hV.g21 (df a) ⟨(dt (and_t (nf b)).1),(dt (and_t (nf b)).2)⟩
 ·next a b=>subst h;exact hV.g22 (df a) ⟨(dt (and_t (nf b)).1),(dt (and_t (nf b)).2)⟩
 ·next a b=>subst h;exact hV.g23 (df a) ⟨(dt (and_t (nf b)).1),(dt (and_t (nf b)).2)⟩
 ·next a b=>subst h;exact hV.g24 (df a) ⟨(dt (and_t (nf b)).1),(dt (and_t (nf b)).2)⟩
 ·next a b=>subst h;exact hV.g25 (df a) ⟨(dt (and_t (nf b)).1),(dt (and_t (nf b)).2)⟩
 ·next a b=>subst h;exact hV.g26 (df a) ⟨(dt (and_t (nf b)).1),(dt (and_t (nf b)).2)⟩
 ·next a b=>subst h;exact hV.g27 (df a) ⟨(dt (and_t (nf b)).1),(dt (and_t (nf b)).2)⟩
 ·next a b=>subst h;exact hV.g28 (df a) ⟨(dt (and_t (nf b)).1),(dt (and_t (nf b)).2)⟩
 rename_i p29a p29b
 refine Leaf.gen fun σz hσz=>?_
 obtain ⟨I0,m0,i0,c0⟩:V29l0 pre fn a0 R:=by subst h;exact hV.l0 (df p29a) ⟨(dt (and_t (nf p29b)).1),(dt (and_t (nf p29b)).2)⟩
 refine loopBJ hE [11,12] hinl 6 [] [2,3] [(3,[0]),(6,[0,0]),(7,[0,0])] (fun x:Rows×Int×Int×Int×Int×Int×Int=>[.l x.1,.i x.2.1,D.l [[.i x.2.2.1]],D.l [[.i x.2.2.2.1,.i x.2.2.2.2.1]],D.l [[.i x.2.2.2.2.2.1,.i x.2.2.2.2.2.2]]]) (fun x=>I0 x.1 x.2.1 x.2.2.1 x.2.2.2.1 x.2.2.2.2.1 x.2.2.2.2.2.1 x.2.2.2.2.2.2) (fun x=>m0 x.1 x.2.1 x.2.2.1 x.2.2.2.1 x.2.2.2.2.1 x.2.2.2.2.2.1 x.2.2.2.2.2.2) ([],0,0,4,1,4,1) (by subst h;exact i0) ?_ ?_<;>subst hσz
 ·clear hE hinl hV;cbv;(try repeat' first|rfl|assumption|constructor)
 intro ⟨b0,b1,b2,b3,b4,b5,b6⟩ hI0 K0 hK0
 have h0:=c0 _ _ _ _ _ _ _ hI0
 cbv
 repeat' first|(refine Br.mk (fun _=>?_) (fun _=>?_)<;>cbv)|(refine NilB.mk (fun _=>?_) ?_<;>cbv)|refine And.intro ?_ ?_|exact True.intro
 next p30a=>
  refine Leaf.gen fun σz hσz=>?_
  obtain ⟨I1,r1,c1⟩:V29j1 pre fn a0 R b0 b1 b2 b3 b4 b5 b6 I0 m0:=by subst h;exact h0.l1 (dt p30a)
  refine joinR hE hinl 6 [] [] [] [(9,SV.int .i64 0),(10,SV.bool false)] [(3,[0]),(6,[0,0])] (fun x:Int×Bool×Int×Int×Int=>[.i x.1,.b x.2.1,D.l [[.i x.2.2.1]],D.l [[.i x.2.2.2.1,.i x.2.2.2.2]]]) (fun x=>I1 x.1 x.2.1 x.2.2.1 x.2.2.2.1 x.2.2.2.2) ?_ ?_<;>subst hσz
  ·intro K1 hK1
   cbv
   repeat' first|(refine Br.mk (fun _=>?_) (fun _=>?_)<;>cbv)|(refine NilB.mk (fun _=>?_) ?_<;>cbv)|refine And.intro ?_ ?_|exact True.intro
   ·subst h;exact r1.g31
   refine Leaf.gen fun σz hσz=>?_
   obtain ⟨I2,m2,i2,c2⟩:V29l2 fn a0 b2 b3 b4 I1:=by subst h;exact r1.l2
   refine loopBJ hE [11,12] hinl 6 [] [4,5] [(3,[0])] (fun x:Int×Int=>[.i x.1,D.l [[.i x.2]]]) (fun x=>I2 x.1 x.2) (fun x=>m2 x.1 x.2) (0,b2) (by subst h;exact i2) ?_ ?_<;>subst hσz
   ·clear hE hinl hV;cbv;(try repeat' first|rfl|assumption|constructor)
   intro ⟨e0,e1⟩ hI2 K2 hK2
   have h2:=c2 _ _ hI2
   cbv
   repeat' first|(refine Br.mk (fun _=>?_) (fun _=>?_)<;>cbv)|(refine NilB.mk (fun _=>?_) ?_<;>cbv)|refine And.intro ?_ ?_|exact True.intro
   ·next a=>subst h;exact h2.g33 (dt a)
   ·next a=>subst h;exact h2.g34 (dt a)
   next p35a p35b=>
    refine hK1 (0,false,e1,b3,b4) _ ?_ ?_
    ·subst h;exact h2.n35 (dt p35a) (dt p35b)
    clear hE hinl hV hK1;cbv;(try repeat' first|rfl|assumption|constructor)
   next p36a p36b=>
    refine Leaf.gen fun σz hσz=>?_
    obtain ⟨I3,m3,i3,c3⟩:V29l3 fn a0 b3 b4 e0 e1 I1 I2 m2:=by subst h;exact h2.l3 (dt p36a) (df p36b)
    refine loopBJ hE [11,12] hinl 6 [] [] [(3,[0])] (fun x:Int×Int×Int=>[.i x.1,.i x.2.1,D.l [[.i x.2.2]]]) (fun x=>I3 x.1 x.2.1 x.2.2) (fun x=>m3 x.1 x.2.1 x.2.2) (0,0,e1) (by subst h;exact i3) ?_ ?_<;>subst hσz
    ·clear hE hinl hV;cbv;(try repeat' first|rfl|assumption|constructor)
    intro ⟨f0,f1,f2⟩ hI3 K3 hK3
    have h3:=c3 _ _ _ hI3
    cbv
    repeat' first|(refine Br.mk (fun _=>?_) (fun _=>?_)<;>cbv)|(refine NilB.mk (fun _=>?_) ?_<;>cbv)|refine And.intro ?_ ?_|exact True.intro
    ·next a=>subst h;exact h3.g37 (dt a)
    ·next a=>subst h;exact h3.g38 (dt a)
    ·next a=>subst h;exact h3.g39 (dt a)
    ·next a=>subst h;exact h3.g40 (dt a)
    ·next a=>subst h;exact h3.g41 (dt a)
    ·next a=>subst h;exact h3.g42 (dt a)
    ·next a=>subst h;exact h3.g38 (dt a)
    ·next a=>subst h;exact h3.g44 (dt a)
    ·next a=>subst h;exact h3.g45 (dt a)
    ·next a=>subst h;exact h3.g46 (dt a)
    ·next a=>subst h;exact h3.g47 (dt a)
    ·next a=>subst h;exact h3.g48 (dt a)
    next p49a=>
     refine hK3 (A.bit .or .i64 (A.shl .i64 f0 1) (A.bit .and .u8 (A.shr .u8 (A.di (A.get (A.sub' a0 (A.toNat 5) (A.nsub (A.toNat (A.sub (A.nat (A.len a0)) 2)) (A.toNat 5))) (A.toNat (A.tdiv f2 8)) 0)) (A.sub 7 (A.tmod f2 8))) 1),A.add f1 1,A.add f2 1) _ ?_ ?_ ?_
     ·subst h;exact (h3.n49 (dt p49a)).1
     ·subst h;exact (h3.n49 (dt p49a)).2
     clear hE hinl hV hK3;cbv;(try repeat' first|rfl|assumption|constructor)
    ·next a b=>subst h;exact h3.g50 (df a) (dt b)
    ·next a b c=>subst h;exact h3.g51 (df a) (dt b) (dt c)
    ·next a b c=>subst h;exact h3.g52 (df a) (dt b) (dt c)
    ·next a b c d=>subst h;exact h3.g53 (df a) (dt b) (dt c) (dt d)
    ·next a b c d=>subst h;exact h3.g54 (df a) (dt b) (dt c) (dt d)
    ·next a b c d=>subst h;exact h3.g55 (df a) (dt b) (dt c) (dt d)
    ·next a b c d e=>subst h;exact h3.g56 (df a) (dt b) (dt c) (dt d) (dt e)
    ·next a b c d e=>subst h;exact h3.g57 (df a) (dt b) (dt c) (dt d) (dt e)
    ·next a b c d e=>subst h;exact h3.g56 (df a) (dt b) (dt c) (dt d) (dt e)
    ·next a b c d e=>subst h;exact h3.g59 (df a) (dt b) (dt c) (dt d) (dt e)
    ·next a b c d e=>subst h;exact h3.g60 (df a) (dt b) (dt c) (dt d) (dt e)
    next p61a p61b p61c p61d p61e=>
     refine hK1 (A.add 0 0,false,f2,A.tdiv (A.add b3 (A.add 0 0)) 2,A.tdiv (A.add b4 1) 2) _ ?_ ?_
     ·subst h;exact h3.n61 (df p61a) (dt p61b) (dt p61c) (dt p61d) (dt p61e)
     clear hE hinl hV hK1;cbv;(try repeat' first|rfl|assumption|constructor)
    ·next a b c d e=>subst h;exact h3.g62 (df a) (dt b) (dt c) (dt d) (df e)
    next p63a p63b p63c p63d p63e=>
     refine hK1 (A.add 0 0,false,f2,A.add b3 (A.add 0 0),A.add b4 1) _ ?_ ?_
     ·subst h;exact h3.n63 (df p63a) (dt p63b) (dt p63c) (dt p63d) (df p63e)
     clear hE hinl hV hK1;cbv;(try repeat' first|rfl|assumption|constructor)
    next p64a p64b p64c p64d=>
     refine Leaf.gen fun σz hσz=>?_
     obtain ⟨I4,m4,i4,c4⟩:V29l4 a0 b3 b4 f2 I1:=by subst h;exact h3.l4 (df p64a) (dt p64b) (dt p64c) (df p64d)
     refine loopBJ hE [11,12] hinl 6 [] [] [(3,[0])] (fun x:Int×Int×Int=>[.i x.1,.i x.2.1,D.l [[.i x.2.2]]]) (fun x=>I4 x.1 x.2.1 x.2.2) (fun x=>m4 x.1 x.2.1 x.2.2) (0,0,f2) (by subst h;exact i4) ?_ ?_<;>subst hσz
     ·clear hE hinl hV;cbv;(try repeat' first|rfl|assumption|constructor)
     intro ⟨j0,j1,j2⟩ hI4 K4 hK4
     have h4:=c4 _ _ _ hI4
     cbv
     repeat' first|(refine Br.mk (fun _=>?_) (fun _=>?_)<;>cbv)|(refine NilB.mk (fun _=>?_) ?_<;>cbv)|refine And.intro ?_ ?_|exact True.intro
     ·next a=>subst h;exact h4.g65 (dt a)
     ·next a=>subst h;exact h4.g66 (dt a)
     ·next a=>subst h;exact h4.g67 (dt a)
     ·next a=>subst h;exact h4.g68 (dt a)
     ·next a=>subst h;exact h4.g69 (dt a)
     ·next a=>subst h;exact h4.g70 (dt a)
     ·next a=>subst h;exact h4.g66 (dt a)
     ·next a=>subst h;exact h4.g72 (dt a)
     ·next a=>subst h;exact h4.g73 (dt a)
     ·next a=>subst h;exact h4.g74 (dt a)
     ·next a=>subst h;exact h4.g75 (dt a)
     ·next a=>subst h;exact h4.g76 (dt a)
     next p77a=>
      refine hK4 (A.bit .or .i64 (A.shl .i64 j0 1) (A.bit .and .u8 (A.shr .u8 (A.di (A.get (A.sub' a0 (A.toNat 5) (A.nsub (A.toNat (A.sub (A.nat (A.len a0)) 2)) (A.toNat 5))) (A.toNat (A.tdiv j2 8)) 0)) (A.sub 7 (A.tmod j2 8))) 1),A.add j1 1,A.add j2 1) _ ?_ ?_ ?_
      ·subst h;exact (h4.n77 (dt p77a)).1
      ·subst h;exact (h4.n77 (dt p77a)).2
      clear hE hinl hV hK4;cbv;(try repeat' first|rfl|assumption|constructor)
     ·next a=>subst h;exact h4.g78 (df a)
     ·next a=>subst h;exact h4.g79 (df a)
     ·next a=>subst h;exact h4.g80 (df a)
     ·next a b=>subst h;exact h4.g81 (df a) (dt b)
     ·next a b=>subst h;exact h4.g82 (df a) (dt b)
     ·next a b=>subst h;exact h4.g81 (df a) (dt b)
     ·next a b=>subst h;exact h4.g84 (df a) (dt b)
     ·next a b=>subst h;exact h4.g85 (df a) (dt b)
     next p86a p86b=>
      refine hK1 (A.add 0 j0,true,j2,A.tdiv (A.add b3 (A.add 0 j0)) 2,A.tdiv (A.add b4 1) 2) _ ?_ ?_
      ·subst h;exact h4.n86 (df p86a) (dt p86b)
      clear hE hinl hV hK1;cbv;(try repeat' first|rfl|assumption|constructor)
     ·next a b=>subst h;exact h4.g87 (df a) (df b)
     rename_i p88a p88b
     refine hK1 (A.add 0 j0,true,j2,A.add b3 (A.add 0 j0),A.add b4 1) _ ?_ ?_
     ·subst h;exact h4.n88 (df p88a) (df p88b)
     clear hE hinl hV hK1;cbv;(try repeat' first|rfl|assumption|constructor)
    ·next a b c=>subst h;exact h3.g89 (df a) (dt b) (df c)
    ·next a b c=>subst h;exact h3.g90 (df a) (dt b) (df c)
    ·next a b c d=>subst h;exact h3.g91 (df a) (dt b) (df c) (dt d)
    ·next a b c d=>subst h;exact h3.g92 (df a) (dt b) (df c) (dt d)
    ·next a b c d=>subst h;exact h3.g93 (df a) (dt b) (df c) (dt d)
    ·next a b c d e=>subst h;exact h3.g94 (df a) (dt b) (df c) (dt d) (dt e)
    ·next a b c d e=>subst h;exact h3.g95 (df a) (dt b) (df c) (dt d) (dt e)
    ·next a b c d e=>subst h;exact h3.g94 (df a) (dt b) (df c) (dt d) (dt e)
    ·next a b c d e=>subst h;exact h3.g97 (df a) (dt b) (df c) (dt d) (dt e)
    ·next a b c d e=>subst h;exact h3.g98 (df a) (dt b) (df c) (dt d) (dt e)
    next p99a p99b p99c p99d p99e=>
     refine hK1 (A.add (A.shl .i64 e0 (A.di (fn 92 [[D.i b3,D.i b4]] 0 0))) 0,false,f2,A.tdiv (A.add b3 (A.add (A.shl .i64 e0 (A.di (fn 92 [[D.i b3,D.i b4]] 0 0))) 0)) 2,A.tdiv (A.add b4 1) 2) _ ?_ ?_
     ·subst h;exact h3.n99 (df p99a) (dt p99b) (df p99c) (dt p99d) (dt p99e)
     clear hE hinl hV hK1;cbv;(try repeat' first|rfl|assumption|constructor)
    ·next a b c d e=>subst h;exact h3.g100 (df a) (dt b) (df c) (dt d) (df e)
    next p101a p101b p101c p101d p101e=>
     refine hK1 (A.add (A.shl .i64 e0 (A.di (fn 92 [[D.i b3,D.i b4]] 0 0))) 0,false,f2,A.add b3 (A.add (A.shl .i64 e0 (A.di (fn 92 [[D.i b3,D.i b4]] 0 0))) 0),A.add b4 1) _ ?_ ?_
     ·subst h;exact h3.n101 (df p101a) (dt p101b) (df p101c) (dt p101d) (df p101e)
     clear hE hinl hV hK1;cbv;(try repeat' first|rfl|assumption|constructor)
    next p102a p102b p102c p102d=>
     refine Leaf.gen fun σz hσz=>?_
     obtain ⟨I5,m5,i5,c5⟩:V29l5 fn a0 b3 b4 e0 f2 I1:=by subst h;exact h3.l5 (df p102a) (dt p102b) (df p102c) (df p102d)
     refine loopBJ hE [11,12] hinl 6 [] [] [(3,[0])] (fun x:Int×Int×Int=>[.i x.1,.i x.2.1,D.l [[.i x.2.2]]]) (fun x=>I5 x.1 x.2.1 x.2.2) (fun x=>m5 x.1 x.2.1 x.2.2) (0,0,f2) (by subst h;exact i5) ?_ ?_<;>subst hσz
     ·clear hE hinl hV;cbv;(try repeat' first|rfl|assumption|constructor)
     intro ⟨k0,k1,k2⟩ hI5 K5 hK5
     have h5:=c5 _ _ _ hI5
     cbv
     repeat' first|(refine Br.mk (fun _=>?_) (fun _=>?_)<;>cbv)|(refine NilB.mk (fun _=>?_) ?_<;>cbv)|refine And.intro ?_ ?_|exact True.intro
     ·next a=>subst h;exact h5.g103 (dt a)
     ·next a=>subst h;exact h5.g104 (dt a)
     ·next a=>subst h;exact h5.g105 (dt a)
     ·next a=>subst h;exact h5.g106 (dt a)
     ·next a=>subst h;exact h5.g107 (dt a)
     ·next a=>subst h;exact h5.g108 (dt a)
     ·next a=>subst h;exact h5.g104 (dt a)
     ·next a=>subst h;exact h5.g110 (dt a)
     ·next a=>subst h;exact h5.g111 (dt a)
     ·next a=>subst h;exact h5.g112 (dt a)
     ·next a=>subst h;exact h5.g113 (dt a)
     ·next a=>subst h;exact h5.g114 (dt a)
     next p115a=>
      refine hK5 (A.bit .or .i64 (A.shl .i64 k0 1) (A.bit .and .u8 (A.shr .u8 (A.di (A.get (A.sub' a0 (A.toNat 5) (A.nsub (A.toNat (A.sub (A.nat (A.len a0)) 2)) (A.toNat 5))) (A.toNat (A.tdiv k2 8)) 0)) (A.sub 7 (A.tmod k2 8))) 1),A.add k1 1,A.add k2 1) _ ?_ ?_ ?_
      ·subst h;exact (h5.n115 (dt p115a)).1
      ·subst h;exact (h5.n115 (dt p115a)).2
      clear hE hinl hV hK5;cbv;(try repeat' first|rfl|assumption|constructor)
     ·next a=>subst h;exact h5.g116 (df a)
     ·next a=>subst h;exact h5.g117 (df a)
     ·next a=>subst h;exact h5.g118 (df a)
     ·next a b=>subst h;exact h5.g119 (df a) (dt b)
     ·next a b=>subst h;exact h5.g120 (df a) (dt b)
     ·next a b=>subst h;exact h5.g119 (df a) (dt b)
     ·next a b=>subst h;exact h5.g122 (df a) (dt b)
     ·next a b=>subst h;exact h5.g123 (df a) (dt b)
     next p124a p124b=>
      refine hK1 (A.add (A.shl .i64 e0 (A.di (fn 92 [[D.i b3,D.i b4]] 0 0))) k0,true,k2,A.tdiv (A.add b3 (A.add (A.shl .i64 e0 (A.di (fn 92 [[D.i b3,D.i b4]] 0 0))) k0)) 2,A.tdiv (A.add b4 1) 2) _ ?_ ?_
      ·subst h;exact h5.n124 (df p124a) (dt p124b)
      clear hE hinl hV hK1;cbv;(try repeat' first|rfl|assumption|constructor)
     ·next a b=>subst h;exact h5.g125 (df a) (df b)
     rename_i p126a p126b
     refine hK1 (A.add (A.shl .i64 e0 (A.di (fn 92 [[D.i b3,D.i b4]] 0 0))) k0,true,k2,A.add b3 (A.add (A.shl .i64 e0 (A.di (fn 92 [[D.i b3,D.i b4]] 0 0))) k0),A.add b4 1) _ ?_ ?_
     ·subst h;exact h5.n126 (df p126a) (df p126b)
     clear hE hinl hV hK1;cbv;(try repeat' first|rfl|assumption|constructor)
    ·next a b=>subst h;exact h3.g127 (df a) (df b)
    rename_i p128a p128b
    refine hK2 (A.add e0 1,f2) _ ?_ ?_ ?_
    ·subst h;exact (h3.n128 (df p128a) (df p128b)).1
    ·subst h;exact (h3.n128 (df p128a) (df p128b)).2
    clear hE hinl hV hK2;cbv;(try repeat' first|rfl|assumption|constructor)
   ·next a=>subst h;exact h2.g129 (df a)
   ·next a b=>subst h;exact h2.g130 (df a) (dt b)
   ·next a b=>subst h;exact h2.g131 (df a) (dt b)
   ·next a b c=>subst h;exact h2.g132 (df a) (dt b) (dt c)
   ·next a b c=>subst h;exact h2.g133 (df a) (dt b) (dt c)
   ·next a b c=>subst h;exact h2.g134 (df a) (dt b) (dt c)
   ·next a b c d=>subst h;exact h2.g135 (df a) (dt b) (dt c) (dt d)
   ·next a b c d=>subst h;exact h2.g136 (df a) (dt b) (dt c) (dt d)
   ·next a b c d=>subst h;exact h2.g135 (df a) (dt b) (dt c) (dt d)
   ·next a b c d=>subst h;exact h2.g138 (df a) (dt b) (dt c) (dt d)
   ·next a b c d=>subst h;exact h2.g139 (df a) (dt b) (dt c) (dt d)
   next p140a p140b p140c p140d=>
    refine hK1 (A.add 0 0,false,e1,A.tdiv (A.add b3 (A.add 0 0)) 2,A.tdiv (A.add b4 1) 2) _ ?_ ?_
    ·subst h;exact h2.n140 (df p140a) (dt p140b) (dt p140c) (dt p140d)
    clear hE hinl hV hK1;cbv;(try repeat' first|rfl|assumption|constructor)
   ·next a b c d=>subst h;exact h2.g141 (df a) (dt b) (dt c) (df d)
   next p142a p142b p142c p142d=>
    refine hK1 (A.add 0 0,false,e1,A.add b3 (A.add 0 0),A.add b4 1) _ ?_ ?_
    ·subst h;exact h2.n142 (df p142a) (dt p142b) (dt p142c) (df p142d)
    clear hE hinl hV hK1;cbv;(try repeat' first|rfl|assumption|constructor)
   next p143a p143b p143c=>
    refine Leaf.gen fun σz hσz=>?_
    obtain ⟨I6,m6,i6,c6⟩:V29l4 a0 b3 b4 e1 I1:=by subst h;exact h2.l6 (df p143a) (dt p143b) (df p143c)
    refine loopBJ hE [11,12] hinl 6 [] [] [(3,[0])] (fun x:Int×Int×Int=>[.i x.1,.i x.2.1,D.l [[.i x.2.2]]]) (fun x=>I6 x.1 x.2.1 x.2.2) (fun x=>m6 x.1 x.2.1 x.2.2) (0,0,e1) (by subst h;exact i6) ?_ ?_<;>subst hσz
    ·clear hE hinl hV;cbv;(try repeat' first|rfl|assumption|constructor)
    intro ⟨o0,o1,o2⟩ hI6 K6 hK6
    have h6:=c6 _ _ _ hI6
    cbv
    repeat' first|(refine Br.mk (fun _=>?_) (fun _=>?_)<;>cbv)|(refine NilB.mk (fun _=>?_) ?_<;>cbv)|refine And.intro ?_ ?_|exact True.intro
    ·next a=>subst h;exact h6.g65 (dt a)
    ·next a=>subst h;exact h6.g66 (dt a)
    ·next a=>subst h;exact h6.g67 (dt a)
    ·next a=>subst h;exact h6.g68 (dt a)
    ·next a=>subst h;exact h6.g69 (dt a)
    ·next a=>subst h;exact h6.g70 (dt a)
    ·next a=>subst h;exact h6.g66 (dt a)
    ·next a=>subst h;exact h6.g72 (dt a)
    ·next a=>subst h;exact h6.g73 (dt a)
    ·next a=>subst h;exact h6.g74 (dt a)
    ·next a=>subst h;exact h6.g75 (dt a)
    ·next a=>subst h;exact h6.g76 (dt a)
    next p156a=>
     refine hK6 (A.bit .or .i64 (A.shl .i64 o0 1) (A.bit .and .u8 (A.shr .u8 (A.di (A.get (A.sub' a0 (A.toNat 5) (A.nsub (A.toNat (A.sub (A.nat (A.len a0)) 2)) (A.toNat 5))) (A.toNat (A.tdiv o2 8)) 0)) (A.sub 7 (A.tmod o2 8))) 1),A.add o1 1,A.add o2 1) _ ?_ ?_ ?_
     ·subst h;exact (h6.n77 (dt p156a)).1
     ·subst h;exact (h6.n77 (dt p156a)).2
     clear hE hinl hV hK6;cbv;(try repeat' first|rfl|assumption|constructor)
    ·next a=>subst h;exact h6.g78 (df a)
    ·next a=>subst h;exact h6.g79 (df a)
    ·next a=>subst h;exact h6.g80 (df a)
    ·next a b=>subst h;exact h6.g81 (df a) (dt b)
    ·next a b=>subst h;exact h6.g82 (df a) (dt b)
    ·next a b=>subst h;exact h6.g81 (df a) (dt b)
    ·next a b=>subst h;exact h6.g84 (df a) (dt b)
    ·next a b=>subst h;exact h6.g85 (df a) (dt b)
    next p165a p165b=>
     refine hK1 (A.add 0 o0,true,o2,A.tdiv (A.add b3 (A.add 0 o0)) 2,A.tdiv (A.add b4 1) 2) _ ?_ ?_
     ·subst h;exact h6.n86 (df p165a) (dt p165b)
     clear hE hinl hV hK1;cbv;(try repeat' first|rfl|assumption|constructor)
    ·next a b=>subst h;exact h6.g87 (df a) (df b)
    rename_i p167a p167b
    refine hK1 (A.add 0 o0,true,o2,A.add b3 (A.add 0 o0),A.add b4 1) _ ?_ ?_
    ·subst h;exact h6.n88 (df p167a) (df p167b)
    clear hE hinl hV hK1;cbv;(try repeat' first|rfl|assumption|constructor)
   ·next a b=>subst h;exact h2.g168 (df a) (df b)
   ·next a b=>subst h;exact h2.g169 (df a) (df b)
   ·next a b c=>subst h;exact h2.g170 (df a) (df b) (dt c)
   ·next a b c=>subst h;exact h2.g171 (df a) (df b) (dt c)
   ·next a b c=>subst h;exact h2.g172 (df a) (df b) (dt c)
   ·next a b c d=>subst h;exact h2.g173 (df a) (df b) (dt c) (dt d)
   ·next a b c d=>subst h;exact h2.g174 (df a) (df b) (dt c) (dt d)
   ·next a b c d=>subst h;exact h2.g173 (df a) (df b) (dt c) (dt d)
   ·next a b c d=>subst h;exact h2.g176 (df a) (df b) (dt c) (dt d)
   ·next a b c d=>subst h;exact h2.g177 (df a) (df b) (dt c) (dt d)
   next p178a p178b p178c p178d=>
    refine hK1 (A.add (A.shl .i64 e0 (A.di (fn 92 [[D.i b3,D.i b4]] 0 0))) 0,false,e1,A.tdiv (A.add b3 (A.add (A.shl .i64 e0 (A.di (fn 92 [[D.i b3,D.i b4]] 0 0))) 0)) 2,A.tdiv (A.add b4 1) 2) _ ?_ ?_
    ·subst h;exact h2.n178 (df p178a) (df p178b) (dt p178c) (dt p178d)
    clear hE hinl hV hK1;cbv;(try repeat' first|rfl|assumption|constructor)
   ·next a b c d=>subst h;exact h2.g179 (df a) (df b) (dt c) (df d)
   next p180a p180b p180c p180d=>
    refine hK1 (A.add (A.shl .i64 e0 (A.di (fn 92 [[D.i b3,D.i b4]] 0 0))) 0,false,e1,A.add b3 (A.add (A.shl .i64 e0 (A.di (fn 92 [[D.i b3,D.i b4]] 0 0))) 0),A.add b4 1) _ ?_ ?_
    ·subst h;exact h2.n180 (df p180a) (df p180b) (dt p180c) (df p180d)
    clear hE hinl hV hK1;cbv;(try repeat' first|rfl|assumption|constructor)
   rename_i p181a p181b p181c
   refine Leaf.gen fun σz hσz=>?_
   obtain ⟨I7,m7,i7,c7⟩:V29l5 fn a0 b3 b4 e0 e1 I1:=by subst h;exact h2.l7 (df p181a) (df p181b) (df p181c)
   refine loopBJ hE [11,12] hinl 6 [] [] [(3,[0])] (fun x:Int×Int×Int=>[.i x.1,.i x.2.1,D.l [[.i x.2.2]]]) (fun x=>I7 x.1 x.2.1 x.2.2) (fun x=>m7 x.1 x.2.1 x.2.2) (0,0,e1) (by subst h;exact i7) ?_ ?_<;>subst hσz
   ·clear hE hinl hV;cbv;(try repeat' first|rfl|assumption|constructor)
   intro ⟨q0,q1,q2⟩ hI7 K7 hK7
   have h7:=c7 _ _ _ hI7
   cbv
   repeat' first|(refine Br.mk (fun _=>?_) (fun _=>?_)<;>cbv)|(refine NilB.mk (fun _=>?_) ?_<;>cbv)|refine And.intro ?_ ?_|exact True.intro
   ·next a=>subst h;exact h7.g103 (dt a)
   ·next a=>subst h;exact h7.g104 (dt a)
   ·next a=>subst h;exact h7.g105 (dt a)
   ·next a=>subst h;exact h7.g106 (dt a)
   ·next a=>subst h;exact h7.g107 (dt a)
   ·next a=>subst h;exact h7.g108 (dt a)
   ·next a=>subst h;exact h7.g104 (dt a)
   ·next a=>subst h;exact h7.g110 (dt a)
   ·next a=>subst h;exact h7.g111 (dt a)
   ·next a=>subst h;exact h7.g112 (dt a)
   ·next a=>subst h;exact h7.g113 (dt a)
   ·next a=>subst h;exact h7.g114 (dt a)
   next p194a=>
    refine hK7 (A.bit .or .i64 (A.shl .i64 q0 1) (A.bit .and .u8 (A.shr .u8 (A.di (A.get (A.sub' a0 (A.toNat 5) (A.nsub (A.toNat (A.sub (A.nat (A.len a0)) 2)) (A.toNat 5))) (A.toNat (A.tdiv q2 8)) 0)) (A.sub 7 (A.tmod q2 8))) 1),A.add q1 1,A.add q2 1) _ ?_ ?_ ?_
    ·subst h;exact (h7.n115 (dt p194a)).1
    ·subst h;exact (h7.n115 (dt p194a)).2
    clear hE hinl hV hK7;cbv;(try repeat' first|rfl|assumption|constructor)
   ·next a=>subst h;exact h7.g116 (df a)
   ·next a=>subst h;exact h7.g117 (df a)
   ·next a=>subst h;exact h7.g118 (df a)
   ·next a b=>subst h;exact h7.g119 (df a) (dt b)
   ·next a b=>subst h;exact h7.g120 (df a) (dt b)
   ·next a b=>subst h;exact h7.g119 (df a) (dt b)
   ·next a b=>subst h;exact h7.g122 (df a) (dt b)
   ·next a b=>subst h;exact h7.g123 (df a) (dt b)
   next p203a p203b=>
    refine hK1 (A.add (A.shl .i64 e0 (A.di (fn 92 [[D.i b3,D.i b4]] 0 0))) q0,true,q2,A.tdiv (A.add b3 (A.add (A.shl .i64 e0 (A.di (fn 92 [[D.i b3,D.i b4]] 0 0))) q0)) 2,A.tdiv (A.add b4 1) 2) _ ?_ ?_
    ·subst h;exact h7.n124 (df p203a) (dt p203b)
    clear hE hinl hV hK1;cbv;(try repeat' first|rfl|assumption|constructor)
   ·next a b=>subst h;exact h7.g125 (df a) (df b)
   rename_i p205a p205b
   refine hK1 (A.add (A.shl .i64 e0 (A.di (fn 92 [[D.i b3,D.i b4]] 0 0))) q0,true,q2,A.add b3 (A.add (A.shl .i64 e0 (A.di (fn 92 [[D.i b3,D.i b4]] 0 0))) q0),A.add b4 1) _ ?_ ?_
   ·subst h;exact h7.n126 (df p205a) (df p205b)
   clear hE hinl hV hK1;cbv;(try repeat' first|rfl|assumption|constructor)
  intro ⟨d0,d1,d2,d3,d4⟩ hI1
  have h1:=c1 _ _ _ _ _ hI1
  cbv
  repeat' first|(refine Br.mk (fun _=>?_) (fun _=>?_)<;>cbv)|(refine NilB.mk (fun _=>?_) ?_<;>cbv)|refine And.intro ?_ ?_|exact True.intro
  refine Leaf.gen fun σz hσz=>?_
  obtain ⟨I8,r8,c8⟩:V29j8 pre fn a0 R b0 b1 b2 b3 b4 b5 b6 d0 d1 d2 d3 d4 I0 m0:=by subst h;exact h1.l8
  refine joinR hE hinl 6 [] [] [] [(11,SV.int .i64 0),(12,SV.bool false)] [(3,[0]),(7,[0,0])] (fun x:Int×Bool×Int×Int×Int=>[.i x.1,.b x.2.1,D.l [[.i x.2.2.1]],D.l [[.i x.2.2.2.1,.i x.2.2.2.2]]]) (fun x=>I8 x.1 x.2.1 x.2.2.1 x.2.2.2.1 x.2.2.2.2) ?_ ?_<;>subst hσz
  ·intro K8 hK8
   cbv
   repeat' first|(refine Br.mk (fun _=>?_) (fun _=>?_)<;>cbv)|(refine NilB.mk (fun _=>?_) ?_<;>cbv)|refine And.intro ?_ ?_|exact True.intro
   ·subst h;exact r8.g31
   refine Leaf.gen fun σz hσz=>?_
   obtain ⟨I9,m9,i9,c9⟩:V29l2 fn a0 d2 b5 b6 I8:=by subst h;exact r8.l2
   refine loopBJ hE [11,12] hinl 6 [] [4,5] [(3,[0])] (fun x:Int×Int=>[.i x.1,D.l [[.i x.2]]]) (fun x=>I9 x.1 x.2) (fun x=>m9 x.1 x.2) (0,d2) (by subst h;exact i9) ?_ ?_<;>subst hσz
   ·clear hE hinl hV;cbv;(try repeat' first|rfl|assumption|constructor)
   intro ⟨s0,s1⟩ hI9 K9 hK9
   have h9:=c9 _ _ hI9
   cbv
   repeat' first|(refine Br.mk (fun _=>?_) (fun _=>?_)<;>cbv)|(refine NilB.mk (fun _=>?_) ?_<;>cbv)|refine And.intro ?_ ?_|exact True.intro
   ·next a=>subst h;exact h9.g33 (dt a)
   ·next a=>subst h;exact h9.g34 (dt a)
   next p211a p211b=>
    refine hK8 (0,false,s1,b5,b6) _ ?_ ?_
    ·subst h;exact h9.n35 (dt p211a) (dt p211b)
    clear hE hinl hV hK8;cbv;(try repeat' first|rfl|assumption|constructor)
   next p212a p212b=>
    refine Leaf.gen fun σz hσz=>?_
    obtain ⟨I10,m10,i10,c10⟩:V29l3 fn a0 b5 b6 s0 s1 I8 I9 m9:=by subst h;exact h9.l3 (dt p212a) (df p212b)
    refine loopBJ hE [11,12] hinl 6 [] [] [(3,[0])] (fun x:Int×Int×Int=>[.i x.1,.i x.2.1,D.l [[.i x.2.2]]]) (fun x=>I10 x.1 x.2.1 x.2.2) (fun x=>m10 x.1 x.2.1 x.2.2) (0,0,s1) (by subst h;exact i10) ?_ ?_<;>subst hσz
    ·clear hE hinl hV;cbv;(try repeat' first|rfl|assumption|constructor)
    intro ⟨t0,t1,t2⟩ hI10 K10 hK10
    have h10:=c10 _ _ _ hI10
    cbv
    repeat' first|(refine Br.mk (fun _=>?_) (fun _=>?_)<;>cbv)|(refine NilB.mk (fun _=>?_) ?_<;>cbv)|refine And.intro ?_ ?_|exact True.intro
    ·next a=>subst h;exact h10.g37 (dt a)
    ·next a=>subst h;exact h10.g38 (dt a)
    ·next a=>subst h;exact h10.g39 (dt a)
    ·next a=>subst h;exact h10.g40 (dt a)
    ·next a=>subst h;exact h10.g41 (dt a)
    ·next a=>subst h;exact h10.g42 (dt a)
    ·next a=>subst h;exact h10.g38 (dt a)
    ·next a=>subst h;exact h10.g44 (dt a)
    ·next a=>subst h;exact h10.g45 (dt a)
    ·next a=>subst h;exact h10.g46 (dt a)
    ·next a=>subst h;exact h10.g47 (dt a)
    ·next a=>subst h;exact h10.g48 (dt a)
    next p225a=>
     refine hK10 (A.bit .or .i64 (A.shl .i64 t0 1) (A.bit .and .u8 (A.shr .u8 (A.di (A.get (A.sub' a0 (A.toNat 5) (A.nsub (A.toNat (A.sub (A.nat (A.len a0)) 2)) (A.toNat 5))) (A.toNat (A.tdiv t2 8)) 0)) (A.sub 7 (A.tmod t2 8))) 1),A.add t1 1,A.add t2 1) _ ?_ ?_ ?_
     ·subst h;exact (h10.n49 (dt p225a)).1
     ·subst h;exact (h10.n49 (dt p225a)).2
     clear hE hinl hV hK10;cbv;(try repeat' first|rfl|assumption|constructor)
    ·next a b=>subst h;exact h10.g50 (df a) (dt b)
    ·next a b c=>subst h;exact h10.g51 (df a) (dt b) (dt c)
    ·next a b c=>subst h;exact h10.g52 (df a) (dt b) (dt c)
    ·next a b c d=>subst h;exact h10.g53 (df a) (dt b) (dt c) (dt d)
    ·next a b c d=>subst h;exact h10.g54 (df a) (dt b) (dt c) (dt d)
    ·next a b c d=>subst h;exact h10.g55 (df a) (dt b) (dt c) (dt d)
    ·next a b c d e=>subst h;exact h10.g56 (df a) (dt b) (dt c) (dt d) (dt e)
    ·next a b c d e=>subst h;exact h10.g57 (df a) (dt b) (dt c) (dt d) (dt e)
    ·next a b c d e=>subst h;exact h10.g56 (df a) (dt b) (dt c) (dt d) (dt e)
    ·next a b c d e=>subst h;exact h10.g59 (df a) (dt b) (dt c) (dt d) (dt e)
    ·next a b c d e=>subst h;exact h10.g60 (df a) (dt b) (dt c) (dt d) (dt e)
    next p237a p237b p237c p237d p237e=>
     refine hK8 (A.add 0 0,false,t2,A.tdiv (A.add b5 (A.add 0 0)) 2,A.tdiv (A.add b6 1) 2) _ ?_ ?_
     ·subst h;exact h10.n61 (df p237a) (dt p237b) (dt p237c) (dt p237d) (dt p237e)
     clear hE hinl hV hK8;cbv;(try repeat' first|rfl|assumption|constructor)
    ·next a b c d e=>subst h;exact h10.g62 (df a) (dt b) (dt c) (dt d) (df e)
    next p239a p239b p239c p239d p239e=>
     refine hK8 (A.add 0 0,false,t2,A.add b5 (A.add 0 0),A.add b6 1) _ ?_ ?_
     ·subst h;exact h10.n63 (df p239a) (dt p239b) (dt p239c) (dt p239d) (df p239e)
     clear hE hinl hV hK8;cbv;(try repeat' first|rfl|assumption|constructor)
    next p240a p240b p240c p240d=>
     refine Leaf.gen fun σz hσz=>?_
     obtain ⟨I11,m11,i11,c11⟩:V29l4 a0 b5 b6 t2 I8:=by subst h;exact h10.l4 (df p240a) (dt p240b) (dt p240c) (df p240d)
     refine loopBJ hE [11,12] hinl 6 [] [] [(3,[0])] (fun x:Int×Int×Int=>[.i x.1,.i x.2.1,D.l [[.i x.2.2]]]) (fun x=>I11 x.1 x.2.1 x.2.2) (fun x=>m11 x.1 x.2.1 x.2.2) (0,0,t2) (by subst h;exact i11) ?_ ?_<;>subst hσz
     ·clear hE hinl hV;cbv;(try repeat' first|rfl|assumption|constructor)
     intro ⟨v0,v1,v2⟩ hI11 K11 hK11
     have h11:=c11 _ _ _ hI11
     cbv
     repeat' first|(refine Br.mk (fun _=>?_) (fun _=>?_)<;>cbv)|(refine NilB.mk (fun _=>?_) ?_<;>cbv)|refine And.intro ?_ ?_|exact True.intro
     ·next a=>subst h;exact h11.g65 (dt a)
     ·next a=>subst h;exact h11.g66 (dt a)
     ·next a=>subst h;exact h11.g67 (dt a)
     ·next a=>subst h;exact h11.g68 (dt a)
     ·next a=>subst h;exact h11.g69 (dt a)
     ·next a=>subst h;exact h11.g70 (dt a)
     ·next a=>subst h;exact h11.g66 (dt a)
     ·next a=>subst h;exact h11.g72 (dt a)
     ·next a=>subst h;exact h11.g73 (dt a)
     ·next a=>subst h;exact h11.g74 (dt a)
     ·next a=>subst h;exact h11.g75 (dt a)
     ·next a=>subst h;exact h11.g76 (dt a)
     next p253a=>
      refine hK11 (A.bit .or .i64 (A.shl .i64 v0 1) (A.bit .and .u8 (A.shr .u8 (A.di (A.get (A.sub' a0 (A.toNat 5) (A.nsub (A.toNat (A.sub (A.nat (A.len a0)) 2)) (A.toNat 5))) (A.toNat (A.tdiv v2 8)) 0)) (A.sub 7 (A.tmod v2 8))) 1),A.add v1 1,A.add v2 1) _ ?_ ?_ ?_
      ·subst h;exact (h11.n77 (dt p253a)).1
      ·subst h;exact (h11.n77 (dt p253a)).2
      clear hE hinl hV hK11;cbv;(try repeat' first|rfl|assumption|constructor)
     ·next a=>subst h;exact h11.g78 (df a)
     ·next a=>subst h;exact h11.g79 (df a)
     ·next a=>subst h;exact h11.g80 (df a)
     ·next a b=>subst h;exact h11.g81 (df a) (dt b)
     ·next a b=>subst h;exact h11.g82 (df a) (dt b)
     ·next a b=>subst h;exact h11.g81 (df a) (dt b)
     ·next a b=>subst h;exact h11.g84 (df a) (dt b)
     ·next a b=>subst h;exact h11.g85 (df a) (dt b)
     next p262a p262b=>
      refine hK8 (A.add 0 v0,true,v2,A.tdiv (A.add b5 (A.add 0 v0)) 2,A.tdiv (A.add b6 1) 2) _ ?_ ?_
      ·subst h;exact h11.n86 (df p262a) (dt p262b)
      clear hE hinl hV hK8;cbv;(try repeat' first|rfl|assumption|constructor)
     ·next a b=>subst h;exact h11.g87 (df a) (df b)
     rename_i p264a p264b
     refine hK8 (A.add 0 v0,true,v2,A.add b5 (A.add 0 v0),A.add b6 1) _ ?_ ?_
     ·subst h;exact h11.n88 (df p264a) (df p264b)
     clear hE hinl hV hK8;cbv;(try repeat' first|rfl|assumption|constructor)
    ·next a b c=>subst h;exact h10.g89 (df a) (dt b) (df c)
    ·next a b c=>subst h;exact h10.g90 (df a) (dt b) (df c)
    ·next a b c d=>subst h;exact h10.g91 (df a) (dt b) (df c) (dt d)
    ·next a b c d=>subst h;exact h10.g92 (df a) (dt b) (df c) (dt d)
    ·next a b c d=>subst h;exact h10.g93 (df a) (dt b) (df c) (dt d)
    ·next a b c d e=>subst h;exact h10.g94 (df a) (dt b) (df c) (dt d) (dt e)
    ·next a b c d e=>subst h;exact h10.g95 (df a) (dt b) (df c) (dt d) (dt e)
    ·next a b c d e=>subst h;exact h10.g94 (df a) (dt b) (df c) (dt d) (dt e)
    ·next a b c d e=>subst h;exact h10.g97 (df a) (dt b) (df c) (dt d) (dt e)
    ·next a b c d e=>subst h;exact h10.g98 (df a) (dt b) (df c) (dt d) (dt e)
    next p275a p275b p275c p275d p275e=>
     refine hK8 (A.add (A.shl .i64 s0 (A.di (fn 92 [[D.i b5,D.i b6]] 0 0))) 0,false,t2,A.tdiv (A.add b5 (A.add (A.shl .i64 s0 (A.di (fn 92 [[D.i b5,D.i b6]] 0 0))) 0)) 2,A.tdiv (A.add b6 1) 2) _ ?_ ?_
     ·subst h;exact h10.n99 (df p275a) (dt p275b) (df p275c) (dt p275d) (dt p275e)
     clear hE hinl hV hK8;cbv;(try repeat' first|rfl|assumption|constructor)
    ·next a b c d e=>subst h;exact h10.g100 (df a) (dt b) (df c) (dt d) (df e)
    next p277a p277b p277c p277d p277e=>
     refine hK8 (A.add (A.shl .i64 s0 (A.di (fn 92 [[D.i b5,D.i b6]] 0 0))) 0,false,t2,A.add b5 (A.add (A.shl .i64 s0 (A.di (fn 92 [[D.i b5,D.i b6]] 0 0))) 0),A.add b6 1) _ ?_ ?_
     ·subst h;exact h10.n101 (df p277a) (dt p277b) (df p277c) (dt p277d) (df p277e)
     clear hE hinl hV hK8;cbv;(try repeat' first|rfl|assumption|constructor)
    next p278a p278b p278c p278d=>
     refine Leaf.gen fun σz hσz=>?_
     obtain ⟨I12,m12,i12,c12⟩:V29l5 fn a0 b5 b6 s0 t2 I8:=by subst h;exact h10.l5 (df p278a) (dt p278b) (df p278c) (df p278d)
     refine loopBJ hE [11,12] hinl 6 [] [] [(3,[0])] (fun x:Int×Int×Int=>[.i x.1,.i x.2.1,D.l [[.i x.2.2]]]) (fun x=>I12 x.1 x.2.1 x.2.2) (fun x=>m12 x.1 x.2.1 x.2.2) (0,0,t2) (by subst h;exact i12) ?_ ?_<;>subst hσz
     ·clear hE hinl hV;cbv;(try repeat' first|rfl|assumption|constructor)
     intro ⟨w0,w1,w2⟩ hI12 K12 hK12
     have h12:=c12 _ _ _ hI12
     cbv
     repeat' first|(refine Br.mk (fun _=>?_) (fun _=>?_)<;>cbv)|(refine NilB.mk (fun _=>?_) ?_<;>cbv)|refine And.intro ?_ ?_|exact True.intro
     ·next a=>subst h;exact h12.g103 (dt a)
     ·next a=>subst h;exact h12.g104 (dt a)
     ·next a=>subst h;exact h12.g105 (dt a)
     ·next a=>subst h;exact h12.g106 (dt a)
     ·next a=>subst h;exact h12.g107 (dt a)
     ·next a=>subst h;exact h12.g108 (dt a)
     ·next a=>subst h;exact h12.g104 (dt a)
     ·next a=>subst h;exact h12.g110 (dt a)
     ·next a=>subst h;exact h12.g111 (dt a)
     ·next a=>subst h;exact h12.g112 (dt a)
     ·next a=>subst h;exact h12.g113 (dt a)
     ·next a=>subst h;exact h12.g114 (dt a)
     next p291a=>
      refine hK12 (A.bit .or .i64 (A.shl .i64 w0 1) (A.bit .and .u8 (A.shr .u8 (A.di (A.get (A.sub' a0 (A.toNat 5) (A.nsub (A.toNat (A.sub (A.nat (A.len a0)) 2)) (A.toNat 5))) (A.toNat (A.tdiv w2 8)) 0)) (A.sub 7 (A.tmod w2 8))) 1),A.add w1 1,A.add w2 1) _ ?_ ?_ ?_
      ·subst h;exact (h12.n115 (dt p291a)).1
      ·subst h;exact (h12.n115 (dt p291a)).2
      clear hE hinl hV hK12;cbv;(try repeat' first|rfl|assumption|constructor)
     ·next a=>subst h;exact h12.g116 (df a)
     ·next a=>subst h;exact h12.g117 (df a)
     ·next a=>subst h;exact h12.g118 (df a)
     ·next a b=>subst h;exact h12.g119 (df a) (dt b)
     ·next a b=>subst h;exact h12.g120 (df a) (dt b)
     ·next a b=>subst h;exact h12.g119 (df a) (dt b)
     ·next a b=>subst h;exact h12.g122 (df a) (dt b)
     ·next a b=>subst h;exact h12.g123 (df a) (dt b)
     next p300a p300b=>
      refine hK8 (A.add (A.shl .i64 s0 (A.di (fn 92 [[D.i b5,D.i b6]] 0 0))) w0,true,w2,A.tdiv (A.add b5 (A.add (A.shl .i64 s0 (A.di (fn 92 [[D.i b5,D.i b6]] 0 0))) w0)) 2,A.tdiv (A.add b6 1) 2) _ ?_ ?_
      ·subst h;exact h12.n124 (df p300a) (dt p300b)
      clear hE hinl hV hK8;cbv;(try repeat' first|rfl|assumption|constructor)
     ·next a b=>subst h;exact h12.g125 (df a) (df b)
     rename_i p302a p302b
     refine hK8 (A.add (A.shl .i64 s0 (A.di (fn 92 [[D.i b5,D.i b6]] 0 0))) w0,true,w2,A.add b5 (A.add (A.shl .i64 s0 (A.di (fn 92 [[D.i b5,D.i b6]] 0 0))) w0),A.add b6 1) _ ?_ ?_
     ·subst h;exact h12.n126 (df p302a) (df p302b)
     clear hE hinl hV hK8;cbv;(try repeat' first|rfl|assumption|constructor)
    ·next a b=>subst h;exact h10.g127 (df a) (df b)
    rename_i p304a p304b
    refine hK9 (A.add s0 1,t2) _ ?_ ?_ ?_
    ·subst h;exact (h10.n128 (df p304a) (df p304b)).1
    ·subst h;exact (h10.n128 (df p304a) (df p304b)).2
    clear hE hinl hV hK9;cbv;(try repeat' first|rfl|assumption|constructor)
   ·next a=>subst h;exact h9.g129 (df a)
   ·next a b=>subst h;exact h9.g130 (df a) (dt b)
   ·next a b=>subst h;exact h9.g131 (df a) (dt b)
   ·next a b c=>subst h;exact h9.g132 (df a) (dt b) (dt c)
   ·next a b c=>subst h;exact h9.g133 (df a) (dt b) (dt c)
   ·next a b c=>subst h;exact h9.g134 (df a) (dt b) (dt c)
   ·next a b c d=>subst h;exact h9.g135 (df a) (dt b) (dt c) (dt d)
   ·next a b c d=>subst h;exact h9.g136 (df a) (dt b) (dt c) (dt d)
   ·next a b c d=>subst h;exact h9.g135 (df a) (dt b) (dt c) (dt d)
   ·next a b c d=>subst h;exact h9.g138 (df a) (dt b) (dt c) (dt d)
   ·next a b c d=>subst h;exact h9.g139 (df a) (dt b) (dt c) (dt d)
   next p316a p316b p316c p316d=>
    refine hK8 (A.add 0 0,false,s1,A.tdiv (A.add b5 (A.add 0 0)) 2,A.tdiv (A.add b6 1) 2) _ ?_ ?_
    ·subst h;exact h9.n140 (df p316a) (dt p316b) (dt p316c) (dt p316d)
    clear hE hinl hV hK8;cbv;(try repeat' first|rfl|assumption|constructor)
   ·next a b c d=>subst h;exact h9.g141 (df a) (dt b) (dt c) (df d)
   next p318a p318b p318c p318d=>
    refine hK8 (A.add 0 0,false,s1,A.add b5 (A.add 0 0),A.add b6 1) _ ?_ ?_
    ·subst h;exact h9.n142 (df p318a) (dt p318b) (dt p318c) (df p318d)
    clear hE hinl hV hK8;cbv;(try repeat' first|rfl|assumption|constructor)
   next p319a p319b p319c=>
    refine Leaf.gen fun σz hσz=>?_
    obtain ⟨I13,m13,i13,c13⟩:V29l4 a0 b5 b6 s1 I8:=by subst h;exact h9.l6 (df p319a) (dt p319b) (df p319c)
    refine loopBJ hE [11,12] hinl 6 [] [] [(3,[0])] (fun x:Int×Int×Int=>[.i x.1,.i x.2.1,D.l [[.i x.2.2]]]) (fun x=>I13 x.1 x.2.1 x.2.2) (fun x=>m13 x.1 x.2.1 x.2.2) (0,0,s1) (by subst h;exact i13) ?_ ?_<;>subst hσz
    ·clear hE hinl hV;cbv;(try repeat' first|rfl|assumption|constructor)
    intro ⟨x0,x1,x2⟩ hI13 K13 hK13
    have h13:=c13 _ _ _ hI13
    cbv
    repeat' first|(refine Br.mk (fun _=>?_) (fun _=>?_)<;>cbv)|(refine NilB.mk (fun _=>?_) ?_<;>cbv)|refine And.intro ?_ ?_|exact True.intro
    ·next a=>subst h;exact h13.g65 (dt a)
    ·next a=>subst h;exact h13.g66 (dt a)
    ·next a=>subst h;exact h13.g67 (dt a)
    ·next a=>subst h;exact h13.g68 (dt a)
    ·next a=>subst h;exact h13.g69 (dt a)
    ·next a=>subst h;exact h13.g70 (dt a)
    ·next a=>subst h;exact h13.g66 (dt a)
    ·next a=>subst h;exact h13.g72 (dt a)
    ·next a=>subst h;exact h13.g73 (dt a)
    ·next a=>subst h;exact h13.g74 (dt a)
    ·next a=>subst h;exact h13.g75 (dt a)
    ·next a=>subst h;exact h13.g76 (dt a)
    next p332a=>
     refine hK13 (A.bit .or .i64 (A.shl .i64 x0 1) (A.bit .and .u8 (A.shr .u8 (A.di (A.get (A.sub' a0 (A.toNat 5) (A.nsub (A.toNat (A.sub (A.nat (A.len a0)) 2)) (A.toNat 5))) (A.toNat (A.tdiv x2 8)) 0)) (A.sub 7 (A.tmod x2 8))) 1),A.add x1 1,A.add x2 1) _ ?_ ?_ ?_
     ·subst h;exact (h13.n77 (dt p332a)).1
     ·subst h;exact (h13.n77 (dt p332a)).2
     clear hE hinl hV hK13;cbv;(try repeat' first|rfl|assumption|constructor)
    ·next a=>subst h;exact h13.g78 (df a)
    ·next a=>subst h;exact h13.g79 (df a)
    ·next a=>subst h;exact h13.g80 (df a)
    ·next a b=>subst h;exact h13.g81 (df a) (dt b)
    ·next a b=>subst h;exact h13.g82 (df a) (dt b)
    ·next a b=>subst h;exact h13.g81 (df a) (dt b)
    ·next a b=>subst h;exact h13.g84 (df a) (dt b)
    ·next a b=>subst h;exact h13.g85 (df a) (dt b)
    next p341a p341b=>
     refine hK8 (A.add 0 x0,true,x2,A.tdiv (A.add b5 (A.add 0 x0)) 2,A.tdiv (A.add b6 1) 2) _ ?_ ?_
     ·subst h;exact h13.n86 (df p341a) (dt p341b)
     clear hE hinl hV hK8;cbv;(try repeat' first|rfl|assumption|constructor)
    ·next a b=>subst h;exact h13.g87 (df a) (df b)
    rename_i p343a p343b
    refine hK8 (A.add 0 x0,true,x2,A.add b5 (A.add 0 x0),A.add b6 1) _ ?_ ?_
    ·subst h;exact h13.n88 (df p343a) (df p343b)
    clear hE hinl hV hK8;cbv;(try repeat' first|rfl|assumption|constructor)
   ·next a b=>subst h;exact h9.g168 (df a) (df b)
   ·next a b=>subst h;exact h9.g169 (df a) (df b)
   ·next a b c=>subst h;exact h9.g170 (df a) (df b) (dt c)
   ·next a b c=>subst h;exact h9.g171 (df a) (df b) (dt c)
   ·next a b c=>subst h;exact h9.g172 (df a) (df b) (dt c)
   ·next a b c d=>subst h;exact h9.g173 (df a) (df b) (dt c) (dt d)
   ·next a b c d=>subst h;exact h9.g174 (df a) (df b) (dt c) (dt d)
   ·next a b c d=>subst h;exact h9.g173 (df a) (df b) (dt c) (dt d)
   ·next a b c d=>subst h;exact h9.g176 (df a) (df b) (dt c) (dt d)
   ·next a b c d=>subst h;exact h9.g177 (df a) (df b) (dt c) (dt d)
   next p354a p354b p354c p354d=>
    refine hK8 (A.add (A.shl .i64 s0 (A.di (fn 92 [[D.i b5,D.i b6]] 0 0))) 0,false,s1,A.tdiv (A.add b5 (A.add (A.shl .i64 s0 (A.di (fn 92 [[D.i b5,D.i b6]] 0 0))) 0)) 2,A.tdiv (A.add b6 1) 2) _ ?_ ?_
    ·subst h;exact h9.n178 (df p354a) (df p354b) (dt p354c) (dt p354d)
    clear hE hinl hV hK8;cbv;(try repeat' first|rfl|assumption|constructor)
   ·next a b c d=>subst h;exact h9.g179 (df a) (df b) (dt c) (df d)
   next p356a p356b p356c p356d=>
    refine hK8 (A.add (A.shl .i64 s0 (A.di (fn 92 [[D.i b5,D.i b6]] 0 0))) 0,false,s1,A.add b5 (A.add (A.shl .i64 s0 (A.di (fn 92 [[D.i b5,D.i b6]] 0 0))) 0),A.add b6 1) _ ?_ ?_
    ·subst h;exact h9.n180 (df p356a) (df p356b) (dt p356c) (df p356d)
    clear hE hinl hV hK8;cbv;(try repeat' first|rfl|assumption|constructor)
   rename_i p357a p357b p357c
   refine Leaf.gen fun σz hσz=>?_
   obtain ⟨I14,m14,i14,c14⟩:V29l5 fn a0 b5 b6 s0 s1 I8:=by subst h;exact h9.l7 (df p357a) (df p357b) (df p357c)
   refine loopBJ hE [11,12] hinl 6 [] [] [(3,[0])] (fun x:Int×Int×Int=>[.i x.1,.i x.2.1,D.l [[.i x.2.2]]]) (fun x=>I14 x.1 x.2.1 x.2.2) (fun x=>m14 x.1 x.2.1 x.2.2) (0,0,s1) (by subst h;exact i14) ?_ ?_<;>subst hσz
   ·clear hE hinl hV;cbv;(try repeat' first|rfl|assumption|constructor)
   intro ⟨y0,y1,y2⟩ hI14 K14 hK14
   have h14:=c14 _ _ _ hI14
   cbv
   repeat' first|(refine Br.mk (fun _=>?_) (fun _=>?_)<;>cbv)|(refine NilB.mk (fun _=>?_) ?_<;>cbv)|refine And.intro ?_ ?_|exact True.intro
   ·next a=>subst h;exact h14.g103 (dt a)
   ·next a=>subst h;exact h14.g104 (dt a)
   ·next a=>subst h;exact h14.g105 (dt a)
   ·next a=>subst h;exact h14.g106 (dt a)
   ·next a=>subst h;exact h14.g107 (dt a)
   ·next a=>subst h;exact h14.g108 (dt a)
   ·next a=>subst h;exact h14.g104 (dt a)
   ·next a=>subst h;exact h14.g110 (dt a)
   ·next a=>subst h;exact h14.g111 (dt a)
   ·next a=>subst h;exact h14.g112 (dt a)
   ·next a=>subst h;exact h14.g113 (dt a)
   ·next a=>subst h;exact h14.g114 (dt a)
   next p370a=>
    refine hK14 (A.bit .or .i64 (A.shl .i64 y0 1) (A.bit .and .u8 (A.shr .u8 (A.di (A.get (A.sub' a0 (A.toNat 5) (A.nsub (A.toNat (A.sub (A.nat (A.len a0)) 2)) (A.toNat 5))) (A.toNat (A.tdiv y2 8)) 0)) (A.sub 7 (A.tmod y2 8))) 1),A.add y1 1,A.add y2 1) _ ?_ ?_ ?_
    ·subst h;exact (h14.n115 (dt p370a)).1
    ·subst h;exact (h14.n115 (dt p370a)).2
    clear hE hinl hV hK14;cbv;(try repeat' first|rfl|assumption|constructor)
   ·next a=>subst h;exact h14.g116 (df a)
   ·next a=>subst h;exact h14.g117 (df a)
   ·next a=>subst h;exact h14.g118 (df a)
   ·next a b=>subst h;exact h14.g119 (df a) (dt b)
   ·next a b=>subst h;exact h14.g120 (df a) (dt b)
   ·next a b=>subst h;exact h14.g119 (df a) (dt b)
   ·next a b=>subst h;exact h14.g122 (df a) (dt b)
   ·next a b=>subst h;exact h14.g123 (df a) (dt b)
   next p379a p379b=>
    refine hK8 (A.add (A.shl .i64 s0 (A.di (fn 92 [[D.i b5,D.i b6]] 0 0))) y0,true,y2,A.tdiv (A.add b5 (A.add (A.shl .i64 s0 (A.di (fn 92 [[D.i b5,D.i b6]] 0 0))) y0)) 2,A.tdiv (A.add b6 1) 2) _ ?_ ?_
    ·subst h;exact h14.n124 (df p379a) (dt p379b)
    clear hE hinl hV hK8;cbv;(try repeat' first|rfl|assumption|constructor)
   ·next a b=>subst h;exact h14.g125 (df a) (df b)
   rename_i p381a p381b
   refine hK8 (A.add (A.shl .i64 s0 (A.di (fn 92 [[D.i b5,D.i b6]] 0 0))) y0,true,y2,A.add b5 (A.add (A.shl .i64 s0 (A.di (fn 92 [[D.i b5,D.i b6]] 0 0))) y0),A.add b6 1) _ ?_ ?_
   ·subst h;exact h14.n126 (df p381a) (df p381b)
   clear hE hinl hV hK8;cbv;(try repeat' first|rfl|assumption|constructor)
  intro ⟨r0,r1,r2,r3,r4⟩ hI8
  have h8:=c8 _ _ _ _ _ hI8
  cbv
  repeat' first|(refine Br.mk (fun _=>?_) (fun _=>?_)<;>cbv)|(refine NilB.mk (fun _=>?_) ?_<;>cbv)|refine And.intro ?_ ?_|exact True.intro
  ·next a=>subst h;exact h8.g382 (dt a)
  ·next a=>subst h;exact h8.g383 (dt a)
  ·next a=>subst h;exact h8.g384 (dt a)
  ·next a=>subst h;exact h8.g385 (dt a)
  ·next a=>subst h;exact h8.g385 (dt a)
  ·next a=>subst h;exact h8.g387 (dt a)
  ·next a b=>subst h;exact h8.g388 (dt a) (dt b)
  ·next a b=>subst h;exact h8.g389 (dt a) (dt b)
  ·next a b=>subst h;exact h8.g390 (dt a) (dt b)
  ·next a b=>subst h;exact h8.g391 (dt a) (dt b)
  ·next a b=>subst h;exact h8.g391 (dt a) (dt b)
  ·next a b=>subst h;exact h8.g393 (dt a) (dt b)
  ·next a b=>subst h;exact h8.g394 (dt a) (dt b)
  ·next a b c=>subst h;exact h8.g395 (dt a) (dt b) (nt c)
  ·next a b c=>subst h;exact h8.g396 (dt a) (dt b) (nt c)
  ·next a b c d=>subst h;exact h8.g397 (dt a) (dt b) (nf c) (nt d)
  ·next a b c d=>subst h;exact h8.g398 (dt a) (dt b) (nf c) (nt d)
  ·next a b c d=>subst h;exact h8.g399 (dt a) (dt b) (nf c) (nf d)
  ·next a b c d e=>subst h;exact h8.g400 (dt a) (dt b) (nf c) (nf d) (df (nt e))
  ·next a b c d e=>subst h;exact h8.g401 (dt a) (dt b) (nf c) (nf d) (df (nt e))
  ·next a b c d e=>subst h;exact h8.g402 (dt a) (dt b) (nf c) (nf d) (dt (nf e))
  ·next a b c d e=>subst h;exact h8.g403 (dt a) (dt b) (nf c) (nf d) (dt (nf e))
  next p404a p404b p404c p404d p404e=>
   refine hK0 (A.app b0 [[D.i (A.add d0 (A.di (A.get b0 (A.toNat (A.sub (A.nat (A.len b0)) 1)) 0))),D.i (A.add r0 (A.add (A.di (A.get b0 (A.toNat (A.sub (A.nat (A.len b0)) 1)) 1)) 1))]],A.add b1 1,r2,d3,d4,r3,r4) _ ?_ ?_ ?_
   ·subst h;exact (h8.n404 (dt p404a) (dt p404b) (nf p404c) (nf p404d) (dt (nf p404e))).1
   ·subst h;exact (h8.n404 (dt p404a) (dt p404b) (nf p404c) (nf p404d) (dt (nf p404e))).2
   clear hE hinl hV hK0;cbv;(try repeat' first|rfl|assumption|constructor)
  ·next a b c=>subst h;exact h8.g405 (dt a) (df b) (nt c)
  ·next a b c=>subst h;exact h8.g406 (dt a) (df b) (nt c)
  ·next a b c d=>subst h;exact h8.g407 (dt a) (df b) (nf c) (nt d)
  ·next a b c d=>subst h;exact h8.g408 (dt a) (df b) (nf c) (nt d)
  ·next a b c d=>subst h;exact h8.g409 (dt a) (df b) (nf c) (nf d)
  ·next a b c d e=>subst h;exact h8.g410 (dt a) (df b) (nf c) (nf d) (df (nt e))
  ·next a b c d e=>subst h;exact h8.g411 (dt a) (df b) (nf c) (nf d) (df (nt e))
  ·next a b c d e=>subst h;exact h8.g412 (dt a) (df b) (nf c) (nf d) (dt (nf e))
  ·next a b c d e=>subst h;exact h8.g413 (dt a) (df b) (nf c) (nf d) (dt (nf e))
  next p414a p414b p414c p414d p414e=>
   refine hK0 (A.app b0 [[D.i (A.add d0 (A.di (A.get b0 (A.toNat (A.sub (A.nat (A.len b0)) 1)) 0))),D.i r0]],A.add b1 1,r2,d3,d4,r3,r4) _ ?_ ?_ ?_
   ·subst h;exact (h8.n414 (dt p414a) (df p414b) (nf p414c) (nf p414d) (dt (nf p414e))).1
   ·subst h;exact (h8.n414 (dt p414a) (df p414b) (nf p414c) (nf p414d) (dt (nf p414e))).2
   clear hE hinl hV hK0;cbv;(try repeat' first|rfl|assumption|constructor)
  ·next a b=>subst h;exact h8.g415 (df a) (nt b)
  ·next a b=>subst h;exact h8.g416 (df a) (nt b)
  ·next a b c=>subst h;exact h8.g417 (df a) (nf b) (nt c)
  ·next a b c=>subst h;exact h8.g418 (df a) (nf b) (nt c)
  ·next a b c=>subst h;exact h8.g419 (df a) (nf b) (nf c)
  ·next a b c d=>subst h;exact h8.g420 (df a) (nf b) (nf c) (df (nt d))
  ·next a b c d=>subst h;exact h8.g421 (df a) (nf b) (nf c) (df (nt d))
  ·next a b c d=>subst h;exact h8.g422 (df a) (nf b) (nf c) (dt (nf d))
  ·next a b c d=>subst h;exact h8.g423 (df a) (nf b) (nf c) (dt (nf d))
  rename_i p424a p424b p424c p424d
  refine hK0 (A.app b0 [[D.i d0,D.i r0]],A.add b1 1,r2,d3,d4,r3,r4) _ ?_ ?_ ?_
  ·subst h;exact (h8.n424 (df p424a) (nf p424b) (nf p424c) (dt (nf p424d))).1
  ·subst h;exact (h8.n424 (df p424a) (nf p424b) (nf p424c) (dt (nf p424d))).2
  clear hE hinl hV hK0;cbv;(try repeat' first|rfl|assumption|constructor)
 ·next a b=>subst h;exact h0.g425 (df a) (dt b)
 ·next a b=>subst h;exact h0.g426 (df a) (dt b)
 ·next a b=>subst h;exact h0.g427 (df a) (df b)
 ·next a b=>subst h;exact h0.g428 (df a) (df b)
 ·next a b c=>subst h;exact h0.g429 (df a) (df b) (nt c)
 ·next a b c=>subst h;exact h0.g430 (df a) (df b) (nt c)
 ·next a b c=>subst h;exact h0.g431 (df a) (df b) (nf c)
 next a b c=>subst h;exact h0.g432 (df a) (df b) (nf c)
end HX

namespace HX
open Go Go.Proofs CX
set_option maxHeartbeats 4000000 in
set_option maxRecDepth 100000 in
theorem walk53 {ro A pre fn} (hE:EnvOk ⟨A,(cxE ro),ksF,sigL [],pre,fn⟩) {P:List (List D)->Prop} {res:List (List D)->Nat->Nat->D}
  (hv:∀(a0:Int) (a1:Int) (a2:Int),P [[.i a0],[.i a1],[.i a2]]->V53 a0 a1 a2 (res [[.i a0],[.i a1],[.i a2]]) ) :
  PureC (cxE ro) 53 ⟨[(false,[.int .i64]),(false,[.int .i64]),(false,[.int .i64])],[(false,[.bool])],false⟩ P res:=by
 have h:=hE.A
 simp only [] at h
 have hinl:∀f fn,inlL [] f=some fn->(cxE ro).fn f=some fn/\(cxE ro).ext f=none:=Inls.ok (by repeat (first |exact .nil |refine .cons rfl rfl ?_))
 refine PureC.of_vc hE hinl 6 (f:=53) (fn:=Try.f53) ⟨rfl,rfl⟩ ?_
 intro a0 a1 a2 hP
 obtain ⟨R,hR⟩:∃R,res [[.i a0],[.i a1],[.i a2]]=R:=⟨_,rfl⟩
 rw [hR]
 have hV:=hv a0 a1 a2  hP
 rw [hR] at hV
 clear hR hP hv
 cbv
 repeat' first|(refine Br.mk (fun _=>?_) (fun _=>?_)<;>cbv)|(refine NilB.mk (fun _=>?_) ?_<;>cbv)|refine And.intro ?_ ?_|exact True.intro
 next hp0_0=>
  subst h;exact hV.g0 (dt hp0_0)
 rename_i hp1_0
 subst h;exact hV.g1 (df hp1_0)
end HX

namespace HX
open Go Go.Proofs CX
set_option maxHeartbeats 4000000 in
set_option maxRecDepth 100000 in
theorem walk40 {ro A pre fn} (hE:EnvOk ⟨A,(cxE ro),ksF,sigL [(53,⟨[(false,[.int .i64]),(false,[.int .i64]),(false,[.int .i64])],[(false,[.bool])],false⟩)],pre,fn⟩) {P:List (List D)->Prop} {res:List (List D)->Nat->Nat->D}
  (hv:∀(a0_0:Int) (a0_1:Int) (a1_0:Int) (a1_1:Int) (a2:Bool),P [[.i a0_0,.i a0_1],[.i a1_0,.i a1_1],[.b a2]]->V40 pre fn a0_0 a0_1 a1_0 a1_1 a2 (res [[.i a0_0,.i a0_1],[.i a1_0,.i a1_1],[.b a2]]) ) :
  PureC (cxE ro) 40 ⟨[(true,[.int .i64,.int .i64]),(true,[.int .i64,.int .i64]),(false,[.bool])],[(false,[.int .i64])],false⟩ P res:=by
 have h:=hE.A
 simp only [] at h
 have hinl:∀f fn,inlL [] f=some fn->(cxE ro).fn f=some fn/\(cxE ro).ext f=none:=Inls.ok (by repeat (first |exact .nil |refine .cons rfl rfl ?_))
 refine PureC.of_vc hE hinl 6 (f:=40) (fn:=Try.f40) ⟨rfl,rfl⟩ ?_
 intro a0_0 a0_1 a1_0 a1_1 a2 hP
 obtain ⟨R,hR⟩:∃R,res [[.i a0_0,.i a0_1],[.i a1_0,.i a1_1],[.b a2]]=R:=⟨_,rfl⟩
 rw [hR]
 have hV:=hv a0_0 a0_1 a1_0 a1_1 a2  hP
 rw [hR] at hV
 clear hR hP hv
 cbv
 repeat' first|(refine Br.mk (fun _=>?_) (fun _=>?_)<;>cbv)|(refine NilB.mk (fun _=>?_) ?_<;>cbv)|refine And.intro ?_ ?_|exact True.intro
 ·subst h;exact hV.g0
 next hp1_0=>
  subst h;exact hV.g1 (nt hp1_0)
 next hp2_0=>
  subst h;exact hV.g2 (nf hp2_0)
 next hp3_0 hp3_1=>
  subst h;exact hV.g3 (nf hp3_0) (nt hp3_1)
 next hp4_0 hp4_1 hp4_2 hp4_3=>
  subst h;exact hV.g4 (nf hp4_0) (nf hp4_1) (nt hp4_2) (dt hp4_3)
 next hp5_0 hp5_1 hp5_2 hp5_3 hp5_4 hp5_5=>
  subst h;exact hV.g5 (nf hp5_0) (nf hp5_1) (nt hp5_2) (df hp5_3) (dt hp5_4) (dt hp5_5)
 next hp6_0 hp6_1 hp6_2 hp6_3 hp6_4 hp6_5=>
  subst h;exact hV.g6 (nf hp6_0) (nf hp6_1) (nt hp6_2) (df hp6_3) (dt hp6_4) (df hp6_5)
 next hp7_0 hp7_1 hp7_2 hp7_3 hp7_4=>
  subst h;exact hV.g7 (nf hp7_0) (nf hp7_1) (nt hp7_2) (df hp7_3) (df hp7_4)
 rename_i hp8_0 hp8_1 hp8_2
 subst h;exact hV.g8 (nf hp8_0) (nf hp8_1) (nf hp8_2)
end HX

namespace HX
open Go Go.Proofs CX
set_option maxHeartbeats 4000000 in
set_option maxRecDepth 100000 in
theorem walk89 {ro A pre fn} (hE:EnvOk ⟨A,(cxE ro),ksF,sigL [],pre,fn⟩) {P:List (List D)->Prop} {res:List (List D)->Nat->Nat->D}
  (hv:∀(a0_0:Int) (a0_1:Int),P [[.i a0_0,.i a0_1]]->∃(I0:Int->Prop) (m0:Int->Nat),V89 a0_0 a0_1 (res [[.i a0_0,.i a0_1]]) I0 m0) :
  PureC (cxE ro) 89 ⟨[(true,[.int .i64,.int .i64])],[(false,[.int .i64])],false⟩ P res:=by
 have h:=hE.A
 simp only [] at h
 have hinl:∀f fn,inlL [] f=some fn->(cxE ro).fn f=some fn/\(cxE ro).ext f=none:=Inls.ok (by repeat (first |exact .nil |refine .cons rfl rfl ?_))
 refine PureC.of_vc hE hinl 6 (f:=89) (fn:=Try.f89) ⟨rfl,rfl⟩ ?_
 intro a0_0 a0_1 hP
 obtain ⟨R,hR⟩:∃R,res [[.i a0_0,.i a0_1]]=R:=⟨_,rfl⟩
 rw [hR]
 obtain ⟨I0,m0,hV⟩:=hv a0_0 a0_1  hP
 rw [hR] at hV
 clear hR hP hv
 cbv
 repeat' first|(refine Br.mk (fun _=>?_) (fun _=>?_)<;>cbv)|(refine NilB.mk (fun _=>?_) ?_<;>cbv)|refine And.intro ?_ ?_|exact True.intro
 refine Leaf.gen fun σz hσz=>?_
 refine loopB hE hinl 6 [] [] [] (fun x:Int=>[.i x]) (fun x=>I0 x) (fun x=>m0 x) (0) (by subst h;exact hV.i0) ?_ ?_<;>subst hσz
 ·clear hE hinl hV;cbv;(try repeat' first|rfl|assumption|constructor)
 intro x0_0 hI0 K0 hK0
 cbv
 repeat' first|(refine Br.mk (fun _=>?_) (fun _=>?_)<;>cbv)|(refine NilB.mk (fun _=>?_) ?_<;>cbv)|refine And.intro ?_ ?_|exact True.intro
 next hp1_0=>
  subst h;exact hV.g1 _ hI0 (dt hp1_0)
 next hp2_0 hp2_1=>
  subst h;exact hV.g2 _ hI0 (dt hp2_0) (dt hp2_1)
 next hp3_0 hp3_1=>
  refine hK0 (A.add x0_0 1) _ ?_ ?_ ?_
  ·subst h;exact (hV.n3 _ hI0 (dt hp3_0) (dt hp3_1)).1
  ·subst h;exact (hV.n3 _ hI0 (dt hp3_0) (dt hp3_1)).2
  clear hE hinl hV hK0;cbv;(try repeat' first|rfl|assumption|constructor)
 next hp4_0 hp4_1=>
  subst h;exact hV.g4 _ hI0 (dt hp4_0) (df hp4_1)
 rename_i hp5_0
 subst h;exact hV.g5 _ hI0 (df hp5_0)
end HX

namespace HX
open Go Go.Proofs CX
set_option maxHeartbeats 4000000 in
set_option maxRecDepth 100000 in
theorem walk65 {ro A pre fn} (hE:EnvOk ⟨A,(cxE ro),ksF,sigL [],pre,fn⟩) {P:List (List D)->Prop} {res:List (List D)->Nat->Nat->D}
  (hv:∀(a0_0:Int) (a0_1:Int) (a1:Int),P [[.i a0_0,.i a0_1],[.i a1]]->V65 a0_0 a0_1 a1 (res [[.i a0_0,.i a0_1],[.i a1]]) ) :
  PureC (cxE ro) 65 ⟨[(true,[.int .i64,.int .i64]),(false,[.int .i64])],[(true,[.int .i64,.int .i64])],false⟩ P res:=by
 have h:=hE.A
 simp only [] at h
 have hinl:∀f fn,inlL [] f=some fn->(cxE ro).fn f=some fn/\(cxE ro).ext f=none:=Inls.ok (by repeat (first |exact .nil |refine .cons rfl rfl ?_))
 refine PureC.of_vc hE hinl 6 (f:=65) (fn:=Try.f65) ⟨rfl,rfl⟩ ?_
 intro a0_0 a0_1 a1 hP
 obtain ⟨R,hR⟩:∃R,res [[.i a0_0,.i a0_1],[.i a1]]=R:=⟨_,rfl⟩
 rw [hR]
 have hV:=hv a0_0 a0_1 a1  hP
 rw [hR] at hV
 clear hR hP hv
 cbv
 repeat' first|(refine Br.mk (fun _=>?_) (fun _=>?_)<;>cbv)|(refine NilB.mk (fun _=>?_) ?_<;>cbv)|refine And.intro ?_ ?_|exact True.intro
 ·subst h;exact hV.g0
 ·subst h;exact hV.g1
 next hp2_0=>
  subst h;exact hV.g2 (dt hp2_0)
 next hp3_0=>
  subst h;exact hV.g3 (dt hp3_0)
 next hp4_0=>
  subst h;exact hV.g2 (dt hp4_0)
 next hp5_0=>
  subst h;exact hV.g5 (dt hp5_0)
 next hp6_0=>
  subst h;exact hV.g6 (dt hp6_0)
 next hp7_0=>
  subst h;exact hV.g7 (dt hp7_0)
 next hp8_0=>
  subst h;exact hV.g8 (df hp8_0)
 rename_i hp9_0
 subst h;exact hV.g9 (df hp9_0)
end HX

namespace HX
open Go Go.Proofs CX
set_option maxHeartbeats 4000000 in
set_option maxRecDepth 100000 in
theorem walk66 {ro A pre fn} (hE:EnvOk ⟨A,(cxE ro),ksF,sigL [],pre,fn⟩) {P:List (List D)->Prop} {res:List (List D)->Nat->Nat->D}
  (hv:∀(a0:Rows),ShR [.int .u8] a0->P [[.l a0]]->∃(I0:Int->Int->Int->Prop) (m0:Int->Int->Int->Nat),V66 a0 (res [[.l a0]]) I0 m0) :
  PureC (cxE ro) 66 ⟨[(false,[.sl [.int .u8]])],[(false,[.int .i64]),(false,[.int .i64])],false⟩ P res:=by
 have h:=hE.A
 simp only [] at h
 have hinl:∀f fn,inlL [] f=some fn->(cxE ro).fn f=some fn/\(cxE ro).ext f=none:=Inls.ok (by repeat (first |exact .nil |refine .cons rfl rfl ?_))
 refine PureC.of_vc hE hinl 6 (f:=66) (fn:=Try.f66) ⟨rfl,rfl⟩ ?_
 intro a0 ha0 hP
 obtain ⟨R,hR⟩:∃R,res [[.l a0]]=R:=⟨_,rfl⟩
 rw [hR]
 obtain ⟨I0,m0,hV⟩:=hv a0 ha0 hP
 rw [hR] at hV
 clear hR hP hv
 cbv
 repeat' first|(refine Br.mk (fun _=>?_) (fun _=>?_)<;>cbv)|(refine NilB.mk (fun _=>?_) ?_<;>cbv)|refine And.intro ?_ ?_|exact True.intro
 refine Leaf.gen fun σz hσz=>?_
 refine loopB hE hinl 6 [] [] [] (fun x:Int×Int×Int=>[.i x.1,.i x.2.1,.i x.2.2]) (fun x=>I0 x.1 x.2.1 x.2.2) (fun x=>m0 x.1 x.2.1 x.2.2) (0,0,0) (by subst h;exact hV.i0) ?_ ?_<;>subst hσz
 ·clear hE hinl hV;cbv;(try repeat' first|rfl|assumption|constructor)
 intro ⟨x0_0,x0_1,x0_2⟩ hI0 K0 hK0
 cbv
 repeat' first|(refine Br.mk (fun _=>?_) (fun _=>?_)<;>cbv)|(refine NilB.mk (fun _=>?_) ?_<;>cbv)|refine And.intro ?_ ?_|exact True.intro
 next hp1_0=>
  subst h;exact hV.g1 _ _ _ hI0 (dt hp1_0)
 next hp2_0=>
  subst h;exact hV.g2 _ _ _ hI0 (dt hp2_0)
 next hp3_0=>
  subst h;exact hV.g3 _ _ _ hI0 (dt hp3_0)
 next hp4_0=>
  subst h;exact hV.g4 _ _ _ hI0 (dt hp4_0)
 next hp5_0=>
  subst h;exact hV.g5 _ _ _ hI0 (dt hp5_0)
 next hp6_0=>
  subst h;exact hV.g6 _ _ _ hI0 (dt hp6_0)
 next hp7_0=>
  subst h;exact hV.g7 _ _ _ hI0 (dt hp7_0)
 next hp8_0=>
  subst h;exact hV.g6 _ _ _ hI0 (dt hp8_0)
 next hp9_0=>
  subst h;exact hV.g9 _ _ _ hI0 (dt hp9_0)
 next hp10_0=>
  refine hK0 (A.tmod (A.add x0_0 (A.di (A.get a0 (A.toNat x0_2) 0))) 255,A.tmod (A.add x0_1 (A.tmod (A.add x0_0 (A.di (A.get a0 (A.toNat x0_2) 0))) 255)) 255,A.add x0_2 1) _ ?_ ?_ ?_
  ·subst h;exact (hV.n10 _ _ _ hI0 (dt hp10_0)).1
  ·subst h;exact (hV.n10 _ _ _ hI0 (dt hp10_0)).2
  clear hE hinl hV hK0;cbv;(try repeat' first|rfl|assumption|constructor)
 next hp11_0=>
  subst h;exact hV.g11 _ _ _ hI0 (df hp11_0)
 rename_i hp12_0
 subst h;exact hV.g12 _ _ _ hI0 (df hp12_0)
end HX

namespace HX
open Go Go.Proofs CX
set_option maxHeartbeats 4000000 in
set_option maxRecDepth 100000 in
theorem walk54 {ro A pre fn} (hE:EnvOk ⟨A,(cxE ro),ksF,sigL [(40,⟨[(true,[.int .i64,.int .i64]),(true,[.int .i64,.int .i64]),(false,[.bool])],[(false,[.int .i64])],false⟩)],pre,fn⟩) {P:List (List D)->Prop} {res:List (List D)->Nat->Nat->D}
  (hv:∀(a0:Rows),ShR [.int .i64,.int .i64] a0->P [[.l a0]]->∃(I0:Int->Int->Prop) (m0:Int->Int->Nat),V54 pre fn a0 (res [[.l a0]]) I0 m0) :
  PureC (cxE ro) 54 ⟨[(false,[.sl [.int .i64,.int .i64]])],[(false,[.int .i64])],false⟩ P res:=by
 have h:=hE.A
 simp only [] at h
 have hinl:∀f fn,inlL [] f=some fn->(cxE ro).fn f=some fn/\(cxE ro).ext f=none:=Inls.ok (by repeat (first |exact .nil |refine .cons rfl rfl ?_))
 refine PureC.of_vc hE hinl 6 (f:=54) (fn:=Try.f54) ⟨rfl,rfl⟩ ?_
 intro a0 ha0 hP
 obtain ⟨R,hR⟩:∃R,res [[.l a0]]=R:=⟨_,rfl⟩
 rw [hR]
 obtain ⟨I0,m0,hV⟩:=hv a0 ha0 hP
 rw [hR] at hV
 clear hR hP hv
 cbv
 repeat' first|(refine Br.mk (fun _=>?_) (fun _=>?_)<;>cbv)|(refine NilB.mk (fun _=>?_) ?_<;>cbv)|refine And.intro ?_ ?_|exact True.intro
 next hp0_0=>
  subst h;exact hV.g0 (dt hp0_0)
 rename_i hp1_0
 refine Leaf.gen fun σz hσz=>?_
 refine loopB hE hinl 6 [] [] [] (fun x:Int×Int=>[.i x.1,.i x.2]) (fun x=>I0 x.1 x.2) (fun x=>m0 x.1 x.2) (0,0) (by subst h;exact hV.i0 (df hp1_0)) ?_ ?_<;>subst hσz
 ·clear hE hinl hV;cbv;(try repeat' first|rfl|assumption|constructor)
 intro ⟨x0_0,x0_1⟩ hI0 K0 hK0
 cbv
 repeat' first|(refine Br.mk (fun _=>?_) (fun _=>?_)<;>cbv)|(refine NilB.mk (fun _=>?_) ?_<;>cbv)|refine And.intro ?_ ?_|exact True.intro
 next hp2_0 hp2_1=>
  subst h;exact hV.g2 _ _ hI0 (df hp1_0) (dt hp2_0) (dt hp2_1)
 next hp3_0 hp3_1=>
  subst h;exact hV.g3 _ _ hI0 (df hp1_0) (dt hp3_0) (dt hp3_1)
 next hp4_0 hp4_1=>
  subst h;exact hV.g4 _ _ hI0 (df hp1_0) (dt hp4_0) (dt hp4_1)
 next hp5_0 hp5_1=>
  subst h;exact hV.g5 _ _ hI0 (df hp1_0) (dt hp5_0) (dt hp5_1)
 next hp6_0 hp6_1=>
  subst h;exact hV.g6 _ _ hI0 (df hp1_0) (dt hp6_0) (dt hp6_1)
 next hp7_0 hp7_1=>
  subst h;exact hV.g7 _ _ hI0 (df hp1_0) (dt hp7_0) (dt hp7_1)
 next hp8_0 hp8_1=>
  subst h;exact hV.g8 _ _ hI0 (df hp1_0) (dt hp8_0) (dt hp8_1)
 next hp9_0 hp9_1=>
  subst h;exact hV.g9 _ _ hI0 (df hp1_0) (dt hp9_0) (dt hp9_1)
 next hp10_0 hp10_1 hp10_2=>
  subst h;exact hV.g10 _ _ hI0 (df hp1_0) (dt hp10_0) (dt hp10_1) (df (nt hp10_2))
 next hp11_0 hp11_1 hp11_2=>
  subst h;exact hV.g11 _ _ hI0 (df hp1_0) (dt hp11_0) (dt hp11_1) (dt (nf hp11_2))
 next hp12_0 hp12_1 hp12_2=>
  refine hK0 (x0_0,A.add x0_1 1) _ ?_ ?_ ?_
  ·subst h;exact (hV.n12 _ _ hI0 (df hp1_0) (dt hp12_0) (dt hp12_1) (dt (nf hp12_2))).1
  ·subst h;exact (hV.n12 _ _ hI0 (df hp1_0) (dt hp12_0) (dt hp12_1) (dt (nf hp12_2))).2
  clear hE hinl hV hK0;cbv;(try repeat' first|rfl|assumption|constructor)
 next hp13_0 hp13_1=>
  subst h;exact hV.g13 _ _ hI0 (df hp1_0) (dt hp13_0) (df hp13_1)
 next hp14_0 hp14_1=>
  subst h;exact hV.g14 _ _ hI0 (df hp1_0) (dt hp14_0) (df hp14_1)
 next hp15_0 hp15_1=>
  subst h;exact hV.g15 _ _ hI0 (df hp1_0) (dt hp15_0) (df hp15_1)
 next hp16_0 hp16_1=>
  subst h;exact hV.g16 _ _ hI0 (df hp1_0) (dt hp16_0) (df hp16_1)
 next hp17_0 hp17_1 hp17_2=>
  subst h;exact hV.g17 _ _ hI0 (df hp1_0) (dt hp17_0) (df hp17_1) (df (nt hp17_2))
 next hp18_0 hp18_1 hp18_2=>
  subst h;exact hV.g18 _ _ hI0 (df hp1_0) (dt hp18_0) (df hp18_1) (dt (nf hp18_2))
 next hp19_0 hp19_1 hp19_2=>
  refine hK0 (x0_0,A.add x0_1 1) _ ?_ ?_ ?_
  ·subst h;exact (hV.n19 _ _ hI0 (df hp1_0) (dt hp19_0) (df hp19_1) (dt (nf hp19_2))).1
  ·subst h;exact (hV.n19 _ _ hI0 (df hp1_0) (dt hp19_0) (df hp19_1) (dt (nf hp19_2))).2
  clear hE hinl hV hK0;cbv;(try repeat' first|rfl|assumption|constructor)
 rename_i hp20_0
 subst h;exact hV.g20 _ _ hI0 (df hp1_0) (df hp20_0)
end HX
