/-
  Texts of the executors: W63, W53, W40, W89, W65, W66, W54.
-/
import Derived.Test.YtmnaiddobipclaaSenseRecords9
set_option linter.all false
namespace HX
open Go Go.Proofs CX
set_option maxHeartbeats 4000000 in
set_option maxRecDepth 100000 in
set_option cbv.maxSteps 3000000 in
theorem walk63 {ro A pre fn} (hE:EnvOk ⟨A,(cxE ro),ksF,sigL [(67,⟨[(false,[.sl [.int .u8]])],[(true,[.int .u8,.int .u8])],false⟩),(92,⟨[(true,[.int .i64,.int .i64])],[(false,[.int .i64])],false⟩)],pre,fn⟩) {P:List (List D)→Prop} {res:List (List D)→Nat→Nat→D}
  (hv:∀(a0:Rows),ShR [.int .i64,.int .i64] a0→P [[.l a0]]→V63 pre fn a0 (res [[.l a0]])) :
  PureC (cxE ro) 63 ⟨[(false,[.sl [.int .i64,.int .i64]])],[(false,[.sl [.int .u8]])],false⟩ P res:=by
 have h:=hE.A
 simp only [] at h
 have hinl:∀f fn,inlL [(69,Try.f69),(87,Try.f87),(88,Try.f88),(93,Try.f93),(101,Try.f101)] f=some fn→(cxE ro).fn f=some fn∧(cxE ro).ext f=none:=Inls.ok (by repeat (first |exact .nil |refine .cons rfl rfl ?_))
 refine PureC.of_vcJ hE [10,12,13,14] hinl 6 (f:=63) (fn:=Try.f63) ⟨rfl,rfl⟩ ?_
 intro a0 ha0 hP
 obtain ⟨R,hR⟩:∃R,res [[.l a0]]=R:=⟨_,rfl⟩
 rw [hR]
 have hV:=hv a0 ha0 hP
 rw [hR] at hV
 clear hR hP hv
 cbv
 repeat' first|(refine Br.mk (fun _=>?_) (fun _=>?_)<;>cbv)|(refine NilB.mk (fun _=>?_) ?_<;>cbv)|refine And.intro ?_ ?_|exact True.intro
 ·subst h;exact hV.g0
 ·subst h;exact hV.g1
 ·refine Leaf.gen fun σz hσz=>?_
  obtain ⟨I0,m0,i0,c0⟩:V63l0 pre fn a0 R:=by subst h;exact hV.l0
  refine loopBJ hE [10,12,13,14] hinl 6 [] [] [(2,[53]),(4,[0]),(7,[0,0]),(8,[0,0]),(9,[0,0])] (fun x:Int×Rows×Int×Int×Int×Int×Int×Int×Int=>[.i x.1,D.l [[.l x.2.1]],D.l [[.i x.2.2.1]],D.l [[.i x.2.2.2.1,.i x.2.2.2.2.1]],D.l [[.i x.2.2.2.2.2.1,.i x.2.2.2.2.2.2.1]],D.l [[.i x.2.2.2.2.2.2.2.1,.i x.2.2.2.2.2.2.2.2]]]) (fun x=>I0 x.1 x.2.1 x.2.2.1 x.2.2.2.1 x.2.2.2.2.1 x.2.2.2.2.2.1 x.2.2.2.2.2.2.1 x.2.2.2.2.2.2.2.1 x.2.2.2.2.2.2.2.2) (fun x=>m0 x.1 x.2.1 x.2.2.1 x.2.2.2.1 x.2.2.2.2.1 x.2.2.2.2.2.1 x.2.2.2.2.2.2.1 x.2.2.2.2.2.2.2.1 x.2.2.2.2.2.2.2.2) (0,[[D.i 71],[D.i 83],[D.i (A.wrap IntKind.u8 (A.shr IntKind.i64 (A.nat (A.len a0)) 16))],[D.i (A.wrap IntKind.u8 (A.shr IntKind.i64 (A.nat (A.len a0)) 8))],[D.i (A.wrap IntKind.u8 (A.nat (A.len a0)))]],0,4,1,4,1,-1,0) (by subst h;exact i0) ?_ ?_<;>subst hσz
  ·clear hE hinl hV;cbv;(try repeat' first|rfl|assumption|constructor)
  ·intro ⟨b0,b1,b2,b3,b4,b5,b6,b7,b8⟩ hI0 K0 hK0
   have h0:=c0 _ _ _ _ _ _ _ _ _ hI0
   cbv
   repeat' first|(refine Br.mk (fun _=>?_) (fun _=>?_)<;>cbv)|(refine NilB.mk (fun _=>?_) ?_<;>cbv)|refine And.intro ?_ ?_|exact True.intro
   ·next a=>subst h;exact h0.g3 (dt a)
   ·next a=>subst h;exact h0.g4 (dt a)
   ·next a=>subst h;exact h0.g5 (dt a)
   ·rename_i p6a
    refine Leaf.gen fun σz hσz=>?_
    obtain ⟨I1,r1,c1⟩:V63j1 pre fn a0 b0 b1 b2 b3 b4 b5 b6 b7 b8 I0 m0:=by subst h;exact h0.l1 (dt p6a)
    refine joinB hE hinl 6 [41] [] [] [] (fun x:Int=>[.i x]) (fun x=>I1 x) ?_ ?_<;>subst hσz
    ·intro K1 hK1
     cbv
     repeat' first|(refine Br.mk (fun _=>?_) (fun _=>?_)<;>cbv)|(refine NilB.mk (fun _=>?_) ?_<;>cbv)|refine And.intro ?_ ?_|exact True.intro
     ·next a=>subst h;exact r1.g7 (dt a)
     ·rename_i p8a
      refine hK1 (A.sub (A.di (A.get a0 (A.toNat b0) 0)) b7) _ ?_ ?_
      ·subst h;exact r1.n8 (dt p8a)
      ·clear hE hinl hV hK1;cbv;(try repeat' first|rfl|assumption|constructor)
     ·rename_i p9a
      refine hK1 (A.di (A.get a0 (A.toNat b0) 0)) _ ?_ ?_
      ·subst h;exact r1.n9 (df p9a)
      ·clear hE hinl hV hK1;cbv;(try repeat' first|rfl|assumption|constructor)
    ·intro d0 hI1
     have h1:=c1 _ hI1
     cbv
     repeat' first|(refine Br.mk (fun _=>?_) (fun _=>?_)<;>cbv)|(refine NilB.mk (fun _=>?_) ?_<;>cbv)|refine And.intro ?_ ?_|exact True.intro
     ·refine Leaf.gen fun σz hσz=>?_
      obtain ⟨I2,r2,c2⟩:V63j2 pre fn a0 b0 b1 b2 b3 b4 b5 b6 b7 b8 d0 I0 m0:=by subst h;exact h1.l2
      refine joinB hE hinl 6 [50] [] [] [] (fun x:Int=>[.i x]) (fun x=>I2 x) ?_ ?_<;>subst hσz
      ·intro K2 hK2
       cbv
       repeat' first|(refine Br.mk (fun _=>?_) (fun _=>?_)<;>cbv)|(refine NilB.mk (fun _=>?_) ?_<;>cbv)|refine And.intro ?_ ?_|exact True.intro
       ·next a=>subst h;exact r2.g11 (dt a)
       ·next a=>subst h;exact r2.g12 (dt a)
       ·rename_i p13a
        refine hK2 (A.sub (A.di (A.get a0 (A.toNat b0) 1)) (A.add b8 1)) _ ?_ ?_
        ·subst h;exact r2.n13 (dt p13a)
        ·clear hE hinl hV hK2;cbv;(try repeat' first|rfl|assumption|constructor)
       ·rename_i p14a
        refine hK2 (A.di (A.get a0 (A.toNat b0) 1)) _ ?_ ?_
        ·subst h;exact r2.n14 (df p14a)
        ·clear hE hinl hV hK2;cbv;(try repeat' first|rfl|assumption|constructor)
      ·intro e0 hI2
       have h2:=c2 _ hI2
       cbv
       repeat' first|(refine Br.mk (fun _=>?_) (fun _=>?_)<;>cbv)|(refine NilB.mk (fun _=>?_) ?_<;>cbv)|refine And.intro ?_ ?_|exact True.intro
       ·refine Leaf.gen fun σz hσz=>?_
        obtain ⟨I3,r3,c3⟩:V63j3 pre fn a0 b0 b1 b2 b3 b4 b5 b6 b7 b8 d0 e0 I0 m0:=by subst h;exact h2.l3
        refine joinB hE hinl 6 [] [] [] [(2,[0]),(4,[0]),(7,[0,0])] (fun x:Rows×Int×Int×Int=>[D.l [[.l x.1]],D.l [[.i x.2.1]],D.l [[.i x.2.2.1,.i x.2.2.2]]]) (fun x=>I3 x.1 x.2.1 x.2.2.1 x.2.2.2) ?_ ?_<;>subst hσz
        ·intro K3 hK3
         cbv
         repeat' first|(refine Br.mk (fun _=>?_) (fun _=>?_)<;>cbv)|(refine NilB.mk (fun _=>?_) ?_<;>cbv)|refine And.intro ?_ ?_|exact True.intro
         ·subst h;exact r3.g16
         ·subst h;exact r3.g17
         ·next a=>subst h;exact r3.g18 (dt a)
         ·next a=>subst h;exact r3.g19 (dt a)
         ·next a=>subst h;exact r3.g20 (dt a)
         ·next a=>subst h;exact r3.g18 (dt a)
         ·next a=>subst h;exact r3.g22 (dt a)
         ·rename_i p23a
          refine Leaf.gen fun σz hσz=>?_
          obtain ⟨I4,m4,i4,c4⟩:V63l4 fn b1 b2 b3 b4 d0 I3:=by subst h;exact r3.l4 (dt p23a)
          refine loopBJ hE [10,12,13,14] hinl 6 [] [] [(2,[0]),(4,[0])] (fun x:Int×Rows×Int=>[.i x.1,D.l [[.l x.2.1]],D.l [[.i x.2.2]]]) (fun x=>I4 x.1 x.2.1 x.2.2) (fun x=>m4 x.1 x.2.1 x.2.2) (A.sub (A.add (A.shr IntKind.i64 d0 (A.di (fn 92 [[D.i b3,D.i b4]] 0 0))) 1) 1,b1,b2) (by subst h;exact i4) ?_ ?_<;>subst hσz
          ·clear hE hinl hV;cbv;(try repeat' first|rfl|assumption|constructor)
          ·intro ⟨j0,j1,j2⟩ hI4 K4 hK4
           have h4:=c4 _ _ _ hI4
           cbv
           repeat' first|(refine Br.mk (fun _=>?_) (fun _=>?_)<;>cbv)|(refine NilB.mk (fun _=>?_) ?_<;>cbv)|refine And.intro ?_ ?_|exact True.intro
           ·next a b=>subst h;exact h4.g24 (dt a) (dt b)
           ·next a b=>subst h;exact h4.g25 (dt a) (dt b)
           ·next a b=>subst h;exact h4.g26 (dt a) (dt b)
           ·next a b=>subst h;exact h4.g27 (dt a) (dt b)
           ·next a b=>subst h;exact h4.g28 (dt a) (dt b)
           ·next a b=>subst h;exact h4.g29 (dt a) (dt b)
           ·next a b=>subst h;exact h4.g29 (dt a) (dt b)
           ·next a b=>subst h;exact h4.g31 (dt a) (dt b)
           ·next a b=>subst h;exact h4.g32 (dt a) (dt b)
           ·next a b=>subst h;exact h4.g27 (dt a) (dt b)
           ·next a b=>subst h;exact h4.g28 (dt a) (dt b)
           ·next a b=>subst h;exact h4.g29 (dt a) (dt b)
           ·next a b=>subst h;exact h4.g36 (dt a) (dt b)
           ·rename_i p37a p37b
            refine hK4 (A.sub j0 1,A.set (A.app j1 [[D.i 0]]) (A.toNat (A.sub (A.nat (A.len (A.app j1 [[D.i 0]]))) 1)) [D.i (A.bit .or .u8 (A.di (A.get (A.app j1 [[D.i 0]]) (A.toNat (A.sub (A.nat (A.len (A.app j1 [[D.i 0]]))) 1)) 0)) (A.shl .u8 (A.wrap .u8 (A.bit .and .i64 (A.shr .i64 (A.sub (A.shl .i64 1 (A.add (A.shr .i64 d0 (A.di (fn 92 [[D.i b3,D.i b4]] 0 0))) 1)) 2) j0) 1)) (A.sub 8 1)))],A.sub 8 1) _ ?_ ?_ ?_
            ·subst h;exact (h4.n37 (dt p37a) (dt p37b)).1
            ·subst h;exact (h4.n37 (dt p37a) (dt p37b)).2
            ·clear hE hinl hV hK4;cbv;(try repeat' first|rfl|assumption|constructor)
           ·next a b=>subst h;exact h4.g38 (dt a) (df b)
           ·next a b=>subst h;exact h4.g39 (dt a) (df b)
           ·next a b=>subst h;exact h4.g40 (dt a) (df b)
           ·next a b=>subst h;exact h4.g41 (dt a) (df b)
           ·next a b=>subst h;exact h4.g42 (dt a) (df b)
           ·next a b=>subst h;exact h4.g42 (dt a) (df b)
           ·next a b=>subst h;exact h4.g44 (dt a) (df b)
           ·next a b=>subst h;exact h4.g45 (dt a) (df b)
           ·next a b=>subst h;exact h4.g40 (dt a) (df b)
           ·next a b=>subst h;exact h4.g41 (dt a) (df b)
           ·next a b=>subst h;exact h4.g42 (dt a) (df b)
           ·next a b=>subst h;exact h4.g49 (dt a) (df b)
           ·rename_i p50a p50b
            refine hK4 (A.sub j0 1,A.set j1 (A.toNat (A.sub (A.nat (A.len j1)) 1)) [D.i (A.bit .or .u8 (A.di (A.get j1 (A.toNat (A.sub (A.nat (A.len j1)) 1)) 0)) (A.shl .u8 (A.wrap .u8 (A.bit .and .i64 (A.shr .i64 (A.sub (A.shl .i64 1 (A.add (A.shr .i64 d0 (A.di (fn 92 [[D.i b3,D.i b4]] 0 0))) 1)) 2) j0) 1)) (A.sub j2 1)))],A.sub j2 1) _ ?_ ?_ ?_
            ·subst h;exact (h4.n50 (dt p50a) (df p50b)).1
            ·subst h;exact (h4.n50 (dt p50a) (df p50b)).2
            ·clear hE hinl hV hK4;cbv;(try repeat' first|rfl|assumption|constructor)
           ·next a=>subst h;exact h4.g51 (df a)
           ·rename_i p52a
            refine Leaf.gen fun σz hσz=>?_
            obtain ⟨I5,m5,i5,c5⟩:V63l5 fn b3 b4 d0 j1 j2 I3:=by subst h;exact h4.l5 (df p52a)
            refine loopBJ hE [10,12,13,14] hinl 6 [] [] [(2,[0]),(4,[0])] (fun x:Int×Rows×Int=>[.i x.1,D.l [[.l x.2.1]],D.l [[.i x.2.2]]]) (fun x=>I5 x.1 x.2.1 x.2.2) (fun x=>m5 x.1 x.2.1 x.2.2) (A.sub (A.di (fn 92 [[D.i b3,D.i b4]] 0 0)) 1,j1,j2) (by subst h;exact i5) ?_ ?_<;>subst hσz
            ·clear hE hinl hV;cbv;(try repeat' first|rfl|assumption|constructor)
            ·intro ⟨k0,k1,k2⟩ hI5 K5 hK5
             have h5:=c5 _ _ _ hI5
             cbv
             repeat' first|(refine Br.mk (fun _=>?_) (fun _=>?_)<;>cbv)|(refine NilB.mk (fun _=>?_) ?_<;>cbv)|refine And.intro ?_ ?_|exact True.intro
             ·next a b=>subst h;exact h5.g53 (dt a) (dt b)
             ·next a b=>subst h;exact h5.g54 (dt a) (dt b)
             ·next a b=>subst h;exact h5.g55 (dt a) (dt b)
             ·next a b=>subst h;exact h5.g56 (dt a) (dt b)
             ·next a b=>subst h;exact h5.g57 (dt a) (dt b)
             ·next a b=>subst h;exact h5.g58 (dt a) (dt b)
             ·next a b=>subst h;exact h5.g58 (dt a) (dt b)
             ·next a b=>subst h;exact h5.g60 (dt a) (dt b)
             ·next a b=>subst h;exact h5.g61 (dt a) (dt b)
             ·next a b=>subst h;exact h5.g56 (dt a) (dt b)
             ·next a b=>subst h;exact h5.g57 (dt a) (dt b)
             ·next a b=>subst h;exact h5.g58 (dt a) (dt b)
             ·next a b=>subst h;exact h5.g65 (dt a) (dt b)
             ·rename_i p66a p66b
              refine hK5 (A.sub k0 1,A.set (A.app k1 [[D.i 0]]) (A.toNat (A.sub (A.nat (A.len (A.app k1 [[D.i 0]]))) 1)) [D.i (A.bit .or .u8 (A.di (A.get (A.app k1 [[D.i 0]]) (A.toNat (A.sub (A.nat (A.len (A.app k1 [[D.i 0]]))) 1)) 0)) (A.shl .u8 (A.wrap .u8 (A.bit .and .i64 (A.shr .i64 d0 k0) 1)) (A.sub 8 1)))],A.sub 8 1) _ ?_ ?_ ?_
              ·subst h;exact (h5.n66 (dt p66a) (dt p66b)).1
              ·subst h;exact (h5.n66 (dt p66a) (dt p66b)).2
              ·clear hE hinl hV hK5;cbv;(try repeat' first|rfl|assumption|constructor)
             ·next a b=>subst h;exact h5.g67 (dt a) (df b)
             ·next a b=>subst h;exact h5.g68 (dt a) (df b)
             ·next a b=>subst h;exact h5.g69 (dt a) (df b)
             ·next a b=>subst h;exact h5.g70 (dt a) (df b)
             ·next a b=>subst h;exact h5.g71 (dt a) (df b)
             ·next a b=>subst h;exact h5.g71 (dt a) (df b)
             ·next a b=>subst h;exact h5.g73 (dt a) (df b)
             ·next a b=>subst h;exact h5.g74 (dt a) (df b)
             ·next a b=>subst h;exact h5.g69 (dt a) (df b)
             ·next a b=>subst h;exact h5.g70 (dt a) (df b)
             ·next a b=>subst h;exact h5.g71 (dt a) (df b)
             ·next a b=>subst h;exact h5.g78 (dt a) (df b)
             ·rename_i p79a p79b
              refine hK5 (A.sub k0 1,A.set k1 (A.toNat (A.sub (A.nat (A.len k1)) 1)) [D.i (A.bit .or .u8 (A.di (A.get k1 (A.toNat (A.sub (A.nat (A.len k1)) 1)) 0)) (A.shl .u8 (A.wrap .u8 (A.bit .and .i64 (A.shr .i64 d0 k0) 1)) (A.sub k2 1)))],A.sub k2 1) _ ?_ ?_ ?_
              ·subst h;exact (h5.n79 (dt p79a) (df p79b)).1
              ·subst h;exact (h5.n79 (dt p79a) (df p79b)).2
              ·clear hE hinl hV hK5;cbv;(try repeat' first|rfl|assumption|constructor)
             ·next a=>subst h;exact h5.g80 (df a)
             ·next a=>subst h;exact h5.g81 (df a)
             ·next a b=>subst h;exact h5.g82 (df a) (dt b)
             ·next a b=>subst h;exact h5.g83 (df a) (dt b)
             ·next a b=>subst h;exact h5.g82 (df a) (dt b)
             ·next a b=>subst h;exact h5.g85 (df a) (dt b)
             ·rename_i p86a p86b
              refine hK3 (k1,k2,A.tdiv (A.add b3 d0) 2,A.tdiv (A.add b4 1) 2) _ ?_ ?_
              ·subst h;exact h5.n86 (df p86a) (dt p86b)
              ·clear hE hinl hV hK3;cbv;(try repeat' first|rfl|assumption|constructor)
             ·rename_i p87a p87b
              refine hK3 (k1,k2,A.add b3 d0,A.add b4 1) _ ?_ ?_
              ·subst h;exact h5.n87 (df p87a) (df p87b)
              ·clear hE hinl hV hK3;cbv;(try repeat' first|rfl|assumption|constructor)
         ·next a=>subst h;exact r3.g88 (df a)
         ·rename_i p89a
          refine Leaf.gen fun σz hσz=>?_
          obtain ⟨I6,m6,i6,c6⟩:V63l6 b1 b2 b3 b4 d0 I3:=by subst h;exact r3.l6 (df p89a)
          refine loopBJ hE [10,12,13,14] hinl 6 [] [] [(2,[0]),(4,[0])] (fun x:Int×Rows×Int=>[.i x.1,D.l [[.l x.2.1]],D.l [[.i x.2.2]]]) (fun x=>I6 x.1 x.2.1 x.2.2) (fun x=>m6 x.1 x.2.1 x.2.2) (A.sub 24 1,b1,b2) (by subst h;exact i6) ?_ ?_<;>subst hσz
          ·clear hE hinl hV;cbv;(try repeat' first|rfl|assumption|constructor)
          ·intro ⟨o0,o1,o2⟩ hI6 K6 hK6
           have h6:=c6 _ _ _ hI6
           cbv
           repeat' first|(refine Br.mk (fun _=>?_) (fun _=>?_)<;>cbv)|(refine NilB.mk (fun _=>?_) ?_<;>cbv)|refine And.intro ?_ ?_|exact True.intro
           ·next a b=>subst h;exact h6.g90 (dt a) (dt b)
           ·next a b=>subst h;exact h6.g91 (dt a) (dt b)
           ·next a b=>subst h;exact h6.g92 (dt a) (dt b)
           ·next a b=>subst h;exact h6.g93 (dt a) (dt b)
           ·next a b=>subst h;exact h6.g94 (dt a) (dt b)
           ·next a b=>subst h;exact h6.g95 (dt a) (dt b)
           ·next a b=>subst h;exact h6.g95 (dt a) (dt b)
           ·next a b=>subst h;exact h6.g97 (dt a) (dt b)
           ·next a b=>subst h;exact h6.g98 (dt a) (dt b)
           ·next a b=>subst h;exact h6.g93 (dt a) (dt b)
           ·next a b=>subst h;exact h6.g94 (dt a) (dt b)
           ·next a b=>subst h;exact h6.g95 (dt a) (dt b)
           ·next a b=>subst h;exact h6.g102 (dt a) (dt b)
           ·rename_i p103a p103b
            refine hK6 (A.sub o0 1,A.set (A.app o1 [[D.i 0]]) (A.toNat (A.sub (A.nat (A.len (A.app o1 [[D.i 0]]))) 1)) [D.i (A.bit .or .u8 (A.di (A.get (A.app o1 [[D.i 0]]) (A.toNat (A.sub (A.nat (A.len (A.app o1 [[D.i 0]]))) 1)) 0)) (A.shl .u8 (A.wrap .u8 (A.bit .and .i64 (A.shr .i64 16777215 o0) 1)) (A.sub 8 1)))],A.sub 8 1) _ ?_ ?_ ?_
            ·subst h;exact (h6.n103 (dt p103a) (dt p103b)).1
            ·subst h;exact (h6.n103 (dt p103a) (dt p103b)).2
            ·clear hE hinl hV hK6;cbv;(try repeat' first|rfl|assumption|constructor)
           ·next a b=>subst h;exact h6.g104 (dt a) (df b)
           ·next a b=>subst h;exact h6.g105 (dt a) (df b)
           ·next a b=>subst h;exact h6.g106 (dt a) (df b)
           ·next a b=>subst h;exact h6.g107 (dt a) (df b)
           ·next a b=>subst h;exact h6.g108 (dt a) (df b)
           ·next a b=>subst h;exact h6.g108 (dt a) (df b)
           ·next a b=>subst h;exact h6.g110 (dt a) (df b)
           ·next a b=>subst h;exact h6.g111 (dt a) (df b)
           ·next a b=>subst h;exact h6.g106 (dt a) (df b)
           ·next a b=>subst h;exact h6.g107 (dt a) (df b)
           ·next a b=>subst h;exact h6.g108 (dt a) (df b)
           ·next a b=>subst h;exact h6.g115 (dt a) (df b)
           ·rename_i p116a p116b
            refine hK6 (A.sub o0 1,A.set o1 (A.toNat (A.sub (A.nat (A.len o1)) 1)) [D.i (A.bit .or .u8 (A.di (A.get o1 (A.toNat (A.sub (A.nat (A.len o1)) 1)) 0)) (A.shl .u8 (A.wrap .u8 (A.bit .and .i64 (A.shr .i64 16777215 o0) 1)) (A.sub o2 1)))],A.sub o2 1) _ ?_ ?_ ?_
            ·subst h;exact (h6.n116 (dt p116a) (df p116b)).1
            ·subst h;exact (h6.n116 (dt p116a) (df p116b)).2
            ·clear hE hinl hV hK6;cbv;(try repeat' first|rfl|assumption|constructor)
           ·next a=>subst h;exact h6.g117 (df a)
           ·rename_i p118a
            refine Leaf.gen fun σz hσz=>?_
            obtain ⟨I7,m7,i7,c7⟩:V63l7 b3 b4 d0 o1 o2 I3:=by subst h;exact h6.l7 (df p118a)
            refine loopBJ hE [10,12,13,14] hinl 6 [] [] [(2,[0]),(4,[0])] (fun x:Int×Rows×Int=>[.i x.1,D.l [[.l x.2.1]],D.l [[.i x.2.2]]]) (fun x=>I7 x.1 x.2.1 x.2.2) (fun x=>m7 x.1 x.2.1 x.2.2) (A.sub 31 1,o1,o2) (by subst h;exact i7) ?_ ?_<;>subst hσz
            ·clear hE hinl hV;cbv;(try repeat' first|rfl|assumption|constructor)
            ·intro ⟨q0,q1,q2⟩ hI7 K7 hK7
             have h7:=c7 _ _ _ hI7
             cbv
             repeat' first|(refine Br.mk (fun _=>?_) (fun _=>?_)<;>cbv)|(refine NilB.mk (fun _=>?_) ?_<;>cbv)|refine And.intro ?_ ?_|exact True.intro
             ·next a b=>subst h;exact h7.g53 (dt a) (dt b)
             ·next a b=>subst h;exact h7.g54 (dt a) (dt b)
             ·next a b=>subst h;exact h7.g55 (dt a) (dt b)
             ·next a b=>subst h;exact h7.g56 (dt a) (dt b)
             ·next a b=>subst h;exact h7.g57 (dt a) (dt b)
             ·next a b=>subst h;exact h7.g58 (dt a) (dt b)
             ·next a b=>subst h;exact h7.g58 (dt a) (dt b)
             ·next a b=>subst h;exact h7.g60 (dt a) (dt b)
             ·next a b=>subst h;exact h7.g61 (dt a) (dt b)
             ·next a b=>subst h;exact h7.g56 (dt a) (dt b)
             ·next a b=>subst h;exact h7.g57 (dt a) (dt b)
             ·next a b=>subst h;exact h7.g58 (dt a) (dt b)
             ·next a b=>subst h;exact h7.g65 (dt a) (dt b)
             ·rename_i p132a p132b
              refine hK7 (A.sub q0 1,A.set (A.app q1 [[D.i 0]]) (A.toNat (A.sub (A.nat (A.len (A.app q1 [[D.i 0]]))) 1)) [D.i (A.bit .or .u8 (A.di (A.get (A.app q1 [[D.i 0]]) (A.toNat (A.sub (A.nat (A.len (A.app q1 [[D.i 0]]))) 1)) 0)) (A.shl .u8 (A.wrap .u8 (A.bit .and .i64 (A.shr .i64 d0 q0) 1)) (A.sub 8 1)))],A.sub 8 1) _ ?_ ?_ ?_
              ·subst h;exact (h7.n66 (dt p132a) (dt p132b)).1
              ·subst h;exact (h7.n66 (dt p132a) (dt p132b)).2
              ·clear hE hinl hV hK7;cbv;(try repeat' first|rfl|assumption|constructor)
             ·next a b=>subst h;exact h7.g67 (dt a) (df b)
             ·next a b=>subst h;exact h7.g68 (dt a) (df b)
             ·next a b=>subst h;exact h7.g69 (dt a) (df b)
             ·next a b=>subst h;exact h7.g70 (dt a) (df b)
             ·next a b=>subst h;exact h7.g71 (dt a) (df b)
             ·next a b=>subst h;exact h7.g71 (dt a) (df b)
             ·next a b=>subst h;exact h7.g73 (dt a) (df b)
             ·next a b=>subst h;exact h7.g74 (dt a) (df b)
             ·next a b=>subst h;exact h7.g69 (dt a) (df b)
             ·next a b=>subst h;exact h7.g70 (dt a) (df b)
             ·next a b=>subst h;exact h7.g71 (dt a) (df b)
             ·next a b=>subst h;exact h7.g78 (dt a) (df b)
             ·rename_i p145a p145b
              refine hK7 (A.sub q0 1,A.set q1 (A.toNat (A.sub (A.nat (A.len q1)) 1)) [D.i (A.bit .or .u8 (A.di (A.get q1 (A.toNat (A.sub (A.nat (A.len q1)) 1)) 0)) (A.shl .u8 (A.wrap .u8 (A.bit .and .i64 (A.shr .i64 d0 q0) 1)) (A.sub q2 1)))],A.sub q2 1) _ ?_ ?_ ?_
              ·subst h;exact (h7.n79 (dt p145a) (df p145b)).1
              ·subst h;exact (h7.n79 (dt p145a) (df p145b)).2
              ·clear hE hinl hV hK7;cbv;(try repeat' first|rfl|assumption|constructor)
             ·next a=>subst h;exact h7.g80 (df a)
             ·next a=>subst h;exact h7.g81 (df a)
             ·next a b=>subst h;exact h7.g82 (df a) (dt b)
             ·next a b=>subst h;exact h7.g83 (df a) (dt b)
             ·next a b=>subst h;exact h7.g82 (df a) (dt b)
             ·next a b=>subst h;exact h7.g85 (df a) (dt b)
             ·rename_i p152a p152b
              refine hK3 (q1,q2,A.tdiv (A.add b3 d0) 2,A.tdiv (A.add b4 1) 2) _ ?_ ?_
              ·subst h;exact h7.n86 (df p152a) (dt p152b)
              ·clear hE hinl hV hK3;cbv;(try repeat' first|rfl|assumption|constructor)
             ·rename_i p153a p153b
              refine hK3 (q1,q2,A.add b3 d0,A.add b4 1) _ ?_ ?_
              ·subst h;exact h7.n87 (df p153a) (df p153b)
              ·clear hE hinl hV hK3;cbv;(try repeat' first|rfl|assumption|constructor)
        ·intro ⟨f0,f1,f2,f3⟩ hI3
         have h3:=c3 _ _ _ _ hI3
         cbv
         repeat' first|(refine Br.mk (fun _=>?_) (fun _=>?_)<;>cbv)|(refine NilB.mk (fun _=>?_) ?_<;>cbv)|refine And.intro ?_ ?_|exact True.intro
         ·refine Leaf.gen fun σz hσz=>?_
          obtain ⟨I8,r8,c8⟩:V63j8 pre fn a0 b0 b1 b2 b3 b4 b5 b6 b7 b8 e0 f0 f1 f2 f3 I0 m0:=by subst h;exact h3.l8
          refine joinB hE hinl 6 [] [] [] [(2,[0]),(4,[0]),(8,[0,0])] (fun x:Rows×Int×Int×Int=>[D.l [[.l x.1]],D.l [[.i x.2.1]],D.l [[.i x.2.2.1,.i x.2.2.2]]]) (fun x=>I8 x.1 x.2.1 x.2.2.1 x.2.2.2) ?_ ?_<;>subst hσz
          ·intro K8 hK8
           cbv
           repeat' first|(refine Br.mk (fun _=>?_) (fun _=>?_)<;>cbv)|(refine NilB.mk (fun _=>?_) ?_<;>cbv)|refine And.intro ?_ ?_|exact True.intro
           ·subst h;exact r8.g16
           ·subst h;exact r8.g17
           ·next a=>subst h;exact r8.g18 (dt a)
           ·next a=>subst h;exact r8.g19 (dt a)
           ·next a=>subst h;exact r8.g20 (dt a)
           ·next a=>subst h;exact r8.g18 (dt a)
           ·next a=>subst h;exact r8.g22 (dt a)
           ·rename_i p162a
            refine Leaf.gen fun σz hσz=>?_
            obtain ⟨I9,m9,i9,c9⟩:V63l4 fn f0 f1 b5 b6 e0 I8:=by subst h;exact r8.l4 (dt p162a)
            refine loopBJ hE [10,12,13,14] hinl 6 [] [] [(2,[0]),(4,[0])] (fun x:Int×Rows×Int=>[.i x.1,D.l [[.l x.2.1]],D.l [[.i x.2.2]]]) (fun x=>I9 x.1 x.2.1 x.2.2) (fun x=>m9 x.1 x.2.1 x.2.2) (A.sub (A.add (A.shr IntKind.i64 e0 (A.di (fn 92 [[D.i b5,D.i b6]] 0 0))) 1) 1,f0,f1) (by subst h;exact i9) ?_ ?_<;>subst hσz
            ·clear hE hinl hV;cbv;(try repeat' first|rfl|assumption|constructor)
            ·intro ⟨s0,s1,s2⟩ hI9 K9 hK9
             have h9:=c9 _ _ _ hI9
             cbv
             repeat' first|(refine Br.mk (fun _=>?_) (fun _=>?_)<;>cbv)|(refine NilB.mk (fun _=>?_) ?_<;>cbv)|refine And.intro ?_ ?_|exact True.intro
             ·next a b=>subst h;exact h9.g24 (dt a) (dt b)
             ·next a b=>subst h;exact h9.g25 (dt a) (dt b)
             ·next a b=>subst h;exact h9.g26 (dt a) (dt b)
             ·next a b=>subst h;exact h9.g27 (dt a) (dt b)
             ·next a b=>subst h;exact h9.g28 (dt a) (dt b)
             ·next a b=>subst h;exact h9.g29 (dt a) (dt b)
             ·next a b=>subst h;exact h9.g29 (dt a) (dt b)
             ·next a b=>subst h;exact h9.g31 (dt a) (dt b)
             ·next a b=>subst h;exact h9.g32 (dt a) (dt b)
             ·next a b=>subst h;exact h9.g27 (dt a) (dt b)
             ·next a b=>subst h;exact h9.g28 (dt a) (dt b)
             ·next a b=>subst h;exact h9.g29 (dt a) (dt b)
             ·next a b=>subst h;exact h9.g36 (dt a) (dt b)
             ·rename_i p176a p176b
              refine hK9 (A.sub s0 1,A.set (A.app s1 [[D.i 0]]) (A.toNat (A.sub (A.nat (A.len (A.app s1 [[D.i 0]]))) 1)) [D.i (A.bit .or .u8 (A.di (A.get (A.app s1 [[D.i 0]]) (A.toNat (A.sub (A.nat (A.len (A.app s1 [[D.i 0]]))) 1)) 0)) (A.shl .u8 (A.wrap .u8 (A.bit .and .i64 (A.shr .i64 (A.sub (A.shl .i64 1 (A.add (A.shr .i64 e0 (A.di (fn 92 [[D.i b5,D.i b6]] 0 0))) 1)) 2) s0) 1)) (A.sub 8 1)))],A.sub 8 1) _ ?_ ?_ ?_
              ·subst h;exact (h9.n37 (dt p176a) (dt p176b)).1
              ·subst h;exact (h9.n37 (dt p176a) (dt p176b)).2
              ·clear hE hinl hV hK9;cbv;(try repeat' first|rfl|assumption|constructor)
             ·next a b=>subst h;exact h9.g38 (dt a) (df b)
             ·next a b=>subst h;exact h9.g39 (dt a) (df b)
             ·next a b=>subst h;exact h9.g40 (dt a) (df b)
             ·next a b=>subst h;exact h9.g41 (dt a) (df b)
             ·next a b=>subst h;exact h9.g42 (dt a) (df b)
             ·next a b=>subst h;exact h9.g42 (dt a) (df b)
             ·next a b=>subst h;exact h9.g44 (dt a) (df b)
             ·next a b=>subst h;exact h9.g45 (dt a) (df b)
             ·next a b=>subst h;exact h9.g40 (dt a) (df b)
             ·next a b=>subst h;exact h9.g41 (dt a) (df b)
             ·next a b=>subst h;exact h9.g42 (dt a) (df b)
             ·next a b=>subst h;exact h9.g49 (dt a) (df b)
             ·rename_i p189a p189b
              refine hK9 (A.sub s0 1,A.set s1 (A.toNat (A.sub (A.nat (A.len s1)) 1)) [D.i (A.bit .or .u8 (A.di (A.get s1 (A.toNat (A.sub (A.nat (A.len s1)) 1)) 0)) (A.shl .u8 (A.wrap .u8 (A.bit .and .i64 (A.shr .i64 (A.sub (A.shl .i64 1 (A.add (A.shr .i64 e0 (A.di (fn 92 [[D.i b5,D.i b6]] 0 0))) 1)) 2) s0) 1)) (A.sub s2 1)))],A.sub s2 1) _ ?_ ?_ ?_
              ·subst h;exact (h9.n50 (dt p189a) (df p189b)).1
              ·subst h;exact (h9.n50 (dt p189a) (df p189b)).2
              ·clear hE hinl hV hK9;cbv;(try repeat' first|rfl|assumption|constructor)
             ·next a=>subst h;exact h9.g51 (df a)
             ·rename_i p191a
              refine Leaf.gen fun σz hσz=>?_
              obtain ⟨I10,m10,i10,c10⟩:V63l5 fn b5 b6 e0 s1 s2 I8:=by subst h;exact h9.l5 (df p191a)
              refine loopBJ hE [10,12,13,14] hinl 6 [] [] [(2,[0]),(4,[0])] (fun x:Int×Rows×Int=>[.i x.1,D.l [[.l x.2.1]],D.l [[.i x.2.2]]]) (fun x=>I10 x.1 x.2.1 x.2.2) (fun x=>m10 x.1 x.2.1 x.2.2) (A.sub (A.di (fn 92 [[D.i b5,D.i b6]] 0 0)) 1,s1,s2) (by subst h;exact i10) ?_ ?_<;>subst hσz
              ·clear hE hinl hV;cbv;(try repeat' first|rfl|assumption|constructor)
              ·intro ⟨t0,t1,t2⟩ hI10 K10 hK10
               have h10:=c10 _ _ _ hI10
               cbv
               repeat' first|(refine Br.mk (fun _=>?_) (fun _=>?_)<;>cbv)|(refine NilB.mk (fun _=>?_) ?_<;>cbv)|refine And.intro ?_ ?_|exact True.intro
               ·next a b=>subst h;exact h10.g53 (dt a) (dt b)
               ·next a b=>subst h;exact h10.g54 (dt a) (dt b)
               ·next a b=>subst h;exact h10.g55 (dt a) (dt b)
               ·next a b=>subst h;exact h10.g56 (dt a) (dt b)
               ·next a b=>subst h;exact h10.g57 (dt a) (dt b)
               ·next a b=>subst h;exact h10.g58 (dt a) (dt b)
               ·next a b=>subst h;exact h10.g58 (dt a) (dt b)
               ·next a b=>subst h;exact h10.g60 (dt a) (dt b)
               ·next a b=>subst h;exact h10.g61 (dt a) (dt b)
               ·next a b=>subst h;exact h10.g56 (dt a) (dt b)
               ·next a b=>subst h;exact h10.g57 (dt a) (dt b)
               ·next a b=>subst h;exact h10.g58 (dt a) (dt b)
               ·next a b=>subst h;exact h10.g65 (dt a) (dt b)
               ·rename_i p205a p205b
                refine hK10 (A.sub t0 1,A.set (A.app t1 [[D.i 0]]) (A.toNat (A.sub (A.nat (A.len (A.app t1 [[D.i 0]]))) 1)) [D.i (A.bit .or .u8 (A.di (A.get (A.app t1 [[D.i 0]]) (A.toNat (A.sub (A.nat (A.len (A.app t1 [[D.i 0]]))) 1)) 0)) (A.shl .u8 (A.wrap .u8 (A.bit .and .i64 (A.shr .i64 e0 t0) 1)) (A.sub 8 1)))],A.sub 8 1) _ ?_ ?_ ?_
                ·subst h;exact (h10.n66 (dt p205a) (dt p205b)).1
                ·subst h;exact (h10.n66 (dt p205a) (dt p205b)).2
                ·clear hE hinl hV hK10;cbv;(try repeat' first|rfl|assumption|constructor)
               ·next a b=>subst h;exact h10.g67 (dt a) (df b)
               ·next a b=>subst h;exact h10.g68 (dt a) (df b)
               ·next a b=>subst h;exact h10.g69 (dt a) (df b)
               ·next a b=>subst h;exact h10.g70 (dt a) (df b)
               ·next a b=>subst h;exact h10.g71 (dt a) (df b)
               ·next a b=>subst h;exact h10.g71 (dt a) (df b)
               ·next a b=>subst h;exact h10.g73 (dt a) (df b)
               ·next a b=>subst h;exact h10.g74 (dt a) (df b)
               ·next a b=>subst h;exact h10.g69 (dt a) (df b)
               ·next a b=>subst h;exact h10.g70 (dt a) (df b)
               ·next a b=>subst h;exact h10.g71 (dt a) (df b)
               ·next a b=>subst h;exact h10.g78 (dt a) (df b)
               ·rename_i p218a p218b
                refine hK10 (A.sub t0 1,A.set t1 (A.toNat (A.sub (A.nat (A.len t1)) 1)) [D.i (A.bit .or .u8 (A.di (A.get t1 (A.toNat (A.sub (A.nat (A.len t1)) 1)) 0)) (A.shl .u8 (A.wrap .u8 (A.bit .and .i64 (A.shr .i64 e0 t0) 1)) (A.sub t2 1)))],A.sub t2 1) _ ?_ ?_ ?_
                ·subst h;exact (h10.n79 (dt p218a) (df p218b)).1
                ·subst h;exact (h10.n79 (dt p218a) (df p218b)).2
                ·clear hE hinl hV hK10;cbv;(try repeat' first|rfl|assumption|constructor)
               ·next a=>subst h;exact h10.g80 (df a)
               ·next a=>subst h;exact h10.g81 (df a)
               ·next a b=>subst h;exact h10.g82 (df a) (dt b)
               ·next a b=>subst h;exact h10.g83 (df a) (dt b)
               ·next a b=>subst h;exact h10.g82 (df a) (dt b)
               ·next a b=>subst h;exact h10.g85 (df a) (dt b)
               ·rename_i p225a p225b
                refine hK8 (t1,t2,A.tdiv (A.add b5 e0) 2,A.tdiv (A.add b6 1) 2) _ ?_ ?_
                ·subst h;exact h10.n86 (df p225a) (dt p225b)
                ·clear hE hinl hV hK8;cbv;(try repeat' first|rfl|assumption|constructor)
               ·rename_i p226a p226b
                refine hK8 (t1,t2,A.add b5 e0,A.add b6 1) _ ?_ ?_
                ·subst h;exact h10.n87 (df p226a) (df p226b)
                ·clear hE hinl hV hK8;cbv;(try repeat' first|rfl|assumption|constructor)
           ·next a=>subst h;exact r8.g88 (df a)
           ·rename_i p228a
            refine Leaf.gen fun σz hσz=>?_
            obtain ⟨I11,m11,i11,c11⟩:V63l6 f0 f1 b5 b6 e0 I8:=by subst h;exact r8.l6 (df p228a)
            refine loopBJ hE [10,12,13,14] hinl 6 [] [] [(2,[0]),(4,[0])] (fun x:Int×Rows×Int=>[.i x.1,D.l [[.l x.2.1]],D.l [[.i x.2.2]]]) (fun x=>I11 x.1 x.2.1 x.2.2) (fun x=>m11 x.1 x.2.1 x.2.2) (A.sub 24 1,f0,f1) (by subst h;exact i11) ?_ ?_<;>subst hσz
            ·clear hE hinl hV;cbv;(try repeat' first|rfl|assumption|constructor)
            ·intro ⟨u0,u1,u2⟩ hI11 K11 hK11
             have h11:=c11 _ _ _ hI11
             cbv
             repeat' first|(refine Br.mk (fun _=>?_) (fun _=>?_)<;>cbv)|(refine NilB.mk (fun _=>?_) ?_<;>cbv)|refine And.intro ?_ ?_|exact True.intro
             ·next a b=>subst h;exact h11.g90 (dt a) (dt b)
             ·next a b=>subst h;exact h11.g91 (dt a) (dt b)
             ·next a b=>subst h;exact h11.g92 (dt a) (dt b)
             ·next a b=>subst h;exact h11.g93 (dt a) (dt b)
             ·next a b=>subst h;exact h11.g94 (dt a) (dt b)
             ·next a b=>subst h;exact h11.g95 (dt a) (dt b)
             ·next a b=>subst h;exact h11.g95 (dt a) (dt b)
             ·next a b=>subst h;exact h11.g97 (dt a) (dt b)
             ·next a b=>subst h;exact h11.g98 (dt a) (dt b)
             ·next a b=>subst h;exact h11.g93 (dt a) (dt b)
             ·next a b=>subst h;exact h11.g94 (dt a) (dt b)
             ·next a b=>subst h;exact h11.g95 (dt a) (dt b)
             ·next a b=>subst h;exact h11.g102 (dt a) (dt b)
             ·rename_i p242a p242b
              refine hK11 (A.sub u0 1,A.set (A.app u1 [[D.i 0]]) (A.toNat (A.sub (A.nat (A.len (A.app u1 [[D.i 0]]))) 1)) [D.i (A.bit .or .u8 (A.di (A.get (A.app u1 [[D.i 0]]) (A.toNat (A.sub (A.nat (A.len (A.app u1 [[D.i 0]]))) 1)) 0)) (A.shl .u8 (A.wrap .u8 (A.bit .and .i64 (A.shr .i64 16777215 u0) 1)) (A.sub 8 1)))],A.sub 8 1) _ ?_ ?_ ?_
              ·subst h;exact (h11.n103 (dt p242a) (dt p242b)).1
              ·subst h;exact (h11.n103 (dt p242a) (dt p242b)).2
              ·clear hE hinl hV hK11;cbv;(try repeat' first|rfl|assumption|constructor)
             ·next a b=>subst h;exact h11.g104 (dt a) (df b)
             ·next a b=>subst h;exact h11.g105 (dt a) (df b)
             ·next a b=>subst h;exact h11.g106 (dt a) (df b)
             ·next a b=>subst h;exact h11.g107 (dt a) (df b)
             ·next a b=>subst h;exact h11.g108 (dt a) (df b)
             ·next a b=>subst h;exact h11.g108 (dt a) (df b)
             ·next a b=>subst h;exact h11.g110 (dt a) (df b)
             ·next a b=>subst h;exact h11.g111 (dt a) (df b)
             ·next a b=>subst h;exact h11.g106 (dt a) (df b)
             ·next a b=>subst h;exact h11.g107 (dt a) (df b)
             ·next a b=>subst h;exact h11.g108 (dt a) (df b)
             ·next a b=>subst h;exact h11.g115 (dt a) (df b)
             ·rename_i p255a p255b
              refine hK11 (A.sub u0 1,A.set u1 (A.toNat (A.sub (A.nat (A.len u1)) 1)) [D.i (A.bit .or .u8 (A.di (A.get u1 (A.toNat (A.sub (A.nat (A.len u1)) 1)) 0)) (A.shl .u8 (A.wrap .u8 (A.bit .and .i64 (A.shr .i64 16777215 u0) 1)) (A.sub u2 1)))],A.sub u2 1) _ ?_ ?_ ?_
              ·subst h;exact (h11.n116 (dt p255a) (df p255b)).1
              ·subst h;exact (h11.n116 (dt p255a) (df p255b)).2
              ·clear hE hinl hV hK11;cbv;(try repeat' first|rfl|assumption|constructor)
             ·next a=>subst h;exact h11.g117 (df a)
             ·rename_i p257a
              refine Leaf.gen fun σz hσz=>?_
              obtain ⟨I12,m12,i12,c12⟩:V63l7 b5 b6 e0 u1 u2 I8:=by subst h;exact h11.l7 (df p257a)
              refine loopBJ hE [10,12,13,14] hinl 6 [] [] [(2,[0]),(4,[0])] (fun x:Int×Rows×Int=>[.i x.1,D.l [[.l x.2.1]],D.l [[.i x.2.2]]]) (fun x=>I12 x.1 x.2.1 x.2.2) (fun x=>m12 x.1 x.2.1 x.2.2) (A.sub 31 1,u1,u2) (by subst h;exact i12) ?_ ?_<;>subst hσz
              ·clear hE hinl hV;cbv;(try repeat' first|rfl|assumption|constructor)
              ·intro ⟨v0,v1,v2⟩ hI12 K12 hK12
               have h12:=c12 _ _ _ hI12
               cbv
               repeat' first|(refine Br.mk (fun _=>?_) (fun _=>?_)<;>cbv)|(refine NilB.mk (fun _=>?_) ?_<;>cbv)|refine And.intro ?_ ?_|exact True.intro
               ·next a b=>subst h;exact h12.g53 (dt a) (dt b)
               ·next a b=>subst h;exact h12.g54 (dt a) (dt b)
               ·next a b=>subst h;exact h12.g55 (dt a) (dt b)
               ·next a b=>subst h;exact h12.g56 (dt a) (dt b)
               ·next a b=>subst h;exact h12.g57 (dt a) (dt b)
               ·next a b=>subst h;exact h12.g58 (dt a) (dt b)
               ·next a b=>subst h;exact h12.g58 (dt a) (dt b)
               ·next a b=>subst h;exact h12.g60 (dt a) (dt b)
               ·next a b=>subst h;exact h12.g61 (dt a) (dt b)
               ·next a b=>subst h;exact h12.g56 (dt a) (dt b)
               ·next a b=>subst h;exact h12.g57 (dt a) (dt b)
               ·next a b=>subst h;exact h12.g58 (dt a) (dt b)
               ·next a b=>subst h;exact h12.g65 (dt a) (dt b)
               ·rename_i p271a p271b
                refine hK12 (A.sub v0 1,A.set (A.app v1 [[D.i 0]]) (A.toNat (A.sub (A.nat (A.len (A.app v1 [[D.i 0]]))) 1)) [D.i (A.bit .or .u8 (A.di (A.get (A.app v1 [[D.i 0]]) (A.toNat (A.sub (A.nat (A.len (A.app v1 [[D.i 0]]))) 1)) 0)) (A.shl .u8 (A.wrap .u8 (A.bit .and .i64 (A.shr .i64 e0 v0) 1)) (A.sub 8 1)))],A.sub 8 1) _ ?_ ?_ ?_
                ·subst h;exact (h12.n66 (dt p271a) (dt p271b)).1
                ·subst h;exact (h12.n66 (dt p271a) (dt p271b)).2
                ·clear hE hinl hV hK12;cbv;(try repeat' first|rfl|assumption|constructor)
               ·next a b=>subst h;exact h12.g67 (dt a) (df b)
               ·next a b=>subst h;exact h12.g68 (dt a) (df b)
               ·next a b=>subst h;exact h12.g69 (dt a) (df b)
               ·next a b=>subst h;exact h12.g70 (dt a) (df b)
               ·next a b=>subst h;exact h12.g71 (dt a) (df b)
               ·next a b=>subst h;exact h12.g71 (dt a) (df b)
               ·next a b=>subst h;exact h12.g73 (dt a) (df b)
               ·next a b=>subst h;exact h12.g74 (dt a) (df b)
               ·next a b=>subst h;exact h12.g69 (dt a) (df b)
               ·next a b=>subst h;exact h12.g70 (dt a) (df b)
               ·next a b=>subst h;exact h12.g71 (dt a) (df b)
               ·next a b=>subst h;exact h12.g78 (dt a) (df b)
               ·rename_i p284a p284b
                refine hK12 (A.sub v0 1,A.set v1 (A.toNat (A.sub (A.nat (A.len v1)) 1)) [D.i (A.bit .or .u8 (A.di (A.get v1 (A.toNat (A.sub (A.nat (A.len v1)) 1)) 0)) (A.shl .u8 (A.wrap .u8 (A.bit .and .i64 (A.shr .i64 e0 v0) 1)) (A.sub v2 1)))],A.sub v2 1) _ ?_ ?_ ?_
                ·subst h;exact (h12.n79 (dt p284a) (df p284b)).1
                ·subst h;exact (h12.n79 (dt p284a) (df p284b)).2
                ·clear hE hinl hV hK12;cbv;(try repeat' first|rfl|assumption|constructor)
               ·next a=>subst h;exact h12.g80 (df a)
               ·next a=>subst h;exact h12.g81 (df a)
               ·next a b=>subst h;exact h12.g82 (df a) (dt b)
               ·next a b=>subst h;exact h12.g83 (df a) (dt b)
               ·next a b=>subst h;exact h12.g82 (df a) (dt b)
               ·next a b=>subst h;exact h12.g85 (df a) (dt b)
               ·rename_i p291a p291b
                refine hK8 (v1,v2,A.tdiv (A.add b5 e0) 2,A.tdiv (A.add b6 1) 2) _ ?_ ?_
                ·subst h;exact h12.n86 (df p291a) (dt p291b)
                ·clear hE hinl hV hK8;cbv;(try repeat' first|rfl|assumption|constructor)
               ·rename_i p292a p292b
                refine hK8 (v1,v2,A.add b5 e0,A.add b6 1) _ ?_ ?_
                ·subst h;exact h12.n87 (df p292a) (df p292b)
                ·clear hE hinl hV hK8;cbv;(try repeat' first|rfl|assumption|constructor)
          ·intro ⟨r0,r1,r2,r3⟩ hI8
           have h8:=c8 _ _ _ _ hI8
           cbv
           repeat' first|(refine Br.mk (fun _=>?_) (fun _=>?_)<;>cbv)|(refine NilB.mk (fun _=>?_) ?_<;>cbv)|refine And.intro ?_ ?_|exact True.intro
           ·subst h;exact h8.g293
           ·refine hK0 (A.add b0 1,r0,r1,f2,f3,r2,r3,A.di (A.get a0 (A.toNat b0) 0),A.di (A.get a0 (A.toNat b0) 1)) _ ?_ ?_ ?_
            ·subst h;exact (h8.n294).1
            ·subst h;exact (h8.n294).2
            ·clear hE hinl hV hK0;cbv;(try repeat' first|rfl|assumption|constructor)
   ·next a=>subst h;exact h0.g295 (df a)
   ·next a=>subst h;exact h0.g296 (df a)
   ·next a=>subst h;exact h0.g297 (df a)
end HX

namespace HX
open Go Go.Proofs CX
set_option maxHeartbeats 4000000 in
set_option maxRecDepth 100000 in
theorem walk53 {ro A pre fn} (hE:EnvOk ⟨A,(cxE ro),ksF,sigL [],pre,fn⟩) {P:List (List D)→Prop} {res:List (List D)→Nat→Nat→D}
  (hv:∀(a0:Int) (a1:Int) (a2:Int),P [[.i a0],[.i a1],[.i a2]]→V53 a0 a1 a2 (res [[.i a0],[.i a1],[.i a2]]) ) :
  PureC (cxE ro) 53 ⟨[(false,[.int .i64]),(false,[.int .i64]),(false,[.int .i64])],[(false,[.bool])],false⟩ P res:=by
 have h:=hE.A
 simp only [] at h
 have hinl:∀f fn,inlL [] f=some fn→(cxE ro).fn f=some fn∧(cxE ro).ext f=none:=Inls.ok (by repeat (first |exact .nil |refine .cons rfl rfl ?_))
 refine PureC.of_vc hE hinl 6 (f:=53) (fn:=Try.f53) ⟨rfl,rfl⟩ ?_
 intro a0 a1 a2 hP
 obtain ⟨R,hR⟩:∃R,res [[.i a0],[.i a1],[.i a2]]=R:=⟨_,rfl⟩
 rw [hR]
 have hV:=hv a0 a1 a2  hP
 rw [hR] at hV
 clear hR hP hv
 cbv
 repeat' first|(refine Br.mk (fun _=>?_) (fun _=>?_)<;>cbv)|(refine NilB.mk (fun _=>?_) ?_<;>cbv)|refine And.intro ?_ ?_|exact True.intro
 ·rename_i hp0_0
  subst h;exact hV.g0 (dt hp0_0)
 ·rename_i hp1_0
  subst h;exact hV.g1 (df hp1_0)
end HX

namespace HX
open Go Go.Proofs CX
set_option maxHeartbeats 4000000 in
set_option maxRecDepth 100000 in
theorem walk40 {ro A pre fn} (hE:EnvOk ⟨A,(cxE ro),ksF,sigL [(53,⟨[(false,[.int .i64]),(false,[.int .i64]),(false,[.int .i64])],[(false,[.bool])],false⟩)],pre,fn⟩) {P:List (List D)→Prop} {res:List (List D)→Nat→Nat→D}
  (hv:∀(a0_0:Int) (a0_1:Int) (a1_0:Int) (a1_1:Int) (a2:Bool),P [[.i a0_0,.i a0_1],[.i a1_0,.i a1_1],[.b a2]]→V40 pre fn a0_0 a0_1 a1_0 a1_1 a2 (res [[.i a0_0,.i a0_1],[.i a1_0,.i a1_1],[.b a2]]) ) :
  PureC (cxE ro) 40 ⟨[(true,[.int .i64,.int .i64]),(true,[.int .i64,.int .i64]),(false,[.bool])],[(false,[.int .i64])],false⟩ P res:=by
 have h:=hE.A
 simp only [] at h
 have hinl:∀f fn,inlL [] f=some fn→(cxE ro).fn f=some fn∧(cxE ro).ext f=none:=Inls.ok (by repeat (first |exact .nil |refine .cons rfl rfl ?_))
 refine PureC.of_vc hE hinl 6 (f:=40) (fn:=Try.f40) ⟨rfl,rfl⟩ ?_
 intro a0_0 a0_1 a1_0 a1_1 a2 hP
 obtain ⟨R,hR⟩:∃R,res [[.i a0_0,.i a0_1],[.i a1_0,.i a1_1],[.b a2]]=R:=⟨_,rfl⟩
 rw [hR]
 have hV:=hv a0_0 a0_1 a1_0 a1_1 a2  hP
 rw [hR] at hV
 clear hR hP hv
 cbv
 repeat' first|(refine Br.mk (fun _=>?_) (fun _=>?_)<;>cbv)|(refine NilB.mk (fun _=>?_) ?_<;>cbv)|refine And.intro ?_ ?_|exact True.intro
 ·subst h;exact hV.g0
 ·rename_i hp1_0
  subst h;exact hV.g1 (nt hp1_0)
 ·rename_i hp2_0
  subst h;exact hV.g2 (nf hp2_0)
 ·rename_i hp3_0 hp3_1
  subst h;exact hV.g3 (nf hp3_0) (nt hp3_1)
 ·rename_i hp4_0 hp4_1 hp4_2 hp4_3
  subst h;exact hV.g4 (nf hp4_0) (nf hp4_1) (nt hp4_2) (dt hp4_3)
 ·rename_i hp5_0 hp5_1 hp5_2 hp5_3 hp5_4 hp5_5
  subst h;exact hV.g5 (nf hp5_0) (nf hp5_1) (nt hp5_2) (df hp5_3) (dt hp5_4) (dt hp5_5)
 ·rename_i hp6_0 hp6_1 hp6_2 hp6_3 hp6_4 hp6_5
  subst h;exact hV.g6 (nf hp6_0) (nf hp6_1) (nt hp6_2) (df hp6_3) (dt hp6_4) (df hp6_5)
 ·rename_i hp7_0 hp7_1 hp7_2 hp7_3 hp7_4
  subst h;exact hV.g7 (nf hp7_0) (nf hp7_1) (nt hp7_2) (df hp7_3) (df hp7_4)
 ·rename_i hp8_0 hp8_1 hp8_2
  subst h;exact hV.g8 (nf hp8_0) (nf hp8_1) (nf hp8_2)
end HX

namespace HX
open Go Go.Proofs CX
set_option maxHeartbeats 4000000 in
set_option maxRecDepth 100000 in
theorem walk89 {ro A pre fn} (hE:EnvOk ⟨A,(cxE ro),ksF,sigL [],pre,fn⟩) {P:List (List D)→Prop} {res:List (List D)→Nat→Nat→D}
  (hv:∀(a0_0:Int) (a0_1:Int),P [[.i a0_0,.i a0_1]]→∃(I0:Int→Prop) (m0:Int→Nat),V89 a0_0 a0_1 (res [[.i a0_0,.i a0_1]]) I0 m0) :
  PureC (cxE ro) 89 ⟨[(true,[.int .i64,.int .i64])],[(false,[.int .i64])],false⟩ P res:=by
 have h:=hE.A
 simp only [] at h
 have hinl:∀f fn,inlL [] f=some fn→(cxE ro).fn f=some fn∧(cxE ro).ext f=none:=Inls.ok (by repeat (first |exact .nil |refine .cons rfl rfl ?_))
 refine PureC.of_vc hE hinl 6 (f:=89) (fn:=Try.f89) ⟨rfl,rfl⟩ ?_
 intro a0_0 a0_1 hP
 obtain ⟨R,hR⟩:∃R,res [[.i a0_0,.i a0_1]]=R:=⟨_,rfl⟩
 rw [hR]
 obtain ⟨I0,m0,hV⟩:=hv a0_0 a0_1  hP
 rw [hR] at hV
 clear hR hP hv
 cbv
 repeat' first|(refine Br.mk (fun _=>?_) (fun _=>?_)<;>cbv)|(refine NilB.mk (fun _=>?_) ?_<;>cbv)|refine And.intro ?_ ?_|exact True.intro
 ·refine Leaf.gen fun σz hσz=>?_
  refine loopB hE hinl 6 [] [] [] (fun x:Int=>[.i x]) (fun x=>I0 x) (fun x=>m0 x) (0) (by subst h;exact hV.i0) ?_ ?_<;>subst hσz
  ·clear hE hinl hV;cbv;(try repeat' first|rfl|assumption|constructor)
  ·intro x0_0 hI0 K0 hK0
   cbv
   repeat' first|(refine Br.mk (fun _=>?_) (fun _=>?_)<;>cbv)|(refine NilB.mk (fun _=>?_) ?_<;>cbv)|refine And.intro ?_ ?_|exact True.intro
   ·rename_i hp1_0
    subst h;exact hV.g1 _ hI0 (dt hp1_0)
   ·rename_i hp2_0 hp2_1
    subst h;exact hV.g2 _ hI0 (dt hp2_0) (dt hp2_1)
   ·rename_i hp3_0 hp3_1
    refine hK0 (A.add x0_0 1) _ ?_ ?_ ?_
    ·subst h;exact (hV.n3 _ hI0 (dt hp3_0) (dt hp3_1)).1
    ·subst h;exact (hV.n3 _ hI0 (dt hp3_0) (dt hp3_1)).2
    ·clear hE hinl hV hK0;cbv;(try repeat' first|rfl|assumption|constructor)
   ·rename_i hp4_0 hp4_1
    subst h;exact hV.g4 _ hI0 (dt hp4_0) (df hp4_1)
   ·rename_i hp5_0
    subst h;exact hV.g5 _ hI0 (df hp5_0)
end HX

namespace HX
open Go Go.Proofs CX
set_option maxHeartbeats 4000000 in
set_option maxRecDepth 100000 in
theorem walk65 {ro A pre fn} (hE:EnvOk ⟨A,(cxE ro),ksF,sigL [],pre,fn⟩) {P:List (List D)→Prop} {res:List (List D)→Nat→Nat→D}
  (hv:∀(a0_0:Int) (a0_1:Int) (a1:Int),P [[.i a0_0,.i a0_1],[.i a1]]→V65 a0_0 a0_1 a1 (res [[.i a0_0,.i a0_1],[.i a1]]) ) :
  PureC (cxE ro) 65 ⟨[(true,[.int .i64,.int .i64]),(false,[.int .i64])],[(true,[.int .i64,.int .i64])],false⟩ P res:=by
 have h:=hE.A
 simp only [] at h
 have hinl:∀f fn,inlL [] f=some fn→(cxE ro).fn f=some fn∧(cxE ro).ext f=none:=Inls.ok (by repeat (first |exact .nil |refine .cons rfl rfl ?_))
 refine PureC.of_vc hE hinl 6 (f:=65) (fn:=Try.f65) ⟨rfl,rfl⟩ ?_
 intro a0_0 a0_1 a1 hP
 obtain ⟨R,hR⟩:∃R,res [[.i a0_0,.i a0_1],[.i a1]]=R:=⟨_,rfl⟩
 rw [hR]
 have hV:=hv a0_0 a0_1 a1  hP
 rw [hR] at hV
 clear hR hP hv
 cbv
 repeat' first|(refine Br.mk (fun _=>?_) (fun _=>?_)<;>cbv)|(refine NilB.mk (fun _=>?_) ?_<;>cbv)|refine And.intro ?_ ?_|exact True.intro
 ·subst h;exact hV.g0
 ·subst h;exact hV.g1
 ·rename_i hp2_0
  subst h;exact hV.g2 (dt hp2_0)
 ·rename_i hp3_0
  subst h;exact hV.g3 (dt hp3_0)
 ·rename_i hp4_0
  subst h;exact hV.g2 (dt hp4_0)
 ·rename_i hp5_0
  subst h;exact hV.g5 (dt hp5_0)
 ·rename_i hp6_0
  subst h;exact hV.g6 (dt hp6_0)
 ·rename_i hp7_0
  subst h;exact hV.g7 (dt hp7_0)
 ·rename_i hp8_0
  subst h;exact hV.g8 (df hp8_0)
 ·rename_i hp9_0
  subst h;exact hV.g9 (df hp9_0)
end HX

namespace HX
open Go Go.Proofs CX
set_option maxHeartbeats 4000000 in
set_option maxRecDepth 100000 in
theorem walk66 {ro A pre fn} (hE:EnvOk ⟨A,(cxE ro),ksF,sigL [],pre,fn⟩) {P:List (List D)→Prop} {res:List (List D)→Nat→Nat→D}
  (hv:∀(a0:Rows),ShR [.int .u8] a0→P [[.l a0]]→∃(I0:Int→Int→Int→Prop) (m0:Int→Int→Int→Nat),V66 a0 (res [[.l a0]]) I0 m0) :
  PureC (cxE ro) 66 ⟨[(false,[.sl [.int .u8]])],[(false,[.int .i64]),(false,[.int .i64])],false⟩ P res:=by
 have h:=hE.A
 simp only [] at h
 have hinl:∀f fn,inlL [] f=some fn→(cxE ro).fn f=some fn∧(cxE ro).ext f=none:=Inls.ok (by repeat (first |exact .nil |refine .cons rfl rfl ?_))
 refine PureC.of_vc hE hinl 6 (f:=66) (fn:=Try.f66) ⟨rfl,rfl⟩ ?_
 intro a0 ha0 hP
 obtain ⟨R,hR⟩:∃R,res [[.l a0]]=R:=⟨_,rfl⟩
 rw [hR]
 obtain ⟨I0,m0,hV⟩:=hv a0 ha0 hP
 rw [hR] at hV
 clear hR hP hv
 cbv
 repeat' first|(refine Br.mk (fun _=>?_) (fun _=>?_)<;>cbv)|(refine NilB.mk (fun _=>?_) ?_<;>cbv)|refine And.intro ?_ ?_|exact True.intro
 ·refine Leaf.gen fun σz hσz=>?_
  refine loopB hE hinl 6 [] [] [] (fun x:Int×Int×Int=>[.i x.1,.i x.2.1,.i x.2.2]) (fun x=>I0 x.1 x.2.1 x.2.2) (fun x=>m0 x.1 x.2.1 x.2.2) (0,0,0) (by subst h;exact hV.i0) ?_ ?_<;>subst hσz
  ·clear hE hinl hV;cbv;(try repeat' first|rfl|assumption|constructor)
  ·intro ⟨x0_0,x0_1,x0_2⟩ hI0 K0 hK0
   cbv
   repeat' first|(refine Br.mk (fun _=>?_) (fun _=>?_)<;>cbv)|(refine NilB.mk (fun _=>?_) ?_<;>cbv)|refine And.intro ?_ ?_|exact True.intro
   ·rename_i hp1_0
    subst h;exact hV.g1 _ _ _ hI0 (dt hp1_0)
   ·rename_i hp2_0
    subst h;exact hV.g2 _ _ _ hI0 (dt hp2_0)
   ·rename_i hp3_0
    subst h;exact hV.g3 _ _ _ hI0 (dt hp3_0)
   ·rename_i hp4_0
    subst h;exact hV.g4 _ _ _ hI0 (dt hp4_0)
   ·rename_i hp5_0
    subst h;exact hV.g5 _ _ _ hI0 (dt hp5_0)
   ·rename_i hp6_0
    subst h;exact hV.g6 _ _ _ hI0 (dt hp6_0)
   ·rename_i hp7_0
    subst h;exact hV.g7 _ _ _ hI0 (dt hp7_0)
   ·rename_i hp8_0
    subst h;exact hV.g6 _ _ _ hI0 (dt hp8_0)
   ·rename_i hp9_0
    subst h;exact hV.g9 _ _ _ hI0 (dt hp9_0)
   ·rename_i hp10_0
    refine hK0 (A.tmod (A.add x0_0 (A.di (A.get a0 (A.toNat x0_2) 0))) 255,A.tmod (A.add x0_1 (A.tmod (A.add x0_0 (A.di (A.get a0 (A.toNat x0_2) 0))) 255)) 255,A.add x0_2 1) _ ?_ ?_ ?_
    ·subst h;exact (hV.n10 _ _ _ hI0 (dt hp10_0)).1
    ·subst h;exact (hV.n10 _ _ _ hI0 (dt hp10_0)).2
    ·clear hE hinl hV hK0;cbv;(try repeat' first|rfl|assumption|constructor)
   ·rename_i hp11_0
    subst h;exact hV.g11 _ _ _ hI0 (df hp11_0)
   ·rename_i hp12_0
    subst h;exact hV.g12 _ _ _ hI0 (df hp12_0)
end HX

namespace HX
open Go Go.Proofs CX
set_option maxHeartbeats 4000000 in
set_option maxRecDepth 100000 in
theorem walk54 {ro A pre fn} (hE:EnvOk ⟨A,(cxE ro),ksF,sigL [(40,⟨[(true,[.int .i64,.int .i64]),(true,[.int .i64,.int .i64]),(false,[.bool])],[(false,[.int .i64])],false⟩)],pre,fn⟩) {P:List (List D)→Prop} {res:List (List D)→Nat→Nat→D}
  (hv:∀(a0:Rows),ShR [.int .i64,.int .i64] a0→P [[.l a0]]→∃(I0:Int→Int→Prop) (m0:Int→Int→Nat),V54 pre fn a0 (res [[.l a0]]) I0 m0) :
  PureC (cxE ro) 54 ⟨[(false,[.sl [.int .i64,.int .i64]])],[(false,[.int .i64])],false⟩ P res:=by
 have h:=hE.A
 simp only [] at h
 have hinl:∀f fn,inlL [] f=some fn→(cxE ro).fn f=some fn∧(cxE ro).ext f=none:=Inls.ok (by repeat (first |exact .nil |refine .cons rfl rfl ?_))
 refine PureC.of_vc hE hinl 6 (f:=54) (fn:=Try.f54) ⟨rfl,rfl⟩ ?_
 intro a0 ha0 hP
 obtain ⟨R,hR⟩:∃R,res [[.l a0]]=R:=⟨_,rfl⟩
 rw [hR]
 obtain ⟨I0,m0,hV⟩:=hv a0 ha0 hP
 rw [hR] at hV
 clear hR hP hv
 cbv
 repeat' first|(refine Br.mk (fun _=>?_) (fun _=>?_)<;>cbv)|(refine NilB.mk (fun _=>?_) ?_<;>cbv)|refine And.intro ?_ ?_|exact True.intro
 ·rename_i hp0_0
  subst h;exact hV.g0 (dt hp0_0)
 ·rename_i hp1_0
  refine Leaf.gen fun σz hσz=>?_
  refine loopB hE hinl 6 [] [] [] (fun x:Int×Int=>[.i x.1,.i x.2]) (fun x=>I0 x.1 x.2) (fun x=>m0 x.1 x.2) (0,0) (by subst h;exact hV.i0 (df hp1_0)) ?_ ?_<;>subst hσz
  ·clear hE hinl hV;cbv;(try repeat' first|rfl|assumption|constructor)
  ·intro ⟨x0_0,x0_1⟩ hI0 K0 hK0
   cbv
   repeat' first|(refine Br.mk (fun _=>?_) (fun _=>?_)<;>cbv)|(refine NilB.mk (fun _=>?_) ?_<;>cbv)|refine And.intro ?_ ?_|exact True.intro
   ·rename_i hp2_0 hp2_1
    subst h;exact hV.g2 _ _ hI0 (df hp1_0) (dt hp2_0) (dt hp2_1)
   ·rename_i hp3_0 hp3_1
    subst h;exact hV.g3 _ _ hI0 (df hp1_0) (dt hp3_0) (dt hp3_1)
   ·rename_i hp4_0 hp4_1
    subst h;exact hV.g4 _ _ hI0 (df hp1_0) (dt hp4_0) (dt hp4_1)
   ·rename_i hp5_0 hp5_1
    subst h;exact hV.g5 _ _ hI0 (df hp1_0) (dt hp5_0) (dt hp5_1)
   ·rename_i hp6_0 hp6_1
    subst h;exact hV.g6 _ _ hI0 (df hp1_0) (dt hp6_0) (dt hp6_1)
   ·rename_i hp7_0 hp7_1
    subst h;exact hV.g7 _ _ hI0 (df hp1_0) (dt hp7_0) (dt hp7_1)
   ·rename_i hp8_0 hp8_1
    subst h;exact hV.g8 _ _ hI0 (df hp1_0) (dt hp8_0) (dt hp8_1)
   ·rename_i hp9_0 hp9_1
    subst h;exact hV.g9 _ _ hI0 (df hp1_0) (dt hp9_0) (dt hp9_1)
   ·rename_i hp10_0 hp10_1 hp10_2
    subst h;exact hV.g10 _ _ hI0 (df hp1_0) (dt hp10_0) (dt hp10_1) (df (nt hp10_2))
   ·rename_i hp11_0 hp11_1 hp11_2
    subst h;exact hV.g11 _ _ hI0 (df hp1_0) (dt hp11_0) (dt hp11_1) (dt (nf hp11_2))
   ·rename_i hp12_0 hp12_1 hp12_2
    refine hK0 (x0_0,A.add x0_1 1) _ ?_ ?_ ?_
    ·subst h;exact (hV.n12 _ _ hI0 (df hp1_0) (dt hp12_0) (dt hp12_1) (dt (nf hp12_2))).1
    ·subst h;exact (hV.n12 _ _ hI0 (df hp1_0) (dt hp12_0) (dt hp12_1) (dt (nf hp12_2))).2
    ·clear hE hinl hV hK0;cbv;(try repeat' first|rfl|assumption|constructor)
   ·rename_i hp13_0 hp13_1
    subst h;exact hV.g13 _ _ hI0 (df hp1_0) (dt hp13_0) (df hp13_1)
   ·rename_i hp14_0 hp14_1
    subst h;exact hV.g14 _ _ hI0 (df hp1_0) (dt hp14_0) (df hp14_1)
   ·rename_i hp15_0 hp15_1
    subst h;exact hV.g15 _ _ hI0 (df hp1_0) (dt hp15_0) (df hp15_1)
   ·rename_i hp16_0 hp16_1
    subst h;exact hV.g16 _ _ hI0 (df hp1_0) (dt hp16_0) (df hp16_1)
   ·rename_i hp17_0 hp17_1 hp17_2
    subst h;exact hV.g17 _ _ hI0 (df hp1_0) (dt hp17_0) (df hp17_1) (df (nt hp17_2))
   ·rename_i hp18_0 hp18_1 hp18_2
    subst h;exact hV.g18 _ _ hI0 (df hp1_0) (dt hp18_0) (df hp18_1) (dt (nf hp18_2))
   ·rename_i hp19_0 hp19_1 hp19_2
    refine hK0 (x0_0,A.add x0_1 1) _ ?_ ?_ ?_
    ·subst h;exact (hV.n19 _ _ hI0 (df hp1_0) (dt hp19_0) (df hp19_1) (dt (nf hp19_2))).1
    ·subst h;exact (hV.n19 _ _ hI0 (df hp1_0) (dt hp19_0) (df hp19_1) (dt (nf hp19_2))).2
    ·clear hE hinl hV hK0;cbv;(try repeat' first|rfl|assumption|constructor)
   ·rename_i hp20_0
    subst h;exact hV.g20 _ _ hI0 (df hp1_0) (df hp20_0)
end HX
