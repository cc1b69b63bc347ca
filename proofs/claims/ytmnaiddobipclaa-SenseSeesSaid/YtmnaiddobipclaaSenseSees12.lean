/-
  SenseSees: for all cameras, frames, events and numbers, the function returns true, and its arguments read as they did.
-/
import Derived.Test.YtmnaiddobipclaaSenseSees11
import Derived.Test.YtmnaiddobipclaaRows
set_option linter.all false
namespace HX
open Go Go.Proofs CX
set_option maxHeartbeats 4000000 in
set_option maxRecDepth 100000 in
theorem walk21 {ro A pre fn} (hE:EnvOk ⟨A,(cxE ro),ksF,sigL [(50,⟨[(false,[.int .i64]),(false,[.int .i64]),(false,[.int .i64])],[(false,[.bool])],false⟩),(51,⟨[(false,[.sl [.int .i64,.int .i64]])],[(false,[.int .i64])],false⟩),(52,⟨[(true,[.int .i64,.int .i64,.int .i64])],[(false,[.int .i64])],false⟩)],pre,fn⟩) {P:List (List D)→Prop} {res:List (List D)→Nat→Nat→D}
  (hv:∀(a0_0:Int) (a0_1:Int) (a0_2:Int) (a1:Rows) (a2:Int),ShR [.int .i64,.int .i64] a1→P [[.i a0_0,.i a0_1,.i a0_2],[.l a1],[.i a2]]→V21 pre fn a0_0 a0_1 a0_2 a1 a2 (res [[.i a0_0,.i a0_1,.i a0_2],[.l a1],[.i a2]])) :
  PureC (cxE ro) 21 ⟨[(true,[.int .i64,.int .i64,.int .i64]),(false,[.sl [.int .i64,.int .i64]]),(false,[.int .i64])],[(false,[.sl [.int .i64,.int .i64]]),(false,[.int .i64])],false⟩ P res:=by
 have h:=hE.A
 simp only [] at h
 have hinl:∀f fn,inlL [(45,Try.f45),(56,Try.f56),(57,Try.f57),(58,Try.f58),(83,Try.f83),(84,Try.f84)] f=some fn→(cxE ro).fn f=some fn∧(cxE ro).ext f=none:=Inls.ok (by repeat (first |exact .nil |refine .cons rfl rfl ?_))
 refine PureC.of_vcJ hE [7,14] hinl 6 (f:=21) (fn:=Try.f21) ⟨rfl,rfl⟩ ?_
 intro a0_0 a0_1 a0_2 a1 ha1 a2 hP
 obtain ⟨R,hR⟩:∃R,res [[.i a0_0,.i a0_1,.i a0_2],[.l a1],[.i a2]]=R:=⟨_,rfl⟩
 rw [hR]
 have hV:=hv a0_0 a0_1 a0_2 a1 a2 ha1 hP
 rw [hR] at hV
 clear hR hP hv
 cbv
 repeat' first|(refine Br.mk (fun _=>?_) (fun _=>?_)<;>cbv)|(refine NilB.mk (fun _=>?_) ?_<;>cbv)|refine And.intro ?_ ?_|exact True.intro
 ·subst h;exact hV.g0
 ·next a b=>subst h;exact hV.g1 (nt a)
 ·next a b=>subst h;exact hV.g2 (nt a)
 ·rename_i p3a p3b
  exfalso;subst h;simp [Ar.std] at p3b
 ·rename_i p4a p4b p4c
  exfalso;subst h;simp [Ar.std] at p4b
 ·rename_i p5a p5b p5c
  exfalso;subst h;simp [Ar.std] at p5b
 ·rename_i p6a p6b p6c
  exfalso;subst h;simp [Ar.std] at p6b
 ·next a=>subst h;exact hV.g7 (nf a)
 ·next a b c=>subst h;exact hV.g8 (nf a) (nt b)
 ·next a b c=>subst h;exact hV.g9 (nf a) (nt b)
 ·rename_i p10a p10b p10c
  exfalso;subst h;simp [Ar.std] at p10c
 ·rename_i p11a p11b p11c p11d
  exfalso;subst h;simp [Ar.std] at p11c
 ·rename_i p12a p12b p12c p12d
  exfalso;subst h;simp [Ar.std] at p12c
 ·rename_i p13a p13b p13c p13d
  exfalso;subst h;simp [Ar.std] at p13c
 ·next a b=>subst h;exact hV.g14 (nf a) (nf b)
 ·next a b c d=>subst h;exact hV.g15 (nf a) (nf b) (nt c)
 ·next a b c d=>subst h;exact hV.g16 (nf a) (nf b) (nt c)
 ·rename_i p17a p17b p17c p17d
  exfalso;subst h;simp [Ar.std] at p17d
 ·rename_i p18a p18b p18c p18d p18e
  exfalso;subst h;simp [Ar.std] at p18d
 ·rename_i p19a p19b p19c p19d p19e
  exfalso;subst h;simp [Ar.std] at p19d
 ·rename_i p20a p20b p20c p20d p20e
  exfalso;subst h;simp [Ar.std] at p20d
 ·rename_i p21a p21b p21c p21d
  exfalso;subst h;simp [Ar.std] at p21d
 ·rename_i p22a p22b p22c p22d
  exfalso;subst h;simp [Ar.std] at p22d
 ·next a b c d=>subst h;exact hV.g23 (nf a) (nf b) (nf c)
 ·next a b c d e=>subst h;exact hV.g24 (nf a) (nf b) (nf c) (df (nt e))
 ·next a b c d e=>subst h;exact hV.g25 (nf a) (nf b) (nf c) (df (nt e))
 ·rename_i p26a p26b p26c p26d p26e
  refine Leaf.gen fun σz hσz=>?_
  obtain ⟨I0,r0,c0⟩:V21j0 pre fn a0_0 a0_1 a0_2 a1 a2 R:=by subst h;exact hV.l0 (nf p26a) (nf p26b) (nf p26c) (dt (nf p26e))
  refine joinR hE hinl 6 [] [] [] [(37,SV.bool false)] [] (fun x:Bool=>[.b x]) (fun x=>I0 x) ?_ ?_<;>subst hσz
  ·intro K0 hK0
   cbv
   repeat' first|(refine Br.mk (fun _=>?_) (fun _=>?_)<;>cbv)|(refine NilB.mk (fun _=>?_) ?_<;>cbv)|refine And.intro ?_ ?_|exact True.intro
   ·refine Leaf.gen fun σz hσz=>?_
    obtain ⟨I1,m1,i1,c1⟩:V21l1 pre fn a0_0 a0_1 a0_2 a1 a2 I0:=by subst h;exact r0.l1
    refine loopBJ hE [7,14] hinl 6 [] [] [] (fun x:Int×Int=>[.i x.1,.i x.2]) (fun x=>I1 x.1 x.2) (fun x=>m1 x.1 x.2) (0,0) (by subst h;exact i1) ?_ ?_<;>subst hσz
    ·clear hE hinl hV;cbv;(try repeat' first|rfl|assumption|constructor)
    ·intro ⟨d0,d1⟩ hI1 K1 hK1
     have h1:=c1 _ _ hI1
     cbv
     repeat' first|(refine Br.mk (fun _=>?_) (fun _=>?_)<;>cbv)|(refine NilB.mk (fun _=>?_) ?_<;>cbv)|refine And.intro ?_ ?_|exact True.intro
     ·next a=>subst h;exact h1.g28 (dt a)
     ·next a=>subst h;exact h1.g29 (dt a)
     ·next a=>subst h;exact h1.g30 (dt a)
     ·next a=>subst h;exact h1.g31 (dt a)
     ·next a=>subst h;exact h1.g32 (dt a)
     ·rename_i p33a p33b p33c
      refine hK0 (true) _ ?_ ?_
      ·subst h;exact h1.n33 (dt p33a) (dt p33b) (dt p33c)
      ·clear hE hinl hV hK0;cbv;(try repeat' first|rfl|assumption|constructor)
     ·next a b c=>subst h;exact h1.g34 (dt a) (dt b) (df c)
     ·rename_i p35a p35b p35c
      refine hK0 (A.not (A.db (fn 50 [[D.i a2],[D.i 0],[D.i 100]] 0 0))) _ ?_ ?_
      ·subst h;exact h1.n35 (dt p35a) (dt p35b) (df p35c)
      ·clear hE hinl hV hK0;cbv;(try repeat' first|rfl|assumption|constructor)
     ·next a b=>subst h;exact h1.g36 (dt a) (df b)
     ·rename_i p37a p37b
      refine hK1 (d0,A.add d1 1) _ ?_ ?_ ?_
      ·subst h;exact (h1.n37 (dt p37a) (df p37b)).1
      ·subst h;exact (h1.n37 (dt p37a) (df p37b)).2
      ·clear hE hinl hV hK1;cbv;(try repeat' first|rfl|assumption|constructor)
     ·rename_i p38a p38b
      exfalso;subst h;simp [Ar.std] at p38b
     ·next a b=>subst h;exact h1.g39 (df a)
     ·rename_i p40a p40b
      refine hK0 (A.not (A.db (fn 50 [[D.i a2],[D.i 0],[D.i 100]] 0 0))) _ ?_ ?_
      ·subst h;exact h1.n40 (df p40a)
      ·clear hE hinl hV hK0;cbv;(try repeat' first|rfl|assumption|constructor)
  ·intro b0 hI0
   have h0:=c0 _ hI0
   cbv
   repeat' first|(refine Br.mk (fun _=>?_) (fun _=>?_)<;>cbv)|(refine NilB.mk (fun _=>?_) ?_<;>cbv)|refine And.intro ?_ ?_|exact True.intro
   ·next a=>subst h;exact h0.g41 a
   ·next a=>subst h;exact h0.g42 a
   ·rename_i p43a
    refine Leaf.gen fun σz hσz=>?_
    obtain ⟨I2,m2,i2,c2⟩:V21l2 a0_0 a0_1 a1 a2 R:=by subst h;exact h0.l2 p43a
    refine loopBJ hE [7,14] hinl 6 [] [] [(9,[])] (fun x:Rows×Int×Rows=>[.l x.1,.i x.2.1,.l x.2.2]) (fun x=>I2 x.1 x.2.1 x.2.2) (fun x=>m2 x.1 x.2.1 x.2.2) ([],0,[]) (by subst h;exact i2) ?_ ?_<;>subst hσz
    ·clear hE hinl hV;cbv;(try repeat' first|rfl|assumption|constructor)
    ·intro ⟨e0,e1,e2⟩ hI2 K2 hK2
     have h2:=c2 _ _ _ hI2
     cbv
     repeat' first|(refine Br.mk (fun _=>?_) (fun _=>?_)<;>cbv)|(refine NilB.mk (fun _=>?_) ?_<;>cbv)|refine And.intro ?_ ?_|exact True.intro
     ·rename_i p44a
      refine Leaf.gen fun σz hσz=>?_
      obtain ⟨I3,m3,i3,c3⟩:V21l3 a0_0 a0_1 a1 a2 e0 e1 e2 I2 m2:=by subst h;exact h2.l3 (dt p44a)
      refine loopBJ hE [7,14] hinl 6 [] [] [(9,[])] (fun x:Int×Rows=>[.i x.1,.l x.2]) (fun x=>I3 x.1 x.2) (fun x=>m3 x.1 x.2) (e1,e2) (by subst h;exact i3) ?_ ?_<;>subst hσz
      ·clear hE hinl hV;cbv;(try repeat' first|rfl|assumption|constructor)
      ·intro ⟨f0,f1⟩ hI3 K3 hK3
       have h3:=c3 _ _ hI3
       cbv
       repeat' first|(refine Br.mk (fun _=>?_) (fun _=>?_)<;>cbv)|(refine NilB.mk (fun _=>?_) ?_<;>cbv)|refine And.intro ?_ ?_|exact True.intro
       ·refine Leaf.gen fun σz hσz=>?_
        obtain ⟨I4,r4,c4⟩:V21j4 a0_0 a0_1 a1 a2 e0 e1 e2 f0 f1 I2 m2 I3 m3:=by subst h;exact h3.l4
        refine joinR hE hinl 6 [] [] [] [(60,SV.bool false)] [] (fun x:Bool=>[.b x]) (fun x=>I4 x) ?_ ?_<;>subst hσz
        ·intro K4 hK4
         cbv
         repeat' first|(refine Br.mk (fun _=>?_) (fun _=>?_)<;>cbv)|(refine NilB.mk (fun _=>?_) ?_<;>cbv)|refine And.intro ?_ ?_|exact True.intro
         ·next a=>subst h;exact r4.g46 (dt a)
         ·next a=>subst h;exact r4.g47 (dt a)
         ·next a=>subst h;exact r4.g48 (dt a)
         ·next a=>subst h;exact r4.g49 (dt a)
         ·next a=>subst h;exact r4.g50 (dt a)
         ·next a=>subst h;exact r4.g51 (dt a)
         ·rename_i p52a
          refine hK4 (A.eq (A.di (A.get a1 (A.toNat f0) 0)) (A.di (A.get a1 (A.toNat e1) 0))) _ ?_ ?_
          ·subst h;exact r4.n52 (dt p52a)
          ·clear hE hinl hV hK4;cbv;(try repeat' first|rfl|assumption|constructor)
         ·rename_i p53a
          refine hK4 (false) _ ?_ ?_
          ·subst h;exact r4.n53 (df p53a)
          ·clear hE hinl hV hK4;cbv;(try repeat' first|rfl|assumption|constructor)
        ·intro j0 hI4
         have h4:=c4 _ hI4
         cbv
         repeat' first|(refine Br.mk (fun _=>?_) (fun _=>?_)<;>cbv)|(refine NilB.mk (fun _=>?_) ?_<;>cbv)|refine And.intro ?_ ?_|exact True.intro
         ·next a=>subst h;exact h4.g54 a
         ·next a=>subst h;exact h4.g55 a
         ·next a=>subst h;exact h4.g56 a
         ·next a=>subst h;exact h4.g57 a
         ·next a=>subst h;exact h4.g58 a
         ·next a=>subst h;exact h4.g54 a
         ·next a=>subst h;exact h4.g55 a
         ·next a=>subst h;exact h4.g56 a
         ·next a=>subst h;exact h4.g62 a
         ·rename_i p63a
          refine hK3 (A.add f0 1,A.mset f1 [D.i (A.tdiv (A.di (A.get a1 (A.toNat f0) 1)) 2)] [D.i (A.di (A.get a1 (A.toNat f0) 0))]) _ ?_ ?_ ?_
          ·subst h;exact (h4.n63 p63a).1
          ·subst h;exact (h4.n63 p63a).2
          ·clear hE hinl hV hK3;cbv;(try repeat' first|rfl|assumption|constructor)
         ·next a=>subst h;exact h4.g64 a
         ·next a=>subst h;exact h4.g65 a
         ·next a=>subst h;exact h4.g66 a
         ·rename_i p67a
          refine Leaf.gen fun σz hσz=>?_
          obtain ⟨I5,m5,i5,c5⟩:V21l5 a0_0 a0_1 a1 a2 e0 e1 e2 f0 f1 I2 m2:=by subst h;exact h4.l5 p67a
          refine loopBJ hE [7,14] hinl 6 [] [] [] (fun x:Rows×Int=>[.l x.1,.i x.2]) (fun x=>I5 x.1 x.2) (fun x=>m5 x.1 x.2) (e0,0) (by subst h;exact i5) ?_ ?_<;>subst hσz
          ·clear hE hinl hV;cbv;(try repeat' first|rfl|assumption|constructor)
          ·intro ⟨k0,k1⟩ hI5 K5 hK5
           have h5:=c5 _ _ hI5
           cbv
           repeat' first|(refine Br.mk (fun _=>?_) (fun _=>?_)<;>cbv)|(refine NilB.mk (fun _=>?_) ?_<;>cbv)|refine And.intro ?_ ?_|exact True.intro
           ·next a=>subst h;exact h5.g68 (dt a)
           ·next a=>subst h;exact h5.g69 (dt a)
           ·next a=>subst h;exact h5.g70 (dt a)
           ·next a=>subst h;exact h5.g71 (dt a)
           ·next a=>subst h;exact h5.g72 (dt a)
           ·next a=>subst h;exact h5.g73 (dt a)
           ·next a=>subst h;exact h5.g73 (dt a)
           ·next a=>subst h;exact h5.g75 (dt a)
           ·next a=>subst h;exact h5.g76 (dt a)
           ·rename_i p77a
            refine Leaf.gen fun σz hσz=>?_
            obtain ⟨I6,m6,i6,c6⟩:V21l6 a0_0 a0_1 a1 a2 e1 f0 f1 k0 k1 I5 m5:=by subst h;exact h5.l6 (dt p77a)
            refine loopB hE hinl 6 [] [] [(18,[0])] (fun x:Int×Bool=>[.i x.1,D.l [[.b x.2]]]) (fun x=>I6 x.1 x.2) (fun x=>m6 x.1 x.2) (A.max 0 (A.sub (A.tdiv (A.tdiv (A.di (A.get (A.sub' a1 (A.toNat e1) (A.nsub (A.toNat f0) (A.toNat e1))) (A.toNat k1) 1)) 2) a0_0) 1),false) (by subst h;exact i6) ?_ ?_<;>subst hσz
            ·clear hE hinl hV;cbv;(try repeat' first|rfl|assumption|constructor)
            ·intro ⟨o0,o1⟩ hI6 K6 hK6
             have h6:=c6 _ _ hI6
             cbv
             repeat' first|(refine Br.mk (fun _=>?_) (fun _=>?_)<;>cbv)|(refine NilB.mk (fun _=>?_) ?_<;>cbv)|refine And.intro ?_ ?_|exact True.intro
             ·subst h;exact h6.g78
             ·subst h;exact h6.g79
             ·next a=>subst h;exact h6.g80 (dt a)
             ·rename_i p81a
              refine Leaf.gen fun σz hσz=>?_
              obtain ⟨I7,m7,i7,c7⟩:V21l7 a0_0 a1 a2 e1 f0 f1 k1 o0 o1 I6 m6:=by subst h;exact h6.l7 (dt p81a)
              refine loopB hE hinl 6 [] [] [(18,[0])] (fun x:Int×Bool=>[.i x.1,D.l [[.b x.2]]]) (fun x=>I7 x.1 x.2) (fun x=>m7 x.1 x.2) (A.max 0 (A.sub (A.tmod (A.tdiv (A.di (A.get (A.sub' a1 (A.toNat e1) (A.nsub (A.toNat f0) (A.toNat e1))) (A.toNat k1) 1)) 2) a0_0) 1),o1) (by subst h;exact i7) ?_ ?_<;>subst hσz
              ·clear hE hinl hV;cbv;(try repeat' first|rfl|assumption|constructor)
              ·intro ⟨q0,q1⟩ hI7 K7 hK7
               have h7:=c7 _ _ hI7
               cbv
               repeat' first|(refine Br.mk (fun _=>?_) (fun _=>?_)<;>cbv)|(refine NilB.mk (fun _=>?_) ?_<;>cbv)|refine And.intro ?_ ?_|exact True.intro
               ·subst h;exact h7.g82
               ·subst h;exact h7.g83
               ·next a=>subst h;exact h7.g84 (dt a)
               ·next a=>subst h;exact h7.g85 (dt a)
               ·next a b c=>subst h;exact h7.g86 (dt a) (df (nt b)) c
               ·rename_i p87a p87b p87c
                refine hK7 (A.add q0 1,true) _ ?_ ?_ ?_
                ·subst h;exact (h7.n87 (dt p87a) (df (nt p87b)) p87c).1
                ·subst h;exact (h7.n87 (dt p87a) (df (nt p87b)) p87c).2
                ·clear hE hinl hV hK7;cbv;(try repeat' first|rfl|assumption|constructor)
               ·next a b c d=>subst h;exact h7.g88 (dt a) (df (nt b)) c d
               ·next a b c d=>subst h;exact h7.g89 (dt a) (df (nt b)) c d
               ·rename_i p90a p90b p90c p90d
                refine hK7 (A.add q0 1,A.le (A.sub (A.di (A.get (A.sub' a1 (A.toNat e1) (A.nsub (A.toNat f0) (A.toNat e1))) (A.toNat k1) 0)) (A.di (A.mget f1 [D.i (A.add (A.mul o0 a0_0) q0)] 0 (D.i 0)))) a2) _ ?_ ?_ ?_
                ·subst h;exact (h7.n90 (dt p90a) (df (nt p90b)) p90c p90d).1
                ·subst h;exact (h7.n90 (dt p90a) (df (nt p90b)) p90c p90d).2
                ·clear hE hinl hV hK7;cbv;(try repeat' first|rfl|assumption|constructor)
               ·next a b c d=>subst h;exact h7.g91 (dt a) (df (nt b)) c d
               ·rename_i p92a p92b p92c p92d
                refine hK7 (A.add q0 1,false) _ ?_ ?_ ?_
                ·subst h;exact (h7.n92 (dt p92a) (df (nt p92b)) p92c p92d).1
                ·subst h;exact (h7.n92 (dt p92a) (df (nt p92b)) p92c p92d).2
                ·clear hE hinl hV hK7;cbv;(try repeat' first|rfl|assumption|constructor)
               ·next a b=>subst h;exact h7.g93 (dt a) (dt (nf b))
               ·rename_i p94a p94b
                refine hK7 (A.add q0 1,q1) _ ?_ ?_ ?_
                ·subst h;exact (h7.n94 (dt p94a) (dt (nf p94b))).1
                ·subst h;exact (h7.n94 (dt p94a) (dt (nf p94b))).2
                ·clear hE hinl hV hK7;cbv;(try repeat' first|rfl|assumption|constructor)
               ·next a=>subst h;exact h7.g95 (df a)
               ·rename_i p96a
                refine hK6 (A.add o0 1,q1) _ ?_ ?_ ?_
                ·subst h;exact (h7.n96 (df p96a)).1
                ·subst h;exact (h7.n96 (df p96a)).2
                ·clear hE hinl hV hK6;cbv;(try repeat' first|rfl|assumption|constructor)
             ·next a b=>subst h;exact h6.g97 (df a) b
             ·next a b=>subst h;exact h6.g98 (df a) b
             ·rename_i p99a p99b
              refine hK5 (A.app k0 [[D.i (A.di (A.get (A.sub' a1 (A.toNat e1) (A.nsub (A.toNat f0) (A.toNat e1))) (A.toNat k1) 0)),D.i (A.di (A.get (A.sub' a1 (A.toNat e1) (A.nsub (A.toNat f0) (A.toNat e1))) (A.toNat k1) 1))]],A.add k1 1) _ ?_ ?_ ?_
              ·subst h;exact (h6.n99 (df p99a) p99b).1
              ·subst h;exact (h6.n99 (df p99a) p99b).2
              ·clear hE hinl hV hK5;cbv;(try repeat' first|rfl|assumption|constructor)
             ·next a b=>subst h;exact h6.g100 (df a) b
             ·rename_i p101a p101b
              refine hK5 (k0,A.add k1 1) _ ?_ ?_ ?_
              ·subst h;exact (h6.n101 (df p101a) p101b).1
              ·subst h;exact (h6.n101 (df p101a) p101b).2
              ·clear hE hinl hV hK5;cbv;(try repeat' first|rfl|assumption|constructor)
           ·rename_i p102a
            refine hK2 (k0,f0,f1) _ ?_ ?_ ?_
            ·subst h;exact (h5.n102 (df p102a)).1
            ·subst h;exact (h5.n102 (df p102a)).2
            ·clear hE hinl hV hK2;cbv;(try repeat' first|rfl|assumption|constructor)
     ·next a=>subst h;exact h2.g103 (df a)
     ·next a=>subst h;exact h2.g104 (df a)
end HX

namespace HX
open Go Go.Proofs CX
set_option maxHeartbeats 4000000 in
set_option maxRecDepth 100000 in
theorem walk22 {ro A pre fn} (hE:EnvOk ⟨A,(cxE ro),ksF,sigL [(48,⟨[(true,[.int .i64,.int .i64,.int .i64])],[(false,[.int .i64])],false⟩),(53,⟨[(false,[.int .i64]),(false,[.int .i64]),(false,[.int .i64])],[(false,[.bool])],false⟩),(54,⟨[(false,[.sl [.int .i64,.int .i64]])],[(false,[.int .i64])],false⟩),(59,⟨[(true,[.int .i64,.int .i64,.int .i64]),(false,[.int .i64]),(false,[.int .i64])],[(false,[.bool])],false⟩)],pre,fn⟩) {P:List (List D)→Prop} {res:List (List D)→Nat→Nat→D}
  (hv:∀(a0_0:Int) (a0_1:Int) (a0_2:Int) (a1:Rows) (a2:Int),ShR [.int .i64,.int .i64] a1→P [[.i a0_0,.i a0_1,.i a0_2],[.l a1],[.i a2]]→V22 pre fn a0_0 a0_1 a0_2 a1 a2 (res [[.i a0_0,.i a0_1,.i a0_2],[.l a1],[.i a2]])) :
  PureC (cxE ro) 22 ⟨[(true,[.int .i64,.int .i64,.int .i64]),(false,[.sl [.int .i64,.int .i64]]),(false,[.int .i64])],[(false,[.sl [.int .i64,.int .i64]]),(false,[.int .i64])],false⟩ P res:=by
 have h:=hE.A
 simp only [] at h
 have hinl:∀f fn,inlL [] f=some fn→(cxE ro).fn f=some fn∧(cxE ro).ext f=none:=Inls.ok (by repeat (first |exact .nil |refine .cons rfl rfl ?_))
 refine PureC.of_vcJ hE [3] hinl 6 (f:=22) (fn:=Try.f22) ⟨rfl,rfl⟩ ?_
 intro a0_0 a0_1 a0_2 a1 ha1 a2 hP
 obtain ⟨R,hR⟩:∃R,res [[.i a0_0,.i a0_1,.i a0_2],[.l a1],[.i a2]]=R:=⟨_,rfl⟩
 rw [hR]
 have hV:=hv a0_0 a0_1 a0_2 a1 a2 ha1 hP
 rw [hR] at hV
 clear hR hP hv
 cbv
 repeat' first|(refine Br.mk (fun _=>?_) (fun _=>?_)<;>cbv)|(refine NilB.mk (fun _=>?_) ?_<;>cbv)|refine And.intro ?_ ?_|exact True.intro
 ·subst h;exact hV.g0
 ·refine Leaf.gen fun σz hσz=>?_
  obtain ⟨I0,r0,c0⟩:V22j0 pre fn a0_0 a0_1 a0_2 a1 a2 R:=by subst h;exact hV.l0
  refine joinB hE hinl 6 [17] [] [] [] (fun x:Int=>[.i x]) (fun x=>I0 x) ?_ ?_<;>subst hσz
  ·intro K0 hK0
   cbv
   repeat' first|(refine Br.mk (fun _=>?_) (fun _=>?_)<;>cbv)|(refine NilB.mk (fun _=>?_) ?_<;>cbv)|refine And.intro ?_ ?_|exact True.intro
   ·rename_i p2a
    subst h;exact r0.g2 (dt p2a)
   ·rename_i p3a
    refine hK0 (A.di (fn 54 [[D.l a1]] 0 0)) _ ?_ ?_
    ·subst h;exact r0.n3 (dt p3a)
    ·clear hE hinl hV hK0;cbv;(try repeat' first|rfl|assumption|constructor)
   ·rename_i p4a
    refine hK0 (A.di (fn 48 [[D.i a0_0,D.i a0_1,D.i a0_2]] 0 0)) _ ?_ ?_
    ·subst h;exact r0.n4 (df p4a)
    ·clear hE hinl hV hK0;cbv;(try repeat' first|rfl|assumption|constructor)
  ·intro b0 hI0
   have h0:=c0 _ hI0
   cbv
   repeat' first|(refine Br.mk (fun _=>?_) (fun _=>?_)<;>cbv)|(refine NilB.mk (fun _=>?_) ?_<;>cbv)|refine And.intro ?_ ?_|exact True.intro
   ·rename_i p5a
    subst h;exact h0.g5 (df (nt p5a))
   ·rename_i p6a
    subst h;exact h0.g6 (df (nt p6a))
   ·rename_i p7a
    refine Leaf.gen fun σz hσz=>?_
    obtain ⟨I1,m1,i1,c1⟩:V22l1 pre fn a0_0 a0_1 a0_2 a1 a2 R:=by subst h;exact h0.l1 (dt (nf p7a))
    refine loopBJ hE [3] hinl 6 [] [] [] (fun x:Rows×Int×Int=>[.l x.1,.i x.2.1,.i x.2.2]) (fun x=>I1 x.1 x.2.1 x.2.2) (fun x=>m1 x.1 x.2.1 x.2.2) ([],0,0) (by subst h;exact i1) ?_ ?_<;>subst hσz
    ·clear hE hinl hV;cbv;(try repeat' first|rfl|assumption|constructor)
    ·intro ⟨d0,d1,d2⟩ hI1 K1 hK1
     have h1:=c1 _ _ _ hI1
     cbv
     repeat' first|(refine Br.mk (fun _=>?_) (fun _=>?_)<;>cbv)|(refine NilB.mk (fun _=>?_) ?_<;>cbv)|refine And.intro ?_ ?_|exact True.intro
     ·rename_i p8a
      subst h;exact h1.g8 (dt p8a)
     ·rename_i p9a
      subst h;exact h1.g9 (dt p9a)
     ·rename_i p10a
      subst h;exact h1.g10 (dt p10a)
     ·rename_i p11a
      subst h;exact h1.g11 (dt p11a)
     ·rename_i p12a
      subst h;exact h1.g12 (dt p12a)
     ·rename_i p13a p13b
      subst h;exact h1.g13 (dt p13a) (dt p13b)
     ·rename_i p14a p14b
      subst h;exact h1.g14 (dt p14a) (dt p14b)
     ·rename_i p15a p15b
      subst h;exact h1.g15 (dt p15a) (df p15b)
     ·rename_i p16a p16b
      refine hK1 (d0,d1,A.add d2 1) _ ?_ ?_ ?_
      ·subst h;exact (h1.n16 (dt p16a) (df p16b)).1
      ·subst h;exact (h1.n16 (dt p16a) (df p16b)).2
      ·clear hE hinl hV hK1;cbv;(try repeat' first|rfl|assumption|constructor)
     ·rename_i p17a
      subst h;exact h1.g17 (df p17a)
     ·rename_i p18a p18b
      subst h;exact h1.g18 (df p18a) (nt p18b)
     ·rename_i p19a p19b
      subst h;exact h1.g19 (df p19a) (nt p19b)
     ·rename_i p20a p20b
      refine Leaf.gen fun σz hσz=>?_
      obtain ⟨I2,m2,i2,c2⟩:V22l2 pre fn a0_0 a0_1 a0_2 a1 a2 R:=by subst h;exact h1.l2 (df p20a) (nf p20b)
      refine loopBJ hE [3] hinl 6 [] [] [] (fun x:Rows×Int=>[.l x.1,.i x.2]) (fun x=>I2 x.1 x.2) (fun x=>m2 x.1 x.2) ([],0) (by subst h;exact i2) ?_ ?_<;>subst hσz
      ·clear hE hinl hV;cbv;(try repeat' first|rfl|assumption|constructor)
      ·intro ⟨e0,e1⟩ hI2 K2 hK2
       have h2:=c2 _ _ hI2
       cbv
       repeat' first|(refine Br.mk (fun _=>?_) (fun _=>?_)<;>cbv)|(refine NilB.mk (fun _=>?_) ?_<;>cbv)|refine And.intro ?_ ?_|exact True.intro
       ·rename_i p21a
        refine Leaf.gen fun σz hσz=>?_
        obtain ⟨I3,m3,i3,c3⟩:V22l3 pre fn a0_0 a0_1 a0_2 a1 a2 e0 e1 I2 m2:=by subst h;exact h2.l3 (dt p21a)
        refine loopBJ hE [3] hinl 6 [] [] [] (fun x:Bool×Int=>[.b x.1,.i x.2]) (fun x=>I3 x.1 x.2) (fun x=>m3 x.1 x.2) (false,0) (by subst h;exact i3) ?_ ?_<;>subst hσz
        ·clear hE hinl hV;cbv;(try repeat' first|rfl|assumption|constructor)
        ·intro ⟨f0,f1⟩ hI3 K3 hK3
         have h3:=c3 _ _ hI3
         cbv
         repeat' first|(refine Br.mk (fun _=>?_) (fun _=>?_)<;>cbv)|(refine NilB.mk (fun _=>?_) ?_<;>cbv)|refine And.intro ?_ ?_|exact True.intro
         ·rename_i p22a
          subst h;exact h3.g22 (dt p22a)
         ·rename_i p23a
          subst h;exact h3.g23 (dt p23a)
         ·rename_i p24a
          subst h;exact h3.g24 (dt p24a)
         ·rename_i p25a
          subst h;exact h3.g25 (dt p25a)
         ·rename_i p26a
          subst h;exact h3.g26 (dt p26a)
         ·rename_i p27a
          subst h;exact h3.g27 (dt p27a)
         ·rename_i p28a
          subst h;exact h3.g28 (dt p28a)
         ·rename_i p29a
          subst h;exact h3.g29 (dt p29a)
         ·rename_i p30a
          subst h;exact h3.g25 (dt p30a)
         ·rename_i p31a
          subst h;exact h3.g31 (dt p31a)
         ·rename_i p32a
          subst h;exact h3.g32 (dt p32a)
         ·rename_i p33a p33b
          subst h;exact h3.g33 (dt p33a) p33b
         ·rename_i p34a p34b
          subst h;exact h3.g34 (dt p34a) p34b
         ·rename_i p35a p35b
          subst h;exact h3.g35 (dt p35a) p35b
         ·rename_i p36a p36b
          subst h;exact h3.g36 (dt p36a) p36b
         ·rename_i p37a p37b
          subst h;exact h3.g37 (dt p37a) p37b
         ·rename_i p38a p38b
          subst h;exact h3.g38 (dt p38a) p38b
         ·rename_i p39a p39b
          subst h;exact h3.g39 (dt p39a) p39b
         ·rename_i p40a p40b
          subst h;exact h3.g40 (dt p40a) p40b
         ·rename_i p41a p41b p41c
          subst h;exact h3.g41 (dt p41a) p41b p41c
         ·rename_i p42a p42b p42c
          refine hK3 (true,A.add f1 1) _ ?_ ?_ ?_
          ·subst h;exact (h3.n42 (dt p42a) p42b p42c).1
          ·subst h;exact (h3.n42 (dt p42a) p42b p42c).2
          ·clear hE hinl hV hK3;cbv;(try repeat' first|rfl|assumption|constructor)
         ·rename_i p43a p43b p43c
          subst h;exact h3.g43 (dt p43a) p43b p43c
         ·rename_i p44a p44b p44c
          refine hK3 (f0,A.add f1 1) _ ?_ ?_ ?_
          ·subst h;exact (h3.n44 (dt p44a) p44b p44c).1
          ·subst h;exact (h3.n44 (dt p44a) p44b p44c).2
          ·clear hE hinl hV hK3;cbv;(try repeat' first|rfl|assumption|constructor)
         ·rename_i p45a p45b
          subst h;exact h3.g45 (dt p45a) p45b
         ·rename_i p46a p46b
          refine hK3 (f0,A.add f1 1) _ ?_ ?_ ?_
          ·subst h;exact (h3.n46 (dt p46a) p46b).1
          ·subst h;exact (h3.n46 (dt p46a) p46b).2
          ·clear hE hinl hV hK3;cbv;(try repeat' first|rfl|assumption|constructor)
         ·rename_i p47a p47b
          subst h;exact h3.g47 (df p47a) p47b
         ·rename_i p48a p48b
          subst h;exact h3.g48 (df p48a) p48b
         ·rename_i p49a p49b
          subst h;exact h3.g49 (df p49a) p49b
         ·rename_i p50a p50b
          subst h;exact h3.g50 (df p50a) p50b
         ·rename_i p51a p51b
          subst h;exact h3.g51 (df p51a) p51b
         ·rename_i p52a p52b
          refine hK2 (A.app e0 [[D.i (A.di (A.get a1 (A.toNat e1) 0)),D.i (A.di (A.get a1 (A.toNat e1) 1))]],A.add e1 1) _ ?_ ?_ ?_
          ·subst h;exact (h3.n52 (df p52a) p52b).1
          ·subst h;exact (h3.n52 (df p52a) p52b).2
          ·clear hE hinl hV hK2;cbv;(try repeat' first|rfl|assumption|constructor)
         ·rename_i p53a p53b
          subst h;exact h3.g53 (df p53a) p53b
         ·rename_i p54a p54b
          refine hK2 (e0,A.add e1 1) _ ?_ ?_ ?_
          ·subst h;exact (h3.n54 (df p54a) p54b).1
          ·subst h;exact (h3.n54 (df p54a) p54b).2
          ·clear hE hinl hV hK2;cbv;(try repeat' first|rfl|assumption|constructor)
       ·rename_i p55a
        subst h;exact h2.g55 (df p55a)
       ·rename_i p56a
        subst h;exact h2.g56 (df p56a)
end HX

namespace HX
open Go Go.Proofs CX
abbrev tru:List (List D)→Prop:=fun _=>True
def r50:List (List D)→Nat→Nat→D
 |[[.i a],[.i b],[.i c]],_,_=>.b (inB a b c)
 |_,_,_=>.nil
def r100:List (List D)→Nat→Nat→D
 |[[.i a],[.i b]],_,_=>.i (cmpI a b)
 |_,_,_=>.nil
def r76:List (List D)→Nat→Nat→D
 |[[.i a,.i b],[.i c,.i d]],_,_=>.i (cmpE a b c d)
 |_,_,_=>.nil
def r71:List (List D)→Nat→Nat→D
 |[[.l l],[.i a,.i b]],_,_=>.i (folE l a b)
 |_,_,_=>.nil
def r40:List (List D)→Nat→Nat→D
 |[[.i t,.i i],[.i t2,.i i2],[.b f]],_,_=>.i (folF t i t2 i2 f)
 |_,_,_=>.nil
def r51:List (List D)→Nat→Nat→D
 |[[.l l]],_,_=>.i (chkE l)
 |_,_,_=>.nil
def p52:List (List D)→Prop
 |[[.i w,.i h,.i _]]=>(1≤w∧w≤32)∧1≤h∧h≤32
 |_=>False
def r52:List (List D)→Nat→Nat→D
 |[[.i w,.i h,.i _]],_,_=>.i (w * h)
 |_,_,_=>.nil
def p46:List (List D)→Prop
 |[[.i w,.i h,.i _],[.l _]]=>(1≤w∧w≤32)∧1≤h∧h≤32
 |_=>False
noncomputable def r46:List (List D)→Nat→Nat→D
 |[[.i w,.i h,.i _],[.l f]],_,_=>.i (frE w h f)
 |_,_,_=>.nil
noncomputable def r48:List (List D)→Nat→Nat→D
 |[[.i w,.i h,.i s]],_,_=>.i (camE w h s)
 |_,_,_=>.nil
noncomputable def r14:List (List D)→Nat→Nat→D
 |[[.i w,.i h,.i s],[.l F]],0,_=>.l (wtR w h s F)
 |[[.i w,.i h,.i s],[.l F]],_,_=>.i (wtE w h s F)
 |_,_,_=>.nil
noncomputable def r18:List (List D)→Nat→Nat→D
 |[[.i w,.i h,.i s],[.l f],[.l l],[.i T]],0,_=>.l (rbR w h s f l T)
 |[[.i w,.i h,.i s],[.l f],[.l l],[.i T]],_,_=>.i (rbE w h s f l T)
 |_,_,_=>.nil
noncomputable def r21:List (List D)→Nat→Nat→D
 |[[.i w,.i h,.i s],[.l l],[.i win]],0,_=>.l (clnR w h s l win)
 |[[.i w,.i h,.i s],[.l l],[.i win]],_,_=>.i (clnE w h s l win)
 |_,_,_=>.nil
def p17:List (List D)→Prop
 |[[.l a],[.l b]]=>b=a
 |_=>False
def p59:List (List D)→Prop
 |[[.i w,.i _,.i _],[.i p],[.i q]]=>(1≤w∧w≤32)∧(0≤p∧p≤65536)∧0≤q∧q≤65536
 |_=>False
open Classical in
noncomputable def r59:List (List D)→Nat→Nat→D
 |[[.i w,.i _,.i _],[.i p],[.i q]],_,_=>.b (decide (nearP w p q))
 |_,_,_=>.nil
noncomputable def c50:Ctr:=⟨50,⟨[(false,[.int .i64]),(false,[.int .i64]),(false,[.int .i64])],[(false,[.bool])],false⟩,tru,r50⟩
noncomputable def c53:Ctr:=⟨53,⟨[(false,[.int .i64]),(false,[.int .i64]),(false,[.int .i64])],[(false,[.bool])],false⟩,tru,r50⟩
noncomputable def c100:Ctr:=⟨100,⟨[(false,[.int .i64]),(false,[.int .i64])],[(false,[.int .i64])],false⟩,tru,r100⟩
noncomputable def c76:Ctr:=⟨76,⟨[(true,[.int .i64,.int .i64]),(true,[.int .i64,.int .i64])],[(false,[.int .i64])],false⟩,tru,r76⟩
noncomputable def c71:Ctr:=⟨71,⟨[(false,[.sl [.int .i64,.int .i64]]),(true,[.int .i64,.int .i64])],[(false,[.int .i64])],false⟩,tru,r71⟩
noncomputable def c51:Ctr:=⟨51,⟨[(false,[.sl [.int .i64,.int .i64]])],[(false,[.int .i64])],false⟩,tru,r51⟩
noncomputable def c40:Ctr:=⟨40,⟨[(true,[.int .i64,.int .i64]),(true,[.int .i64,.int .i64]),(false,[.bool])],[(false,[.int .i64])],false⟩,tru,r40⟩
noncomputable def c54:Ctr:=⟨54,⟨[(false,[.sl [.int .i64,.int .i64]])],[(false,[.int .i64])],false⟩,tru,r51⟩
noncomputable def c52:Ctr:=⟨52,⟨[(true,[.int .i64,.int .i64,.int .i64])],[(false,[.int .i64])],false⟩,p52,r52⟩
noncomputable def c46:Ctr:=⟨46,⟨[(true,[.int .i64,.int .i64,.int .i64]),(false,[.sl [.int .i64]])],[(false,[.int .i64])],false⟩,p46,r46⟩
noncomputable def c48:Ctr:=⟨48,⟨[(true,[.int .i64,.int .i64,.int .i64])],[(false,[.int .i64])],false⟩,tru,r48⟩
noncomputable def c49:Ctr:=⟨49,⟨[(true,[.int .i64,.int .i64,.int .i64]),(false,[.sl [.int .i64]])],[(false,[.int .i64])],false⟩,p46,r46⟩
noncomputable def c59:Ctr:=⟨59,⟨[(true,[.int .i64,.int .i64,.int .i64]),(false,[.int .i64]),(false,[.int .i64])],[(false,[.bool])],false⟩,p59,r59⟩
noncomputable def c17:Ctr:=⟨17,⟨[(false,[.sl [.int .i64,.int .i64]]),(false,[.sl [.int .i64,.int .i64]])],[(false,[.bool])],false⟩,p17,(fun _ _ _=>.b true)⟩
noncomputable def c55:Ctr:=⟨55,⟨[(false,[.sl [.int .i64]]),(false,[.sl [.int .i64]])],[(false,[.bool])],false⟩,p17,(fun _ _ _=>.b true)⟩
noncomputable def c20:Ctr:=⟨20,⟨[(false,[.sl [.sl [.int .i64]]]),(false,[.sl [.sl [.int .i64]]])],[(false,[.bool])],false⟩,p17,(fun _ _ _=>.b true)⟩
noncomputable def c14:Ctr:=⟨14,⟨[(true,[.int .i64,.int .i64,.int .i64]),(false,[.sl [.sl [.int .i64]]])],[(false,[.sl [.int .i64,.int .i64]]),(false,[.int .i64])],false⟩,tru,r14⟩
noncomputable def c16:Ctr:=⟨16,⟨[(true,[.int .i64,.int .i64,.int .i64]),(false,[.sl [.sl [.int .i64]]])],[(false,[.sl [.int .i64,.int .i64]]),(false,[.int .i64])],false⟩,tru,r14⟩
noncomputable def c18:Ctr:=⟨18,⟨[(true,[.int .i64,.int .i64,.int .i64]),(false,[.sl [.int .i64]]),(false,[.sl [.int .i64,.int .i64]]),(false,[.int .i64])],[(false,[.sl [.sl [.int .i64]]]),(false,[.int .i64])],false⟩,tru,r18⟩
noncomputable def c19:Ctr:=⟨19,⟨[(true,[.int .i64,.int .i64,.int .i64]),(false,[.sl [.int .i64]]),(false,[.sl [.int .i64,.int .i64]]),(false,[.int .i64])],[(false,[.sl [.sl [.int .i64]]]),(false,[.int .i64])],false⟩,tru,r18⟩
noncomputable def c21:Ctr:=⟨21,⟨[(true,[.int .i64,.int .i64,.int .i64]),(false,[.sl [.int .i64,.int .i64]]),(false,[.int .i64])],[(false,[.sl [.int .i64,.int .i64]]),(false,[.int .i64])],false⟩,tru,r21⟩
noncomputable def c22:Ctr:=⟨22,⟨[(true,[.int .i64,.int .i64,.int .i64]),(false,[.sl [.int .i64,.int .i64]]),(false,[.int .i64])],[(false,[.sl [.int .i64,.int .i64]]),(false,[.int .i64])],false⟩,tru,r21⟩
noncomputable def c13:Ctr:=⟨13,⟨[],[(false,[.bool])],false⟩,tru,(fun _ _ _=>.b true)⟩
section
variable (ro:Addr→Option V)
theorem k50:PureC (cxE ro) c50.f c50.sg c50.pre c50.res:=walk50 (envL (l:=[]) .nil) fun _ _ _ _=>law50 rfl
theorem k53:PureC (cxE ro) c53.f c53.sg c53.pre c53.res:=walk53 (envL (l:=[]) .nil) fun _ _ _ _=>law53 rfl
theorem k100:PureC (cxE ro) c100.f c100.sg c100.pre c100.res:=walk100 (envL (l:=[]) .nil) fun _ _ _=>law100 rfl
theorem k76:PureC (cxE ro) c76.f c76.sg c76.pre c76.res:=walk76 (envL (l:=[c100]) (.cons (k100 ro) .nil)) fun _ _ _ _ _=>⟨_,_,law76 (fun _=>trivial) (fun _ _=>rfl) rfl⟩
theorem k71:PureC (cxE ro) c71.f c71.sg c71.pre c71.res:=walk71 (envL (l:=[c50,c76]) (.cons (k50 ro) (.cons (k76 ro) .nil))) fun _ _ _ ha _=>law71 (fun _=>trivial) (fun _ _ _=>rfl) (fun _=>trivial) (fun _ _ _ _=>rfl) (by have:=ha.2;omega) rfl
theorem k51:PureC (cxE ro) c51.f c51.sg c51.pre c51.res:=walk51 (envL (l:=[c71]) (.cons (k71 ro) .nil)) fun _ _ _=>⟨_,_,law51 (fun _=>trivial) (fun _ _ _=>rfl) rfl⟩
theorem k40:PureC (cxE ro) c40.f c40.sg c40.pre c40.res:=walk40 (envL (l:=[c53]) (.cons (k53 ro) .nil)) fun _ _ _ _ _ _=>law40 (fun _=>trivial) (fun _ _ _=>rfl) rfl
theorem k54:PureC (cxE ro) c54.f c54.sg c54.pre c54.res:=walk54 (envL (l:=[c40]) (.cons (k40 ro) .nil)) fun _ _ _=>⟨_,_,law54 (fun _=>trivial) (fun _ _ _ _ _=>rfl) rfl⟩
theorem k52:PureC (cxE ro) c52.f c52.sg c52.pre c52.res:=walk52 (envL (l:=[]) .nil) fun _ _ _ h=>law52 h.1 h.2 rfl
theorem k46:PureC (cxE ro) c46.f c46.sg c46.pre c46.res:=walk46 (envL (l:=[c50,c52]) (.cons (k50 ro) (.cons (k52 ro) .nil))) fun _ _ _ _ _ h=>⟨_,_,law46 (fun _=>trivial) (fun _ _ _=>rfl) (fun _ _ _ h1 h2=>⟨h1,h2⟩) (fun _ _ _=>rfl) h.1 h.2 rfl⟩
theorem k48:PureC (cxE ro) c48.f c48.sg c48.pre c48.res:=walk48 (envL (l:=[c53]) (.cons (k53 ro) .nil)) fun _ _ _ _=>law48 (fun _=>trivial) (fun _ _ _=>rfl) rfl
theorem k49:PureC (cxE ro) c49.f c49.sg c49.pre c49.res:=walk49 (envL (l:=[c53]) (.cons (k53 ro) .nil)) fun _ _ _ _ _ h=>⟨_,_,law49 (fun _=>trivial) (fun _ _ _=>rfl) h.1 h.2 rfl⟩
theorem k59:PureC (cxE ro) c59.f c59.sg c59.pre c59.res:=walk59 (envL (l:=[c53]) (.cons (k53 ro) .nil)) fun _ _ _ _ _ h=>law59 (fun _=>trivial) (fun _ _ _=>rfl) h.1 h.2.1 h.2.2 rfl
theorem k17:PureC (cxE ro) c17.f c17.sg c17.pre c17.res:=walk17 (envL (l:=[]) .nil) fun _ _ ha _ h=>⟨_,_,law17 h (by have:=ha.2;omega) rfl⟩
theorem k55:PureC (cxE ro) c55.f c55.sg c55.pre c55.res:=walk55 (envL (l:=[]) .nil) fun _ _ ha _ h=>⟨_,_,law55 h (by have:=ha.2;omega) rfl⟩
theorem k20:PureC (cxE ro) c20.f c20.sg c20.pre c20.res:=walk20 (envL (l:=[c55]) (.cons (k55 ro) .nil)) fun _ _ ha _ h=>⟨_,_,law20 (fun _=>rfl) (fun _=>rfl) h (by have:=ha.2;omega) rfl⟩
theorem k14:PureC (cxE ro) c14.f c14.sg c14.pre c14.res:=walk14 (envL (l:=[c46,c50]) (.cons (k46 ro) (.cons (k50 ro) .nil))) fun _ _ _ _ _ _=>law14 (fun _=>trivial) (fun _ _ _=>rfl) (fun _ _ _ _ h1 h2=>⟨h1,h2⟩) (fun _ _ _ _=>rfl) rfl rfl
theorem k16:PureC (cxE ro) c16.f c16.sg c16.pre c16.res:=walk16 (envL (l:=[c48,c49]) (.cons (k48 ro) (.cons (k49 ro) .nil))) fun _ _ _ _ _ _=>law16 (fun _=>trivial) (fun _ _ _=>rfl) (fun _ _ _ _ h1 h2=>⟨h1,h2⟩) (fun _ _ _ _=>rfl) rfl rfl
theorem k18:PureC (cxE ro) c18.f c18.sg c18.pre c18.res:=walk18 (envL (l:=[c46,c50,c51,c52]) (.cons (k46 ro) (.cons (k50 ro) (.cons (k51 ro) (.cons (k52 ro) .nil))))) fun _ _ _ _ _ _ _ _ _=>law18 (fun _=>trivial) (fun _ _ _=>rfl) (fun _ _ _ _ h1 h2=>⟨h1,h2⟩) (fun _ _ _ _=>rfl) (fun _=>trivial) (fun _=>rfl) (fun _ _ _ h1 h2=>⟨h1,h2⟩) (fun _ _ _=>rfl) rfl rfl
theorem k19:PureC (cxE ro) c19.f c19.sg c19.pre c19.res:=walk19 (envL (l:=[c48,c49,c53,c54]) (.cons (k48 ro) (.cons (k49 ro) (.cons (k53 ro) (.cons (k54 ro) .nil))))) fun _ _ _ _ _ _ _ _ _=>law19 (fun _=>trivial) (fun _ _ _=>rfl) (fun _=>trivial) (fun _ _ _=>rfl) (fun _ _ _ _ h1 h2=>⟨h1,h2⟩) (fun _ _ _ _=>rfl) (fun _=>trivial) (fun _=>rfl) rfl rfl
theorem k21:PureC (cxE ro) c21.f c21.sg c21.pre c21.res:=walk21 (envL (l:=[c50,c51,c52]) (.cons (k50 ro) (.cons (k51 ro) (.cons (k52 ro) .nil)))) fun _ _ _ _ _ _ _=>law21 (fun _=>trivial) (fun _ _ _=>rfl) (fun _=>trivial) (fun _=>rfl) (fun _ _ _ h1 h2=>⟨h1,h2⟩) (fun _ _ _=>rfl) rfl rfl
theorem k22:PureC (cxE ro) c22.f c22.sg c22.pre c22.res:=walk22 (envL (l:=[c48,c53,c54,c59]) (.cons (k48 ro) (.cons (k53 ro) (.cons (k54 ro) (.cons (k59 ro) .nil))))) fun _ _ _ _ _ _ _=>law22 (fun _=>trivial) (fun _ _ _=>rfl) (fun _=>trivial) (fun _ _ _=>rfl) (fun _=>trivial) (fun _=>rfl) (fun _ _ _ _ _ h1 h2 h3=>⟨h1,h2,h3⟩) (fun _ _ _ _ _=>rfl) rfl rfl
theorem k13:PureC (cxE ro) c13.f c13.sg c13.pre c13.res:=works_pure
end
noncomputable def l3:List Ctr:=[c13,c14,c16,c17,c18,c19,c20,c21,c22]
theorem k_l3 (ro:Addr→Option V):Ctrs (cxE ro) l3:=(.cons (k13 ro) (.cons (k14 ro) (.cons (k16 ro) (.cons (k17 ro) (.cons (k18 ro) (.cons (k19 ro) (.cons (k20 ro) (.cons (k21 ro) (.cons (k22 ro) .nil)))))))))
end HX

namespace HX
open Go Go.Proofs CX
theorem law3' {w h s T win:Int} {F f l:Rows}:V3 (preOf l3) (resOf l3) w h s F f l T win (fun _ _=>.b true):=
 law3 trivial rfl (fun _=>trivial) (fun _ _ _ _=>⟨rfl,rfl⟩) (fun _=>trivial) (fun _ _ _ _=>⟨rfl,rfl⟩) (fun _=>rfl) (fun _=>rfl) (fun _=>trivial) (fun _ _ _ _ _ _=>⟨rfl,rfl⟩) (fun _=>trivial) (fun _ _ _ _ _ _=>⟨rfl,rfl⟩) (fun _=>rfl) (fun _=>rfl) (fun _=>trivial) (fun _ _ _ _ _=>⟨rfl,rfl⟩) (fun _=>trivial) (fun _ _ _ _ _=>⟨rfl,rfl⟩) rfl
end HX

namespace Go.Proofs.Ytmnaiddobipclaa.senseSees
open Go.ChangeShapes Go.WideShapes Go.ChangeAt Go.RowKit HX
def ps:List (Bool×List Kd):=[(true,[.int .i64,.int .i64,.int .i64]),(false,[.sl [.sl [.int .i64]]]),(false,[.sl [.int .i64]]),(false,[.sl [.int .i64,.int .i64]]),(false,[.int .i64]),(false,[.int .i64])]
theorem law (ro:Addr→Option CX.V):PureC0 (cxE ro) 3 ⟨ps,[(false,[.bool])],false⟩ (RngAll ps) trueRes:=walk3 (envL (l:=l3) (k_l3 ro)) fun _ _ _ _ _ _ _ _ _ _ _ _=>law3'
theorem lenN {α β:Type} {F:List α→β} {G:List α→β} (h:∀a b c d e f,F [a,b,c,d,e,f]=G [a,b,c,d,e,f]):∀ds:List α,ds.length=6→F ds=G ds
 |[a,b,c,d,e,f],_=>h a b c d e f
set_option maxRecDepth 100000 in
set_option maxHeartbeats 400000 in
theorem lifted (os:Os) (started:os.Started) (H:Type) (enc:TypeId×Value→H) :
  ReturnsInHanded {} Try.checked os 3 .any (Rows.senseSeesSpec.pre6 enc Try.prog Try.f3 Rows.senseSeesRow.domain false) (Rows.senseSeesSpec.post enc Try.prog Try.f3 false true false false):=by
 refine returnsInHanded_of_change (C:=Try.checked) own started (by kernel_rfl) Try.func3
  (ChangeSpec.witness6 (enc:=enc) (C:=Try.checked) false ⟨#[],#[.agg #[.int .i64 0,.int .i64 0,.int .i64 0],.slice none 0 0,.slice none 0 0,.slice none 0 0,.int .i64 0,.int .i64 0],[]⟩ 8 (by kernel_rfl) (by kernel_rfl) (by kernel_rfl) (by kernel_rfl)) ?_
 intro W base args ds gs before hval hW _ _
 exact said (f:=Try.f3) (s:=Rows.senseSeesSpec) (n:=8) (tb:=4) cxE_ok law (by kernel_rfl) laid (by kernel_rfl) rfl Try.underlying4
  (lenN (F:=Rows.senseSeesSpec.fn H) (G:=fun ds=>⟨[.lit (.bool true)],ds,[]⟩) fun _ _ _ _ _ _=>rfl) rfl W base args ds gs before hval hW
theorem holds:Rows.SenseSeesSaid:=
 OpenClaim.holds_of_wide 3 Try.f3 rfl rfl rfl rfl rfl rfl rfl ⟨rfl,rfl,rfl,rfl,rfl⟩ rfl rfl rfl rfl rfl (by kernel_rfl) Try.func3 (by kernel_rfl)
  (of_decide_eq_true (by kernel_rfl)) (by unfold Func.isWrapper;first |(rw [if_pos (by decide +kernel)];kernel_rfl) |(rw [if_neg (by decide +kernel)];exact ⟨rfl,rfl⟩))
  (fun os started H enc _=>lifted os started H enc)
end Go.Proofs.Ytmnaiddobipclaa.senseSees
