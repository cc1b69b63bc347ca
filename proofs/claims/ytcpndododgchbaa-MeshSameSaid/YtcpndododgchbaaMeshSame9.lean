/-
  Texts of the executors: W11, HxEnvS, HxEnv, CxClose, HxBase, HxClose, HxOwn, HxCtr0, HxCtr, MgD, V31, V32, V95, V113, V93, V96, MgE, V62, V65, V67, V29, V27, MgF, V71, V30, MgG.
-/
import Derived.Test.YtcpndododgchbaaMeshSame8
import Derived.WalkKit
import Derived.ProofKit
import Derived.JoinedCond
import Derived.RowKit3
import Derived.ChangeArms
import Derived.ChangeCalls
import Derived.WideKeyArgs
import Derived.KernelRfl
set_option linter.all false
noncomputable section
namespace HX
open Go Go.Proofs CX
set_option maxHeartbeats 4000000 in
set_option maxRecDepth 100000 in
set_option cbv.maxSteps 3000000 in
theorem walk11 {ro A pre fn} (hE:EnvOk ⟨A,(cxE ro),ksF,sigL [(13,⟨[],[(false,[.bool])],false⟩),(28,⟨[(false,[.sl [.int .i64,.int .i64,.int .i64]]),(false,[.sl [.int .i64]])],[(false,[.sl [.int .i64,.int .i64,.int .i64]]),(false,[.int .i64])],false⟩),(31,⟨[(false,[.sl [.int .i64,.int .i64,.int .i64]]),(false,[.int .i64])],[(false,[.int .i64]),(false,[.bool])],false⟩)],pre,fn⟩) {P:List (List D)->Prop} {res:List (List D)->Nat->Nat->D}
  (hv:∀(a0:Rows) (a1:Rows),ShR [.int .i64,.int .i64,.int .i64] a0->ShR [.int .u16] a1->P [[.l a0],[.l a1]]->V11 pre fn a0 a1 (res [[.l a0],[.l a1]])) :
  PureC0 (cxE ro) 11 ⟨[(false,[.sl [.int .i64,.int .i64,.int .i64]]),(false,[.sl [.int .u16]])],[(false,[.bool])],false⟩ P res:=by
 have hA:=hE.A
 simp only [] at hA
 have hinl:∀f fn,inlL [] f=some fn->(cxE ro).fn f=some fn/\(cxE ro).ext f=none:=Inls.ok (by repeat (first |exact .nil |refine .cons rfl rfl ?_))
 refine PureC0.of_vc hE hinl 6 (f:=11) (fn:=Try.f11) ⟨rfl,rfl⟩ ?_
 intro a0 ha0 a1 ha1 hP
 obtain ⟨R,hR⟩:∃R,res [[.l a0],[.l a1]]=R:=⟨_,rfl⟩
 rw [hR]
 have hV:=hv a0 a1 ha0 ha1 hP
 rw [hR] at hV
 clear hR hP hv
 cbv
 repeat' (first |(refine Br.mk (fun _=>?_) (fun _=>?_)<;>cbv) |(refine NilB.mk (fun _=>?_) ?_<;>cbv) |refine And.intro ?_ ?_ |exact True.intro)
 next p0a=>
  subst hA;exact hV.g0 (dt p0a)
 next p1a=>
  subst hA;exact hV.g1 (dt p1a)
 next p2a p2b=>
  subst hA;exact hV.g2 (df p2a) (dt p2b)
 next p3a p3b=>
  subst hA;exact hV.g3 (df p3a) (dt p3b)
 rename_i p4a p4b
 refine Leaf.gen fun Uz hσz=>?_
 obtain ⟨I0,m0,i0,c0⟩:V11l0 pre fn a0 a1 R:=by subst hA;exact hV.l0 (df p4a) (df p4b)
 refine loopB hE hinl 6 [] [] [] (fun x:Rows×Int=>[.l x.1,.i x.2]) (fun x=>I0 x.1 x.2) (fun x=>m0 x.1 x.2) ([],0) (by subst hA;exact i0) ?_ ?_<;>subst hσz
 ·clear hE hinl hV;cbv;(try (repeat' (first |exact True.intro |rfl |assumption |apply And.intro)))
 intro ⟨b0,b1⟩ hI0 K0 hK0
 have h0:=c0 _ _ hI0
 cbv
 repeat' (first |(refine Br.mk (fun _=>?_) (fun _=>?_)<;>cbv) |(refine NilB.mk (fun _=>?_) ?_<;>cbv) |refine And.intro ?_ ?_ |exact True.intro)
 next p5a=>
  subst hA;exact h0.g5 (dt p5a)
 next p6a=>
  subst hA;exact h0.g6 (dt p6a)
 next p7a=>
  subst hA;exact h0.g7 (dt p7a)
 next p8a=>
  subst hA;exact h0.g8 (dt p8a)
 next p9a=>
  subst hA;exact h0.g9 (dt p9a)
 next p10a=>
  subst hA;exact h0.g10 (dt p10a)
 next p11a=>
  refine hK0 (A.app b0 [[D.i (A.bit BinOp.and IntKind.i64 (A.di (A.get a0 (A.toNat b1) 0)) (A.bit BinOp.and IntKind.i64 (A.di (A.get a0 (A.toNat b1) 1)) 65535)),D.i (A.bit BinOp.and IntKind.i64 (A.di (A.get a0 (A.toNat b1) 1)) 65535),D.i (A.add 1 (A.bit BinOp.and IntKind.i64 (A.di (A.get a0 (A.toNat b1) 2)) 15))]],A.add b1 1) _ ?_ ?_ ?_
  ·subst hA;exact (h0.n11 (dt p11a)).1
  ·subst hA;exact (h0.n11 (dt p11a)).2
  clear hE hinl hV hK0;cbv;(try (repeat' (first |exact True.intro |rfl |assumption |apply And.intro)))
 rename_i p12a
 refine Leaf.gen fun Uz hσz=>?_
 obtain ⟨I1,m1,i1,c1⟩:V11l1 pre fn a1 R b0:=by subst hA;exact h0.l1 (df p12a)
 refine loopB hE hinl 6 [] [] [] (fun x:Rows×Int=>[.l x.1,.i x.2]) (fun x=>I1 x.1 x.2) (fun x=>m1 x.1 x.2) ([],0) (by subst hA;exact i1) ?_ ?_<;>subst hσz
 ·clear hE hinl hV;cbv;(try (repeat' (first |exact True.intro |rfl |assumption |apply And.intro)))
 intro ⟨d0,d1⟩ hI1 K1 hK1
 have h1:=c1 _ _ hI1
 cbv
 repeat' (first |(refine Br.mk (fun _=>?_) (fun _=>?_)<;>cbv) |(refine NilB.mk (fun _=>?_) ?_<;>cbv) |refine And.intro ?_ ?_ |exact True.intro)
 next p13a=>
  subst hA;exact h1.g13 (dt p13a)
 next p14a=>
  subst hA;exact h1.g14 (dt p14a)
 next p15a=>
  subst hA;exact h1.g15 (dt p15a)
 next p16a=>
  subst hA;exact h1.g16 (dt p16a)
 next p17a=>
  subst hA;exact h1.g17 (dt p17a)
 next p18a=>
  subst hA;exact h1.g18 (dt p18a)
 next p19a=>
  refine hK1 (A.app d0 [[D.i (A.di (A.get a1 (A.toNat d1) 0))]],A.add d1 1) _ ?_ ?_ ?_
  ·subst hA;exact (h1.n19 (dt p19a)).1
  ·subst hA;exact (h1.n19 (dt p19a)).2
  clear hE hinl hV hK1;cbv;(try (repeat' (first |exact True.intro |rfl |assumption |apply And.intro)))
 next p20a=>
  subst hA;exact h1.g20 (df p20a)
 next p21a=>
  subst hA;exact h1.g21 (df p21a)
 next p22a p22b=>
  subst hA;exact h1.g22 (df p22a) (df (nt p22b))
 next p23a p23b p23c=>
  subst hA;exact h1.g23 (df p23a) (dt (nf p23b)) (df (nt p23c))
 next p24a p24b p24c p24d=>
  subst hA;exact h1.g24 (df p24a) (dt (nf p24b)) (dt (nf p24c)) (dt p24d)
 next p25a p25b p25c p25d p25e=>
  subst hA;exact h1.g25 (df p25a) (dt (nf p25b)) (dt (nf p25c)) (df p25d) (df (nt p25e))
 rename_i p26a p26b p26c p26d p26e
 refine Leaf.gen fun Uz hσz=>?_
 obtain ⟨I2,m2,i2,c2⟩:V11l2 pre fn R b0 d0:=by subst hA;exact h1.l2 (df p26a) (dt (nf p26b)) (dt (nf p26c)) (df p26d) (dt (nf p26e))
 refine loopB hE hinl 6 [] [] [] (fun x:Bool×Int=>[.b x.1,.i x.2]) (fun x=>I2 x.1 x.2) (fun x=>m2 x.1 x.2) (false,0) (by subst hA;exact i2) ?_ ?_<;>subst hσz
 ·clear hE hinl hV;cbv;(try (repeat' (first |exact True.intro |rfl |assumption |apply And.intro)))
 intro ⟨e0,e1⟩ hI2 K2 hK2
 have h2:=c2 _ _ hI2
 cbv
 repeat' (first |(refine Br.mk (fun _=>?_) (fun _=>?_)<;>cbv) |(refine NilB.mk (fun _=>?_) ?_<;>cbv) |refine And.intro ?_ ?_ |exact True.intro)
 next p27a=>
  subst hA;exact h2.g27 (dt p27a)
 next p28a=>
  subst hA;exact h2.g28 (dt p28a)
 next p29a=>
  subst hA;exact h2.g29 (dt p29a)
 next p30a=>
  subst hA;exact h2.g30 (dt p30a)
 next p31a=>
  subst hA;exact h2.g31 (dt p31a)
 next p32a p32b=>
  subst hA;exact h2.g32 (dt p32a) (df (nt p32b))
 next p33a p33b p33c=>
  subst hA;exact h2.g33 (dt p33a) (dt (nf p33b)) (nt p33c)
 next p34a p34b p34c=>
  subst hA;exact h2.g34 (dt p34a) (dt (nf p34b)) (nf p34c)
 next p35a p35b p35c=>
  refine hK2 (e0,A.add e1 1) _ ?_ ?_ ?_
  ·subst hA;exact (h2.n35 (dt p35a) (dt (nf p35b)) (nf p35c)).1
  ·subst hA;exact (h2.n35 (dt p35a) (dt (nf p35b)) (nf p35c)).2
  clear hE hinl hV hK2;cbv;(try (repeat' (first |exact True.intro |rfl |assumption |apply And.intro)))
 next p36a=>
  subst hA;exact h2.g36 (df p36a)
 next p37a p37b=>
  subst hA;exact h2.g37 (df p37a) (df (nt p37b))
 rename_i p38a p38b
 refine Leaf.gen fun Uz hσz=>?_
 obtain ⟨I3,m3,i3,c3⟩:V11l3 pre fn R b0 e0:=by subst hA;exact h2.l3 (df p38a) (dt (nf p38b))
 refine loopB hE hinl 6 [] [] [] (fun x:Bool×Int=>[.b x.1,.i x.2]) (fun x=>I3 x.1 x.2) (fun x=>m3 x.1 x.2) (e0,0) (by subst hA;exact i3) ?_ ?_<;>subst hσz
 ·clear hE hinl hV;cbv;(try (repeat' (first |exact True.intro |rfl |assumption |apply And.intro)))
 intro ⟨f0,f1⟩ hI3 K3 hK3
 have h3:=c3 _ _ hI3
 cbv
 repeat' (first |(refine Br.mk (fun _=>?_) (fun _=>?_)<;>cbv) |(refine NilB.mk (fun _=>?_) ?_<;>cbv) |refine And.intro ?_ ?_ |exact True.intro)
 next p39a=>
  subst hA;exact h3.g39 (dt p39a)
 next p40a=>
  subst hA;exact h3.g40 (dt p40a)
 next p41a=>
  subst hA;exact h3.g41 (dt p41a)
 next p42a=>
  subst hA;exact h3.g39 (dt p42a)
 next p43a=>
  subst hA;exact h3.g43 (dt p43a)
 next p44a=>
  refine Leaf.gen fun Uz hσz=>?_
  obtain ⟨I4,m4,i4,c4⟩:V11l4 fn R b0 f0 f1 I3 m3:=by subst hA;exact h3.l4 (dt p44a)
  refine loopB hE hinl 6 [] [] [] (fun x:Bool×Int=>[.b x.1,.i x.2]) (fun x=>I4 x.1 x.2) (fun x=>m4 x.1 x.2) (f0,0) (by subst hA;exact i4) ?_ ?_<;>subst hσz
  ·clear hE hinl hV;cbv;(try (repeat' (first |exact True.intro |rfl |assumption |apply And.intro)))
  intro ⟨j0,j1⟩ hI4 K4 hK4
  have h4:=c4 _ _ hI4
  cbv
  repeat' (first |(refine Br.mk (fun _=>?_) (fun _=>?_)<;>cbv) |(refine NilB.mk (fun _=>?_) ?_<;>cbv) |refine And.intro ?_ ?_ |exact True.intro)
  next p45a=>
   subst hA;exact h4.g45 (dt p45a)
  next p46a=>
   subst hA;exact h4.g46 (dt p46a)
  next p47a=>
   subst hA;exact h4.g47 (dt p47a)
  next p48a p48b p48c p48d=>
   subst hA;exact h4.g48 (dt p48a) (dt p48b) (dt p48c) (df (nt p48d))
  next p49a p49b p49c p49d p49e=>
   subst hA;exact h4.g49 (dt p49a) (dt p49b) (dt p49c) (df (nt p49d)) (dt p49e)
  next p50a p50b p50c p50d p50e=>
   subst hA;exact h4.g50 (dt p50a) (dt p50b) (dt p50c) (df (nt p50d)) (df p50e)
  next p51a p51b p51c p51d p51e=>
   refine hK4 (j0,A.add j1 1) _ ?_ ?_ ?_
   ·subst hA;exact (h4.n51 (dt p51a) (dt p51b) (dt p51c) (df (nt p51d)) (df p51e)).1
   ·subst hA;exact (h4.n51 (dt p51a) (dt p51b) (dt p51c) (df (nt p51d)) (df p51e)).2
   clear hE hinl hV hK4;cbv;(try (repeat' (first |exact True.intro |rfl |assumption |apply And.intro)))
  next p52a p52b p52c p52d=>
   subst hA;exact h4.g52 (dt p52a) (dt p52b) (dt p52c) (dt (nf p52d))
  next p53a p53b p53c p53d=>
   refine hK4 (j0,A.add j1 1) _ ?_ ?_ ?_
   ·subst hA;exact (h4.n53 (dt p53a) (dt p53b) (dt p53c) (dt (nf p53d))).1
   ·subst hA;exact (h4.n53 (dt p53a) (dt p53b) (dt p53c) (dt (nf p53d))).2
   clear hE hinl hV hK4;cbv;(try (repeat' (first |exact True.intro |rfl |assumption |apply And.intro)))
  next p54a p54b p54c=>
   subst hA;exact h4.g54 (dt p54a) (dt p54b) (df p54c)
  next p55a p55b p55c=>
   refine hK4 (j0,A.add j1 1) _ ?_ ?_ ?_
   ·subst hA;exact (h4.n55 (dt p55a) (dt p55b) (df p55c)).1
   ·subst hA;exact (h4.n55 (dt p55a) (dt p55b) (df p55c)).2
   clear hE hinl hV hK4;cbv;(try (repeat' (first |exact True.intro |rfl |assumption |apply And.intro)))
  next p56a p56b=>
   subst hA;exact h4.g56 (dt p56a) (df p56b)
  next p57a p57b=>
   refine hK4 (j0,A.add j1 1) _ ?_ ?_ ?_
   ·subst hA;exact (h4.n57 (dt p57a) (df p57b)).1
   ·subst hA;exact (h4.n57 (dt p57a) (df p57b)).2
   clear hE hinl hV hK4;cbv;(try (repeat' (first |exact True.intro |rfl |assumption |apply And.intro)))
  next p58a=>
   subst hA;exact h4.g58 (df p58a)
  rename_i p59a
  refine hK3 (j0,A.add f1 1) _ ?_ ?_ ?_
  ·subst hA;exact (h4.n59 (df p59a)).1
  ·subst hA;exact (h4.n59 (df p59a)).2
  clear hE hinl hV hK3;cbv;(try (repeat' (first |exact True.intro |rfl |assumption |apply And.intro)))
 next p60a=>
  subst hA;exact h3.g60 (df p60a)
 rename_i p61a
 subst hA;exact h3.g61 (df p61a)
end HX

namespace HX
open Go Go.Proofs CX
theorem tyB_ok:tyB.All (fun t ty=>CX.env.T t=some ty):=by
 unfold tyB
 simp only [BT.All,true_and,and_true]
 repeat' apply And.intro
 all_goals rfl
theorem cxS_ok {s:Nat->Option Nat} (hs:∀f c,s f=some c->CX.SortOk Try.prog f c) (ro:Addr->Option V):CX.EnvOk (cxS s ro) Try.prog:=by
 refine ⟨fun t ty h=>CX.env_ok.T t ty (tyB_ok.get h),fun f fn h=>CX.env_ok.fn f fn h,CX.env_ok.mixed,fun f b h w=>?_,fun f _ _ _ _ _ _ h=>?_,fun f h=>?_,fun f c h=>?_⟩
 all_goals (simp only [cxS,extS] at h)
 ·split at h
  next hb=>
   simp only [beqN_iff] at hb
   simp only [zA,CX.Ext.bool.injEq] at h
   subst hb h
   exact (CX.works_ok w).mono fun e w' ⟨h1,h2,h3,h4,h5,h6⟩=>⟨h1,h2,h3,h4,h5,h6⟩
  split at h<;>cases h
 ·split at h
  ·cases h
  split at h<;>cases h
 ·split at h
  ·cases h
  split at h<;>cases h
 split at h
 ·cases h
 split at h
 next c' hc=>
  cases h
  exact hs f c hc
 cases h
theorem cxS_srt {s:Nat->Option Nat} (hs:∀f c,s f=some c->∃fn b,CX.env.fn f=some fn/\fn.body=some b/\2<=fn.ntmps) {ro:Addr->Option V}:∀f c,(cxS s ro).ext f=some (.sort c)->∃fn b,(cxS s ro).fn f=some fn/\fn.body=some b/\2<=fn.ntmps:=fun f c h=>by
 simp only [cxS,extS] at h
 split at h
 ·cases h
 split at h
 next c' hc=>
  cases h
  exact hs f c hc
 cases h
theorem call_ro {P:Program} {E:CX.Env} (hE:CX.EnvOk E P) {f:FuncId} {n:Nat} {v:V} {args:List V} {xs:List Value} {h':T O} {nx':Nat} {w:World} (hro:RoAt E.ro w) (ha:RvL (fun _=>none) 0 args xs)
  (h:callF E (cx E n) 0 .e 0 f args (fun v h nx=>retV v h nx)=retV v h' nx') :
  Calls P f xs.toArray w fun e w'=>∃u J n,e=.returned u/\Rv J n v u/\Kept w w':=by
 obtain ⟨v',g',n',fn,h1,_,_,h2⟩:=callF_ok hE (cx_ok hE n).1 (J:=fun _=>none) (n:=0) (bar:=0) (g:=.e) (w:=w) (xs:=xs) ⟨hro,fun a v h id o L _ _ hL=>by cases hL⟩ ⟨fun id o h=>by simp [T.get] at h,fun id o id' o' h=>by simp [T.get] at h,fun _ _=>rfl,fun _ _ h=>by cases h⟩ ha h
 have e:v'=v:=by
  simp only [retV,zA,zJ,CX.St.mk.injEq,CX.T.n.injEq,true_and,and_true] at h1
  exact h1.1
 subst e
 refine (callsIn_wide.1 (h2 none)).mono fun e w' he=>?_
 obtain ⟨u,J',rfl,d1,_,_,_,d5⟩:=he
 refine ⟨u,J',n',rfl,d1,d5.os,d5.tape,d5.output,d5.size,fun b hb=>d5.keep b hb ?_⟩
 rintro ⟨id,o,L,_,h,_⟩
 simp [T.get] at h
end HX

namespace HX
open Go Go.Proofs CX
theorem cxE_ok (ro:Addr->Option V):CX.EnvOk (cxE ro) Try.prog:=cxS_ok (fun f c h=>(srtF_ok f c h).1) ro
theorem cxE_srt {ro:Addr->Option V}:∀f c,(cxE ro).ext f=some (.sort c)->∃fn b,(cxE ro).fn f=some fn/\fn.body=some b/\2<=fn.ntmps:=cxS_srt fun f c h=>(srtF_ok f c h).2
theorem hxT {ro:Addr->Option V}:TOk (cxE ro):=TOk.of (cxE_ok ro)
theorem hxEnv {ro:Addr->Option V} {sig:Nat->Option Sig} {pre:Nat->List (List D)->Prop} {fn:Nat->List (List D)->Nat->Nat->D} (h:∀f sg,sig f=some sg->PureC (cxE ro) f sg (pre f) (fn f)):EnvOk ⟨Ar.std,cxE ro,ksF,sig,pre,fn⟩:=⟨rfl,hxT,h,cxE_srt⟩
theorem works_pure {ro:Addr->Option V}:PureC (cxE ro) 13 ⟨[],[(false,[.bool])],false⟩ (fun _=>True) (fun _ _ _=>.b true):=by
 intro ds _ g bar nx h args hg hbar ha
 cases args with
 |cons _ _=>cases ds<;>simp [ArgsFz] at ha
 |nil=>
  have hfn:∃fn c,(cxE ro).fn 13=some fn/\fn.body=some c:=⟨_,_,rfl,rfl⟩
  obtain ⟨fn,c,h1,h2⟩:=hfn
  refine ⟨[.bool true],h,nx,g,Evt.of fun n k=>?_,zB _,fun _ _=>rfl,fun _ _ h=>h,fun id o hgo=>⟨hg id o hgo,.inl hgo⟩,⟨[.bool true],rfl,fun j k hj=>?_,_,rfl,rfl⟩,trivial⟩
  ·have hx:(cxE ro).ext 13=some (.bool true):=rfl
   simp only [callF,h1,h2,hx]
   rfl
  cases j with
  |zero=>
   simp only [zK,zA] at hj
   subst hj
   exact ⟨_,rfl,by simp only [FzC];exact ⟨⟨_,rfl⟩,rfl⟩⟩
  |succ j=>simp at hj
end HX

namespace CX
open Go Go.ChangeShapes Go.WideShapes
theorem Kept.frozen {w w':World} (h:Kept w w') {a:Addr} (ha:a.block < w.heap.size):w'.frozen? a=w.frozen? a:=by
 simp only [World.frozen?,h.2.2.2.2 a.block ha]
theorem Kept.but {w w':World} (h:Kept w w') (may:MemPlace->Prop):w.keptBut w' may:=by
 refine ⟨h.1,h.2.2.1.1,fun i hi=>?_⟩
 rw [h.2.2.2.2 i hi]
 obtain ⟨o,ho⟩:∃o,w.heap[i]?=some o:=⟨w.heap[i],by simp [hi]⟩
 rw [ho]
 cases o with
 |cells c t fr=>exact ⟨rfl,rfl,rfl,fun _ _=>rfl⟩
 |map es c=>exact .inr ⟨rfl,rfl⟩
 |_=>rfl
section
variable {H:Type} {enc:TypeId×Value->H} {P:Program}
theorem post_kept {f:Func} {s:ChangeSpec} {apart fresh handsOn again:Bool} {W W':World} {args:Array Value} {v:Value} {ds gs:List (DataW H)} {before pa pv:List MemPlace}
  (hW:DataW.Whole enc P f.params.toList s.vars apart W args.toList ds gs before)
  (hres:∀(b:Nat) (sp:Nat->Bool) (hd:Bool),DataW.TrodAll enc P W' b sp hd f.resultTypes.toList (v.resultList f.resultTypes.size) (s.fn H (ds++gs)).results [])
  (hargs:∀sp:Nat->Bool,(∀p∈before,sp p.block=true)->DataW.TrodAll enc P W' 0 sp true f.params.toList args.toList (s.fn H (ds++gs)).args pa)
  (hvars:∀sp:Nat->Bool,(∀p∈before,sp p.block=true)->DataW.TrodVars enc P W' sp s.vars (s.fn H (ds++gs)).vars pv)
  (hps:before=pa++pv) (hk:Kept W W')
  (hok:∀(j:Nat) (t:TypeId) (r:Value),f.resultTypes[j]?=some t->(v.resultList f.resultTypes.size)[j]?=some r->Value.okWide P W' .any 0 t r) :
  s.post enc P f apart fresh handsOn again W args v W':=by
 have hold:∀p∈before,(fun b=>decide (b < W.heap.size)) p.block=true:=fun p hp=>by simpa using hW.lt p hp
 have hlt:=hW.lt
 refine ⟨ds,gs,before,[],pa,pv,hW,hres _ _ _,hargs _ hold,hvars _ hold,World.keptBut_mono (fun p hp=>⟨hp,?_⟩) (hk.but (·∈before)),fun _=>?_⟩
 ·rw [hps,xW] at hp
  exact Or.inr hp
 obtain ⟨_,_,_,_,_,hz,hn⟩:=hW
 refine ⟨hok,_,_,([]++pa)++pv,⟨[]++pa,pv,trodAll_append (hargs _ (fun _ _=>rfl)) (hres _ _ _),hvars _ (fun _ _=>rfl),rfl,?_,?_⟩,?_⟩
 ·intro b off hp
  have hp':MemPlace.cell b off∈before:=by rw [hps];simpa using hp
  rw [hk.frozen (hlt _ hp')]
  exact hz b off hp'
 ·intro ha
  have:=hn ha
  rw [hps] at this
  simpa using this
 intro p hp _
 rw [hps]
 simpa using hp
end
end CX

namespace HB
open Go Go.ChangeShapes Go.WideShapes Go.ChangeAt Go.RowKit
theorem add_block (a:Addr) (n:Nat):(a.add n).block=a.block:=by unfold Addr.add;split<;>rfl
theorem addr_add2 (a:Addr) (i c:Nat):(a.add i).add c=a.add (i+c):=by
 unfold Addr.add
 by_cases hi:i=0
 ·subst hi;simp
 by_cases hc:c=0
 ·subst hc;simp [hi]
 simp [hi,hc,Nat.add_assoc]
theorem mapM_at {α β:Type} {f:α->Option β}:∀{l:List α} {r:List β},l.mapM f=some r->r.length=l.length/\∀(i:Nat) (h:i < l.length),∃y,f l[i]=some y/\r[i]?=some y
 |[],r,h=>by
  simp only [List.mapM_nil,Option.pure_def,Option.some.injEq] at h
  subst h
  exact ⟨rfl,fun i h=>by simp at h⟩
 |x :: xs,r,h=>by
  rw [List.mapM_cons] at h
  cases hx:f x with
  |none=>simp [hx] at h
  |some y=>
   cases hxs:xs.mapM f with
   |none=>simp [hx,hxs] at h
   |some ys=>
    simp only [hx,hxs,Option.bind_eq_bind,Option.bind_some,Option.pure_def,Option.some.injEq] at h
    subst h
    obtain ⟨h1,h2⟩:=mapM_at hxs
    refine ⟨by simp [h1],fun i hi=>?_⟩
    cases i with
    |zero=>exact ⟨y,by simpa using hx,by simp⟩
    |succ i=>
     obtain ⟨z,e1,e2⟩:=h2 i (by simpa using hi)
     exact ⟨z,by simpa using e1,by simpa using e2⟩
theorem cells_get {w:World} {base:Nat} {a:Addr} {n:Nat} {cs:List Value} (h:w.cells? base a n=some cs):cs.length=n/\(0 < n->a.block < w.heap.size)/\∀c,c < n->w.cell? (a.add c)=cs[c]?:=by
 unfold World.cells? at h
 split at h
 ·obtain ⟨h1,h2⟩:=mapM_at h
  rw [List.length_range] at h1
  have key:∀c,c < n->w.cell? (a.add c)=cs[c]?:=fun c hc=>by
   obtain ⟨y,e1,e2⟩:=h2 c (by simpa using hc)
   rw [List.getElem_range] at e1
   rw [e1,e2]
  refine ⟨h1,fun h0=>?_,key⟩
  obtain ⟨y,e1,_⟩:=h2 0 (by simpa using h0)
  rw [List.getElem_range] at e1
  rcases Nat.lt_or_ge a.block w.heap.size with hb |hb
  ·exact hb
  exfalso
  unfold World.cell? at e1
  rw [add_block] at e1
  rw [Array.getElem?_eq_none (by omega)] at e1
  cases e1
 cases h
section
variable {H:Type} {enc:TypeId×Value->H} {P:Program} {w:World} {base:Nat} {spare:Nat->Bool} {held:Bool}
theorem wf_rng {k:IntKind} {n:Int} (h:(Lit.int k n).wf=true):k.min<=n/\n<=k.max:=by
 simpa [Lit.wf] using h
theorem trod_array {t e:TypeId} {n m:Nat} {cs:List Value} {x:DataW H×List MemPlace} (ht:P.underlying t=some (.array n e)) (h:DataW.trod enc P w base spare held (m+1) t cs=some x) :
  cs.length=P.cellsOf t/\∀i,i < n->∃y,DataW.trod enc P w base spare held m e ((cs.drop (i * P.cellsOf e)).take (P.cellsOf e))=some y:=by
 unfold DataW.trod at h
 rw [ht] at h
 split at h<;>simp_all
 obtain ⟨hl,h⟩:=h
 obtain ⟨a,h,_⟩:=h
 obtain ⟨h1,h2⟩:=mapM_at h
 intro i hi
 obtain ⟨y,e1,_⟩:=h2 i (by simpa using hi)
 rw [List.getElem_range] at e1
 exact ⟨y.1,y.2,by simpa using e1⟩
def isAgg (P:Program) (t:TypeId):Bool:=match P.underlying t with
 |some (.struct _)=>true
 |some (.array _ _)=>true
 |_=>false
theorem Kept_same {W W':World} (h:CX.Kept W W') {p:MemPlace} (hp:p.block < W.heap.size):W.sameAt W' p:=by
 cases p with
 |cell b off=>
  simp only [World.sameAt,World.cell?]
  rw [h.2.2.2.2 b hp]
 |map b=>exact h.2.2.2.2 b hp
theorem args_stay (hl:laidOutB P=true) {W W':World} {sp:Nat->Bool}:∀{ts:List TypeId} {vs:List Value} {ds:List (DataW H)} {ps:List MemPlace},(ts.all fun t=>P.readableRec t && decide (t < P.types.size))=true->
  DataW.TrodAll enc P W base (fun _=>true) true ts vs ds ps->(∀p∈ps,W.sameAt W' p)->(∀p∈ps,sp p.block=true)->DataW.TrodAll enc P W' base sp true ts vs ds ps
 |[],vs,ds,ps,_,h,_,_=>by
  obtain ⟨rfl,rfl,rfl⟩:=trodAll_nil h
  exact trodAll_mk0
 |t :: ts,[],ds,ps,_,h,_,_=>by simp [DataW.TrodAll] at h
 |t :: ts,v :: vs,[],ps,_,h,_,_=>by simp [DataW.TrodAll] at h
 |t :: ts,v :: vs,d :: ds,ps,hr,h,h1,h2=>by
  obtain ⟨p,q,ha,hb,rfl⟩:=h
  simp only [List.all_cons,Bool.and_eq_true,decide_eq_true_eq] at hr
  exact ⟨p,q,Go.WideElems.Trod_stays hl hr.1.1 hr.1.2 ha (fun x hx=>h1 x (by simp [hx])) (fun x hx=>h2 x (by simp [hx])),
   args_stay hl (by simpa using hr.2) hb (fun x hx=>h1 x (by simp [hx])) (fun x hx=>h2 x (by simp [hx])),rfl⟩
end
end HB

namespace HX
open Go Go.Proofs Go.ChangeShapes Go.WideShapes Go.ChangeAt Go.RowKit CX
def descF (g:TypeId->Option (List Kd)) (P:Program):List Field->Nat->Option (List Kd)
 |[],_=>some []
 |f :: r,off=>match g f.type with
  |some ks=>match beqN f.offset off && beqN (P.cellsOf f.type) ks.length with
   |true=>match descF g P r (off+ks.length) with
    |some ks'=>some (ks++ks')
    |none=>none
   |false=>none
  |none=>none
def repK (ks:List Kd):Nat->List Kd
 |0=>[]
 |n+1=>ks++repK ks n
def desc (P:Program):Nat->TypeId->Option (List Kd)
 |0,_=>none
 |n+1,t=>match P.underlying t with
  |some .bool=>some [.bool]
  |some (.int k)=>some [.int k]
  |some .string=>some [.str]
  |some (.slice e)=>match desc P n e with
   |some (k :: ks)=>match beqN (P.cellsOf e) (ks.length+1) with
    |true=>some [.sl (k :: ks)]
    |false=>none
   |_=>none
  |some (.struct fs)=>match descF (desc P n) P fs.toList 0 with
   |some ks=>match beqN (P.cellsOf t) ks.length with
    |true=>some ks
    |false=>none
   |none=>none
  |some (.array m e)=>match desc P n e with
   |some ks=>match beqN (P.cellsOf e) ks.length && beqN (P.cellsOf t) (repK ks m).length with
    |true=>some (repK ks m)
    |false=>none
   |none=>none
  |_=>none
mutual
def RngK:Kd->D->Prop
 |.int k,d=>k.min<=d.int/\d.int<=k.max
 |.str,d=>∀b∈d.str,b < 256
 |.sl ks,d=>∀row∈d.rows,RngL ks row
 |_,_=>True
def RngL:List Kd->List D->Prop
 |k :: ks,d :: ds=>RngK k d/\RngL ks ds
 |_,_=>True
end
mutual
def RdK (w:World):Kd->D->Value->Prop
 |.int k,d,u=>(∃n,d=.i n)/\u=.int k d.int
 |.bool,d,u=>(∃b,d=.b b)/\u=.bool d.boo
 |.str,d,u=>(∃s,d=.s s)/\u=.string (bytesOf d.str)
 |.fnc _,_,_=>False
 |.pt _,_,_=>False
 |.sl ks,d,u=>(∃rows,d=.l rows/\LenR ks rows)/\0 < ks.length/\((d.rows=[]/\u=.slice none 0 0)\/∃a cap,u=.slice (some a) d.rows.length cap/\d.rows.length<=cap/\
   ∀i row,d.rows[i]?=some row->∃cs:List Value,(∀c,c < ks.length->w.cell? (a.add (i * ks.length+c))=cs[c]?)/\RdL w ks row cs)
def RdL (w:World):List Kd->List D->List Value->Prop
 |[],[],[]=>True
 |k :: ks,d :: ds,c :: cs=>RdK w k d c/\RdL w ks ds cs
 |_,_,_=>False
end
def Holds (w:World) (ks:List Kd) (cs:List Value):Prop:=∃l,RdL w ks l cs/\RngL ks l
theorem RdL.append {w:World}:∀{ks ks':List Kd} {l l':List D} {cs cs':List Value},RdL w ks l cs->RdL w ks' l' cs'->RdL w (ks++ks') (l++l') (cs++cs')
 |[],_,[],_,[],_,_,h=>h
 |_ :: _,_,_ :: _,_,_ :: _,_,h,h'=>by
  simp only [RdL,List.cons_append] at h ⊢
  exact ⟨h.1,RdL.append h.2 h'⟩
 |[],_,[],_,_ :: _,_,h,_=>by simp [RdL] at h
 |[],_,_ :: _,_,_,_,h,_=>by simp [RdL] at h
 |_ :: _,_,[],_,_,_,h,_=>by simp [RdL] at h
 |_ :: _,_,_ :: _,_,[],_,h,_=>by simp [RdL] at h
theorem RdL.len {w:World}:∀{ks:List Kd} {l:List D} {cs:List Value},RdL w ks l cs->l.length=ks.length/\cs.length=ks.length
 |[],[],[],_=>⟨rfl,rfl⟩
 |_ :: _,_ :: _,_ :: _,h=>by
  simp only [RdL] at h
  have:=RdL.len h.2
  exact ⟨by simp [this.1],by simp [this.2]⟩
 |[],[],_ :: _,h=>by simp [RdL] at h
 |[],_ :: _,_,h=>by simp [RdL] at h
 |_ :: _,[],_,h=>by simp [RdL] at h
 |_ :: _,_ :: _,[],h=>by simp [RdL] at h
theorem RngL.append:∀{ks ks':List Kd} {l l':List D},l.length=ks.length->RngL ks l->RngL ks' l'->RngL (ks++ks') (l++l')
 |[],_,[],_,_,_,h=>h
 |_ :: _,_,_ :: _,_,hl,h,h'=>by
  simp only [RngL,List.cons_append] at h ⊢
  exact ⟨h.1,RngL.append (by simpa using hl) h.2 h'⟩
 |[],_,_ :: _,_,hl,_,_=>by simp at hl
 |_ :: _,_,[],_,hl,_,_=>by simp at hl
theorem Holds.append {w:World} {ks ks':List Kd} {cs cs':List Value} (h:Holds w ks cs) (h':Holds w ks' cs'):Holds w (ks++ks') (cs++cs'):=by
 obtain ⟨l,a,b⟩:=h
 obtain ⟨l',a',b'⟩:=h'
 exact ⟨l++l',a.append a',b.append a.len.1 b'⟩
theorem Holds.nil {w:World}:Holds w [] []:=⟨[],trivial,trivial⟩
section
variable {H:Type} {enc:TypeId×Value->H} {P:Program} {w:World} {base:Nat} {spare:Nat->Bool} {held:Bool}
theorem holds_one {k:Kd} {d:D} {u:Value} (h:RdK w k d u) (hr:RngK k d):Holds w [k] [u]:=⟨[d],⟨h,trivial⟩,⟨hr,trivial⟩⟩
theorem holds_rep {ks:List Kd} {cs:List Value} (m:Nat) (hl:cs.length=(repK ks m).length) (h:∀i,i < m->Holds w ks ((cs.drop (i * ks.length)).take ks.length)):Holds w (repK ks m) cs:=by
 induction m generalizing cs with
 |zero=>
  have:cs=[]:=zS.1 (by simpa [repK] using hl)
  subst this
  exact Holds.nil
 |succ m ih=>
  have e:cs=cs.take ks.length++cs.drop ks.length:=(List.take_append_drop _ _).symm
  rw [e]
  refine Holds.append (by simpa using h 0 (by omega)) (ih ?_ fun i hi=>?_)
  ·simp only [zZ,hl,repK,xD]
   omega
  have:=h (i+1) (by omega)
  rwa [List.drop_drop,show ks.length+i * ks.length=(i+1) * ks.length by rw [zQ];omega]
theorem holds_fields {g:TypeId->Option (List Kd)} {cs:List Value}:∀(fs:List Field) (off:Nat) (ks:List Kd),descF g P fs off=some ks->cs.length=off+ks.length->
  (∀f∈fs,∀ks',g f.type=some ks'->Holds w ks' ((cs.drop f.offset).take (P.cellsOf f.type)))->Holds w ks (cs.drop off)
 |[],off,ks,h,hl,_=>by
  simp only [descF,zA] at h
  subst h
  have:cs.drop off=[]:=List.drop_eq_nil_of_le (by simp at hl;omega)
  rw [this]
  exact Holds.nil
 |f :: r,off,ks,h,hl,hf=>by
  simp only [descF] at h
  split at h
  rotate_left
  ·cases h
  rename_i ks1 hk
  split at h
  next hb=>
   simp only [zC,beqN_iff] at hb
   split at h
   next ks2 hks2=>
    simp only [zA] at h
    subst h
    have e:cs.drop off=(cs.drop off).take ks1.length++(cs.drop off).drop ks1.length:=(List.take_append_drop _ _).symm
    rw [e]
    refine Holds.append ?_ ?_
    ·have:=hf f (by simp) ks1 hk
     rwa [hb.1,hb.2] at this
    rw [List.drop_drop]
    exact holds_fields r (off+ks1.length) ks2 hks2 (by rw [hl,xD];omega) (fun f' hf'=>hf f' (by simp [hf']))
   cases h
  cases h
theorem bytes_of (z:ByteArray):bytesOf (z.data.toList.map UInt8.toNat)=z:=by
 obtain ⟨d⟩:=z
 simp only [bytesOf,List.map_map]
 congr 1
 have:(UInt8.ofNat∘UInt8.toNat)=id:=by funext x;simp
 rw [this]
 simp
theorem holds_of_trod:∀(n:Nat) (t:TypeId) (ks:List Kd),desc P n t=some ks->∀(m:Nat) (cs:List Value) (x:DataW H×List MemPlace),DataW.trod enc P w base spare held m t cs=some x->Holds w ks cs
 |0,_,_,h,_,_,_,_=>by simp [desc] at h
 |n+1,t,ks,h,m,cs,x,hx=>by
  unfold desc at h
  split at h
  next hu=>
   simp only [zA] at h
   subst h
   obtain ⟨b,rfl,_⟩:=DataW.trod_bool hu hx
   exact holds_one (d:=.b b) ⟨⟨_,rfl⟩,rfl⟩ trivial
  next k hu=>
   simp only [zA] at h
   subst h
   obtain ⟨z,rfl,_,hw⟩:=DataW.trod_int hu hx
   exact holds_one (d:=.i z) ⟨⟨_,rfl⟩,rfl⟩ (HB.wf_rng hw)
  next hu=>
   simp only [zA] at h
   subst h
   obtain ⟨z,rfl,_,_⟩:=DataW.trod_string hu hx
   refine holds_one (d:=.s (z.data.toList.map UInt8.toNat)) ⟨⟨_,rfl⟩,?_⟩ ?_
   ·show Value.string z=.string (bytesOf (z.data.toList.map UInt8.toNat))
    rw [bytes_of]
   intro b hb
   obtain ⟨x,_,rfl⟩:=qC.1 (show b∈z.data.toList.map UInt8.toNat from hb)
   exact x.toNat_lt
  next e hu=>
   split at h
   rotate_left
   ·cases h
   rename_i k ks' hd
   split at h
   rotate_left
   ·cases h
   rename_i hb
   have hb:P.cellsOf e=ks'.length+1:=by rw [beqN_iff] at hb;exact hb
   simp only [zA] at h
   subst h
   rcases DataW.trod_slice hu hx with ⟨rfl,_⟩ |⟨a,len,cap,elems,rest,m',rfl,rfl,_,_,h2,h3,h4,h5,_,_⟩
   ·exact holds_one (d:=.l []) ⟨⟨_,rfl,fun _ h=>(by cases h),by simp⟩,by simp,.inl ⟨rfl,rfl⟩⟩ (fun _ h=>(by cases h))
   have row:∀i,i < len->∃l cs',(∀c,c < ks'.length+1->w.cell? (a.add (i * (ks'.length+1)+c))=cs'[c]?)/\RdL w (k :: ks') l cs'/\RngL (k :: ks') l:=by
    intro i hi
    have e1:=h5 i hi
    rw [zI (by omega)] at e1
    obtain ⟨cs',c1,c2⟩:=Option.bind_eq_some_iff.1 e1
    obtain ⟨d1,d2,d3⟩:=HB.cells_get c1
    rw [hb] at d1 d2 d3 c1
    obtain ⟨l,g1,g2⟩:=holds_of_trod n e (k :: ks') hd m' cs' _ c2
    refine ⟨l,cs',fun c hc=>?_,g1,g2⟩
    rw [<-d3 c hc,HB.addr_add2]
   let rows:Rows:=(List.range len).map fun i=>if h:i < len then Classical.choose (row i h) else []
   have hlen:rows.length=len:=by simp [rows]
   have hget:∀i r,rows[i]?=some r->∃h:i < len,r=Classical.choose (row i h):=by
    intro i r hr
    have hi:i < len:=by rw [<-hlen];exact (xA.1 hr).1
    refine ⟨hi,?_⟩
    simp only [rows,qG,List.getElem?_range hi,zY,zA] at hr
    rw [<-hr,dif_pos hi]
   refine holds_one (d:=.l rows) ⟨⟨_,rfl,fun r hr=>?_,?_⟩,by simp,.inr ⟨a,cap,?_,?_,fun i r hr=>?_⟩⟩ (fun r hr=>?_)
   ·obtain ⟨i,hi⟩:=List.getElem?_of_mem hr
    obtain ⟨h,rfl⟩:=hget i r hi
    obtain ⟨_,_,h6,_⟩:=Classical.choose_spec (row i h)
    exact h6.len.1
   ·have h3:cap<=9223372036854775807:=h3
    rw [hlen];omega
   ·show Value.slice (some a) len cap=.slice (some a) rows.length cap
    rw [hlen]
   ·show rows.length<=cap
    rw [hlen];exact h2
   ·obtain ⟨h,rfl⟩:=hget i r hr
    obtain ⟨cs',h5',h6,_⟩:=Classical.choose_spec (row i h)
    exact ⟨cs',fun c hc=>h5' c (by simpa using hc),h6⟩
   obtain ⟨i,hi⟩:=List.getElem?_of_mem (show r∈rows from hr)
   obtain ⟨h,rfl⟩:=hget i r hi
   obtain ⟨_,_,_,h7⟩:=Classical.choose_spec (row i h)
   exact h7
  next fs hu=>
   split at h
   rotate_left
   ·cases h
   rename_i ks' hd
   split at h
   next hb=>
    rw [beqN_iff] at hb
    simp only [zA] at h
    subst h
    obtain ⟨xs,m',rfl,_,hl,hxs,hf⟩:=DataW.trod_struct hu hx
    have:=holds_fields (w:=w) (cs:=cs) fs.toList 0 ks' hd (by rw [hl,hb];simp) (fun f hm ks1 hk1=>?_)
    ·simpa using this
    obtain ⟨i,hi,rfl⟩:=List.mem_iff_getElem.1 hm
    have hi':i < fs.size:=by simpa using hi
    have e1:=hf i fs[i] (by simp [hi'])
    rw [zI (by omega)] at e1
    have e2:fs.toList[i]=fs[i]:=by simp
    rw [e2] at hk1 ⊢
    exact holds_of_trod n _ ks1 hk1 m' _ _ e1
   cases h
  next m0 e hu=>
   split at h
   next ks' hd=>
    split at h
    next hb=>
     simp only [zC,beqN_iff] at hb
     simp only [zA] at h
     subst h
     cases m with
     |zero=>simp [DataW.trod] at hx
     |succ m'=>
      obtain ⟨hl,hi⟩:=HB.trod_array hu hx
      refine holds_rep m0 (by rw [hl,hb.2]) fun i h=>?_
      obtain ⟨y,hy⟩:=hi i h
      rw [hb.1] at hy
      exact holds_of_trod n e ks' hd m' _ y hy
    cases h
   cases h
  cases h
def strOf (z:ByteArray):List Nat:=z.data.toList.map UInt8.toNat
def valOf:Value->Option V
 |.int k n=>some (.int k n)
 |.bool b=>some (.bool b)
 |.string z=>some (.str (strOf z))
 |.slice none 0 0=>some .nils
 |.slice (some a) n cap=>if n<=cap then some (.rslc a n cap) else none
 |_=>none
def roOf (w:World) (a:Addr):Option V:=match w.cell? a with
 |some u=>valOf u
 |none=>none
theorem valOf_rv {u:Value} {v:V} (h:valOf u=some v):one1 v=true/\∀J n,Rv J n v u:=by
 unfold valOf at h
 split at h
 ·cases h;exact ⟨rfl,fun _ _=>by simp only [Rv]⟩
 ·cases h;exact ⟨rfl,fun _ _=>by simp only [Rv]⟩
 ·cases h
  rename_i z
  refine ⟨rfl,fun _ _=>?_⟩
  simp only [Rv]
  refine ⟨fun b hb=>?_,by rw [strOf,bytes_of]⟩
  obtain ⟨x,_,rfl⟩:=qC.1 (show b∈z.data.toList.map UInt8.toNat from hb)
  exact x.toNat_lt
 ·cases h;exact ⟨rfl,fun _ _=>by simp only [Rv]⟩
 ·split at h
  next hle=>
   cases h
   exact ⟨rfl,fun _ _=>by simp only [Rv];exact ⟨hle,trivial⟩⟩
  cases h
 cases h
theorem roOf_ok (w:World):RoAt (roOf w) w:=by
 intro a v h
 unfold roOf at h
 split at h
 next u hu=>
  obtain ⟨h1,h2⟩:=valOf_rv h
  exact ⟨h1,u,hu,fun J n=>h2 J n⟩
 cases h
theorem str_bytes {s:List Nat} (h:∀b∈s,b < 256):strOf (bytesOf s)=s:=by
 simp only [strOf,bytesOf,List.map_map]
 induction s with
 |nil=>rfl
 |cons b s ih=>
  have hb:=h b (.head _)
  simp only [kI,Function.comp_apply,UInt8.toNat_ofNat',xM]
  exact ⟨Nat.mod_eq_of_lt hb,ih fun x hx=>h x (.tail _ hx)⟩
mutual
theorem rdK_fz {g:Nat->Option O} {B:Nat}:∀(k:Kd) (d:D) (u:Value),RdK w k d u->RngK k d->∃v,valOf u=some v/\FzC (roOf w) g B k d v
 |.int k,d,u,h,_=>by
  simp only [RdK] at h
  obtain ⟨⟨n,rfl⟩,rfl⟩:=h
  exact ⟨_,rfl,by simp only [FzC];exact ⟨⟨_,rfl⟩,trivial⟩⟩
 |.bool,d,u,h,_=>by
  simp only [RdK] at h
  obtain ⟨⟨n,rfl⟩,rfl⟩:=h
  exact ⟨_,rfl,by simp only [FzC];exact ⟨⟨_,rfl⟩,trivial⟩⟩
 |.str,d,u,h,hr=>by
  simp only [RdK] at h
  obtain ⟨⟨n,rfl⟩,rfl⟩:=h
  simp only [RngK,D.str] at hr
  refine ⟨_,rfl,?_⟩
  simp only [FzC,D.str,str_bytes hr]
  exact ⟨⟨_,rfl⟩,trivial⟩
 |.sl ks,d,u,h,hr=>by
  simp only [RdK] at h
  obtain ⟨⟨rows,rfl,hl⟩,hpos,h⟩:=h
  simp only [RngK,D.rows] at hr h
  rcases h with ⟨rfl,rfl⟩ |⟨a,cap,rfl,hcap,hrow⟩
  ·exact ⟨.nils,rfl,by simp only [FzC];exact ⟨⟨_,rfl,hl⟩,.inl ⟨rfl,trivial⟩⟩⟩
  refine ⟨.rslc a rows.length cap,by simp only [valOf];rw [if_pos hcap],?_⟩
  simp only [FzC,D.rows]
  refine ⟨⟨_,rfl,hl⟩,.inr (.inr ⟨a,cap,rfl,hpos,hcap,fun i hi=>?_⟩)⟩
  obtain ⟨cs,c1,c2⟩:=hrow i rows[i] (zI hi)
  have hg:=hr rows[i] (xQ hi)
  refine FzR.of _ _ _ _ fun j k hk=>?_
  have hj:j < ks.length:=(xA.1 hk).1
  obtain ⟨v,e1,e2⟩:=rdL_fz (g:=g) (B:=B) ks rows[i] cs c2 hg j k hk
  refine ⟨v,?_,?_⟩
  ·simp only [roOf,zO,c1 j hj]
   revert e1
   cases cs[j]? with
   |none=>intro e1;cases e1
   |some u=>intro e1;exact e1
  have:gt rows i (0+j)=rows[i].getD j .nil:=by simp [gt,zE,hi]
  rw [this];exact e2
theorem rdL_fz {g:Nat->Option O} {B:Nat}:∀(ks:List Kd) (l:List D) (cs:List Value),RdL w ks l cs->RngL ks l->∀j k,ks[j]?=some k->∃v,(cs[j]?).bind valOf=some v/\FzC (roOf w) g B k (l.getD j .nil) v
 |[],_,_,_,_,j,k,hk=>by simp at hk
 |k0 :: ks,d :: l,c :: cs,h,hr,0,k,hk=>by
  simp only [RdL] at h
  simp only [RngL] at hr
  simp only [zK,zA] at hk
  subst hk
  obtain ⟨v,a,b⟩:=rdK_fz (g:=g) (B:=B) k0 d c h.1 hr.1
  exact ⟨v,by simpa using a,by simpa using b⟩
 |k0 :: ks,d :: l,c :: cs,h,hr,j+1,k,hk=>by
  simp only [RdL] at h
  simp only [RngL] at hr
  obtain ⟨v,a,b⟩:=rdL_fz (g:=g) (B:=B) ks l cs h.2 hr.2 j k (by simpa using hk)
  exact ⟨v,by simpa using a,by simpa using b⟩
 |_ :: _,[],_,h,_,_,_,_=>by simp [RdL] at h
 |_ :: _,_ :: _,[],h,_,_,_,_=>by simp [RdL] at h
end
theorem rdL_vals {g:Nat->Option O} {B:Nat} {J:Nm} {n:Nat}:∀(ks:List Kd) (l:List D) (cs:List Value),RdL w ks l cs->RngL ks l->
  ∃x:List V,x.length=ks.length/\(∀j k,ks[j]?=some k->∃u,x[j]?=some u/\FzC (roOf w) g B k (l.getD j .nil) u)/\RvL J n x cs
 |[],[],[],_,_=>⟨[],rfl,fun j k h=>by simp at h,by simp [RvL]⟩
 |k :: ks,d :: l,c :: cs,h,hr=>by
  simp only [RdL] at h
  simp only [RngL] at hr
  obtain ⟨v,a,b⟩:=rdK_fz (g:=g) (B:=B) k d c h.1 hr.1
  obtain ⟨x,e1,e2,e3⟩:=rdL_vals (g:=g) (B:=B) (J:=J) (n:=n) ks l cs h.2 hr.2
  refine ⟨v :: x,by simp [e1],fun j k' hk=>?_,by simp only [RvL];exact ⟨(valOf_rv a).2 J n,e3⟩⟩
  cases j with
  |zero=>
   simp only [zK,zA] at hk
   subst hk
   exact ⟨v,rfl,by simpa using b⟩
  |succ j=>simpa using e2 j k' (by simpa using hk)
 |[],[],_ :: _,h,_=>by simp [RdL] at h
 |[],_ :: _,_,h,_=>by simp [RdL] at h
 |_ :: _,[],_,h,_=>by simp [RdL] at h
 |_ :: _,_ :: _,[],h,_=>by simp [RdL] at h
def descAll (P:Program) (n:Nat):List TypeId->Option (List (Bool×List Kd))
 |[]=>some []
 |t :: r=>match desc P n t,descAll P n r with
  |some ks,some l=>some ((HB.isAgg P t,ks) :: l)
  |_,_=>none
def RngAll:List (Bool×List Kd)->List (List D)->Prop
 |(_,ks) :: r,d :: ds=>RngL ks d/\RngAll r ds
 |_,_=>True
def trueRes (_:List (List D)) (_ _:Nat):D:=.b true
def ArgsRd (w:World):List (Bool×List Kd)->List (List D)->List Value->Prop
 |[],[],[]=>True
 |(g,ks) :: r,d :: ds,v :: vs=>(RdL w ks d v.cells.toList/\(g=true->v=.agg (v.cells.toList).toArray)/\(g=false->v.cells.toList=[v]))/\ArgsRd w r ds vs
 |_,_,_=>False
theorem args_fz {g:Nat->Option O} {B:Nat} {J:Nm} {n:Nat}:∀(ps:List (Bool×List Kd)) (ds:List (List D)) (vs:List Value),ArgsRd w ps ds vs->RngAll ps ds->∃x:List V,ArgsFz (roOf w) g B ps ds x/\RvL J n x vs
 |[],[],[],_,_=>⟨[],trivial,by simp [RvL]⟩
 |(a,ks) :: ps,d :: ds,v :: vs,h,hr=>by
  obtain ⟨⟨h1,h2,h3⟩,h4⟩:=h
  obtain ⟨x,e1,e2,e3⟩:=rdL_vals (g:=g) (B:=B) (J:=J) (n:=n) ks d _ h1 hr.1
  obtain ⟨xs,f1,f2⟩:=args_fz (g:=g) (B:=B) (J:=J) (n:=n) ps ds vs h4 hr.2
  cases a with
  |true=>exact ⟨.agg x :: xs,⟨h1.len.1,⟨x,e1,e2,rfl⟩,f1⟩,by simp only [RvL,Rv];exact ⟨⟨_,e3,h2 rfl⟩,f2⟩⟩
  |false=>
   rw [h3 rfl] at e3
   match x,e3 with
   |[y],e3=>
    simp only [RvL,and_true] at e3
    exact ⟨y :: xs,⟨h1.len.1,⟨[y],e1,e2,y,rfl,rfl⟩,f1⟩,by simp only [RvL];exact ⟨e3,f2⟩⟩
   |[],e3=>simp [RvL] at e3
   |_ :: _ :: _,e3=>simp [RvL] at e3
 |[],[],_ :: _,h,_=>h.elim
 |[],_ :: _,_,h,_=>h.elim
 |_ :: _,[],_,h,_=>h.elim
 |_ :: _,_ :: _,[],h,_=>h.elim
theorem shape_of {r:Reach} {n:Nat} {t:TypeId} {ks:List Kd} {v:Value} (hd:desc P n t=some ks) (h:Value.okWide P w r base t v) :
  (HB.isAgg P t=true->v=.agg (v.cells.toList).toArray)/\(HB.isAgg P t=false->v.cells.toList=[v]):=by
 cases n with
 |zero=>simp [desc] at hd
 |succ n=>
  unfold desc at hd
  unfold HB.isAgg
  split at hd
  next hu=>
   obtain ⟨b,rfl⟩:=okWide_bool hu h
   rw [hu]
   exact ⟨fun h=>(by cases h),fun _=>rfl⟩
  next k hu=>
   obtain ⟨z,rfl⟩:=okWide_int hu h
   rw [hu]
   exact ⟨fun h=>(by cases h),fun _=>rfl⟩
  next hu=>
   obtain ⟨z,rfl⟩:=okWide_string hu h
   rw [hu]
   exact ⟨fun h=>(by cases h),fun _=>rfl⟩
  next e hu=>
   obtain ⟨a,l,c,rfl⟩:=okWide_slice hu h
   rw [hu]
   exact ⟨fun h=>(by cases h),fun _=>rfl⟩
  next fs hu=>
   obtain ⟨cs,rfl,_⟩:=okWide_struct hu h
   rw [hu]
   exact ⟨fun _=>by simp [Value.cells],fun h=>by cases h⟩
  next m e hu=>
   have:∃cs,v=.agg cs:=by
    unfold Value.okWide at h
    rw [hu] at h
    obtain ⟨cs,hc,_⟩:=h
    exact ⟨cs,hc⟩
   obtain ⟨cs,rfl⟩:=this
   rw [hu]
   exact ⟨fun _=>by simp [Value.cells],fun h=>by cases h⟩
  cases hd
theorem args_read {r:Reach} {n:Nat}:∀(ts:List TypeId) (params:List (Bool×List Kd)) (vs:List Value) (ds:List (DataW H)) (ps:List MemPlace),descAll P n ts=some params->
  (∀(j:Nat) t v,ts[j]?=some t->vs[j]?=some v->Value.okWide P w r base t v)->DataW.TrodAll enc P w 0 spare held ts vs ds ps->
  ∃dss,ArgsRd w params dss vs/\RngAll params dss
 |[],params,vs,ds,ps,hd,_,h=>by
  simp only [descAll,zA] at hd
  subst hd
  obtain ⟨rfl,_,_⟩:=trodAll_nil h
  exact ⟨[],trivial,trivial⟩
 |t :: ts,params,vs,ds,ps,hd,hok,h=>by
  unfold descAll at hd
  split at hd
  next ks l hks hl=>
   simp only [zA] at hd
   subst hd
   cases vs with
   |nil=>simp [DataW.TrodAll] at h
   |cons v vs=>
    cases ds with
    |nil=>simp [DataW.TrodAll] at h
    |cons d ds=>
     obtain ⟨p,q,⟨m,hm⟩,h2,_⟩:=h
     obtain ⟨f,g1,g2⟩:=holds_of_trod n t ks hks m _ _ hm
     obtain ⟨dss,i1,i2⟩:=args_read ts l vs ds q hl (fun j t' v' ht hv=>hok (j+1) t' v' (by simpa using ht) (by simpa using hv)) h2
     obtain ⟨s1,s2⟩:=shape_of hks (hok 0 t v (by simp) (by simp))
     exact ⟨f :: dss,⟨⟨g1,s1,s2⟩,i1⟩,g2,i2⟩
  cases hd
end
section
variable {H:Type} {enc:TypeId×Value->H} {P:Program}
theorem said {fnum:FuncId} {f:Func} {s:ChangeSpec} {fresh handsOn again:Bool} {n:Nat} {params:List (Bool×List Kd)} {tb:TypeId}
  (hE:∀ro,CX.EnvOk (cxE ro) P) (hpure:∀ro,PureC0 (cxE ro) fnum ⟨params,[(false,[.bool])],false⟩ (RngAll params) trueRes) (hd:descAll P n f.params.toList=some params) (hl:laidOutB P=true)
  (hr:(f.params.toList.all fun t=>P.readableRec t && decide (t < P.types.size))=true) (hres:f.resultTypes=#[tb]) (hb:P.underlying tb=some .bool)
  (hs:∀ds:List (DataW H),ds.length=f.params.toList.length->s.fn H ds=⟨[.lit (.bool true)],ds,[]⟩) (hv:s.vars=[]) {apart:Bool} (W:World) (base:Nat) (args:Array Value) (ds gs:List (DataW H)) (before:List MemPlace)
  (hval:∀(j:Nat) t v,f.params[j]?=some t->args[j]?=some v->Value.okWide P W .any base t v) (hW:DataW.Whole enc P f.params.toList s.vars apart W args.toList ds gs before) :
  Calls P fnum args W fun e W'=>∃v,e=.returned v/\s.post enc P f apart fresh handsOn again W args v W':=by
 have hW':=hW
 obtain ⟨p,q,hA,hV,rfl,_,_⟩:=hW
 rw [hv] at hV
 obtain ⟨rfl,rfl⟩:=trodVars_none hV
 obtain ⟨dss,h1,h2⟩:=args_read (r:=.any) (base:=base) f.params.toList params args.toList ds p hd (fun j t v ht hv=>hval j t v (by simpa using ht) (by simpa using hv)) hA
 have hlen:=(trodAll_length hA).2
 have hfn:s.fn H (ds++[])=⟨[.lit (.bool true)],ds,[]⟩:=by rw [qN];exact hs ds hlen
 obtain ⟨xs,x1,x2⟩:=args_fz (g:=fun _=>none) (B:=0) (J:=fun _=>none) (n:=0) params dss args.toList h1 h2
 obtain ⟨vs,h',nx',g',⟨n0,hrun⟩,hresF⟩:=hpure (roOf W) dss h2 xs x1
 have hvs:vs=[.bool true]:=by
  match vs,hresF with
  |[v],hresF=>
   obtain ⟨⟨x,_,e2,u,rfl,rfl⟩,_⟩:=hresF
   obtain ⟨u,e3,e4⟩:=e2 0 .bool rfl
   simp only [zK,zA] at e3
   subst e3
   simp only [FzC] at e4
   rw [e4.2];rfl
  |[],hresF=>simp [ResFz] at hresF
  |_ :: _ :: _,hresF=>simp [ResFz] at hresF
 subst hvs
 have hcall:=call_ro (hE (roOf W)) (w:=W) (roOf_ok W) x2 (hrun n0 (zB _) retV)
 rw [show args.toList.toArray=args by simp] at hcall
 refine hcall.mono fun e W' h=>?_
 obtain ⟨u,J,m,rfl,hu,hk⟩:=h
 simp only [CX.one,Rv] at hu
 subst hu
 have hlt:=hW'.lt
 simp only [qN] at hW' hlt
 refine ⟨_,rfl,CX.post_kept (pa:=p) (pv:=[]) hW' (fun b sp hd=>?_) (fun sp hsp=>?_) (fun sp _=>?_) (by simp) hk (ok_one hres rfl (okWide_bool_mk hb _))⟩
 ·rw [hfn,hres]
  exact trodAll_mk1 (shut_bool hb _)
 ·rw [hfn]
  exact HB.args_stay hl hr hA (fun x hx=>HB.Kept_same hk (hlt x hx)) (fun x hx=>hsp x hx)
 rw [hfn,hv]
 rfl
end
end HX

namespace HX
open Go Go.Proofs
theorem own:ownKnob Try.prog.godebug=none:=by kernel_rfl
theorem laid:laidOutB Try.prog=true:=by kernel_rfl
end HX

namespace HX
open Go Go.Proofs CX
inductive Ctrs (E:CX.Env):List Ctr->Prop
 |nil:Ctrs E []
 |cons {c:Ctr} {l:List Ctr} (h:PureC E c.f c.sg c.pre c.res) (r:Ctrs E l):Ctrs E (c :: l)
theorem Ctrs.find {E:CX.Env}:∀{l:List Ctr},Ctrs E l->∀{f:Nat} {sg:Sig},sigL (sigs l) f=some sg->PureC E f sg (preOf l f) (resOf l f)
 |[],_,f,sg,h=>by simp [sigL,sigs,look] at h
 |c :: l,.cons h1 h2,f,sg,h=>by
  simp only [sigL,sigs,kI] at h
  rw [look_cons] at h
  split at h
  next e=>
   simp only [zA] at h
   subst e h
   have e1:preOf (c :: l) c.f=c.pre:=by funext ds;simp [preOf,ctrOf]
   have e2:resOf (c :: l) c.f=c.res:=by funext ds;simp [resOf,ctrOf]
   rw [e1,e2];exact h1
  rename_i e
  have e1:preOf (c :: l) f=preOf l f:=by funext ds;simp [preOf,ctrOf,e]
  have e2:resOf (c :: l) f=resOf l f:=by funext ds;simp [resOf,ctrOf,e]
  rw [e1,e2]
  exact h2.find h
end HX

namespace HX
open Go Go.Proofs CX
theorem envL {ro:Addr->Option V} {l:List Ctr} (h:Ctrs (cxE ro) l):EnvOk ⟨Ar.std,cxE ro,ksF,sigL (sigs l),preOf l,resOf l⟩:=hxEnv fun _ _ hs=>h.find hs
end HX

namespace HX
open Go Go.Proofs CX
theorem wr64 {n:Nat} (h:n < 9223372036854775808):IntKind.wrap .i64 (n:Int)=(n:Int):=wrap_in rfl ⟨by show -9223372036854775808<=(n:Int);omega,by show (n:Int)<=9223372036854775807;omega⟩
theorem ofN {n:Nat} (h:n < 18446744073709551616):(BitVec.ofInt 64 (n:Int)).toNat=n:=by
 rw [BitVec.toNat_ofInt]
 show (((n:Nat):Int) % ((18446744073709551616:Nat):Int)).toNat=n
 rw [<-Int.natCast_emod,qM,Nat.mod_eq_of_lt h]
theorem and_nat {a b:Nat} (ha:a < 9223372036854775808) (hb:b < 9223372036854775808):bitX .and .i64 (a:Int) (b:Int)=((a &&& b:Nat):Int):=by
 show IntKind.wrap .i64 ((BitVec.ofInt 64 (a:Int) &&& BitVec.ofInt 64 (b:Int)).toNat:Int)=_
 rw [BitVec.toNat_and,ofN (by omega),ofN (by omega),wr64 (Nat.lt_of_le_of_lt Nat.and_le_left ha)]
theorem xor_nat {a b:Nat} (ha:a < 65536) (hb:b < 65536):bitX .xor .i64 (a:Int) (b:Int)=((a ^^^ b:Nat):Int):=by
 show IntKind.wrap .i64 ((BitVec.ofInt 64 (a:Int) ^^^ BitVec.ofInt 64 (b:Int)).toNat:Int)=_
 have:=Nat.xor_lt_two_pow (n:=16) (x:=a) (y:=b) ha hb
 rw [BitVec.toNat_xor,ofN (by omega),ofN (by omega),wr64 (by omega)]
theorem andNot_eq (a b:Int):bitX .andNot .i64 a b=IntKind.wrap .i64 ((BitVec.ofInt 64 a &&& ~~~ BitVec.ofInt 64 b).toNat:Int):=rfl
theorem andNot_bv (x y:BitVec 64):(x &&& ~~~ y).toNat<=x.toNat/\((x &&& ~~~ y)=0#64↔x &&& y=x):=by
 refine ⟨by rw [BitVec.toNat_and];exact Nat.and_le_left,fun h=>?_,fun h=>?_⟩
 ·refine BitVec.eq_of_getLsbD_eq fun i hi=>?_
  have:=congrArg (fun z:BitVec 64=>z.getLsbD i) h
  simp only [BitVec.getLsbD_and,BitVec.getLsbD_not,hi,decide_true,Bool.true_and,BitVec.getLsbD_zero] at this
  rw [BitVec.getLsbD_and]
  revert this
  cases x.getLsbD i<;>cases y.getLsbD i<;>simp
 refine BitVec.eq_of_getLsbD_eq fun i hi=>?_
 have:=congrArg (fun z:BitVec 64=>z.getLsbD i) h
 simp only [BitVec.getLsbD_and] at this
 simp only [BitVec.getLsbD_and,BitVec.getLsbD_not,hi,decide_true,Bool.true_and,BitVec.getLsbD_zero]
 revert this
 cases x.getLsbD i<;>cases y.getLsbD i<;>simp
theorem andNot_nat {a b:Nat} (ha:a < 9223372036854775808) (hb:b < 9223372036854775808):0<=bitX .andNot .i64 (a:Int) (b:Int)/\bitX .andNot .i64 (a:Int) (b:Int)<=(a:Int)/\(bitX .andNot .i64 (a:Int) (b:Int)=0↔a &&& b=a):=by
 obtain ⟨h1,h2⟩:=andNot_bv (BitVec.ofInt 64 (a:Int)) (BitVec.ofInt 64 (b:Int))
 rw [ofN (by omega)] at h1
 rw [andNot_eq,wr64 (by omega)]
 refine ⟨by omega,by omega,fun h=>?_,fun h=>?_⟩
 ·have e:(BitVec.ofInt 64 (a:Int) &&& ~~~ BitVec.ofInt 64 (b:Int))=0#64:=BitVec.eq_of_toNat_eq (by simpa using h)
  have:=congrArg BitVec.toNat (h2.1 e)
  rw [BitVec.toNat_and,ofN (by omega),ofN (by omega)] at this
  exact this
 have e:=h2.2 (BitVec.eq_of_toNat_eq (by rw [BitVec.toNat_and,ofN (by omega),ofN (by omega)];exact h))
 rw [e];rfl
def pop1 (x:Nat):Nat:=((x >>> 1) &&& 6148914691236517205)+(x &&& 6148914691236517205)
def pop2 (x:Nat):Nat:=((x >>> 2) &&& 3689348814741910323)+(x &&& 3689348814741910323)
def pop3 (x:Nat):Nat:=((x >>> 4)+x) &&& 1085102592571150095
def pop4 (x:Nat):Nat:=x+(x >>> 8)
def pop5 (x:Nat):Nat:=x+(x >>> 16)
def pop6 (x:Nat):Nat:=x+(x >>> 32)
def popN (x:Nat):Nat:=pop6 (pop5 (pop4 (pop3 (pop2 (pop1 x))))) &&& 127
def one16' (d:Nat):Bool:=Nat.beq d 1 || (Nat.beq d 2 || (Nat.beq d 4 || (Nat.beq d 8 || (Nat.beq d 16 || (Nat.beq d 32 || (Nat.beq d 64 || (Nat.beq d 128 || (Nat.beq d 256 || (Nat.beq d 512 || (Nat.beq d 1024 || (Nat.beq d 2048 || (Nat.beq d 4096 || (Nat.beq d 8192 || (Nat.beq d 16384 || Nat.beq d 32768))))))))))))))
def chk1 (d:Nat):Bool:=match Nat.beq (popN d) 1,one16' d with
 |true,true=>Nat.beq (Nat.land d (Nat.sub d 1)) 0
 |false,false=>match d with
  |0=>true
  |_=>match Nat.beq (Nat.land d (Nat.sub d 1)) 0 with
   |true=>false
   |false=>true
 |_,_=>false
def chkR:Nat->Nat->Bool
 |0,b=>chk1 b
 |n+1,b=>match chkR n b with
  |true=>chkR n (Nat.add b (Nat.pow 2 n))
  |false=>false
theorem chk_all:chkR 16 0=true:=by kernel_rfl
theorem chkR_ok:∀(n b:Nat),chkR n b=true->∀d,b<=d->d < b+2 ^ n->chk1 d=true
 |0,b,h,d,h1,h2=>by
  have:d=b:=by simp at h2;omega
  subst this;exact h
 |n+1,b,h,d,h1,h2=>by
  simp only [chkR] at h
  split at h
  next h0=>
   by_cases c:d < b+2 ^ n
   ·exact chkR_ok n b h0 d h1 c
   refine chkR_ok n _ h d (by show b+2 ^ n<=d;omega) ?_
   show d < b+2 ^ n+2 ^ n
   rw [Nat.pow_succ] at h2;omega
  cases h
theorem pop_one {d:Nat} (h:d < 65536):(popN d=1↔one16' d=true)/\(d≠0->(d &&& (d - 1)=0↔one16' d=true)):=by
 have hc:=chkR_ok 16 0 chk_all d (kG _) (by simpa using h)
 unfold chk1 at hc
 split at hc
 next h1 h2=>
  have h3:=zG hc
  refine ⟨⟨fun _=>h2,fun _=>zG h1⟩,fun _=>⟨fun _=>h2,fun _=>h3⟩⟩
 next h1 h2=>
  refine ⟨⟨fun h=>?_,fun h=>by rw [h2] at h;cases h⟩,fun h0=>⟨fun h=>?_,fun h=>by rw [h2] at h;cases h⟩⟩
  ·exact absurd h (Nat.ne_of_beq_eq_false h1)
  split at hc
  ·exact absurd rfl h0
  split at hc
  ·cases hc
  rename_i h4
  exact absurd h (Nat.ne_of_beq_eq_false h4)
 cases hc
end HX

namespace HX
open Go Go.Proofs CX
structure V31 (a0:Rows) (a1:Int) (R:Nat->Nat->D) (I0:Int->Int->Prop) (m0:Int->Int->Nat):Prop where
 i0:I0 0 0
 g1:∀x0_0 x0_1,I0 x0_0 x0_1->(x0_1 < (a0.length:Int))->0<=x0_1
 g2:∀x0_0 x0_1,I0 x0_0 x0_1->(x0_1 < (a0.length:Int))->x0_1 < (a0.length:Int)
 g3:∀x0_0 x0_1,I0 x0_0 x0_1->(x0_1 < (a0.length:Int))->(((Int.toNat x0_1:Nat):Int)) < (a0.length:Int)
 g4:∀x0_0 x0_1,I0 x0_0 x0_1->(x0_1 < (a0.length:Int))->((Ar.std.bit BinOp.and IntKind.i64 a1 (D.int (gt a0 x0_1.toNat 1)))=(D.int (gt a0 x0_1.toNat 0)))->(x0_1 < 0)->R 0 0=D.i 0
 g5:∀x0_0 x0_1,I0 x0_0 x0_1->(x0_1 < (a0.length:Int))->((Ar.std.bit BinOp.and IntKind.i64 a1 (D.int (gt a0 x0_1.toNat 1)))=(D.int (gt a0 x0_1.toNat 0)))->(x0_1 < 0)->R 1 0=D.b false
 g6:∀x0_0 x0_1,I0 x0_0 x0_1->(x0_1 < (a0.length:Int))->((Ar.std.bit BinOp.and IntKind.i64 a1 (D.int (gt a0 x0_1.toNat 1)))=(D.int (gt a0 x0_1.toNat 0)))->(¬x0_1 < 0)->0<=x0_1
 g7:∀x0_0 x0_1,I0 x0_0 x0_1->(x0_1 < (a0.length:Int))->((Ar.std.bit BinOp.and IntKind.i64 a1 (D.int (gt a0 x0_1.toNat 1)))=(D.int (gt a0 x0_1.toNat 0)))->(¬x0_1 < 0)->x0_1 < (a0.length:Int)
 g8:∀x0_0 x0_1,I0 x0_0 x0_1->(x0_1 < (a0.length:Int))->((Ar.std.bit BinOp.and IntKind.i64 a1 (D.int (gt a0 x0_1.toNat 1)))=(D.int (gt a0 x0_1.toNat 0)))->(¬x0_1 < 0)->(((Int.toNat x0_1:Nat):Int)) < (a0.length:Int)
 g9:∀x0_0 x0_1,I0 x0_0 x0_1->(x0_1 < (a0.length:Int))->((Ar.std.bit BinOp.and IntKind.i64 a1 (D.int (gt a0 x0_1.toNat 1)))=(D.int (gt a0 x0_1.toNat 0)))->(¬x0_1 < 0)->R 0 0=D.i (D.int (gt a0 x0_1.toNat 2))
 g10:∀x0_0 x0_1,I0 x0_0 x0_1->(x0_1 < (a0.length:Int))->((Ar.std.bit BinOp.and IntKind.i64 a1 (D.int (gt a0 x0_1.toNat 1)))=(D.int (gt a0 x0_1.toNat 0)))->(¬x0_1 < 0)->R 1 0=D.b true
 g11:∀x0_0 x0_1,I0 x0_0 x0_1->(x0_1 < (a0.length:Int))->(¬(Ar.std.bit BinOp.and IntKind.i64 a1 (D.int (gt a0 x0_1.toNat 1)))=(D.int (gt a0 x0_1.toNat 0)))->-9223372036854775808<=(x0_1+1)/\(x0_1+1)<=9223372036854775807
 n12:∀x0_0 x0_1,I0 x0_0 x0_1->(x0_1 < (a0.length:Int))->(¬(Ar.std.bit BinOp.and IntKind.i64 a1 (D.int (gt a0 x0_1.toNat 1)))=(D.int (gt a0 x0_1.toNat 0)))->I0 x0_0 (x0_1+1)/\m0 x0_0 (x0_1+1) < m0 x0_0 x0_1
 g13:∀x0_0 x0_1,I0 x0_0 x0_1->(¬x0_1 < (a0.length:Int))->R 0 0=D.i 0
 g14:∀x0_0 x0_1,I0 x0_0 x0_1->(¬x0_1 < (a0.length:Int))->R 1 0=D.b false
end HX

namespace HX
open Go Go.Proofs CX
end HX

namespace HX
open Go Go.Proofs CX
end HX

namespace HX
open Go Go.Proofs CX
structure V113 (a0:Int) (R:Nat->Nat->D)  : Prop where
 g0:(0:Int)<=1
 g1:(0:Int)<=2
 g2:(0:Int)<=4
 g3:(0:Int)<=8
 g4:(0:Int)<=16
 g5:(0:Int)<=32
 g6:-9223372036854775808<=(Ar.std.wrap IntKind.u64 ((Ar.std.wrap IntKind.u64 ((Ar.std.wrap IntKind.u64 ((Ar.std.bit BinOp.and IntKind.u64 (Ar.std.wrap IntKind.u64 ((Ar.std.shr IntKind.u64 (Ar.std.wrap IntKind.u64 ((Ar.std.bit BinOp.and IntKind.u64 (Ar.std.shr IntKind.u64 (Ar.std.wrap IntKind.u64 ((Ar.std.bit BinOp.and IntKind.u64 (Ar.std.shr IntKind.u64 a0 1) 6148914691236517205)+(Ar.std.bit BinOp.and IntKind.u64 a0 6148914691236517205))) 2) 3689348814741910323)+(Ar.std.bit BinOp.and IntKind.u64 (Ar.std.wrap IntKind.u64 ((Ar.std.bit BinOp.and IntKind.u64 (Ar.std.shr IntKind.u64 a0 1) 6148914691236517205)+(Ar.std.bit BinOp.and IntKind.u64 a0 6148914691236517205))) 3689348814741910323))) 4)+(Ar.std.wrap IntKind.u64 ((Ar.std.bit BinOp.and IntKind.u64 (Ar.std.shr IntKind.u64 (Ar.std.wrap IntKind.u64 ((Ar.std.bit BinOp.and IntKind.u64 (Ar.std.shr IntKind.u64 a0 1) 6148914691236517205)+(Ar.std.bit BinOp.and IntKind.u64 a0 6148914691236517205))) 2) 3689348814741910323)+(Ar.std.bit BinOp.and IntKind.u64 (Ar.std.wrap IntKind.u64 ((Ar.std.bit BinOp.and IntKind.u64 (Ar.std.shr IntKind.u64 a0 1) 6148914691236517205)+(Ar.std.bit BinOp.and IntKind.u64 a0 6148914691236517205))) 3689348814741910323))))) 1085102592571150095)+(Ar.std.shr IntKind.u64 (Ar.std.bit BinOp.and IntKind.u64 (Ar.std.wrap IntKind.u64 ((Ar.std.shr IntKind.u64 (Ar.std.wrap IntKind.u64 ((Ar.std.bit BinOp.and IntKind.u64 (Ar.std.shr IntKind.u64 (Ar.std.wrap IntKind.u64 ((Ar.std.bit BinOp.and IntKind.u64 (Ar.std.shr IntKind.u64 a0 1) 6148914691236517205)+(Ar.std.bit BinOp.and IntKind.u64 a0 6148914691236517205))) 2) 3689348814741910323)+(Ar.std.bit BinOp.and IntKind.u64 (Ar.std.wrap IntKind.u64 ((Ar.std.bit BinOp.and IntKind.u64 (Ar.std.shr IntKind.u64 a0 1) 6148914691236517205)+(Ar.std.bit BinOp.and IntKind.u64 a0 6148914691236517205))) 3689348814741910323))) 4)+(Ar.std.wrap IntKind.u64 ((Ar.std.bit BinOp.and IntKind.u64 (Ar.std.shr IntKind.u64 (Ar.std.wrap IntKind.u64 ((Ar.std.bit BinOp.and IntKind.u64 (Ar.std.shr IntKind.u64 a0 1) 6148914691236517205)+(Ar.std.bit BinOp.and IntKind.u64 a0 6148914691236517205))) 2) 3689348814741910323)+(Ar.std.bit BinOp.and IntKind.u64 (Ar.std.wrap IntKind.u64 ((Ar.std.bit BinOp.and IntKind.u64 (Ar.std.shr IntKind.u64 a0 1) 6148914691236517205)+(Ar.std.bit BinOp.and IntKind.u64 a0 6148914691236517205))) 3689348814741910323))))) 1085102592571150095) 8)))+(Ar.std.shr IntKind.u64 (Ar.std.wrap IntKind.u64 ((Ar.std.bit BinOp.and IntKind.u64 (Ar.std.wrap IntKind.u64 ((Ar.std.shr IntKind.u64 (Ar.std.wrap IntKind.u64 ((Ar.std.bit BinOp.and IntKind.u64 (Ar.std.shr IntKind.u64 (Ar.std.wrap IntKind.u64 ((Ar.std.bit BinOp.and IntKind.u64 (Ar.std.shr IntKind.u64 a0 1) 6148914691236517205)+(Ar.std.bit BinOp.and IntKind.u64 a0 6148914691236517205))) 2) 3689348814741910323)+(Ar.std.bit BinOp.and IntKind.u64 (Ar.std.wrap IntKind.u64 ((Ar.std.bit BinOp.and IntKind.u64 (Ar.std.shr IntKind.u64 a0 1) 6148914691236517205)+(Ar.std.bit BinOp.and IntKind.u64 a0 6148914691236517205))) 3689348814741910323))) 4)+(Ar.std.wrap IntKind.u64 ((Ar.std.bit BinOp.and IntKind.u64 (Ar.std.shr IntKind.u64 (Ar.std.wrap IntKind.u64 ((Ar.std.bit BinOp.and IntKind.u64 (Ar.std.shr IntKind.u64 a0 1) 6148914691236517205)+(Ar.std.bit BinOp.and IntKind.u64 a0 6148914691236517205))) 2) 3689348814741910323)+(Ar.std.bit BinOp.and IntKind.u64 (Ar.std.wrap IntKind.u64 ((Ar.std.bit BinOp.and IntKind.u64 (Ar.std.shr IntKind.u64 a0 1) 6148914691236517205)+(Ar.std.bit BinOp.and IntKind.u64 a0 6148914691236517205))) 3689348814741910323))))) 1085102592571150095)+(Ar.std.shr IntKind.u64 (Ar.std.bit BinOp.and IntKind.u64 (Ar.std.wrap IntKind.u64 ((Ar.std.shr IntKind.u64 (Ar.std.wrap IntKind.u64 ((Ar.std.bit BinOp.and IntKind.u64 (Ar.std.shr IntKind.u64 (Ar.std.wrap IntKind.u64 ((Ar.std.bit BinOp.and IntKind.u64 (Ar.std.shr IntKind.u64 a0 1) 6148914691236517205)+(Ar.std.bit BinOp.and IntKind.u64 a0 6148914691236517205))) 2) 3689348814741910323)+(Ar.std.bit BinOp.and IntKind.u64 (Ar.std.wrap IntKind.u64 ((Ar.std.bit BinOp.and IntKind.u64 (Ar.std.shr IntKind.u64 a0 1) 6148914691236517205)+(Ar.std.bit BinOp.and IntKind.u64 a0 6148914691236517205))) 3689348814741910323))) 4)+(Ar.std.wrap IntKind.u64 ((Ar.std.bit BinOp.and IntKind.u64 (Ar.std.shr IntKind.u64 (Ar.std.wrap IntKind.u64 ((Ar.std.bit BinOp.and IntKind.u64 (Ar.std.shr IntKind.u64 a0 1) 6148914691236517205)+(Ar.std.bit BinOp.and IntKind.u64 a0 6148914691236517205))) 2) 3689348814741910323)+(Ar.std.bit BinOp.and IntKind.u64 (Ar.std.wrap IntKind.u64 ((Ar.std.bit BinOp.and IntKind.u64 (Ar.std.shr IntKind.u64 a0 1) 6148914691236517205)+(Ar.std.bit BinOp.and IntKind.u64 a0 6148914691236517205))) 3689348814741910323))))) 1085102592571150095) 8))) 16)))+(Ar.std.shr IntKind.u64 (Ar.std.wrap IntKind.u64 ((Ar.std.wrap IntKind.u64 ((Ar.std.bit BinOp.and IntKind.u64 (Ar.std.wrap IntKind.u64 ((Ar.std.shr IntKind.u64 (Ar.std.wrap IntKind.u64 ((Ar.std.bit BinOp.and IntKind.u64 (Ar.std.shr IntKind.u64 (Ar.std.wrap IntKind.u64 ((Ar.std.bit BinOp.and IntKind.u64 (Ar.std.shr IntKind.u64 a0 1) 6148914691236517205)+(Ar.std.bit BinOp.and IntKind.u64 a0 6148914691236517205))) 2) 3689348814741910323)+(Ar.std.bit BinOp.and IntKind.u64 (Ar.std.wrap IntKind.u64 ((Ar.std.bit BinOp.and IntKind.u64 (Ar.std.shr IntKind.u64 a0 1) 6148914691236517205)+(Ar.std.bit BinOp.and IntKind.u64 a0 6148914691236517205))) 3689348814741910323))) 4)+(Ar.std.wrap IntKind.u64 ((Ar.std.bit BinOp.and IntKind.u64 (Ar.std.shr IntKind.u64 (Ar.std.wrap IntKind.u64 ((Ar.std.bit BinOp.and IntKind.u64 (Ar.std.shr IntKind.u64 a0 1) 6148914691236517205)+(Ar.std.bit BinOp.and IntKind.u64 a0 6148914691236517205))) 2) 3689348814741910323)+(Ar.std.bit BinOp.and IntKind.u64 (Ar.std.wrap IntKind.u64 ((Ar.std.bit BinOp.and IntKind.u64 (Ar.std.shr IntKind.u64 a0 1) 6148914691236517205)+(Ar.std.bit BinOp.and IntKind.u64 a0 6148914691236517205))) 3689348814741910323))))) 1085102592571150095)+(Ar.std.shr IntKind.u64 (Ar.std.bit BinOp.and IntKind.u64 (Ar.std.wrap IntKind.u64 ((Ar.std.shr IntKind.u64 (Ar.std.wrap IntKind.u64 ((Ar.std.bit BinOp.and IntKind.u64 (Ar.std.shr IntKind.u64 (Ar.std.wrap IntKind.u64 ((Ar.std.bit BinOp.and IntKind.u64 (Ar.std.shr IntKind.u64 a0 1) 6148914691236517205)+(Ar.std.bit BinOp.and IntKind.u64 a0 6148914691236517205))) 2) 3689348814741910323)+(Ar.std.bit BinOp.and IntKind.u64 (Ar.std.wrap IntKind.u64 ((Ar.std.bit BinOp.and IntKind.u64 (Ar.std.shr IntKind.u64 a0 1) 6148914691236517205)+(Ar.std.bit BinOp.and IntKind.u64 a0 6148914691236517205))) 3689348814741910323))) 4)+(Ar.std.wrap IntKind.u64 ((Ar.std.bit BinOp.and IntKind.u64 (Ar.std.shr IntKind.u64 (Ar.std.wrap IntKind.u64 ((Ar.std.bit BinOp.and IntKind.u64 (Ar.std.shr IntKind.u64 a0 1) 6148914691236517205)+(Ar.std.bit BinOp.and IntKind.u64 a0 6148914691236517205))) 2) 3689348814741910323)+(Ar.std.bit BinOp.and IntKind.u64 (Ar.std.wrap IntKind.u64 ((Ar.std.bit BinOp.and IntKind.u64 (Ar.std.shr IntKind.u64 a0 1) 6148914691236517205)+(Ar.std.bit BinOp.and IntKind.u64 a0 6148914691236517205))) 3689348814741910323))))) 1085102592571150095) 8)))+(Ar.std.shr IntKind.u64 (Ar.std.wrap IntKind.u64 ((Ar.std.bit BinOp.and IntKind.u64 (Ar.std.wrap IntKind.u64 ((Ar.std.shr IntKind.u64 (Ar.std.wrap IntKind.u64 ((Ar.std.bit BinOp.and IntKind.u64 (Ar.std.shr IntKind.u64 (Ar.std.wrap IntKind.u64 ((Ar.std.bit BinOp.and IntKind.u64 (Ar.std.shr IntKind.u64 a0 1) 6148914691236517205)+(Ar.std.bit BinOp.and IntKind.u64 a0 6148914691236517205))) 2) 3689348814741910323)+(Ar.std.bit BinOp.and IntKind.u64 (Ar.std.wrap IntKind.u64 ((Ar.std.bit BinOp.and IntKind.u64 (Ar.std.shr IntKind.u64 a0 1) 6148914691236517205)+(Ar.std.bit BinOp.and IntKind.u64 a0 6148914691236517205))) 3689348814741910323))) 4)+(Ar.std.wrap IntKind.u64 ((Ar.std.bit BinOp.and IntKind.u64 (Ar.std.shr IntKind.u64 (Ar.std.wrap IntKind.u64 ((Ar.std.bit BinOp.and IntKind.u64 (Ar.std.shr IntKind.u64 a0 1) 6148914691236517205)+(Ar.std.bit BinOp.and IntKind.u64 a0 6148914691236517205))) 2) 3689348814741910323)+(Ar.std.bit BinOp.and IntKind.u64 (Ar.std.wrap IntKind.u64 ((Ar.std.bit BinOp.and IntKind.u64 (Ar.std.shr IntKind.u64 a0 1) 6148914691236517205)+(Ar.std.bit BinOp.and IntKind.u64 a0 6148914691236517205))) 3689348814741910323))))) 1085102592571150095)+(Ar.std.shr IntKind.u64 (Ar.std.bit BinOp.and IntKind.u64 (Ar.std.wrap IntKind.u64 ((Ar.std.shr IntKind.u64 (Ar.std.wrap IntKind.u64 ((Ar.std.bit BinOp.and IntKind.u64 (Ar.std.shr IntKind.u64 (Ar.std.wrap IntKind.u64 ((Ar.std.bit BinOp.and IntKind.u64 (Ar.std.shr IntKind.u64 a0 1) 6148914691236517205)+(Ar.std.bit BinOp.and IntKind.u64 a0 6148914691236517205))) 2) 3689348814741910323)+(Ar.std.bit BinOp.and IntKind.u64 (Ar.std.wrap IntKind.u64 ((Ar.std.bit BinOp.and IntKind.u64 (Ar.std.shr IntKind.u64 a0 1) 6148914691236517205)+(Ar.std.bit BinOp.and IntKind.u64 a0 6148914691236517205))) 3689348814741910323))) 4)+(Ar.std.wrap IntKind.u64 ((Ar.std.bit BinOp.and IntKind.u64 (Ar.std.shr IntKind.u64 (Ar.std.wrap IntKind.u64 ((Ar.std.bit BinOp.and IntKind.u64 (Ar.std.shr IntKind.u64 a0 1) 6148914691236517205)+(Ar.std.bit BinOp.and IntKind.u64 a0 6148914691236517205))) 2) 3689348814741910323)+(Ar.std.bit BinOp.and IntKind.u64 (Ar.std.wrap IntKind.u64 ((Ar.std.bit BinOp.and IntKind.u64 (Ar.std.shr IntKind.u64 a0 1) 6148914691236517205)+(Ar.std.bit BinOp.and IntKind.u64 a0 6148914691236517205))) 3689348814741910323))))) 1085102592571150095) 8))) 16))) 32)))/\(Ar.std.wrap IntKind.u64 ((Ar.std.wrap IntKind.u64 ((Ar.std.wrap IntKind.u64 ((Ar.std.bit BinOp.and IntKind.u64 (Ar.std.wrap IntKind.u64 ((Ar.std.shr IntKind.u64 (Ar.std.wrap IntKind.u64 ((Ar.std.bit BinOp.and IntKind.u64 (Ar.std.shr IntKind.u64 (Ar.std.wrap IntKind.u64 ((Ar.std.bit BinOp.and IntKind.u64 (Ar.std.shr IntKind.u64 a0 1) 6148914691236517205)+(Ar.std.bit BinOp.and IntKind.u64 a0 6148914691236517205))) 2) 3689348814741910323)+(Ar.std.bit BinOp.and IntKind.u64 (Ar.std.wrap IntKind.u64 ((Ar.std.bit BinOp.and IntKind.u64 (Ar.std.shr IntKind.u64 a0 1) 6148914691236517205)+(Ar.std.bit BinOp.and IntKind.u64 a0 6148914691236517205))) 3689348814741910323))) 4)+(Ar.std.wrap IntKind.u64 ((Ar.std.bit BinOp.and IntKind.u64 (Ar.std.shr IntKind.u64 (Ar.std.wrap IntKind.u64 ((Ar.std.bit BinOp.and IntKind.u64 (Ar.std.shr IntKind.u64 a0 1) 6148914691236517205)+(Ar.std.bit BinOp.and IntKind.u64 a0 6148914691236517205))) 2) 3689348814741910323)+(Ar.std.bit BinOp.and IntKind.u64 (Ar.std.wrap IntKind.u64 ((Ar.std.bit BinOp.and IntKind.u64 (Ar.std.shr IntKind.u64 a0 1) 6148914691236517205)+(Ar.std.bit BinOp.and IntKind.u64 a0 6148914691236517205))) 3689348814741910323))))) 1085102592571150095)+(Ar.std.shr IntKind.u64 (Ar.std.bit BinOp.and IntKind.u64 (Ar.std.wrap IntKind.u64 ((Ar.std.shr IntKind.u64 (Ar.std.wrap IntKind.u64 ((Ar.std.bit BinOp.and IntKind.u64 (Ar.std.shr IntKind.u64 (Ar.std.wrap IntKind.u64 ((Ar.std.bit BinOp.and IntKind.u64 (Ar.std.shr IntKind.u64 a0 1) 6148914691236517205)+(Ar.std.bit BinOp.and IntKind.u64 a0 6148914691236517205))) 2) 3689348814741910323)+(Ar.std.bit BinOp.and IntKind.u64 (Ar.std.wrap IntKind.u64 ((Ar.std.bit BinOp.and IntKind.u64 (Ar.std.shr IntKind.u64 a0 1) 6148914691236517205)+(Ar.std.bit BinOp.and IntKind.u64 a0 6148914691236517205))) 3689348814741910323))) 4)+(Ar.std.wrap IntKind.u64 ((Ar.std.bit BinOp.and IntKind.u64 (Ar.std.shr IntKind.u64 (Ar.std.wrap IntKind.u64 ((Ar.std.bit BinOp.and IntKind.u64 (Ar.std.shr IntKind.u64 a0 1) 6148914691236517205)+(Ar.std.bit BinOp.and IntKind.u64 a0 6148914691236517205))) 2) 3689348814741910323)+(Ar.std.bit BinOp.and IntKind.u64 (Ar.std.wrap IntKind.u64 ((Ar.std.bit BinOp.and IntKind.u64 (Ar.std.shr IntKind.u64 a0 1) 6148914691236517205)+(Ar.std.bit BinOp.and IntKind.u64 a0 6148914691236517205))) 3689348814741910323))))) 1085102592571150095) 8)))+(Ar.std.shr IntKind.u64 (Ar.std.wrap IntKind.u64 ((Ar.std.bit BinOp.and IntKind.u64 (Ar.std.wrap IntKind.u64 ((Ar.std.shr IntKind.u64 (Ar.std.wrap IntKind.u64 ((Ar.std.bit BinOp.and IntKind.u64 (Ar.std.shr IntKind.u64 (Ar.std.wrap IntKind.u64 ((Ar.std.bit BinOp.and IntKind.u64 (Ar.std.shr IntKind.u64 a0 1) 6148914691236517205)+(Ar.std.bit BinOp.and IntKind.u64 a0 6148914691236517205))) 2) 3689348814741910323)+(Ar.std.bit BinOp.and IntKind.u64 (Ar.std.wrap IntKind.u64 ((Ar.std.bit BinOp.and IntKind.u64 (Ar.std.shr IntKind.u64 a0 1) 6148914691236517205)+(Ar.std.bit BinOp.and IntKind.u64 a0 6148914691236517205))) 3689348814741910323))) 4)+(Ar.std.wrap IntKind.u64 ((Ar.std.bit BinOp.and IntKind.u64 (Ar.std.shr IntKind.u64 (Ar.std.wrap IntKind.u64 ((Ar.std.bit BinOp.and IntKind.u64 (Ar.std.shr IntKind.u64 a0 1) 6148914691236517205)+(Ar.std.bit BinOp.and IntKind.u64 a0 6148914691236517205))) 2) 3689348814741910323)+(Ar.std.bit BinOp.and IntKind.u64 (Ar.std.wrap IntKind.u64 ((Ar.std.bit BinOp.and IntKind.u64 (Ar.std.shr IntKind.u64 a0 1) 6148914691236517205)+(Ar.std.bit BinOp.and IntKind.u64 a0 6148914691236517205))) 3689348814741910323))))) 1085102592571150095)+(Ar.std.shr IntKind.u64 (Ar.std.bit BinOp.and IntKind.u64 (Ar.std.wrap IntKind.u64 ((Ar.std.shr IntKind.u64 (Ar.std.wrap IntKind.u64 ((Ar.std.bit BinOp.and IntKind.u64 (Ar.std.shr IntKind.u64 (Ar.std.wrap IntKind.u64 ((Ar.std.bit BinOp.and IntKind.u64 (Ar.std.shr IntKind.u64 a0 1) 6148914691236517205)+(Ar.std.bit BinOp.and IntKind.u64 a0 6148914691236517205))) 2) 3689348814741910323)+(Ar.std.bit BinOp.and IntKind.u64 (Ar.std.wrap IntKind.u64 ((Ar.std.bit BinOp.and IntKind.u64 (Ar.std.shr IntKind.u64 a0 1) 6148914691236517205)+(Ar.std.bit BinOp.and IntKind.u64 a0 6148914691236517205))) 3689348814741910323))) 4)+(Ar.std.wrap IntKind.u64 ((Ar.std.bit BinOp.and IntKind.u64 (Ar.std.shr IntKind.u64 (Ar.std.wrap IntKind.u64 ((Ar.std.bit BinOp.and IntKind.u64 (Ar.std.shr IntKind.u64 a0 1) 6148914691236517205)+(Ar.std.bit BinOp.and IntKind.u64 a0 6148914691236517205))) 2) 3689348814741910323)+(Ar.std.bit BinOp.and IntKind.u64 (Ar.std.wrap IntKind.u64 ((Ar.std.bit BinOp.and IntKind.u64 (Ar.std.shr IntKind.u64 a0 1) 6148914691236517205)+(Ar.std.bit BinOp.and IntKind.u64 a0 6148914691236517205))) 3689348814741910323))))) 1085102592571150095) 8))) 16)))+(Ar.std.shr IntKind.u64 (Ar.std.wrap IntKind.u64 ((Ar.std.wrap IntKind.u64 ((Ar.std.bit BinOp.and IntKind.u64 (Ar.std.wrap IntKind.u64 ((Ar.std.shr IntKind.u64 (Ar.std.wrap IntKind.u64 ((Ar.std.bit BinOp.and IntKind.u64 (Ar.std.shr IntKind.u64 (Ar.std.wrap IntKind.u64 ((Ar.std.bit BinOp.and IntKind.u64 (Ar.std.shr IntKind.u64 a0 1) 6148914691236517205)+(Ar.std.bit BinOp.and IntKind.u64 a0 6148914691236517205))) 2) 3689348814741910323)+(Ar.std.bit BinOp.and IntKind.u64 (Ar.std.wrap IntKind.u64 ((Ar.std.bit BinOp.and IntKind.u64 (Ar.std.shr IntKind.u64 a0 1) 6148914691236517205)+(Ar.std.bit BinOp.and IntKind.u64 a0 6148914691236517205))) 3689348814741910323))) 4)+(Ar.std.wrap IntKind.u64 ((Ar.std.bit BinOp.and IntKind.u64 (Ar.std.shr IntKind.u64 (Ar.std.wrap IntKind.u64 ((Ar.std.bit BinOp.and IntKind.u64 (Ar.std.shr IntKind.u64 a0 1) 6148914691236517205)+(Ar.std.bit BinOp.and IntKind.u64 a0 6148914691236517205))) 2) 3689348814741910323)+(Ar.std.bit BinOp.and IntKind.u64 (Ar.std.wrap IntKind.u64 ((Ar.std.bit BinOp.and IntKind.u64 (Ar.std.shr IntKind.u64 a0 1) 6148914691236517205)+(Ar.std.bit BinOp.and IntKind.u64 a0 6148914691236517205))) 3689348814741910323))))) 1085102592571150095)+(Ar.std.shr IntKind.u64 (Ar.std.bit BinOp.and IntKind.u64 (Ar.std.wrap IntKind.u64 ((Ar.std.shr IntKind.u64 (Ar.std.wrap IntKind.u64 ((Ar.std.bit BinOp.and IntKind.u64 (Ar.std.shr IntKind.u64 (Ar.std.wrap IntKind.u64 ((Ar.std.bit BinOp.and IntKind.u64 (Ar.std.shr IntKind.u64 a0 1) 6148914691236517205)+(Ar.std.bit BinOp.and IntKind.u64 a0 6148914691236517205))) 2) 3689348814741910323)+(Ar.std.bit BinOp.and IntKind.u64 (Ar.std.wrap IntKind.u64 ((Ar.std.bit BinOp.and IntKind.u64 (Ar.std.shr IntKind.u64 a0 1) 6148914691236517205)+(Ar.std.bit BinOp.and IntKind.u64 a0 6148914691236517205))) 3689348814741910323))) 4)+(Ar.std.wrap IntKind.u64 ((Ar.std.bit BinOp.and IntKind.u64 (Ar.std.shr IntKind.u64 (Ar.std.wrap IntKind.u64 ((Ar.std.bit BinOp.and IntKind.u64 (Ar.std.shr IntKind.u64 a0 1) 6148914691236517205)+(Ar.std.bit BinOp.and IntKind.u64 a0 6148914691236517205))) 2) 3689348814741910323)+(Ar.std.bit BinOp.and IntKind.u64 (Ar.std.wrap IntKind.u64 ((Ar.std.bit BinOp.and IntKind.u64 (Ar.std.shr IntKind.u64 a0 1) 6148914691236517205)+(Ar.std.bit BinOp.and IntKind.u64 a0 6148914691236517205))) 3689348814741910323))))) 1085102592571150095) 8)))+(Ar.std.shr IntKind.u64 (Ar.std.wrap IntKind.u64 ((Ar.std.bit BinOp.and IntKind.u64 (Ar.std.wrap IntKind.u64 ((Ar.std.shr IntKind.u64 (Ar.std.wrap IntKind.u64 ((Ar.std.bit BinOp.and IntKind.u64 (Ar.std.shr IntKind.u64 (Ar.std.wrap IntKind.u64 ((Ar.std.bit BinOp.and IntKind.u64 (Ar.std.shr IntKind.u64 a0 1) 6148914691236517205)+(Ar.std.bit BinOp.and IntKind.u64 a0 6148914691236517205))) 2) 3689348814741910323)+(Ar.std.bit BinOp.and IntKind.u64 (Ar.std.wrap IntKind.u64 ((Ar.std.bit BinOp.and IntKind.u64 (Ar.std.shr IntKind.u64 a0 1) 6148914691236517205)+(Ar.std.bit BinOp.and IntKind.u64 a0 6148914691236517205))) 3689348814741910323))) 4)+(Ar.std.wrap IntKind.u64 ((Ar.std.bit BinOp.and IntKind.u64 (Ar.std.shr IntKind.u64 (Ar.std.wrap IntKind.u64 ((Ar.std.bit BinOp.and IntKind.u64 (Ar.std.shr IntKind.u64 a0 1) 6148914691236517205)+(Ar.std.bit BinOp.and IntKind.u64 a0 6148914691236517205))) 2) 3689348814741910323)+(Ar.std.bit BinOp.and IntKind.u64 (Ar.std.wrap IntKind.u64 ((Ar.std.bit BinOp.and IntKind.u64 (Ar.std.shr IntKind.u64 a0 1) 6148914691236517205)+(Ar.std.bit BinOp.and IntKind.u64 a0 6148914691236517205))) 3689348814741910323))))) 1085102592571150095)+(Ar.std.shr IntKind.u64 (Ar.std.bit BinOp.and IntKind.u64 (Ar.std.wrap IntKind.u64 ((Ar.std.shr IntKind.u64 (Ar.std.wrap IntKind.u64 ((Ar.std.bit BinOp.and IntKind.u64 (Ar.std.shr IntKind.u64 (Ar.std.wrap IntKind.u64 ((Ar.std.bit BinOp.and IntKind.u64 (Ar.std.shr IntKind.u64 a0 1) 6148914691236517205)+(Ar.std.bit BinOp.and IntKind.u64 a0 6148914691236517205))) 2) 3689348814741910323)+(Ar.std.bit BinOp.and IntKind.u64 (Ar.std.wrap IntKind.u64 ((Ar.std.bit BinOp.and IntKind.u64 (Ar.std.shr IntKind.u64 a0 1) 6148914691236517205)+(Ar.std.bit BinOp.and IntKind.u64 a0 6148914691236517205))) 3689348814741910323))) 4)+(Ar.std.wrap IntKind.u64 ((Ar.std.bit BinOp.and IntKind.u64 (Ar.std.shr IntKind.u64 (Ar.std.wrap IntKind.u64 ((Ar.std.bit BinOp.and IntKind.u64 (Ar.std.shr IntKind.u64 a0 1) 6148914691236517205)+(Ar.std.bit BinOp.and IntKind.u64 a0 6148914691236517205))) 2) 3689348814741910323)+(Ar.std.bit BinOp.and IntKind.u64 (Ar.std.wrap IntKind.u64 ((Ar.std.bit BinOp.and IntKind.u64 (Ar.std.shr IntKind.u64 a0 1) 6148914691236517205)+(Ar.std.bit BinOp.and IntKind.u64 a0 6148914691236517205))) 3689348814741910323))))) 1085102592571150095) 8))) 16))) 32)))<=9223372036854775807
 g7:R 0 0=D.i (Ar.std.bit BinOp.and IntKind.i64 (Ar.std.wrap IntKind.u64 ((Ar.std.wrap IntKind.u64 ((Ar.std.wrap IntKind.u64 ((Ar.std.bit BinOp.and IntKind.u64 (Ar.std.wrap IntKind.u64 ((Ar.std.shr IntKind.u64 (Ar.std.wrap IntKind.u64 ((Ar.std.bit BinOp.and IntKind.u64 (Ar.std.shr IntKind.u64 (Ar.std.wrap IntKind.u64 ((Ar.std.bit BinOp.and IntKind.u64 (Ar.std.shr IntKind.u64 a0 1) 6148914691236517205)+(Ar.std.bit BinOp.and IntKind.u64 a0 6148914691236517205))) 2) 3689348814741910323)+(Ar.std.bit BinOp.and IntKind.u64 (Ar.std.wrap IntKind.u64 ((Ar.std.bit BinOp.and IntKind.u64 (Ar.std.shr IntKind.u64 a0 1) 6148914691236517205)+(Ar.std.bit BinOp.and IntKind.u64 a0 6148914691236517205))) 3689348814741910323))) 4)+(Ar.std.wrap IntKind.u64 ((Ar.std.bit BinOp.and IntKind.u64 (Ar.std.shr IntKind.u64 (Ar.std.wrap IntKind.u64 ((Ar.std.bit BinOp.and IntKind.u64 (Ar.std.shr IntKind.u64 a0 1) 6148914691236517205)+(Ar.std.bit BinOp.and IntKind.u64 a0 6148914691236517205))) 2) 3689348814741910323)+(Ar.std.bit BinOp.and IntKind.u64 (Ar.std.wrap IntKind.u64 ((Ar.std.bit BinOp.and IntKind.u64 (Ar.std.shr IntKind.u64 a0 1) 6148914691236517205)+(Ar.std.bit BinOp.and IntKind.u64 a0 6148914691236517205))) 3689348814741910323))))) 1085102592571150095)+(Ar.std.shr IntKind.u64 (Ar.std.bit BinOp.and IntKind.u64 (Ar.std.wrap IntKind.u64 ((Ar.std.shr IntKind.u64 (Ar.std.wrap IntKind.u64 ((Ar.std.bit BinOp.and IntKind.u64 (Ar.std.shr IntKind.u64 (Ar.std.wrap IntKind.u64 ((Ar.std.bit BinOp.and IntKind.u64 (Ar.std.shr IntKind.u64 a0 1) 6148914691236517205)+(Ar.std.bit BinOp.and IntKind.u64 a0 6148914691236517205))) 2) 3689348814741910323)+(Ar.std.bit BinOp.and IntKind.u64 (Ar.std.wrap IntKind.u64 ((Ar.std.bit BinOp.and IntKind.u64 (Ar.std.shr IntKind.u64 a0 1) 6148914691236517205)+(Ar.std.bit BinOp.and IntKind.u64 a0 6148914691236517205))) 3689348814741910323))) 4)+(Ar.std.wrap IntKind.u64 ((Ar.std.bit BinOp.and IntKind.u64 (Ar.std.shr IntKind.u64 (Ar.std.wrap IntKind.u64 ((Ar.std.bit BinOp.and IntKind.u64 (Ar.std.shr IntKind.u64 a0 1) 6148914691236517205)+(Ar.std.bit BinOp.and IntKind.u64 a0 6148914691236517205))) 2) 3689348814741910323)+(Ar.std.bit BinOp.and IntKind.u64 (Ar.std.wrap IntKind.u64 ((Ar.std.bit BinOp.and IntKind.u64 (Ar.std.shr IntKind.u64 a0 1) 6148914691236517205)+(Ar.std.bit BinOp.and IntKind.u64 a0 6148914691236517205))) 3689348814741910323))))) 1085102592571150095) 8)))+(Ar.std.shr IntKind.u64 (Ar.std.wrap IntKind.u64 ((Ar.std.bit BinOp.and IntKind.u64 (Ar.std.wrap IntKind.u64 ((Ar.std.shr IntKind.u64 (Ar.std.wrap IntKind.u64 ((Ar.std.bit BinOp.and IntKind.u64 (Ar.std.shr IntKind.u64 (Ar.std.wrap IntKind.u64 ((Ar.std.bit BinOp.and IntKind.u64 (Ar.std.shr IntKind.u64 a0 1) 6148914691236517205)+(Ar.std.bit BinOp.and IntKind.u64 a0 6148914691236517205))) 2) 3689348814741910323)+(Ar.std.bit BinOp.and IntKind.u64 (Ar.std.wrap IntKind.u64 ((Ar.std.bit BinOp.and IntKind.u64 (Ar.std.shr IntKind.u64 a0 1) 6148914691236517205)+(Ar.std.bit BinOp.and IntKind.u64 a0 6148914691236517205))) 3689348814741910323))) 4)+(Ar.std.wrap IntKind.u64 ((Ar.std.bit BinOp.and IntKind.u64 (Ar.std.shr IntKind.u64 (Ar.std.wrap IntKind.u64 ((Ar.std.bit BinOp.and IntKind.u64 (Ar.std.shr IntKind.u64 a0 1) 6148914691236517205)+(Ar.std.bit BinOp.and IntKind.u64 a0 6148914691236517205))) 2) 3689348814741910323)+(Ar.std.bit BinOp.and IntKind.u64 (Ar.std.wrap IntKind.u64 ((Ar.std.bit BinOp.and IntKind.u64 (Ar.std.shr IntKind.u64 a0 1) 6148914691236517205)+(Ar.std.bit BinOp.and IntKind.u64 a0 6148914691236517205))) 3689348814741910323))))) 1085102592571150095)+(Ar.std.shr IntKind.u64 (Ar.std.bit BinOp.and IntKind.u64 (Ar.std.wrap IntKind.u64 ((Ar.std.shr IntKind.u64 (Ar.std.wrap IntKind.u64 ((Ar.std.bit BinOp.and IntKind.u64 (Ar.std.shr IntKind.u64 (Ar.std.wrap IntKind.u64 ((Ar.std.bit BinOp.and IntKind.u64 (Ar.std.shr IntKind.u64 a0 1) 6148914691236517205)+(Ar.std.bit BinOp.and IntKind.u64 a0 6148914691236517205))) 2) 3689348814741910323)+(Ar.std.bit BinOp.and IntKind.u64 (Ar.std.wrap IntKind.u64 ((Ar.std.bit BinOp.and IntKind.u64 (Ar.std.shr IntKind.u64 a0 1) 6148914691236517205)+(Ar.std.bit BinOp.and IntKind.u64 a0 6148914691236517205))) 3689348814741910323))) 4)+(Ar.std.wrap IntKind.u64 ((Ar.std.bit BinOp.and IntKind.u64 (Ar.std.shr IntKind.u64 (Ar.std.wrap IntKind.u64 ((Ar.std.bit BinOp.and IntKind.u64 (Ar.std.shr IntKind.u64 a0 1) 6148914691236517205)+(Ar.std.bit BinOp.and IntKind.u64 a0 6148914691236517205))) 2) 3689348814741910323)+(Ar.std.bit BinOp.and IntKind.u64 (Ar.std.wrap IntKind.u64 ((Ar.std.bit BinOp.and IntKind.u64 (Ar.std.shr IntKind.u64 a0 1) 6148914691236517205)+(Ar.std.bit BinOp.and IntKind.u64 a0 6148914691236517205))) 3689348814741910323))))) 1085102592571150095) 8))) 16)))+(Ar.std.shr IntKind.u64 (Ar.std.wrap IntKind.u64 ((Ar.std.wrap IntKind.u64 ((Ar.std.bit BinOp.and IntKind.u64 (Ar.std.wrap IntKind.u64 ((Ar.std.shr IntKind.u64 (Ar.std.wrap IntKind.u64 ((Ar.std.bit BinOp.and IntKind.u64 (Ar.std.shr IntKind.u64 (Ar.std.wrap IntKind.u64 ((Ar.std.bit BinOp.and IntKind.u64 (Ar.std.shr IntKind.u64 a0 1) 6148914691236517205)+(Ar.std.bit BinOp.and IntKind.u64 a0 6148914691236517205))) 2) 3689348814741910323)+(Ar.std.bit BinOp.and IntKind.u64 (Ar.std.wrap IntKind.u64 ((Ar.std.bit BinOp.and IntKind.u64 (Ar.std.shr IntKind.u64 a0 1) 6148914691236517205)+(Ar.std.bit BinOp.and IntKind.u64 a0 6148914691236517205))) 3689348814741910323))) 4)+(Ar.std.wrap IntKind.u64 ((Ar.std.bit BinOp.and IntKind.u64 (Ar.std.shr IntKind.u64 (Ar.std.wrap IntKind.u64 ((Ar.std.bit BinOp.and IntKind.u64 (Ar.std.shr IntKind.u64 a0 1) 6148914691236517205)+(Ar.std.bit BinOp.and IntKind.u64 a0 6148914691236517205))) 2) 3689348814741910323)+(Ar.std.bit BinOp.and IntKind.u64 (Ar.std.wrap IntKind.u64 ((Ar.std.bit BinOp.and IntKind.u64 (Ar.std.shr IntKind.u64 a0 1) 6148914691236517205)+(Ar.std.bit BinOp.and IntKind.u64 a0 6148914691236517205))) 3689348814741910323))))) 1085102592571150095)+(Ar.std.shr IntKind.u64 (Ar.std.bit BinOp.and IntKind.u64 (Ar.std.wrap IntKind.u64 ((Ar.std.shr IntKind.u64 (Ar.std.wrap IntKind.u64 ((Ar.std.bit BinOp.and IntKind.u64 (Ar.std.shr IntKind.u64 (Ar.std.wrap IntKind.u64 ((Ar.std.bit BinOp.and IntKind.u64 (Ar.std.shr IntKind.u64 a0 1) 6148914691236517205)+(Ar.std.bit BinOp.and IntKind.u64 a0 6148914691236517205))) 2) 3689348814741910323)+(Ar.std.bit BinOp.and IntKind.u64 (Ar.std.wrap IntKind.u64 ((Ar.std.bit BinOp.and IntKind.u64 (Ar.std.shr IntKind.u64 a0 1) 6148914691236517205)+(Ar.std.bit BinOp.and IntKind.u64 a0 6148914691236517205))) 3689348814741910323))) 4)+(Ar.std.wrap IntKind.u64 ((Ar.std.bit BinOp.and IntKind.u64 (Ar.std.shr IntKind.u64 (Ar.std.wrap IntKind.u64 ((Ar.std.bit BinOp.and IntKind.u64 (Ar.std.shr IntKind.u64 a0 1) 6148914691236517205)+(Ar.std.bit BinOp.and IntKind.u64 a0 6148914691236517205))) 2) 3689348814741910323)+(Ar.std.bit BinOp.and IntKind.u64 (Ar.std.wrap IntKind.u64 ((Ar.std.bit BinOp.and IntKind.u64 (Ar.std.shr IntKind.u64 a0 1) 6148914691236517205)+(Ar.std.bit BinOp.and IntKind.u64 a0 6148914691236517205))) 3689348814741910323))))) 1085102592571150095) 8)))+(Ar.std.shr IntKind.u64 (Ar.std.wrap IntKind.u64 ((Ar.std.bit BinOp.and IntKind.u64 (Ar.std.wrap IntKind.u64 ((Ar.std.shr IntKind.u64 (Ar.std.wrap IntKind.u64 ((Ar.std.bit BinOp.and IntKind.u64 (Ar.std.shr IntKind.u64 (Ar.std.wrap IntKind.u64 ((Ar.std.bit BinOp.and IntKind.u64 (Ar.std.shr IntKind.u64 a0 1) 6148914691236517205)+(Ar.std.bit BinOp.and IntKind.u64 a0 6148914691236517205))) 2) 3689348814741910323)+(Ar.std.bit BinOp.and IntKind.u64 (Ar.std.wrap IntKind.u64 ((Ar.std.bit BinOp.and IntKind.u64 (Ar.std.shr IntKind.u64 a0 1) 6148914691236517205)+(Ar.std.bit BinOp.and IntKind.u64 a0 6148914691236517205))) 3689348814741910323))) 4)+(Ar.std.wrap IntKind.u64 ((Ar.std.bit BinOp.and IntKind.u64 (Ar.std.shr IntKind.u64 (Ar.std.wrap IntKind.u64 ((Ar.std.bit BinOp.and IntKind.u64 (Ar.std.shr IntKind.u64 a0 1) 6148914691236517205)+(Ar.std.bit BinOp.and IntKind.u64 a0 6148914691236517205))) 2) 3689348814741910323)+(Ar.std.bit BinOp.and IntKind.u64 (Ar.std.wrap IntKind.u64 ((Ar.std.bit BinOp.and IntKind.u64 (Ar.std.shr IntKind.u64 a0 1) 6148914691236517205)+(Ar.std.bit BinOp.and IntKind.u64 a0 6148914691236517205))) 3689348814741910323))))) 1085102592571150095)+(Ar.std.shr IntKind.u64 (Ar.std.bit BinOp.and IntKind.u64 (Ar.std.wrap IntKind.u64 ((Ar.std.shr IntKind.u64 (Ar.std.wrap IntKind.u64 ((Ar.std.bit BinOp.and IntKind.u64 (Ar.std.shr IntKind.u64 (Ar.std.wrap IntKind.u64 ((Ar.std.bit BinOp.and IntKind.u64 (Ar.std.shr IntKind.u64 a0 1) 6148914691236517205)+(Ar.std.bit BinOp.and IntKind.u64 a0 6148914691236517205))) 2) 3689348814741910323)+(Ar.std.bit BinOp.and IntKind.u64 (Ar.std.wrap IntKind.u64 ((Ar.std.bit BinOp.and IntKind.u64 (Ar.std.shr IntKind.u64 a0 1) 6148914691236517205)+(Ar.std.bit BinOp.and IntKind.u64 a0 6148914691236517205))) 3689348814741910323))) 4)+(Ar.std.wrap IntKind.u64 ((Ar.std.bit BinOp.and IntKind.u64 (Ar.std.shr IntKind.u64 (Ar.std.wrap IntKind.u64 ((Ar.std.bit BinOp.and IntKind.u64 (Ar.std.shr IntKind.u64 a0 1) 6148914691236517205)+(Ar.std.bit BinOp.and IntKind.u64 a0 6148914691236517205))) 2) 3689348814741910323)+(Ar.std.bit BinOp.and IntKind.u64 (Ar.std.wrap IntKind.u64 ((Ar.std.bit BinOp.and IntKind.u64 (Ar.std.shr IntKind.u64 a0 1) 6148914691236517205)+(Ar.std.bit BinOp.and IntKind.u64 a0 6148914691236517205))) 3689348814741910323))))) 1085102592571150095) 8))) 16))) 32))) 127)
end HX

namespace HX
open Go Go.Proofs CX
structure V93 (pre:Nat->List (List D)->Prop) (fn:Nat->List (List D)->Nat->Nat->D) (a0_0:Int) (a0_1:Int) (a0_2:Int) (a1_0:Int) (a1_1:Int) (a1_2:Int) (R:Nat->Nat->D)  : Prop where
 g0:(¬a0_1=a1_1)->R 0 0=D.i 0
 g1:(¬a0_1=a1_1)->R 0 1=D.i 0
 g2:(¬a0_1=a1_1)->R 0 2=D.i 0
 g3:(¬a0_1=a1_1)->R 1 0=D.b false
 g4:(a0_1=a1_1)->(¬a0_2=a1_2)->R 0 0=D.i 0
 g5:(a0_1=a1_1)->(¬a0_2=a1_2)->R 0 1=D.i 0
 g6:(a0_1=a1_1)->(¬a0_2=a1_2)->R 0 2=D.i 0
 g7:(a0_1=a1_1)->(¬a0_2=a1_2)->R 1 0=D.b false
 g8:(a0_1=a1_1)->(a0_2=a1_2)->pre 113 [[D.i (Ar.std.wrap IntKind.u64 (Ar.std.bit BinOp.xor IntKind.i64 a0_0 a1_0))]]
 g9:(a0_1=a1_1)->(a0_2=a1_2)->(¬(D.int (fn 113 [[D.i (Ar.std.wrap IntKind.u64 (Ar.std.bit BinOp.xor IntKind.i64 a0_0 a1_0))]] 0 0))=1)->R 0 0=D.i 0
 g10:(a0_1=a1_1)->(a0_2=a1_2)->(¬(D.int (fn 113 [[D.i (Ar.std.wrap IntKind.u64 (Ar.std.bit BinOp.xor IntKind.i64 a0_0 a1_0))]] 0 0))=1)->R 0 1=D.i 0
 g11:(a0_1=a1_1)->(a0_2=a1_2)->(¬(D.int (fn 113 [[D.i (Ar.std.wrap IntKind.u64 (Ar.std.bit BinOp.xor IntKind.i64 a0_0 a1_0))]] 0 0))=1)->R 0 2=D.i 0
 g12:(a0_1=a1_1)->(a0_2=a1_2)->(¬(D.int (fn 113 [[D.i (Ar.std.wrap IntKind.u64 (Ar.std.bit BinOp.xor IntKind.i64 a0_0 a1_0))]] 0 0))=1)->R 1 0=D.b false
 g13:(a0_1=a1_1)->(a0_2=a1_2)->((D.int (fn 113 [[D.i (Ar.std.wrap IntKind.u64 (Ar.std.bit BinOp.xor IntKind.i64 a0_0 a1_0))]] 0 0))=1)->R 0 0=D.i (Ar.std.bit BinOp.andNot IntKind.i64 a0_0 (Ar.std.bit BinOp.xor IntKind.i64 a0_0 a1_0))
 g14:(a0_1=a1_1)->(a0_2=a1_2)->((D.int (fn 113 [[D.i (Ar.std.wrap IntKind.u64 (Ar.std.bit BinOp.xor IntKind.i64 a0_0 a1_0))]] 0 0))=1)->R 0 1=D.i (Ar.std.bit BinOp.andNot IntKind.i64 a0_1 (Ar.std.bit BinOp.xor IntKind.i64 a0_0 a1_0))
 g15:(a0_1=a1_1)->(a0_2=a1_2)->((D.int (fn 113 [[D.i (Ar.std.wrap IntKind.u64 (Ar.std.bit BinOp.xor IntKind.i64 a0_0 a1_0))]] 0 0))=1)->R 0 2=D.i a0_2
 g16:(a0_1=a1_1)->(a0_2=a1_2)->((D.int (fn 113 [[D.i (Ar.std.wrap IntKind.u64 (Ar.std.bit BinOp.xor IntKind.i64 a0_0 a1_0))]] 0 0))=1)->R 1 0=D.b true
end HX

namespace HX
open Go Go.Proofs CX
end HX

namespace HX
open Go Go.Proofs CX
def kE (r:List D):Int:=(r.getD 0 .nil).int
def mE (r:List D):Int:=(r.getD 1 .nil).int
def oE (r:List D):Int:=(r.getD 2 .nil).int
theorem gt_kE (l:Rows) (i:Nat):(gt l i 0).int=kE (l.getD i []):=rfl
theorem gt_mE (l:Rows) (i:Nat):(gt l i 1).int=mE (l.getD i []):=rfl
theorem gt_oE (l:Rows) (i:Nat):(gt l i 2).int=oE (l.getD i []):=rfl
def hitE (r:List D) (k:Int):Prop:=bitX .and .i64 k (mE r)=kE r
instance (r:List D) (k:Int):Decidable (hitE r k):=inferInstanceAs (Decidable (_=_))
def fndO:Rows->Int->Option Int
 |[],_=>none
 |r :: l,k=>if hitE r k then some (oE r) else fndO l k
def oF (l:Rows) (k:Int):Int:=(fndO l k).getD 0
def fndD (o:Option Int):Nat->Nat->D:=fun i _=>[D.i (o.getD 0),.b o.isSome].getD i .nil
def r31:List (List D)->Nat->Nat->D
 |[[.l l],[.i k]]=>fndD (fndO l k)
 |_=>fun _ _=>.nil
theorem fndO_at {l:Rows} {k:Int} {i:Nat} (h:i < l.length):fndO (l.drop i) k=if hitE (l.getD i []) k then some (oE (l.getD i [])) else fndO (l.drop (i+1)) k:=by
 rw [List.drop_eq_getElem_cons h,fndO,zE,zI h];rfl
theorem fndO_end {l:Rows} {k:Int} {i:Nat} (h:l.length<=i):fndO (l.drop i) k=none:=by rw [List.drop_eq_nil_of_le h];rfl
theorem law31 (a0:Rows) (a1:Int) (hs:a0.length<=9223372036854775807):V31 a0 a1 (r31 [[.l a0],[.i a1]]) (fun _ i=>0<=i/\i<=a0.length/\fndO (a0.drop i.toNat) a1=fndO a0 a1) (fun _ i=>(a0.length - i).toNat):=by
 have hit:∀i:Nat,(Ar.std.bit BinOp.and IntKind.i64 a1 (gt a0 i 1).int=(gt a0 i 0).int)=hitE (a0.getD i []) a1:=fun _=>rfl
 constructor
 all_goals try simp only [hit,gt_oE]
 ·exact ⟨by omega,by omega,rfl⟩
 all_goals (rintro x0 x1 ⟨h1,h2,h3⟩;try omega)
 all_goals (try (intro h4;first |(exfalso;omega) |skip))
 all_goals (try (intro h5;first |(exfalso;omega) |skip))
 all_goals (try (intro h6;first |(exfalso;omega) |skip))
 all_goals try omega
 case g9=>rw [fndO_at (by omega),if_pos h5] at h3;show D.i ((fndO a0 a1).getD 0)=_;rw [<-h3];rfl
 case g10=>rw [fndO_at (by omega),if_pos h5] at h3;show D.b (fndO a0 a1).isSome=_;rw [<-h3];rfl
 case n12=>
  refine ⟨⟨by omega,by omega,?_⟩,by omega⟩
  rw [fndO_at (by omega),if_neg h5] at h3
  rw [show (x1+1).toNat=x1.toNat+1 by omega];exact h3
 case g13=>rw [fndO_end (by omega)] at h3;show D.i ((fndO a0 a1).getD 0)=_;rw [<-h3];rfl
 case g14=>rw [fndO_end (by omega)] at h3;show D.b (fndO a0 a1).isSome=_;rw [<-h3];rfl
def xK (a b:Int):Int:=bitX .xor .i64 a b
def pwI (d:Int):Bool:=one16' d.toNat
theorem xK_rng {a b:Int} (ha:0<=a/\a<=65535) (hb:0<=b/\b<=65535):0<=xK a b/\xK a b<=65535:=by
 obtain ⟨a',rfl⟩:=Int.eq_ofNat_of_zero_le ha.1
 obtain ⟨b',rfl⟩:=Int.eq_ofNat_of_zero_le hb.1
 have h1:a' < 65536:=by have:=ha.2;omega
 have h2:b' < 65536:=by have:=hb.2;omega
 have:=Nat.xor_lt_two_pow (n:=16) (x:=a') (y:=b') h1 h2
 unfold xK
 rw [xor_nat h1 h2]
 omega
def p113:List (List D)->Prop
 |[[.i a]]=>0<=a/\a<=65535
 |_=>False
def r113:List (List D)->Nat->Nat->D
 |[[.i a]],_,_=>.i (popN a.toNat)
 |_,_,_=>.nil
def joinE (x y:List D):Option (List D):=
 if mE x=mE y/\oE x=oE y/\pwI (xK (kE x) (kE y))=true then some [.i (bitX .andNot .i64 (kE x) (xK (kE x) (kE y))),.i (bitX .andNot .i64 (mE x) (xK (kE x) (kE y))),.i (oE x)] else none
def p93:List (List D)->Prop
 |[[.i a,_,_],[.i b,_,_]]=>(0<=a/\a<=65535)/\0<=b/\b<=65535
 |_=>False
def r93:List (List D)->Nat->Nat->D
 |[x,y],i,j=>if i=0 then ((joinE x y).getD [.i 0,.i 0,.i 0]).getD j .nil else .b (joinE x y).isSome
 |_,_,_=>.nil
theorem wrapU {d:Int} (h:0<=d/\d<=65535):Ar.std.wrap IntKind.u64 d=d:=by
 show d % 18446744073709551616=d
 exact Int.emod_eq_of_lt h.1 (by omega)
theorem law93 (pre:Nat->List (List D)->Prop) (fn:Nat->List (List D)->Nat->Nat->D) (hp:pre 113=p113) (hf:fn 113=r113) (x0 x1 x2 y0 y1 y2:Int) (h:p93 [[.i x0,.i x1,.i x2],[.i y0,.i y1,.i y2]]) :
  V93 pre fn x0 x1 x2 y0 y1 y2 (r93 [[.i x0,.i x1,.i x2],[.i y0,.i y1,.i y2]]):=by
 have hx:Ar.std.bit BinOp.xor IntKind.i64 x0 y0=xK x0 y0:=rfl
 have h0:=xK_rng h.1 h.2
 have one:((D.int (fn 113 [[D.i (Ar.std.wrap IntKind.u64 (xK x0 y0))]] 0 0))=1)=(pwI (xK x0 y0)=true):=by
  rw [wrapU h0,hf]
  show (((popN (xK x0 y0).toNat:Nat):Int)=1)=_
  have:=(pop_one (d:=(xK x0 y0).toNat) (by omega)).1
  exact propext ⟨fun h=>this.1 (by omega),fun h=>by have:=this.2 h;omega⟩
 have jn:joinE [.i x0,.i x1,.i x2] [.i y0,.i y1,.i y2]=if x1=y1/\x2=y2/\pwI (xK x0 y0)=true then some [.i (bitX .andNot .i64 x0 (xK x0 y0)),.i (bitX .andNot .i64 x1 (xK x0 y0)),.i x2] else none:=rfl
 have r0:∀j,r93 [[.i x0,.i x1,.i x2],[.i y0,.i y1,.i y2]] 0 j=((joinE [.i x0,.i x1,.i x2] [.i y0,.i y1,.i y2]).getD [.i 0,.i 0,.i 0]).getD j .nil:=fun _=>rfl
 have r1:r93 [[.i x0,.i x1,.i x2],[.i y0,.i y1,.i y2]] 1 0=.b (joinE [.i x0,.i x1,.i x2] [.i y0,.i y1,.i y2]).isSome:=rfl
 constructor
 all_goals try simp only [hx,one,r0,r1,jn,hp]
 case g8=>intro _ _;rw [wrapU h0];exact h0
 all_goals intros
 all_goals simp_all
 all_goals rfl
def sameK (keys l t:Rows):Bool:=keys.all fun r=>decide (fndO l (kE r)=fndO t (kE r))
end HX

namespace HX
open Go Go.Proofs CX
structure V62 (a0:Rows) (R:Nat->Nat->D) (I0:Int->Int->Prop) (m0:Int->Int->Nat):Prop where
 i0:I0 0 0
 g1:∀x0_0 x0_1,I0 x0_0 x0_1->(x0_1 < (a0.length:Int))->0<=x0_1
 g2:∀x0_0 x0_1,I0 x0_0 x0_1->(x0_1 < (a0.length:Int))->x0_1 < (a0.length:Int)
 g3:∀x0_0 x0_1,I0 x0_0 x0_1->(x0_1 < (a0.length:Int))->(((Int.toNat x0_1:Nat):Int)) < (a0.length:Int)
 g4:∀x0_0 x0_1,I0 x0_0 x0_1->(x0_1 < (a0.length:Int))->(0<=(mnI (D.int (gt a0 x0_1.toNat 0)) (D.int (gt a0 x0_1.toNat 1))))->((D.int (gt a0 x0_1.toNat 1))<=65535)->((Ar.std.bit BinOp.andNot IntKind.i64 (D.int (gt a0 x0_1.toNat 0)) (D.int (gt a0 x0_1.toNat 1)))=0)->(1<=(D.int (gt a0 x0_1.toNat 2)))->(¬(D.int (gt a0 x0_1.toNat 2))<=31)->R 0 0=D.b (decide (0<=x0_1))
 g5:∀x0_0 x0_1,I0 x0_0 x0_1->(x0_1 < (a0.length:Int))->(0<=(mnI (D.int (gt a0 x0_1.toNat 0)) (D.int (gt a0 x0_1.toNat 1))))->((D.int (gt a0 x0_1.toNat 1))<=65535)->((Ar.std.bit BinOp.andNot IntKind.i64 (D.int (gt a0 x0_1.toNat 0)) (D.int (gt a0 x0_1.toNat 1)))=0)->(1<=(D.int (gt a0 x0_1.toNat 2)))->((D.int (gt a0 x0_1.toNat 2))<=31)->-9223372036854775808<=(x0_1+1)/\(x0_1+1)<=9223372036854775807
 n6:∀x0_0 x0_1,I0 x0_0 x0_1->(x0_1 < (a0.length:Int))->(0<=(mnI (D.int (gt a0 x0_1.toNat 0)) (D.int (gt a0 x0_1.toNat 1))))->((D.int (gt a0 x0_1.toNat 1))<=65535)->((Ar.std.bit BinOp.andNot IntKind.i64 (D.int (gt a0 x0_1.toNat 0)) (D.int (gt a0 x0_1.toNat 1)))=0)->(1<=(D.int (gt a0 x0_1.toNat 2)))->((D.int (gt a0 x0_1.toNat 2))<=31)->I0 x0_0 (x0_1+1)/\m0 x0_0 (x0_1+1) < m0 x0_0 x0_1
 g7:∀x0_0 x0_1,I0 x0_0 x0_1->(x0_1 < (a0.length:Int))->(0<=(mnI (D.int (gt a0 x0_1.toNat 0)) (D.int (gt a0 x0_1.toNat 1))))->((D.int (gt a0 x0_1.toNat 1))<=65535)->((Ar.std.bit BinOp.andNot IntKind.i64 (D.int (gt a0 x0_1.toNat 0)) (D.int (gt a0 x0_1.toNat 1)))=0)->(¬1<=(D.int (gt a0 x0_1.toNat 2)))->R 0 0=D.b (decide (0<=x0_1))
 g8:∀x0_0 x0_1,I0 x0_0 x0_1->(x0_1 < (a0.length:Int))->(0<=(mnI (D.int (gt a0 x0_1.toNat 0)) (D.int (gt a0 x0_1.toNat 1))))->((D.int (gt a0 x0_1.toNat 1))<=65535)->(¬(Ar.std.bit BinOp.andNot IntKind.i64 (D.int (gt a0 x0_1.toNat 0)) (D.int (gt a0 x0_1.toNat 1)))=0)->R 0 0=D.b (decide (0<=x0_1))
 g9:∀x0_0 x0_1,I0 x0_0 x0_1->(x0_1 < (a0.length:Int))->(0<=(mnI (D.int (gt a0 x0_1.toNat 0)) (D.int (gt a0 x0_1.toNat 1))))->(¬(D.int (gt a0 x0_1.toNat 1))<=65535)->R 0 0=D.b (decide (0<=x0_1))
 g10:∀x0_0 x0_1,I0 x0_0 x0_1->(x0_1 < (a0.length:Int))->(¬0<=(mnI (D.int (gt a0 x0_1.toNat 0)) (D.int (gt a0 x0_1.toNat 1))))->R 0 0=D.b (decide (0<=x0_1))
 g11:∀x0_0 x0_1,I0 x0_0 x0_1->(¬x0_1 < (a0.length:Int))->R 0 0=D.b (decide ((0:Int)<=(-1)))
end HX

namespace HX
open Go Go.Proofs CX
structure V65 (a0:Rows) (R:Nat->Nat->D) (I0:Int->Int->Prop) (m0:Int->Int->Nat):Prop where
 i0:I0 0 0
 g1:∀x0_0 x0_1,I0 x0_0 x0_1->(x0_1 < (a0.length:Int))->0<=x0_1
 g2:∀x0_0 x0_1,I0 x0_0 x0_1->(x0_1 < (a0.length:Int))->x0_1 < (a0.length:Int)
 g3:∀x0_0 x0_1,I0 x0_0 x0_1->(x0_1 < (a0.length:Int))->(((Int.toNat x0_1:Nat):Int)) < (a0.length:Int)
 g4:∀x0_0 x0_1,I0 x0_0 x0_1->(x0_1 < (a0.length:Int))->((D.int (gt a0 x0_1.toNat 0)) < 0)->R 0 0=D.b (decide (0<=x0_1))
 g5:∀x0_0 x0_1,I0 x0_0 x0_1->(x0_1 < (a0.length:Int))->(¬(D.int (gt a0 x0_1.toNat 0)) < 0)->(65535 < (D.int (gt a0 x0_1.toNat 0)))->R 0 0=D.b (decide (0<=x0_1))
 g6:∀x0_0 x0_1,I0 x0_0 x0_1->(x0_1 < (a0.length:Int))->(¬(D.int (gt a0 x0_1.toNat 0)) < 0)->(¬65535 < (D.int (gt a0 x0_1.toNat 0)))->-9223372036854775808<=(x0_1+1)/\(x0_1+1)<=9223372036854775807
 n7:∀x0_0 x0_1,I0 x0_0 x0_1->(x0_1 < (a0.length:Int))->(¬(D.int (gt a0 x0_1.toNat 0)) < 0)->(¬65535 < (D.int (gt a0 x0_1.toNat 0)))->I0 x0_0 (x0_1+1)/\m0 x0_0 (x0_1+1) < m0 x0_0 x0_1
 g8:∀x0_0 x0_1,I0 x0_0 x0_1->(¬x0_1 < (a0.length:Int))->R 0 0=D.b (decide ((0:Int)<=(-1)))
end HX

namespace HX
open Go Go.Proofs CX
structure V67 (pre:Nat->List (List D)->Prop) (fn:Nat->List (List D)->Nat->Nat->D) (a0:Rows) (a1:Rows) (a2:Rows) (R:Nat->Nat->D) (I0:Bool->Int->Prop) (m0:Bool->Int->Nat):Prop where
 g0:(((0:Nat):Int)) < (([[D.l a1]]).length:Int)
 i0:I0 false 0
 g2:∀x0_0 x0_1,I0 x0_0 x0_1->(x0_1 < (((D.rows (gt [[D.l a1]] 0 0))).length:Int))->0<=x0_1
 g3:∀x0_0 x0_1,I0 x0_0 x0_1->(x0_1 < (((D.rows (gt [[D.l a1]] 0 0))).length:Int))->x0_1 < (((D.rows (gt [[D.l a1]] 0 0))).length:Int)
 g4:∀x0_0 x0_1,I0 x0_0 x0_1->(x0_1 < (((D.rows (gt [[D.l a1]] 0 0))).length:Int))->(((Int.toNat x0_1:Nat):Int)) < (((D.rows (gt [[D.l a1]] 0 0))).length:Int)
 g5:∀x0_0 x0_1,I0 x0_0 x0_1->(x0_1 < (((D.rows (gt [[D.l a1]] 0 0))).length:Int))->pre 31 [[D.l a0],[D.i (D.int (gt (D.rows (gt [[D.l a1]] 0 0)) x0_1.toNat 0))]]
 g6:∀x0_0 x0_1,I0 x0_0 x0_1->(x0_1 < (((D.rows (gt [[D.l a1]] 0 0))).length:Int))->(((0:Nat):Int)) < (([[D.l a2]]).length:Int)
 g8:∀x0_0 x0_1,I0 x0_0 x0_1->(x0_1 < (((D.rows (gt [[D.l a1]] 0 0))).length:Int))->x0_1 < (((D.rows (gt [[D.l a2]] 0 0))).length:Int)
 g9:∀x0_0 x0_1,I0 x0_0 x0_1->(x0_1 < (((D.rows (gt [[D.l a1]] 0 0))).length:Int))->(((Int.toNat x0_1:Nat):Int)) < (((D.rows (gt [[D.l a2]] 0 0))).length:Int)
 g10:∀x0_0 x0_1,I0 x0_0 x0_1->(x0_1 < (((D.rows (gt [[D.l a1]] 0 0))).length:Int))->(¬(D.int (fn 31 [[D.l a0],[D.i (D.int (gt (D.rows (gt [[D.l a1]] 0 0)) x0_1.toNat 0))]] 0 0))=(D.int (gt (D.rows (gt [[D.l a2]] 0 0)) x0_1.toNat 0)))->R 0 0=D.b false
 g11:∀x0_0 x0_1,I0 x0_0 x0_1->(x0_1 < (((D.rows (gt [[D.l a1]] 0 0))).length:Int))->((D.int (fn 31 [[D.l a0],[D.i (D.int (gt (D.rows (gt [[D.l a1]] 0 0)) x0_1.toNat 0))]] 0 0))=(D.int (gt (D.rows (gt [[D.l a2]] 0 0)) x0_1.toNat 0)))->-9223372036854775808<=(x0_1+1)/\(x0_1+1)<=9223372036854775807
 n12:∀x0_0 x0_1,I0 x0_0 x0_1->(x0_1 < (((D.rows (gt [[D.l a1]] 0 0))).length:Int))->((D.int (fn 31 [[D.l a0],[D.i (D.int (gt (D.rows (gt [[D.l a1]] 0 0)) x0_1.toNat 0))]] 0 0))=(D.int (gt (D.rows (gt [[D.l a2]] 0 0)) x0_1.toNat 0)))->I0 x0_0 (x0_1+1)/\m0 x0_0 (x0_1+1) < m0 x0_0 x0_1
 g13:∀x0_0 x0_1,I0 x0_0 x0_1->(¬x0_1 < (((D.rows (gt [[D.l a1]] 0 0))).length:Int))->R 0 0=D.b true
end HX

namespace HX
open Go Go.Proofs CX
end HX

namespace HX
open Go Go.Proofs CX
end HX

namespace HX
open Go Go.Proofs CX
def vE (r:List D):Prop:=(0<=kE r/\kE r<=65535)/\(0<=mE r/\mE r<=65535)/\bitX .and .i64 (kE r) (mE r)=kE r/\1<=oE r/\oE r<=31
instance (r:List D):Decidable (vE r):=inferInstanceAs (Decidable (_/\_))
def badE (l:Rows):Bool:=l.any fun r=>!decide (vE r)
theorem badE_at {l:Rows} {i:Nat} (h:i < l.length):badE (l.drop i)=(!decide (vE (l.getD i [])) || badE (l.drop (i+1))):=by
 rw [List.drop_eq_getElem_cons h]
 simp only [badE,List.any_cons]
 rw [zE,zI h];rfl
theorem badE_end {l:Rows} {i:Nat} (h:l.length<=i):badE (l.drop i)=false:=by rw [List.drop_eq_nil_of_le h];rfl
theorem badE_mem {l:Rows} (h:badE l=false):∀r∈l,vE r:=fun r hr=>by
 unfold badE at h
 rw [List.any_eq_false] at h
 have:=h r hr
 simpa using this
theorem vE_and {k m:Int} (hk:0<=k) (hm:0<=m) (hm2:m<=65535) (hk2:k<=9223372036854775807):(bitX .andNot .i64 k m=0↔bitX .and .i64 k m=k)/\(bitX .and .i64 k m=k->k<=65535):=by
 obtain ⟨k',rfl⟩:=Int.eq_ofNat_of_zero_le hk
 obtain ⟨m',rfl⟩:=Int.eq_ofNat_of_zero_le hm
 have h1:=andNot_nat (a:=k') (b:=m') (by omega) (by omega)
 rw [and_nat (by omega) (by omega),h1.2.2]
 refine ⟨⟨fun h=>by rw [h],fun h=>by omega⟩,fun h=>?_⟩
 have:=Nat.and_le_right (n:=k') (m:=m')
 omega
theorem vE_iff {r:List D} (hk2:kE r<=9223372036854775807):vE r↔(0<=(mnI (kE r) (mE r))/\mE r<=65535/\bitX .andNot .i64 (kE r) (mE r)=0/\1<=oE r/\oE r<=31):=by
 have mn:0<=mnI (kE r) (mE r)↔0<=kE r/\0<=mE r:=by unfold mnI;split<;>omega
 rw [mn]
 constructor
 ·rintro ⟨⟨h1,h2⟩,⟨h3,h4⟩,h5,h6,h7⟩
  exact ⟨⟨h1,h3⟩,h4,(vE_and h1 h3 h4 hk2).1.2 h5,h6,h7⟩
 rintro ⟨⟨h1,h3⟩,h4,h5,h6,h7⟩
 have h8:=(vE_and h1 h3 h4 hk2).1.1 h5
 exact ⟨⟨h1,(vE_and h1 h3 h4 hk2).2 h8⟩,⟨h3,h4⟩,h8,h6,h7⟩
def r62:List (List D)->Nat->Nat->D
 |[[.l l],_],_,_=>.b (badE l)
 |_,_,_=>.nil
def fitE (l:Rows):Prop:=∀r∈l,kE r<=9223372036854775807
def p62:List (List D)->Prop
 |[[.l l],_]=>fitE l
 |_=>False
theorem law62 (a0:Rows) (hs:a0.length<=9223372036854775807) (hf:fitE a0):V62 a0 (r62 [[.l a0],[.nil]]) (fun _ i=>0<=i/\i<=a0.length/\badE (a0.drop i.toNat)=badE a0) (fun _ i=>(a0.length - i).toNat):=by
 have e0:∀i:Nat,Ar.std.bit BinOp.andNot IntKind.i64 (gt a0 i 0).int (gt a0 i 1).int=bitX .andNot .i64 (kE (a0.getD i [])) (mE (a0.getD i [])):=fun _=>rfl
 have res:r62 [[.l a0],[.nil]] 0 0=.b (badE a0):=rfl
 have fit:∀i:Nat,i < a0.length->kE (a0.getD i [])<=9223372036854775807:=fun i h=>by
  rw [zE,zI h]
  exact hf _ (xQ h)
 have bad:∀x1:Int,0<=x1->x1 < a0.length->badE (a0.drop x1.toNat)=badE a0->¬(0<=(mnI (kE (a0.getD x1.toNat [])) (mE (a0.getD x1.toNat [])))/\mE (a0.getD x1.toNat [])<=65535/\bitX .andNot .i64 (kE (a0.getD x1.toNat [])) (mE (a0.getD x1.toNat []))=0/\1<=oE (a0.getD x1.toNat [])/\oE (a0.getD x1.toNat [])<=31)->D.b (badE a0)=D.b (decide (0<=x1)):=fun x1 h1 h2 h3 h4=>by
  rw [<-vE_iff (fit _ (by omega))] at h4
  rw [badE_at (by omega),qE h4] at h3
  rw [<-h3,qB h1];rfl
 constructor
 all_goals try simp only [e0,gt_kE,gt_mE,gt_oE,res]
 ·exact ⟨by omega,by omega,rfl⟩
 all_goals rintro x0 x1 ⟨q1,q2,q3⟩ lt
 case n6=>
  intro h1 h2 h3 h4 h5
  have hv:=(vE_iff (fit x1.toNat (by omega))).2 ⟨h1,h2,h3,h4,h5⟩
  rw [badE_at (by omega),qB hv] at q3
  refine ⟨⟨by omega,by omega,?_⟩,by omega⟩
  rw [show (x1+1).toNat=x1.toNat+1 by omega];exact q3
 case g11=>rw [badE_end (by omega)] at q3;rw [<-q3];rfl
 all_goals first
  |omega
  |(intros;omega)
  |(intros;refine bad x1 q1 lt q3 ?_;rintro ⟨z1,z2,z3,z4,z5⟩;first |contradiction |omega)
def keyR (r:List D):Prop:=0<=kE r/\kE r<=65535
instance (r:List D):Decidable (keyR r):=inferInstanceAs (Decidable (_/\_))
def badK (l:Rows):Bool:=l.any fun r=>!decide (keyR r)
theorem badK_at {l:Rows} {i:Nat} (h:i < l.length):badK (l.drop i)=(!decide (keyR (l.getD i [])) || badK (l.drop (i+1))):=by
 rw [List.drop_eq_getElem_cons h]
 simp only [badK,List.any_cons]
 rw [zE,zI h];rfl
theorem badK_end {l:Rows} {i:Nat} (h:l.length<=i):badK (l.drop i)=false:=by rw [List.drop_eq_nil_of_le h];rfl
def r65:List (List D)->Nat->Nat->D
 |[[.l l],_],_,_=>.b (badK l)
 |_,_,_=>.nil
theorem law65 (a0:Rows) (hs:a0.length<=9223372036854775807):V65 a0 (r65 [[.l a0],[.nil]]) (fun _ i=>0<=i/\i<=a0.length/\badK (a0.drop i.toNat)=badK a0) (fun _ i=>(a0.length - i).toNat):=by
 have res:r65 [[.l a0],[.nil]] 0 0=.b (badK a0):=rfl
 constructor
 all_goals try simp only [gt_kE,res]
 ·exact ⟨by omega,by omega,rfl⟩
 all_goals rintro x0 x1 ⟨q1,q2,q3⟩ lt
 case g4=>intro h;rw [badK_at (by omega),qE (fun c=>by have:=c.1;omega)] at q3;rw [<-q3,qB q1];rfl
 case g5=>intro _ h;rw [badK_at (by omega),qE (fun c=>by have:=c.2;omega)] at q3;rw [<-q3,qB q1];rfl
 case n7=>
  intro h h2
  rw [badK_at (by omega),qB (show keyR _ from ⟨by omega,by omega⟩)] at q3
  refine ⟨⟨by omega,by omega,?_⟩,by omega⟩
  rw [show (x1+1).toNat=x1.toNat+1 by omega];exact q3
 case g8=>rw [badK_end (by omega)] at q3;rw [<-q3];rfl
 all_goals first |omega |(intros;omega)
def wantB (l keys want:Rows):Bool:=(List.range keys.length).all fun i=>decide (oF l (kE (keys.getD i []))=(gt want i 0).int)
def wantF (l keys want:Rows) (i:Nat):Prop:=∀j,i<=j->j < keys.length->oF l (kE (keys.getD j []))=(gt want j 0).int
instance (l keys want:Rows):Decidable (wantF l keys want 0):=decidable_of_iff (wantB l keys want=true) (by
 simp [wantB,wantF,kQ])
theorem wantF_at {l keys want:Rows} {i:Nat} (h:i < keys.length):wantF l keys want i↔oF l (kE (keys.getD i []))=(gt want i 0).int/\wantF l keys want (i+1):=
 ⟨fun c=>⟨c i (zB _) h,fun j h1 h2=>c j (by omega) h2⟩,fun c j h1 h2=>by
  by_cases e:j=i
  ·subst e;exact c.1
  exact c.2 j (by omega) h2⟩
def p67:List (List D)->Prop
 |[[.l l],[.l k],[.l w]]=>l.length<=9223372036854775807/\k.length=w.length
 |_=>False
def r67:List (List D)->Nat->Nat->D
 |[[.l l],[.l k],[.l w]],_,_=>.b (decide (wantF l k w 0))
 |_,_,_=>.nil
theorem law67 (pre:Nat->List (List D)->Prop) (fn:Nat->List (List D)->Nat->Nat->D) (hp:∀l k,l.length<=9223372036854775807->pre 31 [[.l l],[.i k]]) (hf:fn 31=r31) (a0 a1 a2:Rows) (h0:a0.length<=9223372036854775807) (h1:a1.length<=9223372036854775807) (h2:a1.length=a2.length) :
  V67 pre fn a0 a1 a2 (r67 [[.l a0],[.l a1],[.l a2]]) (fun _ i=>0<=i/\i<=a1.length/\(wantF a0 a1 a2 i.toNat↔wantF a0 a1 a2 0)) (fun _ i=>(a1.length - i).toNat):=by
 have e1:∀x:Rows,(D.rows (gt [[D.l x]] 0 0))=x:=fun _=>rfl
 have f:∀l k,(fn 31 [[.l l],[.i k]] 0 0).int=oF l k:=fun l k=>by rw [hf];rfl
 have res:r67 [[.l a0],[.l a1],[.l a2]] 0 0=.b (decide (wantF a0 a1 a2 0)):=rfl
 constructor
 all_goals try simp only [e1,f,gt_kE,res]
 ·show ((0:Nat):Int) < ((1:Nat):Int);omega
 ·exact ⟨by omega,by omega,Iff.rfl⟩
 all_goals rintro x0 x1 ⟨q1,q2,q3⟩ lt
 case g5=>exact hp _ _ h0
 case g6=>show ((0:Nat):Int) < ((1:Nat):Int);omega
 case g10=>
  intro e
  rw [wantF_at (by omega)] at q3
  rw [qE (fun c=>e (q3.2 c).1)]
 case n12=>
  intro e
  rw [wantF_at (by omega)] at q3
  refine ⟨⟨by omega,by omega,?_⟩,by omega⟩
  rw [show (x1+1).toNat=x1.toNat+1 by omega,<-q3]
  exact ⟨fun c=>⟨e,c⟩,fun c=>c.2⟩
 case g13=>rw [qB (q3.1 fun j h1 h2=>by omega)]
 all_goals first |omega |(intros;omega)
def row3 (r:List D):List D:=[.i (kE r),.i (mE r),.i (oE r)]
def r29:List (List D)->Nat->Nat->D
 |[[.l l]],_,_=>.l (l.map row3)
 |_,_,_=>.nil
def triE (r:List D):Int×Int×Int:=(kE r,mE r,oE r)
def r27:List (List D)->Nat->Nat->D
 |[[.l l],[.l t]],_,_=>.b (decide (l.map triE=t.map triE))
 |_,_,_=>.nil
def tryT (l:Rows) (k j:Nat):Option Rows:=(joinE (l.getD k []) (l.getD j [])).map fun y=>(l.take j++l.drop (j+1)).set k y
def stJ (P:Rows->Bool) (l:Rows) (k:Nat):Nat->Nat->Option Rows
 |_,0=>none
 |j,n+1=>match tryT l k j with
  |some t=>if P t=true then some t else stJ P l k (j+1) n
  |none=>stJ P l k (j+1) n
def sJ (P:Rows->Bool) (l:Rows) (k j:Nat):Option Rows:=stJ P l k j (l.length - j)
theorem sJ_at {P:Rows->Bool} {l:Rows} {k j:Nat} (h:j < l.length):sJ P l k j=match tryT l k j with
  |some t=>if P t=true then some t else sJ P l k (j+1)
  |none=>sJ P l k (j+1):=by
 unfold sJ
 rw [show l.length - j=(l.length - (j+1))+1 by omega,stJ]
theorem sJ_end {P:Rows->Bool} {l:Rows} {k j:Nat} (h:l.length<=j):sJ P l k j=none:=by
 unfold sJ
 rw [show l.length - j=0 by omega,stJ]
def stK (P:Rows->Bool) (l:Rows):Nat->Nat->Option Rows
 |_,0=>none
 |k,n+1=>match sJ P l k (k+1) with
  |some t=>some t
  |none=>stK P l (k+1) n
def sK (P:Rows->Bool) (l:Rows) (k:Nat):Option Rows:=stK P l k (l.length - k)
theorem sK_at {P:Rows->Bool} {l:Rows} {k:Nat} (h:k < l.length):sK P l k=match sJ P l k (k+1) with
  |some t=>some t
  |none=>sK P l (k+1):=by
 unfold sK
 rw [show l.length - k=(l.length - (k+1))+1 by omega,stK]
theorem sK_end {P:Rows->Bool} {l:Rows} {k:Nat} (h:l.length<=k):sK P l k=none:=by
 unfold sK
 rw [show l.length - k=0 by omega,stK]
theorem sJ_some {P:Rows->Bool} {l:Rows} {k:Nat} {t:Rows}:∀(n j:Nat),k < j->stJ P l k j n=some t->j+n<=l.length->∃j,k < j/\j < l.length/\tryT l k j=some t/\P t=true
 |0,_,_,h,_=>by simp [stJ] at h
 |n+1,j,hj,h,hl=>by
  simp only [stJ] at h
  split at h
  next t' ht=>
   split at h
   next hp=>
    simp only [zA] at h
    subst h
    exact ⟨j,hj,by omega,ht,hp⟩
   exact sJ_some n (j+1) (by omega) h (by omega)
  exact sJ_some n (j+1) (by omega) h (by omega)
theorem sK_some {P:Rows->Bool} {l:Rows} {t:Rows}:∀(n k:Nat),stK P l k n=some t->k+n<=l.length->∃k j,k < j/\j < l.length/\tryT l k j=some t/\P t=true
 |0,_,h,_=>by simp [stK] at h
 |n+1,k,h,hl=>by
  simp only [stK] at h
  split at h
  next t' ht=>
   simp only [zA] at h
   subst h
   obtain ⟨j,h1,h2,h3,h4⟩:=sJ_some _ _ (zL k) ht (by omega)
   exact ⟨k,j,h1,h2,h3,h4⟩
  exact sK_some n (k+1) h (by omega)
theorem tryT_len {l t:Rows} {k j:Nat} (hj:j < l.length) (h:tryT l k j=some t):t.length+1=l.length:=by
 simp only [tryT,Option.map_eq_some_iff] at h
 obtain ⟨y,_,rfl⟩:=h
 simp only [xV,xD,zU,zZ]
 omega
def mrgF (keys:Rows):Nat->Rows->Rows
 |0,l=>l
 |n+1,l=>match sK (sameK keys l) l 0 with
  |some t=>mrgF keys n t
  |none=>l
def mrg (keys l:Rows):Rows:=mrgF keys l.length l
theorem sK_spec {P:Rows->Bool} {l t:Rows} (h:sK P l 0=some t):∃k j,k < j/\j < l.length/\tryT l k j=some t/\P t=true:=sK_some _ _ h (by omega)
theorem mrg_some {keys l t:Rows} (h:sK (sameK keys l) l 0=some t):t.length+1=l.length/\mrg keys l=mrg keys t:=by
 obtain ⟨k,j,_,h2,h3,_⟩:=sK_spec h
 have hl:=tryT_len h2 h3
 refine ⟨hl,?_⟩
 unfold mrg
 rw [<-hl,mrgF,h]
theorem mrg_none {keys l:Rows} (h:sK (sameK keys l) l 0=none):mrg keys l=l:=by
 unfold mrg
 cases hl:l.length with
 |zero=>rfl
 |succ n=>rw [mrgF,h]
def okT (l:Rows):Prop:=∀r∈l,(0<=kE r/\kE r<=65535)/\1<=oE r
theorem okT_at {l:Rows} (h:okT l) {i:Nat} (hi:i < l.length):(0<=kE (l.getD i [])/\kE (l.getD i [])<=65535)/\1<=oE (l.getD i []):=by
 rw [zE,zI hi];exact h _ (xQ hi)
theorem joinE_ok {x y r:List D} (h:joinE x y=some r) (hx:0<=kE x/\kE x<=65535) (hy:0<=kE y/\kE y<=65535):((0<=kE r/\kE r<=65535)/\oE r=oE x)/\row3 r=r/\kE r=bitX .andNot .i64 (kE x) (xK (kE x) (kE y))/\mE r=bitX .andNot .i64 (mE x) (xK (kE x) (kE y)):=by
 unfold joinE at h
 split at h
 ·simp only [zA] at h
  subst h
  have h0:=xK_rng hx hy
  obtain ⟨a,ha⟩:=Int.eq_ofNat_of_zero_le hx.1
  obtain ⟨b,hb⟩:=Int.eq_ofNat_of_zero_le h0.1
  have h1:=andNot_nat (a:=a) (b:=b) (by omega) (by omega)
  rw [<-ha,<-hb] at h1
  exact ⟨⟨⟨h1.1,by show bitX .andNot .i64 (kE x) (xK (kE x) (kE y))<=_;omega⟩,rfl⟩,rfl,rfl,rfl⟩
 cases h
theorem tryT_ok {l t:Rows} {k j:Nat} (hk:k < j) (hj:j < l.length) (ho:okT l) (h:tryT l k j=some t):okT t:=by
 simp only [tryT,Option.map_eq_some_iff] at h
 obtain ⟨y,hy,rfl⟩:=h
 intro r hr
 rcases List.mem_or_eq_of_mem_set hr with hr |rfl
 ·rcases xW.1 hr with hr |hr
  ·exact ho r (xN hr)
  exact ho r (xX hr)
 have h1:=okT_at ho (show k < l.length by omega)
 have h2:=okT_at ho hj
 have:=(joinE_ok hy h1.1 h2.1).1
 exact ⟨this.1,by rw [this.2];exact h1.2⟩
end HX

namespace HX
open Go Go.Proofs CX
end HX

namespace HX
open Go Go.Proofs CX
end HX

namespace HX
open Go Go.Proofs CX
theorem shrU (n k:Nat) (hk:k<=64):Ar.std.shr IntKind.u64 (n:Int) (k:Int)=((n >>> k:Nat):Int):=by
 show Int.fdiv (n:Int) (2 ^ (Nat.min (k:Int).toNat (IntKind.bits .u64)))=_
 have h2:((2:Int) ^ k)=((2 ^ k:Nat):Int):=by rw [Int.natCast_pow];rfl
 rw [qM,show Nat.min k (IntKind.bits .u64)=k from qP hk,Nat.shiftRight_eq_div_pow,h2,Int.fdiv_eq_ediv_of_nonneg _ (kW _),Int.natCast_ediv]
theorem wrU {n:Nat} (h:n < 18446744073709551616):Ar.std.wrap IntKind.u64 (n:Int)=(n:Int):=by
 show (n:Int) % 18446744073709551616=(n:Int)
 omega
theorem andU {a b:Nat} (ha:a < 18446744073709551616) (hb:b < 18446744073709551616):Ar.std.bit BinOp.and IntKind.u64 (a:Int) (b:Int)=((a &&& b:Nat):Int):=by
 show Ar.std.wrap IntKind.u64 ((BitVec.ofInt 64 (a:Int) &&& BitVec.ofInt 64 (b:Int)).toNat:Int)=_
 rw [BitVec.toNat_and,ofN ha,ofN hb,wrU (Nat.lt_of_le_of_lt Nat.and_le_left ha)]
theorem shr_le (n k:Nat):n >>> k<=n:=by rw [Nat.shiftRight_eq_div_pow];exact Nat.div_le_self _ _
theorem pop1_le (x:Nat):pop1 x<=2 * x:=by
 have h1:(x >>> 1) &&& 6148914691236517205<=x >>> 1:=Nat.and_le_left
 have h2:x &&& 6148914691236517205<=x:=Nat.and_le_left
 have:=shr_le x 1
 unfold pop1;omega
theorem pop2_le (x:Nat):pop2 x<=2 * x:=by
 have h1:(x >>> 2) &&& 3689348814741910323<=x >>> 2:=Nat.and_le_left
 have h2:x &&& 3689348814741910323<=x:=Nat.and_le_left
 have:=shr_le x 2
 unfold pop2;omega
theorem pop3_le (x:Nat):pop3 x<=2 * x:=by
 have h1:((x >>> 4)+x) &&& 1085102592571150095<=(x >>> 4)+x:=Nat.and_le_left
 have:=shr_le x 4
 unfold pop3;omega
theorem pop4_le (x:Nat):pop4 x<=2 * x:=by have:=shr_le x 8;unfold pop4;omega
theorem pop5_le (x:Nat):pop5 x<=2 * x:=by have:=shr_le x 16;unfold pop5;omega
theorem pop6_le (x:Nat):pop6 x<=2 * x:=by have:=shr_le x 32;unfold pop6;omega
theorem st1 {n:Nat} (h:n < 1073741824):Ar.std.wrap IntKind.u64 ((Ar.std.bit BinOp.and IntKind.u64 (Ar.std.shr IntKind.u64 (n:Int) 1) 6148914691236517205)+(Ar.std.bit BinOp.and IntKind.u64 (n:Int) 6148914691236517205))=((pop1 n:Nat):Int):=by
 have e1:Ar.std.shr IntKind.u64 (n:Int) 1=((n >>> 1:Nat):Int):=shrU n 1 (by decide)
 have h1:=shr_le n 1
 have e2:Ar.std.bit BinOp.and IntKind.u64 ((n >>> 1:Nat):Int) 6148914691236517205=(((n >>> 1) &&& 6148914691236517205:Nat):Int):=andU (b:=6148914691236517205) (by omega) (by decide)
 have e3:Ar.std.bit BinOp.and IntKind.u64 (n:Int) 6148914691236517205=((n &&& 6148914691236517205:Nat):Int):=andU (b:=6148914691236517205) (by omega) (by decide)
 have:=pop1_le n
 rw [e1,e2,e3,<-Int.natCast_add]
 exact wrU (n:=pop1 n) (by omega)
theorem st2 {n:Nat} (h:n < 1073741824):Ar.std.wrap IntKind.u64 ((Ar.std.bit BinOp.and IntKind.u64 (Ar.std.shr IntKind.u64 (n:Int) 2) 3689348814741910323)+(Ar.std.bit BinOp.and IntKind.u64 (n:Int) 3689348814741910323))=((pop2 n:Nat):Int):=by
 have e1:Ar.std.shr IntKind.u64 (n:Int) 2=((n >>> 2:Nat):Int):=shrU n 2 (by decide)
 have h1:=shr_le n 2
 have e2:Ar.std.bit BinOp.and IntKind.u64 ((n >>> 2:Nat):Int) 3689348814741910323=(((n >>> 2) &&& 3689348814741910323:Nat):Int):=andU (b:=3689348814741910323) (by omega) (by decide)
 have e3:Ar.std.bit BinOp.and IntKind.u64 (n:Int) 3689348814741910323=((n &&& 3689348814741910323:Nat):Int):=andU (b:=3689348814741910323) (by omega) (by decide)
 have:=pop2_le n
 rw [e1,e2,e3,<-Int.natCast_add]
 exact wrU (n:=pop2 n) (by omega)
theorem st3 {n:Nat} (h:n < 1073741824):Ar.std.bit BinOp.and IntKind.u64 (Ar.std.wrap IntKind.u64 ((Ar.std.shr IntKind.u64 (n:Int) 4)+(n:Int))) 1085102592571150095=((pop3 n:Nat):Int):=by
 have e1:Ar.std.shr IntKind.u64 (n:Int) 4=((n >>> 4:Nat):Int):=shrU n 4 (by decide)
 have h1:=shr_le n 4
 rw [e1,<-Int.natCast_add,wrU (by omega)]
 exact andU (b:=1085102592571150095) (by omega) (by decide)
theorem st4 {n:Nat} (h:n < 1073741824):Ar.std.wrap IntKind.u64 ((n:Int)+(Ar.std.shr IntKind.u64 (n:Int) 8))=((pop4 n:Nat):Int):=by
 have e1:Ar.std.shr IntKind.u64 (n:Int) 8=((n >>> 8:Nat):Int):=shrU n 8 (by decide)
 have h1:=shr_le n 8
 rw [e1,<-Int.natCast_add,wrU (by omega)];rfl
theorem st5 {n:Nat} (h:n < 1073741824):Ar.std.wrap IntKind.u64 ((n:Int)+(Ar.std.shr IntKind.u64 (n:Int) 16))=((pop5 n:Nat):Int):=by
 have e1:Ar.std.shr IntKind.u64 (n:Int) 16=((n >>> 16:Nat):Int):=shrU n 16 (by decide)
 have h1:=shr_le n 16
 rw [e1,<-Int.natCast_add,wrU (by omega)];rfl
theorem st6 {n:Nat} (h:n < 1073741824):Ar.std.wrap IntKind.u64 ((n:Int)+(Ar.std.shr IntKind.u64 (n:Int) 32))=((pop6 n:Nat):Int):=by
 have e1:Ar.std.shr IntKind.u64 (n:Int) 32=((n >>> 32:Nat):Int):=shrU n 32 (by decide)
 have h1:=shr_le n 32
 rw [e1,<-Int.natCast_add,wrU (by omega)];rfl
theorem law113 (a0:Int) (h:p113 [[.i a0]]):V113 a0 (r113 [[.i a0]]):=by
 obtain ⟨n,rfl⟩:=Int.eq_ofNat_of_zero_le h.1
 have hn:n < 65536:=by have:=h.2;omega
 have l1:=pop1_le n
 have l2:=pop2_le (pop1 n)
 have l3:=pop3_le (pop2 (pop1 n))
 have l4:=pop4_le (pop3 (pop2 (pop1 n)))
 have l5:=pop5_le (pop4 (pop3 (pop2 (pop1 n))))
 have l6:=pop6_le (pop5 (pop4 (pop3 (pop2 (pop1 n)))))
 have s1:=st1 (n:=n) (by omega)
 have s2:=st2 (n:=pop1 n) (by omega)
 have s3:=st3 (n:=pop2 (pop1 n)) (by omega)
 have s4:=st4 (n:=pop3 (pop2 (pop1 n))) (by omega)
 have s5:=st5 (n:=pop4 (pop3 (pop2 (pop1 n)))) (by omega)
 have s6:=st6 (n:=pop5 (pop4 (pop3 (pop2 (pop1 n))))) (by omega)
 constructor
 all_goals try simp only [s1,s2,s3,s4,s5,s6]
 case g7=>
  show D.i ((popN n:Nat):Int)=_
  exact congrArg D.i (and_nat (b:=127) (by omega) (by decide)).symm
 all_goals first |decide |omega
def putT (l:Rows) (k j:Nat) (y:List D):Rows:=((l.take j)++(List.take (l.length - (j+1)) (List.drop (j+1) l))).set k y
theorem putT_eq (l:Rows) (k j:Nat) (y:List D):putT l k j y=(l.take j++l.drop (j+1)).set k y:=by
 unfold putT
 have:=List.take_of_length_le (show (List.drop (j+1) l).length<=l.length - (j+1) by rw [zZ];omega)
 rw [this]
theorem tryT_put {l:Rows} {k j:Nat} (h1:mE (l.getD k [])=mE (l.getD j [])) (h2:oE (l.getD k [])=oE (l.getD j [])) (h3:pwI (xK (kE (l.getD k [])) (kE (l.getD j [])))=true) :
  tryT l k j=some (putT l k j [.i (bitX .andNot .i64 (kE (l.getD k [])) (xK (kE (l.getD k [])) (kE (l.getD j [])))),.i (bitX .andNot .i64 (mE (l.getD k [])) (xK (kE (l.getD k [])) (kE (l.getD j [])))),.i (oE (l.getD k []))]):=by
 unfold tryT joinE
 rw [if_pos ⟨h1,h2,h3⟩,putT_eq];rfl
theorem putT_len {l:Rows} {k j:Nat} {y:List D} (h:j < l.length):(putT l k j y).length=l.length - 1:=by
 rw [putT_eq,xV,xD,zU,zZ];omega
def r28:List (List D)->Nat->Nat->D
 |[[.l l],[.l k]],i,_=>if 1024 < l.length\/1024 < k.length then [D.l [],.i 9].getD i .nil else if badE l=true then [D.l [],.i 2].getD i .nil else if badK k=true then [D.l [],.i 3].getD i .nil else [D.l (mrg k l),.i 0].getD i .nil
 |_,_,_=>.nil
theorem vE_ok {l:Rows} (h:badE l=false):okT l:=fun r hr=>by
 have:=badE_mem h r hr
 exact ⟨this.1,this.2.2.2.1⟩
end HX
