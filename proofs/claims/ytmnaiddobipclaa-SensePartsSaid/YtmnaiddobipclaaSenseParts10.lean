/-
  Texts of the executors: SpG, W17, W50, W100, W76, W71, W51.
-/
import Derived.Test.YtmnaiddobipclaaSenseParts9
set_option linter.all false
namespace HX
open Go Go.Proofs CX
def key2 (x:Int×Int):List D:=[.i x.1,.i x.2]
structure Thr (b:Rows) (L:List (Int×Int)):Prop where
 has:∀x,mhasR b (key2 x)=true↔x∈L
 get:∀x,x∈L→mgetR b (key2 x) 0 (.b false)=.b true
 ks:∃K:List (Int×Int),K.Nodup∧b.length=K.length∧∀x,x∈K↔x∈L
theorem Thr.nil:Thr [] []:=⟨fun x=>by simp [key2,has_nil],fun x h=>(by cases h),[],List.nodup_nil,rfl,fun x=>Iff.rfl⟩
theorem Thr.push {b:Rows} {L:List (Int×Int)} (h:Thr b L) (y:Int×Int):Thr (msetR (key2 y) [.b true] b) (L++[y]):=by
 refine ⟨fun x=>?_,fun x hx=>?_,?_⟩
 ·rw [key2,key2,has2,List.mem_append,List.mem_singleton,pair_eq,←h.has x,key2]
  constructor
  ·rintro (⟨a,b⟩ |h)
   ·exact .inr ⟨a.symm,b.symm⟩
   ·exact .inl h
  ·rintro (h |⟨a,b⟩)
   ·exact .inr h
   ·exact .inl ⟨a.symm,b.symm⟩
 ·rw [key2,key2,get2]
  by_cases e:y.1=x.1∧y.2=x.2
  ·rw [if_pos e]
  ·rw [if_neg e]
   rw [List.mem_append,List.mem_singleton] at hx
   rcases hx with hx |hx
   ·exact h.get x hx
   ·exact absurd (by rw [hx];exact ⟨rfl,rfl⟩) e
 ·obtain ⟨K,k1,k2,k3⟩:=h.ks
  rw [mset_len]
  by_cases c:mhasR b (key2 y)=true
  ·rw [if_pos c]
   refine ⟨K,k1,k2,fun x=>?_⟩
   rw [List.mem_append,List.mem_singleton,k3 x]
   refine ⟨.inl,fun hx=>?_⟩
   rcases hx with hx |hx
   ·exact hx
   ·rw [hx];exact (h.has y).1 c
  ·rw [if_neg c]
   refine ⟨y :: K,List.nodup_cons.2 ⟨fun hy=>c ((h.has y).2 ((k3 y).1 hy)),k1⟩,by rw [List.length_cons,k2],fun x=>?_⟩
   rw [List.mem_cons,List.mem_append,List.mem_singleton,k3 x]
   exact or_comm
theorem nd_len {K s:List (Int×Int)} (hK:K.Nodup) (hs:s.Pairwise Plt) (h:∀x,x∈K↔x∈s):K.length=s.length:=by
 have hp:(psort K).Pairwise Plt:=by
  have h1:=psort_sorted K
  have h2:(psort K).Nodup:=(psort_perm K).nodup_iff.2 hK
  exact (h1.and h2).imp fun h=>Plt.tot h.1 h.2
 rw [←srt_uniq _ _ hp hs fun x=>by rw [(psort_perm K).mem_iff];exact h x,(psort_perm K).length_eq]
section
variable {pre:Nat→List (List D)→Prop} {fn:Nat→List (List D)→Nat→Nat→D} (hp13:pre 13 []) (hf13:fn 13 [] 0 0=.b true)
 (hp17:∀a b,b=a→pre 17 [[.l a],[.l b]]) (hf17:∀x,fn 17 x 0 0=.b true)
 (hp31:∀a b:Rows,a.length+b.length≤2048→pre 31 [[.l a],[.l b]]) (hf31:∀a b,fn 31 [[.l a],[.l b]] 0 0=.l (mrgL a b)) (he31:∀a b,fn 31 [[.l a],[.l b]] 1 0=.i (mrgE a b))
 (hp33:∀x,pre 33 x) (hf33:∀a f t,fn 33 [[.l a],[.i f],[.i t]] 0 0=.l (cutL a f t)) (he33:∀a f t,fn 33 [[.l a],[.i f],[.i t]] 1 0=.i (cutE a f t))
 (hf38:∀a m,fn 38 [[.l a],[.i m]] 0 0=.l (strm a m))
 {a0 a1:Rows} {a2 a3:Int} {R:Nat→Nat→D} (h0:R 0 0=.b true) (A B:List (Int×Int)) (hA:strm a0 50=unprs A) (hB:strm a1 50=unprs B) (oA:Ok2 A) (oB:Ok2 B) (lA:A.length≤60) (lB:B.length≤60)
include hp13 hf13 hp17 hf17 hp31 hf31 he31 hp33 hf33 he33 hf38 h0 hA hB oA oB lA lB
theorem law10c {b1:Rows} (ht:Thr b1 (A++B)) (h2:0≤a2∧a2≤65535) (h3:0≤a3∧a3≤65535):V10j2 pre fn a0 a1 a2 a3 R b1:=by
 have hr:∀l:Rows,(D.l l).rows=l:=fun _=>rfl
 have hi:∀n:Int,(D.i n).int=n:=fun _=>rfl
 have hb:∀n:Bool,(D.b n).boo=n:=fun _=>rfl
 obtain ⟨m1,_⟩:=mrg_un oA oB (by omega) (by omega)
 have len:(mg A B).length=b1.length:=by
  obtain ⟨K,k1,k2,k3⟩:=ht.ks
  rw [k2,nd_len k1 (mg_ok A B).1 fun x=>by rw [k3 x,(mg_ok A B).2,List.mem_append]]
 have bd:∀x:Int,0≤x→0≤Int.tmod x 3000∧Int.tmod x 3000 < 3000:=fun x h=>tmod_bd h (by omega)
 have b1':=bd (mxI a2 a3) (by rw [mxI_eq];omega)
 have b2':=bd (mnI a2 a3) (by rw [mnI_eq];omega)
 refine ⟨fun e0 e1=>0≤e0∧e0≤e1∧e1 < 3000,⟨fun h=>⟨b1'.1,by omega,b2'.2⟩,fun h=>⟨b2'.1,by omega,b1'.2⟩⟩,?_⟩
 rintro e0 e1 ⟨j0,j1,j2⟩
 obtain ⟨c1,d1⟩:=cut_un oA (by omega) (f:=0) (t:=e0) j0
 obtain ⟨c2,d2⟩:=cut_un oA (by omega) (f:=e0) (t:=e1) j1
 obtain ⟨c3,d3⟩:=cut_un oA (by omega) (f:=e1) (t:=1073741825) (by omega)
 have o1:=cut_ok oA 0 e0
 have o2:=cut_ok oA e0 e1
 have o3:=cut_ok oA e1 1073741825
 have l1:=cut_len A 0 e0
 have l2:=cut_len A e0 e1
 have l3:=cut_len A e1 1073741825
 obtain ⟨m2,x2⟩:=mrg_un o2 o3 (by omega) (by omega)
 have l4:=mg_len (cutP A e0 e1) (cutP A e1 1073741825)
 obtain ⟨m3,x3⟩:=mrg_un (mg_ok2 o2 o3) o1 (by omega) (by omega)
 have hp:=parts oA j0 j1
 constructor
 all_goals (simp only [v10a,v10b,v10d,v10e,v10g,v10h,v10i,v10j,v10l,v10m,hf38,hf31,he31,hf33,he33,hf17,hf13,hr,hi,hb,hA,hB,m1,c1,c2,c3,d1,d2,d3,m2,m3,x2,x3,hp,un_len,len])
 case g61=>intros;exact hp31 _ _ (by rw [un_len,un_len];omega)
 case g62=>intros;exact hp31 _ _ (by rw [un_len,un_len];omega)
 case g63=>intros;exact hp17 _ _ rfl
 case g64=>intros;exact hp13
 case g65=>intros;exact h0
 case g54 |g55 |g56=>exact hp33 _
 case g57=>intro h;exact absurd (by trivial) h
 case g58=>intro _ h;exact absurd (by trivial) h
 case g59=>intro _ _ h;exact absurd (by trivial) h
 case g60=>intro _ _ _ h;exact absurd (by trivial) h
 case g66=>intro _ _ _ _ _ _ h;cases h
 case g67=>intro _ _ _ _ _ h;exact absurd (by trivial) h
 case g68=>intro _ _ _ _ h;exact absurd (by trivial) h
theorem law10b {b1:Rows} (ht:Thr b1 (A++B)) (h2:0≤a2∧a2≤65535) (h3:0≤a3∧a3≤65535):V10l1 pre fn a0 a1 a2 a3 R b1:=by
 have hr:∀l:Rows,(D.l l).rows=l:=fun _=>rfl
 have hi:∀n:Int,(D.i n).int=n:=fun _=>rfl
 have hb:∀n:Bool,(D.b n).boo=n:=fun _=>rfl
 obtain ⟨m1,_⟩:=mrg_un oA oB (by omega) (by omega)
 have ml:=mg_len A B
 refine ⟨fun d0=>∃F:Nat,d0=F∧F≤(mg A B).length,fun d0=>((mg A B).length - d0).toNat,⟨0,rfl,Nat.zero_le _⟩,?_⟩
 rintro d0 ⟨F,rfl,jF⟩
 have tn:((F:Int) - 1).toNat=F - 1:=by omega
 have key:F < (mg A B).length→gt (unprs (mg A B)) F 0=.i ((mg A B).getD F (0,0)).1∧gt (unprs (mg A B)) F 1=.i ((mg A B).getD F (0,0)).2:=fun h=>un_gt h
 have key1:F < (mg A B).length→gt (unprs (mg A B)) (F - 1) 0=.i ((mg A B).getD (F - 1) (0,0)).1∧gt (unprs (mg A B)) (F - 1) 1=.i ((mg A B).getD (F - 1) (0,0)).2:=fun h=>un_gt (by omega)
 have lt:F < (mg A B).length→0 < F→Plt ((mg A B).getD (F - 1) (0,0)) ((mg A B).getD F (0,0)):=fun h h0=>Ok2.lt (mg_ok A B).1 (by omega) h
 have get:F < (mg A B).length→mgetR b1 [.i ((mg A B).getD F (0,0)).1,.i ((mg A B).getD F (0,0)).2] 0 (.b false)=.b true:=fun h=>
  ht.get _ (by rw [List.mem_append];exact ((mg_ok A B).2 _).1 (getD_mem h))
 constructor
 all_goals (simp only [v10a,v10b,v10c,v10e,v10f,v10g,v10k,hf38,hf31,hr,hA,hB,m1,un_len,Int.toNat_natCast,tn])
 case g24=>
  intro hx
  rw [(key (by omega)).1,(key (by omega)).2]
  simp only [hi,get (by omega),hb]
  intro h;cases h
 case g29=>
  intro hx _ hp hc
  rw [(key (by omega)).1,(key1 (by omega)).1] at hc
  simp only [hi] at hc
  have:=lt (by omega) (by omega)
  unfold Plt at this
  omega
 case g38=>
  intro hx _ hp _ he hc
  rw [(key (by omega)).1,(key1 (by omega)).1] at he
  rw [(key (by omega)).2,(key1 (by omega)).2] at hc
  simp only [hi] at he hc
  have:=lt (by omega) (by omega)
  unfold Plt at this
  omega
 case n40=>intros;exact ⟨⟨F+1,by omega,by omega⟩,by omega⟩
 case n42=>intros;exact ⟨⟨F+1,by omega,by omega⟩,by omega⟩
 case n44=>intros;exact ⟨⟨F+1,by omega,by omega⟩,by omega⟩
 case l2=>intro _;exact law10c hp13 hf13 hp17 hf17 hp31 hf31 he31 hp33 hf33 he33 hf38 h0 A B hA hB oA oB lA lB ht h2 h3
 all_goals (intros;(try unfold vZ10);(try omega))
theorem law10a (h2:0≤a2∧a2≤65535) (h3:0≤a3∧a3≤65535):V10l0 pre fn a0 a1 a2 a3 R:=by
 have hr:∀l:Rows,(D.l l).rows=l:=fun _=>rfl
 have hi:∀n:Int,(D.i n).int=n:=fun _=>rfl
 refine ⟨fun b0 b1=>∃F:Nat,b0=F∧F≤(A++B).length∧Thr b1 ((A++B).take F),fun b0 _=>((A++B).length - b0).toNat,⟨0,rfl,Nat.zero_le _,by rw [List.take_zero];exact Thr.nil⟩,?_⟩
 rintro b0 b1 ⟨F,rfl,jF,ht⟩
 have ab:(A++B).length=A.length+B.length:=List.length_append
 have e:([]++unprs A)++unprs B=unprs (A++B):=by rw [List.nil_append,un_app]
 constructor
 all_goals (simp only [v10b,v10e,v10n,hf38,hr,hA,hB,e,un_len,Int.toNat_natCast])
 case n19=>
  intro hx
  have hF:F < (A++B).length:=by omega
  rw [(un_gt hF).1,(un_gt hF).2]
  simp only [hi]
  refine ⟨⟨F+1,by omega,by omega,?_⟩,by omega⟩
  rw [take_snoc hF]
  exact ht.push _
 case l1=>
  intro hx
  rw [show F=(A++B).length by omega,List.take_length] at ht
  exact law10b hp13 hf13 hp17 hf17 hp31 hf31 he31 hp33 hf33 he33 hf38 h0 A B hA hB oA oB lA lB ht h2 h3
 all_goals (intros;(try unfold vZ10);(try omega))
end
theorem law10 {pre:Nat→List (List D)→Prop} {fn:Nat→List (List D)→Nat→Nat→D} (hp13:pre 13 []) (hf13:fn 13 [] 0 0=.b true)
  (hp17:∀a b,b=a→pre 17 [[.l a],[.l b]]) (hf17:∀x,fn 17 x 0 0=.b true)
  (hp31:∀a b:Rows,a.length+b.length≤2048→pre 31 [[.l a],[.l b]]) (hf31:∀a b,fn 31 [[.l a],[.l b]] 0 0=.l (mrgL a b)) (he31:∀a b,fn 31 [[.l a],[.l b]] 1 0=.i (mrgE a b))
  (hp33:∀x,pre 33 x) (hf33:∀a f t,fn 33 [[.l a],[.i f],[.i t]] 0 0=.l (cutL a f t)) (he33:∀a f t,fn 33 [[.l a],[.i f],[.i t]] 1 0=.i (cutE a f t))
  (hp38:∀l m,u32L l→l.length≤1000→0≤m→m≤4000000000→pre 38 [[.l l],[.i m]]) (hf38:∀a m,fn 38 [[.l a],[.i m]] 0 0=.l (strm a m))
  {a0 a1:Rows} {a2 a3:Int} (u0:u32L a0) (u1:u32L a1) (h2:0≤a2∧a2≤65535) (h3:0≤a3∧a3≤65535) {R:Nat→Nat→D} (h0:R 0 0=.b true):V10 pre fn a0 a1 a2 a3 R:=by
 have hr:∀l:Rows,(D.l l).rows=l:=fun _=>rfl
 have hi:∀n:Int,(D.i n).int=n:=fun _=>rfl
 have hb:∀n:Bool,(D.b n).boo=n:=fun _=>rfl
 obtain ⟨eA,cA,lA⟩:=strm_ok u0 (m:=50) (by omega) (by omega)
 obtain ⟨eB,cB,lB⟩:=strm_ok u1 (m:=50) (by omega) (by omega)
 obtain ⟨A,hA⟩:∃A,strm a0 50=unprs A:=⟨prs (strm a0 50),(can_un cA).symm⟩
 obtain ⟨B,hB⟩:∃B,strm a1 50=unprs B:=⟨prs (strm a1 50),(can_un cB).symm⟩
 rw [hA] at eA lA
 rw [hB] at eB lB
 rw [un_len] at lA lB
 have oA:Ok2 A:=by have:=ev_ok2 eA;rwa [prs_un] at this
 have oB:Ok2 B:=by have:=ev_ok2 eB;rwa [prs_un] at this
 by_cases g0:a0.length≤60
 ·by_cases g1:a1.length≤60
  ·obtain ⟨m1,x1⟩:=mrg_un oA oB (by omega) (by omega)
   obtain ⟨m2,x2⟩:=mrg_un oB oA (by omega) (by omega)
   rw [mg_comm B A] at m2
   constructor
   all_goals (try simp only [v10a,v10b,v10e,v10o,v10p,v10q,hf38,hf31,he31,hf17,hf13,hr,hi,hb,hA,hB,m1,m2,x1,x2,un_len,List.length_nil,List.nil_append])
   case g0=>intro h;omega
   case g1=>intro h;omega
   case g2=>intro _ h;omega
   case g3=>intro _ h;omega
   case g4=>intros;exact hp38 _ _ u0 (by omega) (by omega) (by omega)
   case g5=>intros;exact hp38 _ _ u1 (by omega) (by omega) (by omega)
   case g6=>intros;exact hp31 _ _ (by rw [un_len,un_len];omega)
   case g7=>intros;exact hp31 _ _ (by rw [un_len,un_len];omega)
   case g8=>intro _ _ h;exact absurd (by trivial) h
   case g9=>intro _ _ _ h;exact absurd (by trivial) h
   case g10=>intros;exact hp17 _ _ rfl
   case g11=>intro _ _ _ _ h;cases h
   case l0=>intros;exact law10a hp13 hf13 hp17 hf17 hp31 hf31 he31 hp33 hf33 he33 hf38 h0 A B hA hB oA oB (by omega) (by omega) h2 h3
   all_goals (intros;(try omega))
  ·constructor
   case g0=>intro _;exact hp13
   case g1=>intro _;rw [h0,hf13];rfl
   case g2=>intro _ _;exact hp13
   case g3=>intro _ _;rw [h0,hf13];rfl
   all_goals (intro _ h;exact absurd (show 60 < (a1.length:Int) by omega) h)
 ·constructor
  case g0=>intro _;exact hp13
  case g1=>intro _;rw [h0,hf13];rfl
  all_goals (intro h;exact absurd (show 60 < (a0.length:Int) by omega) h)
end HX

namespace HX
open Go Go.Proofs CX
set_option maxHeartbeats 4000000 in
set_option maxRecDepth 100000 in
theorem walk17 {ro A pre fn} (hE:EnvOk ⟨A,(cxE ro),ksF,sigL [],pre,fn⟩) {P:List (List D)→Prop} {res:List (List D)→Nat→Nat→D}
  (hv:∀(a0:Rows) (a1:Rows),ShR [.int .i64,.int .i64] a0→ShR [.int .i64,.int .i64] a1→P [[.l a0],[.l a1]]→∃(I0:Bool→Int→Prop) (m0:Bool→Int→Nat),V17 a0 a1 (res [[.l a0],[.l a1]]) I0 m0) :
  PureC (cxE ro) 17 ⟨[(false,[.sl [.int .i64,.int .i64]]),(false,[.sl [.int .i64,.int .i64]])],[(false,[.bool])],false⟩ P res:=by
 have h:=hE.A
 simp only [] at h
 have hinl:∀f fn,inlL [] f=some fn→(cxE ro).fn f=some fn∧(cxE ro).ext f=none:=Inls.ok (by repeat (first |exact .nil |refine .cons rfl rfl ?_))
 refine PureC.of_vc hE hinl 6 (f:=17) (fn:=Try.f17) ⟨rfl,rfl⟩ ?_
 intro a0 ha0 a1 ha1 hP
 obtain ⟨R,hR⟩:∃R,res [[.l a0],[.l a1]]=R:=⟨_,rfl⟩
 rw [hR]
 obtain ⟨I0,m0,hV⟩:=hv a0 a1 ha0 ha1 hP
 rw [hR] at hV
 clear hR hP hv
 cbv
 repeat' first|(refine Br.mk (fun _=>?_) (fun _=>?_)<;>cbv)|(refine NilB.mk (fun _=>?_) ?_<;>cbv)|refine And.intro ?_ ?_|exact True.intro
 ·next a=>subst h;exact hV.g0 (df (nt a))
 ·rename_i p1a
  refine Leaf.gen fun σz hσz=>?_
  refine loopB hE hinl 6 [] [] [] (fun x:Bool×Int=>[.b x.1,.i x.2]) (fun x=>I0 x.1 x.2) (fun x=>m0 x.1 x.2) (false,0) (by subst h;exact hV.i0 (dt (nf p1a))) ?_ ?_<;>subst hσz
  ·clear hE hinl hV;cbv;(try repeat' first|rfl|assumption|constructor)
  ·intro ⟨x0_0,x0_1⟩ hI0 K0 hK0
   cbv
   repeat' first|(refine Br.mk (fun _=>?_) (fun _=>?_)<;>cbv)|(refine NilB.mk (fun _=>?_) ?_<;>cbv)|refine And.intro ?_ ?_|exact True.intro
   ·next a=>subst h;exact hV.g2 _ _ hI0 (dt (nf p1a)) (dt a)
   ·next a=>subst h;exact hV.g3 _ _ hI0 (dt (nf p1a)) (dt a)
   ·next a=>subst h;exact hV.g4 _ _ hI0 (dt (nf p1a)) (dt a)
   ·next a=>subst h;exact hV.g2 _ _ hI0 (dt (nf p1a)) (dt a)
   ·next a=>subst h;exact hV.g6 _ _ hI0 (dt (nf p1a)) (dt a)
   ·next a=>subst h;exact hV.g7 _ _ hI0 (dt (nf p1a)) (dt a)
   ·next a b=>subst h;exact hV.g8 _ _ hI0 (dt (nf p1a)) (dt a) ((and_f (nt b)).imp (fun h=>(df h)) (fun h=>(df h)))
   ·next a b=>subst h;exact hV.g9 _ _ hI0 (dt (nf p1a)) (dt a) ⟨(dt (and_t (nf b)).1),(dt (and_t (nf b)).2)⟩
   ·rename_i p10a p10b
    refine hK0 (x0_0,A.add x0_1 1) _ ?_ ?_ ?_
    ·subst h;exact (hV.n10 _ _ hI0 (dt (nf p1a)) (dt p10a) ⟨(dt (and_t (nf p10b)).1),(dt (and_t (nf p10b)).2)⟩).1
    ·subst h;exact (hV.n10 _ _ hI0 (dt (nf p1a)) (dt p10a) ⟨(dt (and_t (nf p10b)).1),(dt (and_t (nf p10b)).2)⟩).2
    ·clear hE hinl hV hK0;cbv;(try repeat' first|rfl|assumption|constructor)
   ·next a=>subst h;exact hV.g11 _ _ hI0 (dt (nf p1a)) (df a)
end HX

namespace HX
open Go Go.Proofs CX
set_option maxHeartbeats 4000000 in
set_option maxRecDepth 100000 in
theorem walk50 {ro A pre fn} (hE:EnvOk ⟨A,(cxE ro),ksF,sigL [],pre,fn⟩) {P:List (List D)→Prop} {res:List (List D)→Nat→Nat→D}
  (hv:∀(a0:Int) (a1:Int) (a2:Int),P [[.i a0],[.i a1],[.i a2]]→V50 a0 a1 a2 (res [[.i a0],[.i a1],[.i a2]]) ) :
  PureC (cxE ro) 50 ⟨[(false,[.int .i64]),(false,[.int .i64]),(false,[.int .i64])],[(false,[.bool])],false⟩ P res:=by
 have h:=hE.A
 simp only [] at h
 have hinl:∀f fn,inlL [] f=some fn→(cxE ro).fn f=some fn∧(cxE ro).ext f=none:=Inls.ok (by repeat (first |exact .nil |refine .cons rfl rfl ?_))
 refine PureC.of_vc hE hinl 6 (f:=50) (fn:=Try.f50) ⟨rfl,rfl⟩ ?_
 intro a0 a1 a2 hP
 obtain ⟨R,hR⟩:∃R,res [[.i a0],[.i a1],[.i a2]]=R:=⟨_,rfl⟩
 rw [hR]
 have hV:=hv a0 a1 a2  hP
 rw [hR] at hV
 clear hR hP hv
 cbv
 repeat' first|(refine Br.mk (fun _=>?_) (fun _=>?_)<;>cbv)|(refine NilB.mk (fun _=>?_) ?_<;>cbv)|refine And.intro ?_ ?_|exact True.intro
 ·rename_i hp0_0
  subst h;exact hV.g0 (dt hp0_0)
 ·rename_i hp1_0
  subst h;exact hV.g1 (df hp1_0)
end HX

namespace HX
open Go Go.Proofs CX
set_option maxHeartbeats 4000000 in
set_option maxRecDepth 100000 in
theorem walk100 {ro A pre fn} (hE:EnvOk ⟨A,(cxE ro),ksF,sigL [],pre,fn⟩) {P:List (List D)→Prop} {res:List (List D)→Nat→Nat→D}
  (hv:∀(a0:Int) (a1:Int),P [[.i a0],[.i a1]]→V100 a0 a1 (res [[.i a0],[.i a1]]) ) :
  PureC (cxE ro) 100 ⟨[(false,[.int .i64]),(false,[.int .i64])],[(false,[.int .i64])],false⟩ P res:=by
 have h:=hE.A
 simp only [] at h
 have hinl:∀f fn,inlL [(112,Try.f112)] f=some fn→(cxE ro).fn f=some fn∧(cxE ro).ext f=none:=Inls.ok (by repeat (first |exact .nil |refine .cons rfl rfl ?_))
 refine PureC.of_vc hE hinl 6 (f:=100) (fn:=Try.f100) ⟨rfl,rfl⟩ ?_
 intro a0 a1 hP
 obtain ⟨R,hR⟩:∃R,res [[.i a0],[.i a1]]=R:=⟨_,rfl⟩
 rw [hR]
 have hV:=hv a0 a1  hP
 rw [hR] at hV
 clear hR hP hv
 cbv
 repeat' first|(refine Br.mk (fun _=>?_) (fun _=>?_)<;>cbv)|(refine NilB.mk (fun _=>?_) ?_<;>cbv)|refine And.intro ?_ ?_|exact True.intro
 ·rename_i hp0_0 hp0_1
  subst h;exact hV.g0 (df (nt hp0_0)) (df (nt hp0_1))
 ·rename_i hp1_0 hp1_1
  subst h;exact hV.g1 (df (nt hp1_0)) (dt (nf hp1_1))
 ·rename_i hp2_0 hp2_1
  subst h;exact hV.g2 (dt (nf hp2_0)) (df (nt hp2_1))
 ·rename_i hp3_0 hp3_1 hp3_2
  subst h;exact hV.g3 (dt (nf hp3_0)) (dt (nf hp3_1)) (dt hp3_2)
 ·rename_i hp4_0 hp4_1 hp4_2 hp4_3
  subst h;exact hV.g4 (dt (nf hp4_0)) (dt (nf hp4_1)) (df hp4_2) (dt hp4_3)
 ·rename_i hp5_0 hp5_1 hp5_2 hp5_3
  subst h;exact hV.g5 (dt (nf hp5_0)) (dt (nf hp5_1)) (df hp5_2) (df hp5_3)
end HX

namespace HX
open Go Go.Proofs CX
set_option maxHeartbeats 4000000 in
set_option maxRecDepth 100000 in
theorem walk76 {ro A pre fn} (hE:EnvOk ⟨A,(cxE ro),ksF,sigL [(100,⟨[(false,[.int .i64]),(false,[.int .i64])],[(false,[.int .i64])],false⟩)],pre,fn⟩) {P:List (List D)→Prop} {res:List (List D)→Nat→Nat→D}
  (hv:∀(a0_0:Int) (a0_1:Int) (a1_0:Int) (a1_1:Int),P [[.i a0_0,.i a0_1],[.i a1_0,.i a1_1]]→∃(I0:Int→Int→Prop) (m0:Int→Int→Nat),V76 pre fn a0_0 a0_1 a1_0 a1_1 (res [[.i a0_0,.i a0_1],[.i a1_0,.i a1_1]]) I0 m0) :
  PureC (cxE ro) 76 ⟨[(true,[.int .i64,.int .i64]),(true,[.int .i64,.int .i64])],[(false,[.int .i64])],false⟩ P res:=by
 have h:=hE.A
 simp only [] at h
 have hinl:∀f fn,inlL [(99,Try.f99)] f=some fn→(cxE ro).fn f=some fn∧(cxE ro).ext f=none:=Inls.ok (by repeat (first |exact .nil |refine .cons rfl rfl ?_))
 refine PureC.of_vc hE hinl 6 (f:=76) (fn:=Try.f76) ⟨rfl,rfl⟩ ?_
 intro a0_0 a0_1 a1_0 a1_1 hP
 obtain ⟨R,hR⟩:∃R,res [[.i a0_0,.i a0_1],[.i a1_0,.i a1_1]]=R:=⟨_,rfl⟩
 rw [hR]
 obtain ⟨I0,m0,hV⟩:=hv a0_0 a0_1 a1_0 a1_1  hP
 rw [hR] at hV
 clear hR hP hv
 cbv
 repeat' first|(refine Br.mk (fun _=>?_) (fun _=>?_)<;>cbv)|(refine NilB.mk (fun _=>?_) ?_<;>cbv)|refine And.intro ?_ ?_|exact True.intro
 ·subst h;exact hV.g0
 ·subst h;exact hV.g1
 ·refine Leaf.gen fun σz hσz=>?_
  refine loopB hE hinl 6 [] [] [] (fun x:Int×Int=>[.i x.1,.i x.2]) (fun x=>I0 x.1 x.2) (fun x=>m0 x.1 x.2) (0,0) (by subst h;exact hV.i0) ?_ ?_<;>subst hσz
  ·clear hE hinl hV;cbv;(try repeat' first|rfl|assumption|constructor)
  ·intro ⟨x0_0,x0_1⟩ hI0 K0 hK0
   cbv
   repeat' first|(refine Br.mk (fun _=>?_) (fun _=>?_)<;>cbv)|(refine NilB.mk (fun _=>?_) ?_<;>cbv)|refine And.intro ?_ ?_|exact True.intro
   ·next a=>subst h;exact hV.g3 _ _ hI0 (dt a)
   ·next a=>subst h;exact hV.g4 _ _ hI0 (dt a)
   ·next a=>subst h;exact hV.g5 _ _ hI0 (dt a)
   ·next a b=>subst h;exact hV.g6 _ _ hI0 (dt a) (df (nt b))
   ·next a b=>subst h;exact hV.g7 _ _ hI0 (dt a) (dt (nf b))
   ·rename_i p8a p8b
    refine hK0 (x0_0,A.add x0_1 1) _ ?_ ?_ ?_
    ·subst h;exact (hV.n8 _ _ hI0 (dt p8a) (dt (nf p8b))).1
    ·subst h;exact (hV.n8 _ _ hI0 (dt p8a) (dt (nf p8b))).2
    ·clear hE hinl hV hK0;cbv;(try repeat' first|rfl|assumption|constructor)
   ·next a=>subst h;exact hV.g9 _ _ hI0 (df a)
end HX

namespace HX
open Go Go.Proofs CX
set_option maxHeartbeats 4000000 in
set_option maxRecDepth 100000 in
theorem walk71 {ro A pre fn} (hE:EnvOk ⟨A,(cxE ro),ksF,sigL [(50,⟨[(false,[.int .i64]),(false,[.int .i64]),(false,[.int .i64])],[(false,[.bool])],false⟩),(76,⟨[(true,[.int .i64,.int .i64]),(true,[.int .i64,.int .i64])],[(false,[.int .i64])],false⟩)],pre,fn⟩) {P:List (List D)→Prop} {res:List (List D)→Nat→Nat→D}
  (hv:∀(a0:Rows) (a1_0:Int) (a1_1:Int),ShR [.int .i64,.int .i64] a0→P [[.l a0],[.i a1_0,.i a1_1]]→V71 pre fn a0 a1_0 a1_1 (res [[.l a0],[.i a1_0,.i a1_1]]) ) :
  PureC (cxE ro) 71 ⟨[(false,[.sl [.int .i64,.int .i64]]),(true,[.int .i64,.int .i64])],[(false,[.int .i64])],false⟩ P res:=by
 have h:=hE.A
 simp only [] at h
 have hinl:∀f fn,inlL [] f=some fn→(cxE ro).fn f=some fn∧(cxE ro).ext f=none:=Inls.ok (by repeat (first |exact .nil |refine .cons rfl rfl ?_))
 refine PureC.of_vc hE hinl 6 (f:=71) (fn:=Try.f71) ⟨rfl,rfl⟩ ?_
 intro a0 ha0 a1_0 a1_1 hP
 obtain ⟨R,hR⟩:∃R,res [[.l a0],[.i a1_0,.i a1_1]]=R:=⟨_,rfl⟩
 rw [hR]
 have hV:=hv a0 a1_0 a1_1 ha0 hP
 rw [hR] at hV
 clear hR hP hv
 cbv
 repeat' first|(refine Br.mk (fun _=>?_) (fun _=>?_)<;>cbv)|(refine NilB.mk (fun _=>?_) ?_<;>cbv)|refine And.intro ?_ ?_|exact True.intro
 ·subst h;exact hV.g0
 ·next a=>subst h;exact hV.g1 (nt a)
 ·next a=>subst h;exact hV.g2 (nf a)
 ·next a b=>subst h;exact hV.g3 (nf a) (nt b)
 ·next a b c=>subst h;exact hV.g4 (nf a) (nf b) (dt c)
 ·next a b c=>subst h;exact hV.g5 (nf a) (nf b) (dt c)
 ·next a b c=>subst h;exact hV.g6 (nf a) (nf b) (dt c)
 ·next a b c=>subst h;exact hV.g7 (nf a) (nf b) (dt c)
 ·next a b c=>subst h;exact hV.g8 (nf a) (nf b) (dt c)
 ·next a b c d=>subst h;exact hV.g9 (nf a) (nf b) (dt c) (dt d)
 ·next a b c d=>subst h;exact hV.g10 (nf a) (nf b) (dt c) (df d)
 ·next a b c=>subst h;exact hV.g11 (nf a) (nf b) (df c)
end HX

namespace HX
open Go Go.Proofs CX
set_option maxHeartbeats 4000000 in
set_option maxRecDepth 100000 in
theorem walk51 {ro A pre fn} (hE:EnvOk ⟨A,(cxE ro),ksF,sigL [(71,⟨[(false,[.sl [.int .i64,.int .i64]]),(true,[.int .i64,.int .i64])],[(false,[.int .i64])],false⟩)],pre,fn⟩) {P:List (List D)→Prop} {res:List (List D)→Nat→Nat→D}
  (hv:∀(a0:Rows),ShR [.int .i64,.int .i64] a0→P [[.l a0]]→∃(I0:Int→Int→Prop) (m0:Int→Int→Nat),V51 pre fn a0 (res [[.l a0]]) I0 m0) :
  PureC (cxE ro) 51 ⟨[(false,[.sl [.int .i64,.int .i64]])],[(false,[.int .i64])],false⟩ P res:=by
 have h:=hE.A
 simp only [] at h
 have hinl:∀f fn,inlL [] f=some fn→(cxE ro).fn f=some fn∧(cxE ro).ext f=none:=Inls.ok (by repeat (first |exact .nil |refine .cons rfl rfl ?_))
 refine PureC.of_vc hE hinl 6 (f:=51) (fn:=Try.f51) ⟨rfl,rfl⟩ ?_
 intro a0 ha0 hP
 obtain ⟨R,hR⟩:∃R,res [[.l a0]]=R:=⟨_,rfl⟩
 rw [hR]
 obtain ⟨I0,m0,hV⟩:=hv a0 ha0 hP
 rw [hR] at hV
 clear hR hP hv
 cbv
 repeat' first|(refine Br.mk (fun _=>?_) (fun _=>?_)<;>cbv)|(refine NilB.mk (fun _=>?_) ?_<;>cbv)|refine And.intro ?_ ?_|exact True.intro
 ·next a=>subst h;exact hV.g0 (dt a)
 ·rename_i p1a
  refine Leaf.gen fun σz hσz=>?_
  refine loopB hE hinl 6 [] [] [] (fun x:Int×Int=>[.i x.1,.i x.2]) (fun x=>I0 x.1 x.2) (fun x=>m0 x.1 x.2) (0,0) (by subst h;exact hV.i0 (df p1a)) ?_ ?_<;>subst hσz
  ·clear hE hinl hV;cbv;(try repeat' first|rfl|assumption|constructor)
  ·intro ⟨x0_0,x0_1⟩ hI0 K0 hK0
   cbv
   repeat' first|(refine Br.mk (fun _=>?_) (fun _=>?_)<;>cbv)|(refine NilB.mk (fun _=>?_) ?_<;>cbv)|refine And.intro ?_ ?_|exact True.intro
   ·next a=>subst h;exact hV.g2 _ _ hI0 (df p1a) (dt a)
   ·next a=>subst h;exact hV.g3 _ _ hI0 (df p1a) (dt a)
   ·next a=>subst h;exact hV.g4 _ _ hI0 (df p1a) (dt a)
   ·next a=>subst h;exact hV.g2 _ _ hI0 (df p1a) (dt a)
   ·next a=>subst h;exact hV.g6 _ _ hI0 (df p1a) (dt a)
   ·next a=>subst h;exact hV.g7 _ _ hI0 (df p1a) (dt a)
   ·next a b=>subst h;exact hV.g8 _ _ hI0 (df p1a) (dt a) (df (nt b))
   ·next a b=>subst h;exact hV.g9 _ _ hI0 (df p1a) (dt a) (dt (nf b))
   ·rename_i p10a p10b
    refine hK0 (x0_0,A.add x0_1 1) _ ?_ ?_ ?_
    ·subst h;exact (hV.n10 _ _ hI0 (df p1a) (dt p10a) (dt (nf p10b))).1
    ·subst h;exact (hV.n10 _ _ hI0 (df p1a) (dt p10a) (dt (nf p10b))).2
    ·clear hE hinl hV hK0;cbv;(try repeat' first|rfl|assumption|constructor)
   ·next a=>subst h;exact hV.g11 _ _ hI0 (df p1a) (df a)
end HX
