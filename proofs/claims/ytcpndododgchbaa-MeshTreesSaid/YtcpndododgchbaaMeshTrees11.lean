/-
  Texts of the executors: MnD, MnE, MnF, V84, V43, MnG, MnH, W84.
-/
import Derived.Test.YtcpndododgchbaaMeshTrees10
set_option linter.all false
noncomputable section
namespace HX
open Go Go.Proofs CX
def isO (b:Int):Prop:=b=1\/b=2\/b=4\/b=8\/b=16
theorem tab_or:∀n,n < 32->∀t∈[1,2,4,8,16],(n ||| t) < 32/\∀b∈[1,2,4,8,16],((n ||| t) &&& b=0↔(n &&& b=0/\t≠b)):=by decide +kernel
theorem tab_nz:∀n,n < 32->(n≠0↔(n &&& 1≠0\/n &&& 2≠0\/n &&& 4≠0\/n &&& 8≠0\/n &&& 16≠0)):=by decide +kernel
theorem or_nat {a b:Nat} (ha:a < 32) (hb:b < 32):Ar.std.bit .or .i64 (a:Int) (b:Int)=((a ||| b:Nat):Int):=by
 show IntKind.wrap .i64 ((BitVec.ofInt 64 (a:Int) ||| BitVec.ofInt 64 (b:Int)).toNat:Int)=_
 have:=Nat.or_lt_two_pow (n:=5) (x:=a) (y:=b) ha hb
 rw [BitVec.toNat_or,ofN (by omega),ofN (by omega),wr64 (by omega)]
theorem isO_nat {b:Int} (h:isO b):∃k:Nat,b=(k:Int)/\k < 17/\(k=1\/k=2\/k=4\/k=8\/k=16):=by
 rcases h with rfl |rfl |rfl |rfl |rfl
 ·exact ⟨1,rfl,by omega,by omega⟩
 ·exact ⟨2,rfl,by omega,by omega⟩
 ·exact ⟨4,rfl,by omega,by omega⟩
 ·exact ⟨8,rfl,by omega,by omega⟩
 exact ⟨16,rfl,by omega,by omega⟩
theorem or_bits {v t:Int} (hv:0<=v/\v<=31) (ht:isO t):(0<=Ar.std.bit .or .i64 v t/\Ar.std.bit .or .i64 v t<=31)/\∀b,isO b->(bitX .and .i64 (Ar.std.bit .or .i64 v t) b=0↔bitX .and .i64 v b=0/\t≠b):=by
 obtain ⟨n,rfl⟩:=Int.eq_ofNat_of_zero_le hv.1
 obtain ⟨k,rfl,k1,k2⟩:=isO_nat ht
 obtain ⟨h1,h2⟩:=tab_or n (by omega) k (by simp;omega)
 rw [or_nat (by omega) (by omega)]
 refine ⟨by omega,fun b hb=>?_⟩
 obtain ⟨j,rfl,j1,j2⟩:=isO_nat hb
 have:=h2 j (by simp;omega)
 rw [and_nat (by omega) (by omega),and_nat (by omega) (by omega)]
 omega
theorem nz_bits {v:Int} (hv:0<=v/\v<=31):v≠0↔∃b,isO b/\bitX .and .i64 v b≠0:=by
 obtain ⟨n,rfl⟩:=Int.eq_ofNat_of_zero_le hv.1
 have h:=tab_nz n (by omega)
 have e:∀k:Nat,k < 17->bitX .and .i64 (n:Int) (k:Int)=((n &&& k:Nat):Int):=fun k hk=>and_nat (by omega) (by omega)
 constructor
 ·intro hn
  rcases h.1 (by omega) with h |h |h |h |h
  ·exact ⟨((1:Nat):Int),.inl rfl,by rw [e 1 (by omega)];omega⟩
  ·exact ⟨((2:Nat):Int),.inr (.inl rfl),by rw [e 2 (by omega)];omega⟩
  ·exact ⟨((4:Nat):Int),.inr (.inr (.inl rfl)),by rw [e 4 (by omega)];omega⟩
  ·exact ⟨((8:Nat):Int),.inr (.inr (.inr (.inl rfl))),by rw [e 8 (by omega)];omega⟩
  exact ⟨((16:Nat):Int),.inr (.inr (.inr (.inr rfl))),by rw [e 16 (by omega)];omega⟩
 rintro ⟨b,hb,hn⟩
 obtain ⟨k,rfl,k1,k2⟩:=isO_nat hb
 rw [e k k1] at hn
 intro h0
 have:n=0:=by omega
 subst this
 simp at hn
theorem co {W H r:Int} (h:okM W H r):(0<=Int.tmod r W/\Int.tmod r W < W)/\0<=Int.tdiv r W/\Int.tdiv r W < H:=by
 have:=xy h.1.1 h.2.2.1 h.2.2.2
 exact ⟨this.1,this.2.1⟩
theorem eqc {W H r p:Int} (hr:okM W H r) (hp:okM W H p):r=p↔Int.tmod r W=Int.tmod p W/\Int.tdiv r W=Int.tdiv p W:=by
 constructor
 ·rintro rfl;exact ⟨rfl,rfl⟩
 rintro ⟨h1,h2⟩
 have a:=(xy hr.1.1 hr.2.2.1 hr.2.2.2).2.2
 have b:=(xy hp.1.1 hp.2.2.1 hp.2.2.2).2.2
 rw [<-a,<-b,h1,h2]
theorem tn1 {W r t:Int}:turnI W r t=1↔Int.tmod r W < Int.tmod t W:=by unfold turnI;(repeat' split)<;>omega
theorem tn4 {W r t:Int}:turnI W r t=4↔Int.tmod t W < Int.tmod r W:=by unfold turnI;(repeat' split)<;>omega
theorem tn2 {W r t:Int}:turnI W r t=2↔Int.tmod r W=Int.tmod t W/\Int.tdiv r W < Int.tdiv t W:=by unfold turnI;(repeat' split)<;>omega
theorem tn8 {W r t:Int}:turnI W r t=8↔Int.tmod r W=Int.tmod t W/\Int.tdiv t W < Int.tdiv r W:=by unfold turnI;(repeat' split)<;>omega
theorem tn16 {W r t:Int}:turnI W r t=16↔Int.tmod r W=Int.tmod t W/\Int.tdiv r W=Int.tdiv t W:=by unfold turnI;(repeat' split)<;>omega
theorem tnO (W r t:Int):isO (turnI W r t):=by unfold turnI isO;(repeat' split)<;>omega
theorem ov_co {W H r o : Int} (hr : okM W H r) (hl : legO W H r o) : okM W H (ovI W r o) /\
    ((o=1/\Int.tmod (ovI W r o) W=Int.tmod r W+1/\Int.tdiv (ovI W r o) W=Int.tdiv r W)\/(o=2/\Int.tmod (ovI W r o) W=Int.tmod r W/\Int.tdiv (ovI W r o) W=Int.tdiv r W+1)\/
     (o=4/\Int.tmod (ovI W r o) W=Int.tmod r W - 1/\Int.tdiv (ovI W r o) W=Int.tdiv r W)\/(o=8/\Int.tmod (ovI W r o) W=Int.tmod r W/\Int.tdiv (ovI W r o) W=Int.tdiv r W - 1)):=by
  obtain ⟨⟨a1,a2⟩,⟨a3,a4⟩,a5⟩:=xy (H:=H) hr.1.1 hr.2.2.1 hr.2.2.2
  rcases hl with ⟨rfl,h⟩ |⟨rfl,h⟩ |⟨rfl,h⟩ |⟨rfl,h⟩
  · obtain ⟨⟨c1,c2⟩,c3,c4⟩:=coord (W:=W) (H:=H) (r:=r+1) (x:=Int.tmod r W+1) (y:=Int.tdiv r W) (by omega) (by omega) a3 a4 (by omega)
    exact ⟨⟨hr.1,hr.2.1,c3,c4⟩,.inl ⟨rfl,c1,c2⟩⟩
  · obtain ⟨⟨c1,c2⟩,c3,c4⟩:=coord (W:=W) (H:=H) (r:=r+W) (x:=Int.tmod r W) (y:=Int.tdiv r W+1) (by omega) (by omega) (by omega) (by omega) (by rw [Int.add_mul,Int.one_mul];omega)
    exact ⟨⟨hr.1,hr.2.1,c3,c4⟩,.inr (.inl ⟨rfl,c1,c2⟩)⟩
  · obtain ⟨⟨c1,c2⟩,c3,c4⟩:=coord (W:=W) (H:=H) (r:=r - 1) (x:=Int.tmod r W - 1) (y:=Int.tdiv r W) (by omega) (by omega) a3 a4 (by omega)
    exact ⟨⟨hr.1,hr.2.1,c3,c4⟩,.inr (.inr (.inl ⟨rfl,c1,c2⟩))⟩
  · obtain ⟨⟨c1,c2⟩,c3,c4⟩:=coord (W:=W) (H:=H) (r:=r - W) (x:=Int.tmod r W) (y:=Int.tdiv r W - 1) (by omega) (by omega) (by omega) (by omega) (by rw [Int.sub_mul,Int.one_mul];omega)
    exact ⟨⟨hr.1,hr.2.1,c3,c4⟩,.inr (.inr (.inr ⟨rfl,c1,c2⟩))⟩
def onP (W s t r:Int):Prop:=(Int.tdiv r W=Int.tdiv s W/\((Int.tmod s W<=Int.tmod r W/\Int.tmod r W<=Int.tmod t W)\/(Int.tmod t W<=Int.tmod r W/\Int.tmod r W<=Int.tmod s W)))\/
 (Int.tmod r W=Int.tmod t W/\((Int.tdiv s W<=Int.tdiv r W/\Int.tdiv r W<=Int.tdiv t W)\/(Int.tdiv t W<=Int.tdiv r W/\Int.tdiv r W<=Int.tdiv s W)))
instance (W s t r:Int):Decidable (onP W s t r):=inferInstanceAs (Decidable (_\/_))
theorem on_rt {W H t r:Int} (ht:okM W H t) (hr:okM W H r):∀(n:Nat) (p:Int),okM W H p->(dstI W p t).toNat=n->((∃y∈rtF W t n p,wI y=r)↔onP W p t r)
 |0,p,hp,hn=>by
  have hpt:p=t:=by
   by_cases e:p=t
   ·exact e
   have:=(step_spec (H:=H) hp.1.1 hp.2.2.1 hp.2.2.2 ht.2.2.1 ht.2.2.2 e).2
   have:=dst_nonneg W (stepI W p t) t
   omega
  subst hpt
  have:(∃y∈rtF W p 0 p,wI y=r)↔p=r:=by simp [rtF,wI,D.int]
  rw [this,eqc hp hr]
  unfold onP
  omega
 |n+1,p,hp,hn=>by
  have hne:p≠t:=fun e=>by subst e;rw [dst_self] at hn;cases hn
  have hs:=step_spec (H:=H) hp.1.1 hp.2.2.1 hp.2.2.2 ht.2.2.1 ht.2.2.2 hne
  have h0:=dst_nonneg W (stepI W p t) t
  obtain ⟨hl,ho⟩:=turn_leg hp ht hne
  obtain ⟨hq,hc⟩:=ov_co hp hl
  rw [ho] at hq hc
  have ih:=on_rt ht hr n (stepI W p t) hq (by omega)
  have e1:(∃y∈rtF W t (n+1) p,wI y=r)↔(p=r\/∃y∈rtF W t n (stepI W p t),wI y=r):=by simp [rtF,wI,D.int]
  rw [e1,ih,eqc hp hr]
  have a:=co hp
  have b:=co hr
  have c:=co ht
  unfold onP
  rcases hc with ⟨h1,h2,h3⟩ |⟨h1,h2,h3⟩ |⟨h1,h2,h3⟩ |⟨h1,h2,h3⟩
  ·rw [tn1] at h1;rw [h2,h3];omega
  ·rw [tn2] at h1;rw [h2,h3];omega
  ·rw [tn4] at h1;rw [h2,h3];omega
  rw [tn8] at h1;rw [h2,h3];omega
theorem on_rtL {W H s t r:Int} (hs:okM W H s) (ht:okM W H t) (hr:okM W H r):(∃y∈rtL W s t,wI y=r)↔onP W s t r:=on_rt ht hr _ s hs rfl
def okO (n:Nat) (o:Rows):Prop:=o.length=n/\∀i:Nat,i < n->0<=wI (o.getD i [])/\wI (o.getD i [])<=31
def hasB (o:Rows) (r b:Int):Prop:=¬bitX .and .i64 (wI (o.getD r.toNat [])) b=0
theorem setT_ok {W H t r:Int} {n:Nat} {o:Rows} (hn:(n:Int)=W * H) (ho:okO n o) (hr:okM W H r):okO n (setT W t o r)/\∀q b,okM W H q->isO b->(hasB (setT W t o r) q b↔hasB o q b\/(r=q/\turnI W q t=b)):=by
 have hrn:r.toNat < n:=by have:=hr.2.2;omega
 have key:=or_bits (ho.2 r.toNat hrn) (tnO W r t)
 have hw:∀x:Int,wI [D.i x]=x:=fun _=>rfl
 refine ⟨⟨by rw [setT_len];exact ho.1,fun i hi=>?_⟩,fun q b hq hb=>?_⟩
 ·unfold setT
  rw [getD_set (by rw [ho.1];exact hrn)]
  split
  ·rw [hw];exact key.1
  exact ho.2 i hi
 unfold hasB setT
 rw [getD_set (by rw [ho.1];exact hrn)]
 split
 next e=>
  have e:q=r:=by have:=hr.2.2;have:=hq.2.2;omega
  subst e
  rw [hw,key.2 b hb]
  by_cases h1:bitX .and .i64 (wI (o.getD q.toNat [])) b=0<;>by_cases h2:turnI W q t=b<;>simp [h1,h2]
 rename_i e
 have e:¬r=q:=fun h=>e (by rw [h])
 simp [e]
theorem foldR_ok {W H t:Int} {n:Nat} (hn:(n:Int)=W * H):∀(l o:Rows),okO n o->(∀x∈l,okM W H (wI x))->okO n (foldR W t o l)/\∀q b,okM W H q->isO b->(hasB (foldR W t o l) q b↔hasB o q b\/((∃x∈l,wI x=q)/\turnI W q t=b))
 |[],o,ho,_=>⟨ho,fun q b _ _=>by simp [foldR]⟩
 |x :: l,o,ho,hl=>by
  have h1:=setT_ok (t:=t) hn ho (hl x (by simp))
  have h2:=foldR_ok (t:=t) hn l _ h1.1 fun y hy=>hl y (by simp [hy])
  have e:foldR W t o (x :: l)=foldR W t (setT W t o (wI x)) l:=rfl
  rw [e]
  refine ⟨h2.1,fun q b hq hb=>?_⟩
  rw [h2.2 q b hq hb,h1.2 q b hq hb]
  simp only [zL,exists_eq_or_imp]
  constructor
  ·rintro ((h |h) |h)
   ·exact .inl h
   ·exact .inr ⟨.inl h.1,h.2⟩
   exact .inr ⟨.inr h.1,h.2⟩
  rintro (h |⟨h |h,k⟩)
  ·exact .inl (.inl h)
  ·exact .inl (.inr ⟨h,k⟩)
  exact .inr ⟨h,k⟩
theorem foldT_ok {W H s:Int} {n:Nat} (hn:(n:Int)=W * H) (hs:okM W H s):∀(l o:Rows),okO n o->(∀x∈l,okM W H (wI x))->okO n (foldT W s o l)/\∀q b,okM W H q->isO b->(hasB (foldT W s o l) q b↔hasB o q b\/∃x∈l,onP W s (wI x) q/\turnI W q (wI x)=b)
 |[],o,ho,_=>⟨ho,fun q b _ _=>by simp [foldT]⟩
 |x :: l,o,ho,hl=>by
  have hx:=hl x (by simp)
  have h1:=foldR_ok (t:=wI x) hn (rtL W s (wI x)) o ho fun y hy=>rtF_ok hx _ s hs rfl y hy
  have h2:=foldT_ok hn hs l _ h1.1 fun y hy=>hl y (by simp [hy])
  have e:foldT W s o (x :: l)=foldT W s (foldR W (wI x) o (rtL W s (wI x))) l:=rfl
  rw [e]
  refine ⟨h2.1,fun q b hq hb=>?_⟩
  rw [h2.2 q b hq hb,h1.2 q b hq hb,on_rtL hs hx hq]
  simp only [zL,exists_eq_or_imp]
  constructor
  ·rintro ((h |h) |h)
   ·exact .inl h
   ·exact .inr (.inl h)
   exact .inr (.inr h)
  rintro (h |h |h)
  ·exact .inl (.inl h)
  ·exact .inl (.inr h)
  exact .inr h
theorem treL_ok {W H s:Int} {l:Rows} (hs:okM W H s) (hl:∀x∈l,okM W H (wI x)):okO (W * H).toNat (treL W (W * H) s l)/\∀q b,okM W H q->isO b->(hasB (treL W (W * H) s l) q b↔∃x∈l,onP W s (wI x) q/\turnI W q (wI x)=b):=by
 have hn:(((W * H).toNat:Nat):Int)=W * H:=by have:=hs.2.2;omega
 have h:=foldT_ok hn hs l (List.replicate (W * H).toNat [.i 0]) ⟨by simp,fun i hi=>by rw [getD_rep hi];exact ⟨Int.le_refl 0,by decide⟩⟩ hl
 refine ⟨h.1,fun q b hq hb=>?_⟩
 have:=h.2 q b hq hb
 unfold treL
 rw [this]
 have h0:¬hasB (List.replicate (W * H).toNat [.i 0]) q b:=fun c=>by
  unfold hasB at c
  rw [getD_rep (by have:=hq.2.2;omega)] at c
  obtain ⟨k,rfl,k1,_⟩:=isO_nat hb
  apply c
  have:=and_nat (a:=0) (b:=k) (by omega) (by omega)
  rw [Nat.zero_and] at this
  exact this
 simp [h0]
end HX

namespace HX
open Go Go.Proofs CX
def lgB (W H r o:Int):Bool:=if o=1 then decide (Int.tmod r W+1 < W) else if o=2 then decide (Int.tdiv r W+1 < H) else if o=4 then decide (0 < Int.tmod r W) else if o=8 then decide (0 < Int.tdiv r W) else false
theorem lgB_of {W H r o:Int} (h:legO W H r o):lgB W H r o=true:=by
 rcases h with ⟨rfl,h⟩ |⟨rfl,h⟩ |⟨rfl,h⟩ |⟨rfl,h⟩
 ·exact kZ h
 ·exact kZ h
 ·exact kZ h
 exact kZ h
def incC (c:Rows) (r:Int):Rows:=c.set r.toNat [.i (wI (c.getD r.toNat [])+1)]
def goO (rec:Int->Int->Rows->Int×Bool×Rows) (W H v r:Int):List Int->Int->Rows->Int×Bool×Rows
 |[],tk,c=>(tk,true,c)
 |o :: os,tk,c=>if bitX .and .i64 v o=0 then goO rec W H v r os tk c else
   if o=16 then goO rec W H v r os (tk+1) (incC c r) else
   if lgB W H r o=true then
    match rec (ovI W r o) (tk+1) c with
    |(tk',true,c')=>goO rec W H v r os tk' c'
    |(_,false,c')=>(0,false,c')
   else (0,false,c)
def rch (W H:Int) (outs:Rows):Nat->Int->Int->Rows->Int×Bool×Rows
 |0,_,_,c=>(0,false,c)
 |m+1,r,tk,c=>if ((outs.length:Nat):Int)<=r\/400 < tk then (0,false,c) else goO (rch W H outs m) W H (wI (outs.getD r.toNat [])) r [1,2,4,8,16] tk c
def sm (p:Int->Prop) [DecidablePred p] (f:Int->Int):Rows->Int
 |[]=>0
 |x :: l=>(if p (wI x) then f (wI x) else 0)+sm p f l
theorem sm_le {p:Int->Prop} [DecidablePred p] {f g:Int->Int}:∀{l:Rows},(∀x∈l,p (wI x)->f (wI x)<=g (wI x))->sm p f l<=sm p g l
 |[],_=>Int.le_refl _
 |x :: l,h=>by
  have h1:=sm_le (l:=l) fun y hy=>h y (by simp [hy])
  have h2:=h x (by simp)
  simp only [sm]
  split
  next c=>have:=h2 c;omega
  omega
theorem sm_lt {p:Int->Prop} [DecidablePred p] {f g:Int->Int}:∀{l:Rows},(∀x∈l,p (wI x)->f (wI x)+1<=g (wI x))->(∃x∈l,p (wI x))->sm p f l+1<=sm p g l
 |[],_,⟨_,hx,_⟩=>by cases hx
 |x :: l,h,⟨y,hy,hp⟩=>by
  have h0:=h x (by simp)
  have hl:=sm_le (p:=p) (f:=f) (g:=g) (l:=l) fun z hz c=>by have:=h z (by simp [hz]) c;omega
  simp only [sm]
  by_cases c:p (wI x)
  ·rw [if_pos c,if_pos c];have:=h0 c;omega
  rw [if_neg c,if_neg c]
  have:=sm_lt (p:=p) (f:=f) (g:=g) (l:=l) (fun z hz=>h z (by simp [hz])) (by
   rcases zL.1 hy with rfl |hy
   ·exact absurd hp c
   exact ⟨y,hy,hp⟩)
  omega
theorem sm_congr {p q:Int->Prop} [DecidablePred p] [DecidablePred q] {f:Int->Int}:∀{l:Rows},(∀x∈l,p (wI x)↔q (wI x))->sm p f l=sm q f l
 |[],_=>rfl
 |x :: l,h=>by
  have h1:=sm_congr (p:=p) (q:=q) (f:=f) (l:=l) fun y hy=>h y (by simp [hy])
  have h2:=h x (by simp)
  simp only [sm]
  rw [h1]
  by_cases c:p (wI x)
  ·rw [if_pos c,if_pos (h2.1 c)]
  rw [if_neg c,if_neg fun d=>c (h2.2 d)]
theorem sm_nn {p:Int->Prop} [DecidablePred p] {f:Int->Int}:∀{l:Rows},(∀x∈l,0<=f (wI x))->0<=sm p f l
 |[],_=>Int.le_refl _
 |x :: l,h=>by
  have h1:=sm_nn (p:=p) (l:=l) fun y hy=>h y (by simp [hy])
  have h2:=h x (by simp)
  simp only [sm]
  split<;>omega
theorem sm5 {p:Int->Prop} [DecidablePred p] {u:Int->Int} (hu:∀t,isO (u t)) {f:Int->Int}:∀(l:Rows),sm p f l=sm (fun t=>p t/\u t=1) f l+(sm (fun t=>p t/\u t=2) f l+(sm (fun t=>p t/\u t=4) f l+(sm (fun t=>p t/\u t=8) f l+sm (fun t=>p t/\u t=16) f l)))
 |[]=>rfl
 |x :: l=>by
  have ih:=sm5 (p:=p) hu (f:=f) l
  simp only [sm]
  by_cases c:p (wI x)
  ·have e:=hu (wI x)
   simp only [c,true_and,if_true]
   rcases e with e |e |e |e |e<;>simp only [e,if_true,show ¬((1:Int)=2) by decide,show ¬((1:Int)=4) by decide,show ¬((1:Int)=8) by decide,show ¬((1:Int)=16) by decide,show ¬((2:Int)=1) by decide,show ¬((2:Int)=4) by decide,show ¬((2:Int)=8) by decide,show ¬((2:Int)=16) by decide,show ¬((4:Int)=1) by decide,show ¬((4:Int)=2) by decide,show ¬((4:Int)=8) by decide,show ¬((4:Int)=16) by decide,show ¬((8:Int)=1) by decide,show ¬((8:Int)=2) by decide,show ¬((8:Int)=4) by decide,show ¬((8:Int)=16) by decide,show ¬((16:Int)=1) by decide,show ¬((16:Int)=2) by decide,show ¬((16:Int)=4) by decide,show ¬((16:Int)=8) by decide,if_false]<;>omega
  simp only [c,false_and,if_false];omega
theorem sm_bd {p:Int->Prop} [DecidablePred p] {f:Int->Int} {B:Int} (hB:0<=B):∀{l:Rows},(∀x∈l,f (wI x)<=B)->sm p f l<=((l.length:Nat):Int) * B
 |[],_=>by simp [sm]
 |x :: l,h=>by
  have h1:=sm_bd (p:=p) hB (l:=l) fun y hy=>h y (by simp [hy])
  have h2:=h x (by simp)
  simp only [sm,zY]
  rw [Int.natCast_add,Int.add_mul]
  split<;>omega
theorem tree_next {W H s r o t0:Int} (hs:okM W H s) (hr:okM W H r) (h0:okM W H t0) (h1:onP W s t0 r) (h2:turnI W r t0=o) (ho:o≠16):legO W H r o/\okM W H (ovI W r o)/\∀t,okM W H t->(onP W s t (ovI W r o)↔onP W s t r/\turnI W r t=o):=by
 have hne:r≠t0:=fun e=>by
  subst e
  exact ho (h2.symm.trans (tn16.2 ⟨rfl,rfl⟩))
 have hl:=(turn_leg hr h0 hne).1
 rw [h2] at hl
 obtain ⟨hq,hc⟩:=ov_co hr hl
 refine ⟨hl,hq,fun t ht=>?_⟩
 have a:=co hs
 have b:=co hr
 have c:=co h0
 have d:=co ht
 rcases hc with ⟨rfl,e1,e2⟩ |⟨rfl,e1,e2⟩ |⟨rfl,e1,e2⟩ |⟨rfl,e1,e2⟩
 ·rw [tn1] at h2 ⊢
  unfold onP at h1 ⊢
  rw [e1,e2];omega
 ·rw [tn2] at h2 ⊢
  unfold onP at h1 ⊢
  rw [e1,e2];omega
 ·rw [tn4] at h2 ⊢
  unfold onP at h1 ⊢
  rw [e1,e2];omega
 rw [tn8] at h2 ⊢
 unfold onP at h1 ⊢
 rw [e1,e2];omega
def rE (W s r:Int):Int:=if Int.tdiv r W=Int.tdiv s W/\Int.tmod s W<=Int.tmod r W then W - 1 - Int.tmod r W else 0
def rW (W s r:Int):Int:=if Int.tdiv r W=Int.tdiv s W/\Int.tmod r W<=Int.tmod s W then Int.tmod r W else 0
def dy (W r t:Int):Int:=absI (Int.tdiv t W - Int.tdiv r W)+1
def cst (W s r:Int) (l:Rows) (o:Int):Int:=(if o=1 then rE W s r else if o=4 then rW W s r else 0)+sm (fun t=>onP W s t r/\turnI W r t=o) (dy W r) l
def phi (W s r:Int) (l:Rows):Int:=rE W s r+rW W s r+sm (fun t=>onP W s t r) (dy W r) l
theorem dy_pos (W r t:Int):1<=dy W r t:=by unfold dy absI;split<;>omega
theorem rE_nn {W H s r:Int} (hr:okM W H r):0<=rE W s r:=by have:=co hr;unfold rE;split<;>omega
theorem rW_nn {W H s r:Int} (hr:okM W H r):0<=rW W s r:=by have:=co hr;unfold rW;split<;>omega
theorem cst_nn {W H s r:Int} {l:Rows} (hr:okM W H r) (o:Int):0<=cst W s r l o:=by
 have h1:=rE_nn (s:=s) hr
 have h2:=rW_nn (s:=s) hr
 have h3:=sm_nn (p:=fun t=>onP W s t r/\turnI W r t=o) (f:=dy W r) (l:=l) fun x _=>by have:=dy_pos W r (wI x);omega
 unfold cst
 split
 ·omega
 split<;>omega
theorem phi_eq (W s r:Int) (l:Rows):phi W s r l=cst W s r l 1+(cst W s r l 2+(cst W s r l 4+(cst W s r l 8+cst W s r l 16))):=by
 unfold phi cst
 rw [sm5 (p:=fun t=>onP W s t r) (u:=fun t=>turnI W r t) (fun t=>tnO W r t)]
 simp only [if_true,show ¬((2:Int)=1) by decide,show ¬((2:Int)=4) by decide,show ¬((4:Int)=1) by decide,show ¬((8:Int)=1) by decide,show ¬((8:Int)=4) by decide,show ¬((16:Int)=1) by decide,show ¬((16:Int)=4) by decide,if_false]
 omega
theorem phi_next {W H s r o:Int} {l:Rows} (hs:okM W H s) (hr:okM W H r) (hl:∀x∈l,okM W H (wI x)) {x0:List D} (hx:x0∈l) (h1:onP W s (wI x0) r) (h2:turnI W r (wI x0)=o) (ho:o≠16):phi W s (ovI W r o) l+1<=cst W s r l o:=by
 obtain ⟨hg,hq,ht⟩:=tree_next hs hr (hl x0 hx) h1 h2 ho
 have a:=co hs
 have b:=co hr
 have c:=co (hl x0 hx)
 have e0:sm (fun t=>onP W s t (ovI W r o)) (dy W (ovI W r o)) l=sm (fun t=>onP W s t r/\turnI W r t=o) (dy W (ovI W r o)) l:=sm_congr fun x hx=>ht (wI x) (hl x hx)
 unfold phi cst
 rw [e0]
 obtain ⟨_,hc⟩:=ov_co hr hg
 rcases hc with ⟨rfl,e1,e2⟩ |⟨rfl,e1,e2⟩ |⟨rfl,e1,e2⟩ |⟨rfl,e1,e2⟩
 ·have e3:sm (fun t=>onP W s t r/\turnI W r t=1) (dy W (ovI W r 1)) l=sm (fun t=>onP W s t r/\turnI W r t=1) (dy W r) l:=by
   have:dy W (ovI W r 1)=dy W r:=by funext t;unfold dy;rw [e2]
   rw [this]
  rw [e3,if_pos rfl]
  rw [tn1] at h2
  unfold onP at h1
  unfold rE rW
  rw [e1,e2]
  (repeat' split)<;>omega
 ·have e3:=sm_lt (p:=fun t=>onP W s t r/\turnI W r t=2) (f:=dy W (ovI W r 2)) (g:=dy W r) (l:=l) (fun x _ hp=>by
   have:=tn2.1 hp.2
   unfold dy absI;rw [e2]
   (repeat' split)<;>omega) ⟨x0,hx,h1,h2⟩
  rw [if_neg (by decide),if_neg (by decide)]
  rw [tn2] at h2
  unfold onP at h1
  have z1:rE W s (ovI W r 2)=0:=by unfold rE;rw [e1,e2];split<;>omega
  have z2:rW W s (ovI W r 2)=0:=by unfold rW;rw [e1,e2];split<;>omega
  omega
 ·have e3:sm (fun t=>onP W s t r/\turnI W r t=4) (dy W (ovI W r 4)) l=sm (fun t=>onP W s t r/\turnI W r t=4) (dy W r) l:=by
   have:dy W (ovI W r 4)=dy W r:=by funext t;unfold dy;rw [e2]
   rw [this]
  rw [e3,if_neg (by decide),if_pos rfl]
  rw [tn4] at h2
  unfold onP at h1
  unfold rE rW
  rw [e1,e2]
  (repeat' split)<;>omega
 have e3:=sm_lt (p:=fun t=>onP W s t r/\turnI W r t=8) (f:=dy W (ovI W r 8)) (g:=dy W r) (l:=l) (fun x _ hp=>by
  have:=tn8.1 hp.2
  unfold dy absI;rw [e2]
  (repeat' split)<;>omega) ⟨x0,hx,h1,h2⟩
 rw [if_neg (by decide),if_neg (by decide)]
 rw [tn8] at h2
 unfold onP at h1
 have z1:rE W s (ovI W r 8)=0:=by unfold rE;rw [e1,e2];split<;>omega
 have z2:rW W s (ovI W r 8)=0:=by unfold rW;rw [e1,e2];split<;>omega
 omega
end HX

namespace HX
open Go Go.Proofs CX
open Classical in
def on1 (p:Prop):Int:=if p then 1 else 0
theorem on1_t {p:Prop} (h:p):on1 p=1:=by unfold on1;exact if_pos h
theorem on1_f {p:Prop} (h:¬p):on1 p=0:=by unfold on1;exact if_neg h
theorem on1_c {p q:Prop} (h:p↔q):on1 p=on1 q:=by rw [propext h]
def tgt (l:Rows) (i:Int):Prop:=∃x∈l,wI x=i
def csts (W s r:Int) (l:Rows):List Int->Int
 |[]=>0
 |o :: os=>cst W s r l o+csts W s r l os
theorem incC_get {W H r i:Int} {c:Rows} {n:Nat} (hn:(n:Int)=W * H) (hc:c.length=n) (hr:okM W H r) (hi:okM W H i):wI ((incC c r).getD i.toNat [])=wI (c.getD i.toNat [])+on1 (i=r):=by
 unfold incC
 rw [getD_set (by have:=hr.2.2;omega)]
 split
 next e=>
  have e:i=r:=by have:=hr.2.2;have:=hi.2.2;omega
  subst e
  rw [on1_t rfl];rfl
 rename_i e
 rw [on1_f (fun h=>e (by rw [h])),Int.add_zero]
def goodR (W H s:Int) (l:Rows) (n:Nat) (tk B:Int) (c:Rows) (P:Int->Prop) (x:Int×Bool×Rows):Prop:=
 ∃tk' c',x=(tk',true,c')/\tk<=tk'/\tk'<=tk+B/\c'.length=n/\∀i,okM W H i->wI (c'.getD i.toNat [])=wI (c.getD i.toNat [])+on1 (tgt l i/\P i)
theorem loopO {W H s r:Int} {n m:Nat} {outs l:Rows} (hn:(n:Int)=W * H) (hs:okM W H s) (hr:okM W H r) (hl:∀x∈l,okM W H (wI x)) (hout:∀b,isO b->(hasB outs r b↔∃x∈l,onP W s (wI x) r/\turnI W r (wI x)=b))
  (ihm:∀q tk c,okM W H q->0<=tk->tk+phi W s q l<=400->402 - tk<=(m:Int)->c.length=n->goodR W H s l n tk (phi W s q l) c (fun i=>onP W s i q) (rch W H outs m q tk c)) :
  ∀os tk c,(∀o∈os,isO o)->os.Nodup->0<=tk->tk+csts W s r l os<=400->402 - (tk+1)<=(m:Int)->c.length=n->goodR W H s l n tk (csts W s r l os) c (fun i=>onP W s i r/\turnI W r i∈os) (goO (rch W H outs m) W H (wI (outs.getD r.toNat [])) r os tk c)
 |[],tk,c,_,_,_,_,_,hc=>⟨tk,c,rfl,Int.le_refl _,by simp [csts],hc,fun i _=>by rw [on1_f (by simp),Int.add_zero]⟩
 |o :: os,tk,c,ho,hd,h0,hB,hm,hc=>by
  have ho1:=ho o (by simp)
  have hd1:=List.nodup_cons.1 hd
  have hcn:=cst_nn (s:=s) (l:=l) hr
  have hcs:∀os,0<=csts W s r l os:=fun os=>by
   induction os with
   |nil=>exact Int.le_refl _
   |cons a os ih=>have:=hcn a;simp only [csts];omega
  have hc0:=hcn o
  have hc1:=hcs os
  simp only [csts] at hB
  have IH:=loopO hn hs hr hl hout ihm os
  by_cases hb:bitX .and .i64 (wI (outs.getD r.toNat [])) o=0
  ·have none:∀i,tgt l i/\onP W s i r->turnI W r i≠o:=fun i ⟨⟨x,hx,e⟩,h⟩ h2=>by
    subst e
    exact (hout o ho1).2 ⟨x,hx,h,h2⟩ hb
   obtain ⟨tk',c',e1,e2,e3,e4,e5⟩:=IH tk c (fun a ha=>ho a (by simp [ha])) hd1.2 h0 (by omega) hm hc
   refine ⟨tk',c',by simp only [goO,if_pos hb];exact e1,e2,by simp only [csts];omega,e4,fun i hi=>?_⟩
   rw [e5 i hi]
   congr 1
   refine on1_c ⟨fun ⟨a,b,d⟩=>⟨a,b,by simp [d]⟩,fun ⟨a,b,d⟩=>⟨a,b,?_⟩⟩
   rcases zL.1 d with d |d
   ·exact absurd d (none i ⟨a,b⟩)
   exact d
  obtain ⟨x0,hx0,k1,k2⟩:=(hout o ho1).1 hb
  by_cases h16:o=16
  ·subst h16
   have h1:1<=cst W s r l 16:=by
    have a:=sm_lt (p:=fun t=>onP W s t r/\turnI W r t=16) (f:=fun _=>0) (g:=dy W r) (l:=l) (fun x _ _=>by have:=dy_pos W r (wI x);omega) ⟨x0,hx0,k1,k2⟩
    have b:=sm_nn (p:=fun t=>onP W s t r/\turnI W r t=16) (f:=fun _=>0) (l:=l) (fun _ _=>Int.le_refl _)
    unfold cst
    rw [if_neg (by decide),if_neg (by decide)]
    omega
   obtain ⟨tk',c',e1,e2,e3,e4,e5⟩:=IH (tk+1) (incC c r) (fun a ha=>ho a (by simp [ha])) hd1.2 (by omega) (by omega) (by omega) (by rw [incC,xN];exact hc)
   refine ⟨tk',c',by simp only [goO,if_neg hb,if_true];exact e1,by omega,by simp only [csts];omega,e4,fun i hi=>?_⟩
   rw [e5 i hi,incC_get hn hc hr hi,Int.add_assoc]
   congr 1
   have hrx:wI x0=r:=((eqc hr (hl x0 hx0)).2 (tn16.1 k2)).symm
   by_cases e:i=r
   ·subst e
    have t16:turnI W i i=16:=tn16.2 ⟨rfl,rfl⟩
    rw [on1_t rfl,on1_f (fun h=>hd1.1 (by have:=h.2.2;rwa [t16] at this)),on1_t ⟨⟨x0,hx0,hrx⟩,by rw [hrx] at k1;exact k1,by rw [t16];simp⟩];rfl
   have t16:turnI W r i≠16:=fun h=>e ((eqc hr hi).2 (tn16.1 h)).symm
   rw [on1_f e,Int.zero_add]
   refine on1_c ⟨fun ⟨a,b,d⟩=>⟨a,b,by simp [d]⟩,fun ⟨a,b,d⟩=>⟨a,b,?_⟩⟩
   rcases zL.1 d with d |d
   ·exact absurd d t16
   exact d
  obtain ⟨g1,g2,g3⟩:=tree_next hs hr (hl x0 hx0) k1 k2 h16
  have gp:=phi_next hs hr hl hx0 k1 k2 h16
  obtain ⟨tk2,c2,f1,f2,f3,f4,f5⟩:=ihm (ovI W r o) (tk+1) c g2 (by omega) (by omega) hm hc
  obtain ⟨tk',c',e1,e2,e3,e4,e5⟩:=IH tk2 c2 (fun a ha=>ho a (by simp [ha])) hd1.2 (by omega) (by omega) (by omega) f4
  refine ⟨tk',c',by simp only [goO,if_neg hb,if_neg h16,if_pos (lgB_of g1),f1];exact e1,by omega,by simp only [csts];omega,e4,fun i hi=>?_⟩
  rw [e5 i hi,f5 i hi,Int.add_assoc]
  congr 1
  have g3:=g3 i hi
  by_cases hT:tgt l i/\onP W s i r
  ·by_cases ht:turnI W r i=o
   ·rw [on1_t ⟨hT.1,g3.2 ⟨hT.2,ht⟩⟩,on1_f (fun h=>hd1.1 (by have:=h.2.2;rwa [ht] at this)),on1_t ⟨hT.1,hT.2,by rw [ht];simp⟩];rfl
   rw [on1_f (fun h=>ht (g3.1 h.2).2),Int.zero_add]
   refine on1_c ⟨fun ⟨a,b,d⟩=>⟨a,b,by simp [d]⟩,fun ⟨a,b,d⟩=>⟨a,b,?_⟩⟩
   rcases zL.1 d with d |d
   ·exact absurd d ht
   exact d
  rw [on1_f (fun h=>hT ⟨h.1,(g3.1 h.2).1⟩),on1_f (fun h=>hT ⟨h.1,h.2.1⟩),on1_f (fun h=>hT ⟨h.1,h.2.1⟩)];rfl
theorem dfs {W H s:Int} {n:Nat} {outs l:Rows} (hn:(n:Int)=W * H) (hs:okM W H s) (hl:∀x∈l,okM W H (wI x)) (hlen:outs.length=n) (hout:∀r,okM W H r->∀b,isO b->(hasB outs r b↔∃x∈l,onP W s (wI x) r/\turnI W r (wI x)=b)) :
  ∀(m:Nat) (q tk:Int) (c:Rows),okM W H q->0<=tk->tk+phi W s q l<=400->402 - tk<=(m:Int)->c.length=n->goodR W H s l n tk (phi W s q l) c (fun i=>onP W s i q) (rch W H outs m q tk c)
 |0,q,tk,c,hq,h0,hB,hm,hc=>by
  have h1:=cst_nn (s:=s) (l:=l) hq
  have:=phi_eq W s q l
  have:=h1 1;have:=h1 2;have:=h1 4;have:=h1 8;have:=h1 16
  omega
 |m+1,q,tk,c,hq,h0,hB,hm,hc=>by
  have h1:=cst_nn (s:=s) (l:=l) hq
  have hp:=phi_eq W s q l
  have:=h1 1;have:=h1 2;have:=h1 4;have:=h1 8;have:=h1 16
  have e:csts W s q l [1,2,4,8,16]=phi W s q l:=by rw [hp];simp only [csts,Int.add_zero]
  obtain ⟨tk',c',e1,e2,e3,e4,e5⟩:=loopO hn hs hq hl (hout q hq) (dfs hn hs hl hlen hout m) [1,2,4,8,16] tk c (fun o ho=>by
   simp only [zL,List.not_mem_nil,or_false] at ho
   exact ho) (by decide) h0 (by omega) (by omega) hc
  refine ⟨tk',c',?_,e2,by omega,e4,fun i hi=>?_⟩
  ·have:¬(((outs.length:Nat):Int)<=q\/400 < tk):=by have:=hq.2.2;omega
   simp only [rch,if_neg this];exact e1
  rw [e5 i hi]
  congr 1
  refine on1_c ⟨fun ⟨a,b,_⟩=>⟨a,b⟩,fun ⟨a,b⟩=>⟨a,b,?_⟩⟩
  have:=tnO W q i
  simp only [zL,List.not_mem_nil,or_false]
  exact this
theorem dy_bd {W H r t:Int} (hr:okM W H r) (ht:okM W H t):dy W r t<=8:=by
 have a:=co hr
 have b:=co ht
 have:=hr.2.1
 unfold dy absI;split<;>omega
theorem phi_bd {W H s:Int} {l:Rows} (hs:okM W H s) (hl:∀x∈l,okM W H (wI x)) (h30:l.length<=30):phi W s s l<=400:=by
 have a:=co hs
 have:=hs.1
 have h1:=sm_bd (p:=fun t=>onP W s t s) (f:=dy W s) (B:=8) (by omega) (l:=l) fun x hx=>dy_bd hs (hl x hx)
 unfold phi
 have h2:rE W s s<=8:=by unfold rE;split<;>omega
 have h3:rW W s s<=8:=by unfold rW;split<;>omega
 have h4:((l.length:Nat):Int) * 8<=240:=by omega
 omega
theorem dfs_s {W H s:Int} {n:Nat} {l:Rows} (hn:(n:Int)=W * H) (hs:okM W H s) (hl:∀x∈l,okM W H (wI x)) (h30:l.length<=30) :
  ∃tk' c',rch W H (treL W (W * H) s l) 402 s 0 (List.replicate n [.i 0])=(tk',true,c')/\c'.length=n/\∀i,okM W H i->wI (c'.getD i.toNat [])=on1 (tgt l i):=by
 have ht:=treL_ok hs hl
 have hn':(W * H).toNat=n:=by omega
 rw [hn'] at ht
 obtain ⟨tk',c',e1,_,_,e4,e5⟩:=dfs hn hs hl ht.1.1 (fun r hr b hb=>ht.2 r b hr hb) 402 s 0 (List.replicate n [.i 0]) hs (Int.le_refl _) (by have:=phi_bd hs hl h30;omega) (by omega) (by simp)
 refine ⟨tk',c',e1,e4,fun i hi=>?_⟩
 rw [e5 i hi,getD_rep (by have:=hi.2.2;omega),show wI [D.i 0]=0 from rfl,Int.zero_add]
 refine on1_c ⟨fun h=>h.1,fun h=>⟨h,?_⟩⟩
 have a:=co hs
 have b:=co hi
 unfold onP
 omega
end HX

namespace HX
open Go Go.Proofs CX
structure V84 (a0_0:Int) (a0_1:Int) (a0_2:Int) (a1:Int) (a2:Int) (R:Nat->Nat->D)  : Prop where
 g0:a0_0≠0
 g2:-9223372036854775808<=(Int.tdiv a1 a0_0)/\(Int.tdiv a1 a0_0)<=9223372036854775807
 g3:(a2=1)->-9223372036854775808<=(a1+1)/\(a1+1)<=9223372036854775807
 g4:(a2=1)->-9223372036854775808<=((Int.tmod a1 a0_0)+1)/\((Int.tmod a1 a0_0)+1)<=9223372036854775807
 g5:(a2=1)->R 0 0=D.i (a1+1)
 g6:(a2=1)->R 1 0=D.b (decide (((Int.tmod a1 a0_0)+1) < a0_0))
 g7:(¬a2=1)->(a2=2)->-9223372036854775808<=(a1+a0_0)/\(a1+a0_0)<=9223372036854775807
 g8:(¬a2=1)->(a2=2)->-9223372036854775808<=((Int.tdiv a1 a0_0)+1)/\((Int.tdiv a1 a0_0)+1)<=9223372036854775807
 g9:(¬a2=1)->(a2=2)->R 0 0=D.i (a1+a0_0)
 g10:(¬a2=1)->(a2=2)->R 1 0=D.b (decide (((Int.tdiv a1 a0_0)+1) < a0_1))
 g11:(¬a2=1)->(¬a2=2)->(a2=4)->-9223372036854775808<=(a1 - 1)/\(a1 - 1)<=9223372036854775807
 g12:(¬a2=1)->(¬a2=2)->(a2=4)->R 0 0=D.i (a1 - 1)
 g13:(¬a2=1)->(¬a2=2)->(a2=4)->R 1 0=D.b (decide (0 < (Int.tmod a1 a0_0)))
 g14:(¬a2=1)->(¬a2=2)->(¬a2=4)->(a2=8)->-9223372036854775808<=(a1 - a0_0)/\(a1 - a0_0)<=9223372036854775807
 g15:(¬a2=1)->(¬a2=2)->(¬a2=4)->(a2=8)->R 0 0=D.i (a1 - a0_0)
 g16:(¬a2=1)->(¬a2=2)->(¬a2=4)->(a2=8)->R 1 0=D.b (decide (0 < (Int.tdiv a1 a0_0)))
 g17:(¬a2=1)->(¬a2=2)->(¬a2=4)->(¬a2=8)->R 0 0=D.i a1
 g18:(¬a2=1)->(¬a2=2)->(¬a2=4)->(¬a2=8)->R 1 0=D.b false
end HX

namespace HX
open Go Go.Proofs CX
abbrev vZ43 (x:Int):=-9223372036854775808<=x/\x<=9223372036854775807
structure V43c0 (pre:Nat->List (List D)->Prop) (fn:Nat->List (List D)->Nat->Nat->D) (a0_0:Int) (a0_1:Int) (a0_2:Int) (a1:Rows) (a2:Int) (R:Nat->Nat->D) (b0:Int) (b1:Int) (b2:Bool) (b3:Int) (b4:Rows) (I0:Int->Int->Bool->Int->Rows->Prop) (m0:Int->Int->Bool->Int->Rows->Nat):Prop where
 g7:(b3<=16)->0<=a2
 g8:(b3<=16)->a2 < (a1.length:Int)
 g9:(b3<=16)->(((Int.toNat a2:Nat):Int)) < (a1.length:Int)
 g10:(b3<=16)->((Ar.std.bit BinOp.and IntKind.i64 (D.int (gt a1 a2.toNat 0)) b3)=0)->vZ43 ((b3 * 2))
 n11:(b3<=16)->((Ar.std.bit BinOp.and IntKind.i64 (D.int (gt a1 a2.toNat 0)) b3)=0)->I0 b0 b1 b2 (b3 * 2) b4/\m0 b0 b1 b2 (b3 * 2) b4 < m0 b0 b1 b2 b3 b4
 g12:(b3<=16)->(¬(Ar.std.bit BinOp.and IntKind.i64 (D.int (gt a1 a2.toNat 0)) b3)=0)->vZ43 ((b0+1))
 g13:(b3<=16)->(¬(Ar.std.bit BinOp.and IntKind.i64 (D.int (gt a1 a2.toNat 0)) b3)=0)->(b3=16)->0<=a2
 g14:(b3<=16)->(¬(Ar.std.bit BinOp.and IntKind.i64 (D.int (gt a1 a2.toNat 0)) b3)=0)->(b3=16)->a2 < (b4.length:Int)
 g15:(b3<=16)->(¬(Ar.std.bit BinOp.and IntKind.i64 (D.int (gt a1 a2.toNat 0)) b3)=0)->(b3=16)->(((Int.toNat a2:Nat):Int)) < (b4.length:Int)
 g16:(b3<=16)->(¬(Ar.std.bit BinOp.and IntKind.i64 (D.int (gt a1 a2.toNat 0)) b3)=0)->(b3=16)->vZ43 (((D.int (gt b4 a2.toNat 0))+1))
 g20:(b3<=16)->(¬(Ar.std.bit BinOp.and IntKind.i64 (D.int (gt a1 a2.toNat 0)) b3)=0)->(b3=16)->vZ43 ((b3 * 2))
 n21:(b3<=16)->(¬(Ar.std.bit BinOp.and IntKind.i64 (D.int (gt a1 a2.toNat 0)) b3)=0)->(b3=16)->I0 (b0+1) b1 b2 (b3 * 2) (List.set b4 a2.toNat [D.i ((D.int (gt b4 a2.toNat 0))+1)])/\m0 (b0+1) b1 b2 (b3 * 2) (List.set b4 a2.toNat [D.i ((D.int (gt b4 a2.toNat 0))+1)]) < m0 b0 b1 b2 b3 b4
 g22:(b3<=16)->(¬(Ar.std.bit BinOp.and IntKind.i64 (D.int (gt a1 a2.toNat 0)) b3)=0)->(¬b3=16)->pre 84 [[D.i a0_0,D.i a0_1,D.i a0_2],[D.i a2],[D.i b3]]
 g23:(b3<=16)->(¬(Ar.std.bit BinOp.and IntKind.i64 (D.int (gt a1 a2.toNat 0)) b3)=0)->(¬b3=16)->(D.boo (fn 84 [[D.i a0_0,D.i a0_1,D.i a0_2],[D.i a2],[D.i b3]] 1 0)=false)->R 0 0=D.i 0
 g24:(b3<=16)->(¬(Ar.std.bit BinOp.and IntKind.i64 (D.int (gt a1 a2.toNat 0)) b3)=0)->(¬b3=16)->(D.boo (fn 84 [[D.i a0_0,D.i a0_1,D.i a0_2],[D.i a2],[D.i b3]] 1 0)=false)->R 1 0=D.b false
 g25:(b3<=16)->(¬(Ar.std.bit BinOp.and IntKind.i64 (D.int (gt a1 a2.toNat 0)) b3)=0)->(¬b3=16)->(D.boo (fn 84 [[D.i a0_0,D.i a0_1,D.i a0_2],[D.i a2],[D.i b3]] 1 0)=false)->R 2 0=D.l b4
 g26:(b3<=16)->(¬(Ar.std.bit BinOp.and IntKind.i64 (D.int (gt a1 a2.toNat 0)) b3)=0)->(¬b3=16)->(D.boo (fn 84 [[D.i a0_0,D.i a0_1,D.i a0_2],[D.i a2],[D.i b3]] 1 0)=true)->pre 43 [[D.i a0_0,D.i a0_1,D.i a0_2],[D.l a1],[D.i (D.int (fn 84 [[D.i a0_0,D.i a0_1,D.i a0_2],[D.i a2],[D.i b3]] 0 0))],[D.l b4],[D.i (b0+1)]]
 g27:(b3<=16)->(¬(Ar.std.bit BinOp.and IntKind.i64 (D.int (gt a1 a2.toNat 0)) b3)=0)->(¬b3=16)->(D.boo (fn 84 [[D.i a0_0,D.i a0_1,D.i a0_2],[D.i a2],[D.i b3]] 1 0)=true)->(D.boo (fn 43 [[D.i a0_0,D.i a0_1,D.i a0_2],[D.l a1],[D.i (D.int (fn 84 [[D.i a0_0,D.i a0_1,D.i a0_2],[D.i a2],[D.i b3]] 0 0))],[D.l b4],[D.i (b0+1)]] 1 0)=false)->R 0 0=D.i 0
 g28:(b3<=16)->(¬(Ar.std.bit BinOp.and IntKind.i64 (D.int (gt a1 a2.toNat 0)) b3)=0)->(¬b3=16)->(D.boo (fn 84 [[D.i a0_0,D.i a0_1,D.i a0_2],[D.i a2],[D.i b3]] 1 0)=true)->(D.boo (fn 43 [[D.i a0_0,D.i a0_1,D.i a0_2],[D.l a1],[D.i (D.int (fn 84 [[D.i a0_0,D.i a0_1,D.i a0_2],[D.i a2],[D.i b3]] 0 0))],[D.l b4],[D.i (b0+1)]] 1 0)=false)->R 1 0=D.b false
 g29:(b3<=16)->(¬(Ar.std.bit BinOp.and IntKind.i64 (D.int (gt a1 a2.toNat 0)) b3)=0)->(¬b3=16)->(D.boo (fn 84 [[D.i a0_0,D.i a0_1,D.i a0_2],[D.i a2],[D.i b3]] 1 0)=true)->(D.boo (fn 43 [[D.i a0_0,D.i a0_1,D.i a0_2],[D.l a1],[D.i (D.int (fn 84 [[D.i a0_0,D.i a0_1,D.i a0_2],[D.i a2],[D.i b3]] 0 0))],[D.l b4],[D.i (b0+1)]] 1 0)=false)->R 2 0=D.l (D.rows (fn 43 [[D.i a0_0,D.i a0_1,D.i a0_2],[D.l a1],[D.i (D.int (fn 84 [[D.i a0_0,D.i a0_1,D.i a0_2],[D.i a2],[D.i b3]] 0 0))],[D.l b4],[D.i (b0+1)]] 2 0))
 g30:(b3<=16)->(¬(Ar.std.bit BinOp.and IntKind.i64 (D.int (gt a1 a2.toNat 0)) b3)=0)->(¬b3=16)->(D.boo (fn 84 [[D.i a0_0,D.i a0_1,D.i a0_2],[D.i a2],[D.i b3]] 1 0)=true)->(D.boo (fn 43 [[D.i a0_0,D.i a0_1,D.i a0_2],[D.l a1],[D.i (D.int (fn 84 [[D.i a0_0,D.i a0_1,D.i a0_2],[D.i a2],[D.i b3]] 0 0))],[D.l b4],[D.i (b0+1)]] 1 0)=true)->vZ43 ((b3 * 2))
 n31:(b3<=16)->(¬(Ar.std.bit BinOp.and IntKind.i64 (D.int (gt a1 a2.toNat 0)) b3)=0)->(¬b3=16)->(D.boo (fn 84 [[D.i a0_0,D.i a0_1,D.i a0_2],[D.i a2],[D.i b3]] 1 0)=true)->(D.boo (fn 43 [[D.i a0_0,D.i a0_1,D.i a0_2],[D.l a1],[D.i (D.int (fn 84 [[D.i a0_0,D.i a0_1,D.i a0_2],[D.i a2],[D.i b3]] 0 0))],[D.l b4],[D.i (b0+1)]] 1 0)=true)->I0 (D.int (fn 43 [[D.i a0_0,D.i a0_1,D.i a0_2],[D.l a1],[D.i (D.int (fn 84 [[D.i a0_0,D.i a0_1,D.i a0_2],[D.i a2],[D.i b3]] 0 0))],[D.l b4],[D.i (b0+1)]] 0 0)) b1 b2 (b3 * 2) (D.rows (fn 43 [[D.i a0_0,D.i a0_1,D.i a0_2],[D.l a1],[D.i (D.int (fn 84 [[D.i a0_0,D.i a0_1,D.i a0_2],[D.i a2],[D.i b3]] 0 0))],[D.l b4],[D.i (b0+1)]] 2 0))/\m0 (D.int (fn 43 [[D.i a0_0,D.i a0_1,D.i a0_2],[D.l a1],[D.i (D.int (fn 84 [[D.i a0_0,D.i a0_1,D.i a0_2],[D.i a2],[D.i b3]] 0 0))],[D.l b4],[D.i (b0+1)]] 0 0)) b1 b2 (b3 * 2) (D.rows (fn 43 [[D.i a0_0,D.i a0_1,D.i a0_2],[D.l a1],[D.i (D.int (fn 84 [[D.i a0_0,D.i a0_1,D.i a0_2],[D.i a2],[D.i b3]] 0 0))],[D.l b4],[D.i (b0+1)]] 2 0)) < m0 b0 b1 b2 b3 b4
 g32:(¬b3<=16)->R 0 0=D.i b0
 g33:(¬b3<=16)->R 1 0=D.b true
 g34:(¬b3<=16)->R 2 0=D.l b4
abbrev V43l0 (pre:Nat->List (List D)->Prop) (fn:Nat->List (List D)->Nat->Nat->D) (a0_0:Int) (a0_1:Int) (a0_2:Int) (a1:Rows) (a2:Int) (a3:Rows) (a4:Int) (R:Nat->Nat->D):Prop:=∃(I0:Int->Int->Bool->Int->Rows->Prop) (m0:Int->Int->Bool->Int->Rows->Nat),I0 a4 0 false 1 a3/\∀b0 b1 b2 b3 b4,I0 b0 b1 b2 b3 b4->V43c0 pre fn a0_0 a0_1 a0_2 a1 a2 R b0 b1 b2 b3 b4 I0 m0
structure V43 (pre:Nat->List (List D)->Prop) (fn:Nat->List (List D)->Nat->Nat->D) (a0_0:Int) (a0_1:Int) (a0_2:Int) (a1:Rows) (a2:Int) (a3:Rows) (a4:Int) (R:Nat->Nat->D):Prop where
 g0:((a1.length:Int)<=a2)->R 0 0=D.i 0
 g1:((a1.length:Int)<=a2)->R 1 0=D.b false
 g2:((a1.length:Int)<=a2)->R 2 0=D.l a3
 g3:(¬(a1.length:Int)<=a2)->(400 < a4)->R 0 0=D.i 0
 g4:(¬(a1.length:Int)<=a2)->(400 < a4)->R 1 0=D.b false
 g5:(¬(a1.length:Int)<=a2)->(400 < a4)->R 2 0=D.l a3
 l0:(¬(a1.length:Int)<=a2)->(¬400 < a4)->V43l0 pre fn a0_0 a0_1 a0_2 a1 a2 a3 a4 R
end HX

namespace HX
open Go Go.Proofs CX
def nxI (W r o:Int):Int:=if o=1 then r+1 else if o=2 then r+W else if o=4 then r - 1 else if o=8 then r - W else r
theorem nxI_ov {W r o:Int} (h:o=1\/o=2\/o=4\/o=8):nxI W r o=ovI W r o:=by
 rcases h with rfl |rfl |rfl |rfl<;>rfl
def p84:List (List D)->Prop
 |[[.i a,.i _,.i _],[.i r],[.i _]]=>(1<=a/\a<=8)/\0<=r/\r<=2000
 |_=>False
def r84:List (List D)->Nat->Nat->D
 |[[.i a,.i b,.i _],[.i r],[.i o]],i,_=>if i=0 then .i (nxI a r o) else .b (lgB a b r o)
 |_,_,_=>.nil
theorem td_bd {W r:Int} (hW:1<=W) (hr:0<=r):(0<=Int.tmod r W/\Int.tmod r W<=r)/\(0<=Int.tdiv r W/\Int.tdiv r W<=r)/\(0 < Int.tdiv r W->W<=r):=by
 rw [qJ hr,qK hr]
 refine ⟨⟨Int.emod_nonneg _ (by omega),by have:=Int.emod_add_mul_ediv r W;have:=Int.mul_nonneg (show 0<=W by omega) (Int.ediv_nonneg hr (show 0<=W by omega));omega⟩,⟨Int.ediv_nonneg hr (by omega),Int.ediv_le_self _ hr⟩,fun h=>?_⟩
 by_cases c:r < W
 ·rw [Int.ediv_eq_zero_of_lt hr c] at h;omega
 omega
theorem law84 (a0 a1 a2 r o:Int) (h:p84 [[.i a0,.i a1,.i a2],[.i r],[.i o]]):V84 a0 a1 a2 r o (r84 [[.i a0,.i a1,.i a2],[.i r],[.i o]]):=by
 obtain ⟨hW,h0,h1⟩:=h
 have hb:=td_bd hW.1 h0
 have R0:r84 [[.i a0,.i a1,.i a2],[.i r],[.i o]] 0 0=.i (nxI a0 r o):=rfl
 have R1:r84 [[.i a0,.i a1,.i a2],[.i r],[.i o]] 1 0=.b (lgB a0 a1 r o):=rfl
 constructor
 all_goals try simp only [R0,R1]
 all_goals intros
 all_goals first
  |omega
  |(unfold nxI;simp_all;done)
  |(unfold lgB;simp_all;done)
def cellsOK (c:Rows) (tk:Int):Prop:=∀i:Nat,i < c.length->0<=wI (c.getD i [])/\wI (c.getD i [])<=tk
theorem cellsOK.mono {c:Rows} {a b:Int} (h:cellsOK c a) (hab:a<=b):cellsOK c b:=fun i hi=>by have:=h i hi;omega
theorem cellsOK.inc {c:Rows} {tk r:Int} (h:cellsOK c tk) (hr:r.toNat < c.length):cellsOK (incC c r) (tk+1):=fun i hi=>by
 unfold incC at hi ⊢
 rw [xN] at hi
 rw [getD_set hr]
 have hw:∀x:Int,wI [D.i x]=x:=fun _=>rfl
 split
 ·rw [hw];have:=h r.toNat hr;omega
 have:=h i hi;omega
theorem go_bd {W H v r:Int} {n:Nat} {B:Int} {rec:Int->Int->Rows->Int×Bool×Rows} (hr:r.toNat < n) (hrec:∀q tk c tk' c',0<=tk->c.length=n->cellsOK c tk->rec q tk c=(tk',true,c')->tk<=tk'/\tk'<=B/\c'.length=n/\cellsOK c' tk') :
  ∀(os:List Int) (K tk:Int) (c:Rows) (tk':Int) (c':Rows),B<=K->tk<=K->0<=tk->c.length=n->cellsOK c tk->goO rec W H v r os tk c=(tk',true,c')->tk<=tk'/\tk'<=K+((os.count 16:Nat):Int)/\c'.length=n/\cellsOK c' tk'
 |[],K,tk,c,tk',c',hB,hK,h0,hc,hcl,h=>by
  simp only [goO,zI,true_and] at h
  obtain ⟨rfl,rfl⟩:=h
  exact ⟨Int.le_refl _,by simp;omega,hc,hcl⟩
 |o :: os,K,tk,c,tk',c',hB,hK,h0,hc,hcl,h=>by
  have hct:(os.count 16)<=((o :: os).count 16):=List.count_le_count_cons
  simp only [goO] at h
  split at h
  ·obtain ⟨a,b,d,e⟩:=go_bd hr hrec os K tk c tk' c' hB hK h0 hc hcl h
   exact ⟨a,by omega,d,e⟩
  split at h
  next e16=>
   subst e16
   obtain ⟨a,b,d,e⟩:=go_bd hr hrec os (K+1) (tk+1) (incC c r) tk' c' (by omega) (by omega) (by omega) (by rw [incC,xN];exact hc) (hcl.inc (by omega)) h
   refine ⟨by omega,?_,d,e⟩
   rw [List.count_cons_self];omega
  split at h
  ·split at h
   next tk2 c2 h2=>
    obtain ⟨a,b,d,e⟩:=hrec _ _ _ _ _ (by omega) hc (hcl.mono (by omega)) h2
    obtain ⟨a2,b2,d2,e2⟩:=go_bd hr hrec os K tk2 c2 tk' c' hB (by omega) (by omega) d e h
    exact ⟨by omega,by omega,d2,e2⟩
   cases h
  cases h
theorem rch_bd {W H:Int} {n:Nat} (h1:1<=n) {outs:Rows} (hlen:outs.length=n):∀(m:Nat) (q tk:Int) (c:Rows) (tk':Int) (c':Rows),0<=tk->c.length=n->cellsOK c tk->rch W H outs m q tk c=(tk',true,c')->tk<=tk'/\tk'<=400+(m:Int)/\c'.length=n/\cellsOK c' tk'
 |0,q,tk,c,tk',c',_,_,_,h=>by cases h
 |m+1,q,tk,c,tk',c',h0,hc,hcl,h=>by
  simp only [rch] at h
  split at h
  ·cases h
  rename_i hn
  have hq:q.toNat < n:=by omega
  obtain ⟨a,b,d,e⟩:=go_bd hq (rch_bd h1 hlen m) [1,2,4,8,16] (400+(m:Int)) tk c tk' c' (Int.le_refl _) (by omega) h0 hc hcl h
  have:([1,2,4,8,16]:List Int).count 16=1:=by decide
  rw [this] at b
  exact ⟨a,by omega,d,e⟩
def rem' (b:Int):List Int:=if b=1 then [1,2,4,8,16] else if b=2 then [2,4,8,16] else if b=4 then [4,8,16] else if b=8 then [8,16] else if b=16 then [16] else []
theorem rem_cons {b:Int} (h:isO b):rem' b=b :: rem' (b * 2):=by
 rcases h with rfl |rfl |rfl |rfl |rfl<;>rfl
def p43 (m:Nat):List (List D)->Prop
 |[[.i a,.i _,.i _],[.l l],[.i r],[.l c],[.i tk]]=>(1<=a/\a<=8)/\(0<=r/\r<=1100)/\(0<=tk/\tk<=1000)/\402 - tk<=m/\(l.length=c.length/\1<=l.length/\l.length<=1000)/\cellsOK c tk
 |_=>False
def r43 (m:Nat):List (List D)->Nat->Nat->D
 |[[.i a,.i b,.i _],[.l l],[.i r],[.l c],[.i tk]],i,_=>if i=0 then .i (rch a b l m r tk c).1 else if i=1 then .b (rch a b l m r tk c).2.1 else .l (rch a b l m r tk c).2.2
 |_,_,_=>.nil
theorem law43_0 {pre:Nat->List (List D)->Prop} {fn:Nat->List (List D)->Nat->Nat->D} (a0 a1 a2:Int) (l:Rows) (r:Int) (c:Rows) (tk:Int) (h:p43 0 [[.i a0,.i a1,.i a2],[.l l],[.i r],[.l c],[.i tk]]):V43 pre fn a0 a1 a2 l r c tk (r43 0 [[.i a0,.i a1,.i a2],[.l l],[.i r],[.l c],[.i tk]]):=by
 obtain ⟨_,_,_,h4,_⟩:=h
 constructor
 case l0=>intro _ _;exfalso;omega
 all_goals intros;rfl
theorem law43 {m:Nat} (hm:m<=402) {pre:Nat->List (List D)->Prop} {fn:Nat->List (List D)->Nat->Nat->D} (hp84:pre 84=p84) (hf84:fn 84=r84) (hp43:pre 43=p43 m) (hf43:fn 43=r43 m)
  (a0 a1 a2:Int) (l:Rows) (r:Int) (c:Rows) (tk:Int) (h:p43 (m+1) [[.i a0,.i a1,.i a2],[.l l],[.i r],[.l c],[.i tk]]):V43 pre fn a0 a1 a2 l r c tk (r43 (m+1) [[.i a0,.i a1,.i a2],[.l l],[.i r],[.l c],[.i tk]]):=by
 obtain ⟨hW,hr,ht,hmt,hl,hcl⟩:=h
 have R0:r43 (m+1) [[.i a0,.i a1,.i a2],[.l l],[.i r],[.l c],[.i tk]] 0 0=.i (rch a0 a1 l (m+1) r tk c).1:=rfl
 have R1:r43 (m+1) [[.i a0,.i a1,.i a2],[.l l],[.i r],[.l c],[.i tk]] 1 0=.b (rch a0 a1 l (m+1) r tk c).2.1:=rfl
 have R2:r43 (m+1) [[.i a0,.i a1,.i a2],[.l l],[.i r],[.l c],[.i tk]] 2 0=.l (rch a0 a1 l (m+1) r tk c).2.2:=rfl
 constructor
 case g0=>intro e;rw [R0];simp only [rch,if_pos (show ((l.length:Nat):Int)<=r\/400 < tk from .inl e)]
 case g1=>intro e;rw [R1];simp only [rch,if_pos (show ((l.length:Nat):Int)<=r\/400 < tk from .inl e)]
 case g2=>intro e;rw [R2];simp only [rch,if_pos (show ((l.length:Nat):Int)<=r\/400 < tk from .inl e)]
 case g3=>intro _ e;rw [R0];simp only [rch,if_pos (show ((l.length:Nat):Int)<=r\/400 < tk from .inr e)]
 case g4=>intro _ e;rw [R1];simp only [rch,if_pos (show ((l.length:Nat):Int)<=r\/400 < tk from .inr e)]
 case g5=>intro _ e;rw [R2];simp only [rch,if_pos (show ((l.length:Nat):Int)<=r\/400 < tk from .inr e)]
 case l0=>
  intro e1 e2
  have hres:rch a0 a1 l (m+1) r tk c=goO (rch a0 a1 l m) a0 a1 (wI (l.getD r.toNat [])) r [1,2,4,8,16] tk c:=by
   simp only [rch,if_neg (show ¬(((l.length:Nat):Int)<=r\/400 < tk) from fun h=>h.elim e1 e2)]
  obtain ⟨RES,hRES⟩:∃X,goO (rch a0 a1 l m) a0 a1 (wI (l.getD r.toNat [])) r [1,2,4,8,16] tk c=X:=⟨_,rfl⟩
  rw [hres,hRES] at R0 R1 R2
  have an:∀x y:Int,Ar.std.bit BinOp.and IntKind.i64 x y=bitX .and .i64 x y:=fun _ _=>rfl
  have F84a:∀o,(fn 84 [[D.i a0,D.i a1,D.i a2],[D.i r],[D.i o]] 0 0).int=nxI a0 r o:=fun o=>by rw [hf84];rfl
  have F84b:∀o,(fn 84 [[D.i a0,D.i a1,D.i a2],[D.i r],[D.i o]] 1 0).boo=lgB a0 a1 r o:=fun o=>by rw [hf84];rfl
  have F43a:∀q c t,(fn 43 [[D.i a0,D.i a1,D.i a2],[D.l l],[D.i q],[D.l c],[D.i t]] 0 0).int=(rch a0 a1 l m q t c).1:=fun q c t=>by rw [hf43];rfl
  have F43b:∀q c t,(fn 43 [[D.i a0,D.i a1,D.i a2],[D.l l],[D.i q],[D.l c],[D.i t]] 1 0).boo=(rch a0 a1 l m q t c).2.1:=fun q c t=>by rw [hf43];rfl
  have F43c:∀q c t,(fn 43 [[D.i a0,D.i a1,D.i a2],[D.l l],[D.i q],[D.l c],[D.i t]] 2 0).rows=(rch a0 a1 l m q t c).2.2:=fun q c t=>by rw [hf43];rfl
  refine ⟨fun b0 _ _ b3 b4=>(isO b3\/b3=32)/\tk<=b0/\b0<=401+(m:Int)/\(b3<=16->b0<=400+(m:Int))/\b4.length=l.length/\cellsOK b4 b0/\
   goO (rch a0 a1 l m) a0 a1 (wI (l.getD r.toNat [])) r (rem' b3) b0 b4=RES,fun _ _ _ b3 _=>(64 - b3).toNat,⟨.inl (.inl rfl),Int.le_refl _,by omega,fun _=>by omega,hl.1.symm,hcl,hRES⟩,?_⟩
  rintro b0 b1 b2 b3 b4 ⟨k1,k2,k3,k4,k5,k6,k7⟩
  have k1':b3<=16->isO b3:=fun h=>k1.resolve_right (by omega)
  have kr:b3<=16->1<=b3:=fun h=>by rcases k1' h with h |h |h |h |h<;>omega
  have k2':b3<=16->isO (b3 * 2)\/b3 * 2=32:=fun h=>by
   rcases k1' h with rfl |rfl |rfl |rfl |rfl
   ·exact .inl (.inr (.inl rfl))
   ·exact .inl (.inr (.inr (.inl rfl)))
   ·exact .inl (.inr (.inr (.inr (.inl rfl))))
   ·exact .inl (.inr (.inr (.inr (.inr rfl))))
   exact .inr rfl
  have k3':b3<=16->¬b3=16->(b3=1\/b3=2\/b3=4\/b3=8):=fun h h2=>by
   rcases k1' h with h |h |h |h |h
   ·exact .inl h
   ·exact .inr (.inl h)
   ·exact .inr (.inr (.inl h))
   ·exact .inr (.inr (.inr h))
   exact absurd h h2
  have k7':b3<=16->goO (rch a0 a1 l m) a0 a1 (wI (l.getD r.toNat [])) r (b3 :: rem' (b3 * 2)) b0 b4=RES:=fun h=>by
   rw [<-rem_cons (k1' h)];exact k7
  have rl:r.toNat < b4.length:=by omega
  constructor
  all_goals try simp only [an,F84a,F84b,F43a,F43b,F43c,R0,R1,R2,gt_wI,vZ43]
  case g32=>
   intro e
   have:b3=32:=by rcases k1 with (h |h |h |h |h) |h<;>omega
   subst this
   rw [<-k7];rfl
  case g33=>
   intro e
   have:b3=32:=by rcases k1 with (h |h |h |h |h) |h<;>omega
   subst this
   rw [<-k7];rfl
  case g34=>
   intro e
   have:b3=32:=by rcases k1 with (h |h |h |h |h) |h<;>omega
   subst this
   rw [<-k7];rfl
  all_goals intro c0
  all_goals have k4:=k4 c0
  all_goals have kr:=kr c0
  all_goals have k7':=k7' c0
  case n11=>
   intro hb
   simp only [goO,if_pos hb] at k7'
   exact ⟨⟨k2' c0,k2,k3,fun _=>k4,k5,k6,k7'⟩,by omega⟩
  case g16=>intro _ _;have:=k6 r.toNat rl;omega
  case n21=>
   intro hb e16
   subst e16
   simp only [goO,if_neg hb,if_true] at k7'
   exact ⟨⟨.inr rfl,by omega,by omega,fun h=>by omega,by rw [xN];exact k5,k6.inc rl,k7'⟩,by omega⟩
  case g22=>intro _ _;rw [hp84];exact ⟨hW,hr.1,by omega⟩
  case g23=>intro hb h16 e;simp only [goO,if_neg hb,if_neg h16,e,if_neg Bool.false_ne_true] at k7';rw [<-k7']
  case g24=>intro hb h16 e;simp only [goO,if_neg hb,if_neg h16,e,if_neg Bool.false_ne_true] at k7';rw [<-k7']
  case g25=>intro hb h16 e;simp only [goO,if_neg hb,if_neg h16,e,if_neg Bool.false_ne_true] at k7';rw [<-k7']
  case g26=>
   intro hb h16 e
   rw [hp43]
   have hb2:=td_bd hW.1 hr.1
   have hlg:0<=nxI a0 r b3/\nxI a0 r b3<=r+8:=by
    rcases k3' c0 h16 with rfl |rfl |rfl |rfl
    ·show 0<=r+1/\r+1<=r+8;omega
    ·show 0<=r+a0/\r+a0<=r+8;omega
    ·have e:decide (0 < Int.tmod r a0)=true:=e
     have:=zV e
     show 0<=r - 1/\r - 1<=r+8;omega
    have e:decide (0 < Int.tdiv r a0)=true:=e
    have:=hb2.2.2 (zV e)
    show 0<=r - a0/\r - a0<=r+8;omega
   exact ⟨hW,⟨hlg.1,by omega⟩,⟨by omega,by omega⟩,by omega,⟨k5.symm,hl.2⟩,k6.mono (by omega)⟩
  case g27=>
   intro hb h16 e e2
   rw [nxI_ov (k3' c0 h16)] at e2
   simp only [goO,if_neg hb,if_neg h16,if_pos e] at k7'
   revert e2 k7'
   cases hx:rch a0 a1 l m (ovI a0 r b3) (b0+1) b4 with
   |mk t x=>
    cases x with
    |mk f cc=>
     cases f with
     |true=>intro h2 _;cases h2
     |false=>intro _ h2;rw [<-h2]
  case g28=>
   intro hb h16 e e2
   rw [nxI_ov (k3' c0 h16)] at e2
   simp only [goO,if_neg hb,if_neg h16,if_pos e] at k7'
   revert e2 k7'
   cases hx:rch a0 a1 l m (ovI a0 r b3) (b0+1) b4 with
   |mk t x=>
    cases x with
    |mk f cc=>
     cases f with
     |true=>intro h2 _;cases h2
     |false=>intro _ h2;rw [<-h2]
  case g29=>
   intro hb h16 e e2
   rw [nxI_ov (k3' c0 h16)] at e2 ⊢
   simp only [goO,if_neg hb,if_neg h16,if_pos e] at k7'
   revert e2 k7'
   cases hx:rch a0 a1 l m (ovI a0 r b3) (b0+1) b4 with
   |mk t x=>
    cases x with
    |mk f cc=>
     cases f with
     |true=>intro h2 _;cases h2
     |false=>intro _ h2;rw [<-h2]
  case n31=>
   intro hb h16 e e2
   rw [nxI_ov (k3' c0 h16)] at e2 ⊢
   simp only [goO,if_neg hb,if_neg h16,if_pos e] at k7'
   have bd:=rch_bd (W:=a0) (H:=a1) (n:=l.length) hl.2.1 rfl m (ovI a0 r b3) (b0+1) b4
   revert e2 k7' bd
   cases hx:rch a0 a1 l m (ovI a0 r b3) (b0+1) b4 with
   |mk t x=>
    cases x with
    |mk f cc=>
     cases f with
     |false=>intro h2 _ _;cases h2
     |true=>
      intro _ h2 bd
      obtain ⟨d1,d2,d3,d4⟩:=bd t cc (by omega) k5 (k6.mono (by omega)) rfl
      exact ⟨⟨k2' c0,by show tk<=t;omega,by show t<=_;omega,fun _=>d2,d3,d4,h2⟩,by omega⟩
  all_goals first
   |omega
   |(intros;omega)
end HX

namespace HX
open Go Go.Proofs CX
theorem step_one {W H p t : Int} (hp : okM W H p) (ht : okM W H t) (hne : p ≠ t) : okM W H (stepI W p t) /\
    ((Int.tmod p W≠Int.tmod t W/\(stepI W p t=p+1\/stepI W p t=p - 1)/\Int.tdiv (stepI W p t) W=Int.tdiv p W)\/
     (Int.tmod p W=Int.tmod t W/\(stepI W p t=p+W\/stepI W p t=p - W)/\Int.tdiv (stepI W p t) W≠Int.tdiv p W/\Int.tmod (stepI W p t) W=Int.tmod t W)):=by
  obtain ⟨hl,ho⟩:=turn_leg hp ht hne
  obtain ⟨hq,hc⟩:=ov_co hp hl
  rw [<-ho]
  refine ⟨hq,?_⟩
  rcases hc with ⟨h1,h2,h3⟩ |⟨h1,h2,h3⟩ |⟨h1,h2,h3⟩ |⟨h1,h2,h3⟩
  · rw [h1] at h2 h3 ⊢
    rw [tn1] at h1
    exact .inl ⟨by omega,.inl rfl,h3⟩
  · rw [h1] at h2 h3 ⊢
    rw [tn2] at h1
    exact .inr ⟨by omega,.inl rfl,by omega,by omega⟩
  · rw [h1] at h2 h3 ⊢
    rw [tn4] at h1
    exact .inl ⟨by omega,.inr rfl,h3⟩
  · rw [h1] at h2 h3 ⊢
    rw [tn8] at h1
    exact .inr ⟨by omega,.inr rfl,by omega,by omega⟩
theorem rtF_0 (W t:Int):∀(n:Nat) (p:Int),wI ((rtF W t n p).getD 0 [])=p
 |0,_=>rfl
 |_+1,_=>rfl
theorem rtF_at {W H t:Int} (ht:okM W H t):∀(n:Nat) (p:Int),okM W H p->(dstI W p t).toNat=n->
  wI ((rtF W t n p).getD n [])=t/\∀k,k < n->okM W H (wI ((rtF W t n p).getD k []))/\wI ((rtF W t n p).getD k [])≠t/\wI ((rtF W t n p).getD (k+1) [])=stepI W (wI ((rtF W t n p).getD k [])) t
 |0,p,hp,hn=>by
  refine ⟨?_,fun k hk=>by omega⟩
  show p=t
  by_cases e:p=t
  ·exact e
  have:=(step_spec (H:=H) hp.1.1 hp.2.2.1 hp.2.2.2 ht.2.2.1 ht.2.2.2 e).2
  have:=dst_nonneg W (stepI W p t) t
  omega
 |n+1,p,hp,hn=>by
  have hne:p≠t:=fun e=>by subst e;rw [dst_self] at hn;cases hn
  have hs:=step_spec (H:=H) hp.1.1 hp.2.2.1 hp.2.2.2 ht.2.2.1 ht.2.2.2 hne
  have h0:=dst_nonneg W (stepI W p t) t
  obtain ⟨h1,h2⟩:=rtF_at ht n (stepI W p t) ⟨hp.1,hp.2.1,hs.1⟩ (by omega)
  refine ⟨h1,fun k hk=>?_⟩
  cases k with
  |zero=>exact ⟨hp,hne,rtF_0 W t n _⟩
  |succ k=>exact h2 k (by omega)
theorem rtL_at {W H s t:Int} (hs:okM W H s) (ht:okM W H t) :
  wI ((rtL W s t).getD 0 [])=s/\wI ((rtL W s t).getD (dstI W s t).toNat [])=t/\(∀k,k < (rtL W s t).length->okM W H (wI ((rtL W s t).getD k [])))/\
  ∀k,k+1 < (rtL W s t).length->okM W H (wI ((rtL W s t).getD k []))/\wI ((rtL W s t).getD k [])≠t/\wI ((rtL W s t).getD (k+1) [])=stepI W (wI ((rtL W s t).getD k [])) t:=by
 have h:=rtF_at ht (dstI W s t).toNat s hs rfl
 have hl:(rtL W s t).length=(dstI W s t).toNat+1:=rtF_len W t _ s
 refine ⟨rtF_0 W t _ s,h.1,fun k hk=>?_,fun k hk=>h.2 k (by omega)⟩
 by_cases e:k=(dstI W s t).toNat
 ·subst e
  have:=h.1
  unfold rtL
  rw [this];exact ht
 exact (h.2 k (by omega)).1
theorem on_all {W H s t i:Int} (hs:okM W H s) (ht:okM W H t) (hi:okM W H i):(∃j,j < (rtL W s t).length/\wI ((rtL W s t).getD j [])=i)↔onP W s t i:=by
 rw [<-on_rtL hs ht hi]
 constructor
 ·rintro ⟨j,hj,e⟩;exact ⟨_,row_mem hj,e⟩
 rintro ⟨y,hy,e⟩
 obtain ⟨j,hj,e2⟩:=mem_row hy
 exact ⟨j,hj,by rw [e2];exact e⟩
def cellI (c:Rows):Prop:=∀x∈c,∃v,x=[D.i v]
theorem cellI_set {c:Rows} (h:cellI c) (q:Nat) (v:Int):cellI (c.set q [.i v]):=fun x hx=>by
 rcases List.mem_or_eq_of_mem_set hx with hx |rfl
 ·exact h x hx
 exact ⟨v,rfl⟩
theorem go_cell {W H v r:Int} {rec:Int->Int->Rows->Int×Bool×Rows} (hrec:∀q tk c,cellI c->cellI (rec q tk c).2.2):∀(os:List Int) (tk:Int) (c:Rows),cellI c->cellI (goO rec W H v r os tk c).2.2
 |[],_,_,h=>h
 |o :: os,tk,c,h=>by
  simp only [goO]
  split
  ·exact go_cell hrec os tk c h
  split
  ·exact go_cell hrec os _ _ (cellI_set h _ _)
  split
  ·have h2:=hrec (ovI W r o) (tk+1) c h
   revert h2
   cases rec (ovI W r o) (tk+1) c with
   |mk t x=>
    cases x with
    |mk f cc=>
     cases f with
     |true=>intro h2;exact go_cell hrec os t cc h2
     |false=>intro h2;exact h2
  exact h
theorem rch_cell (W H:Int) (outs:Rows):∀(m:Nat) (q tk:Int) (c:Rows),cellI c->cellI (rch W H outs m q tk c).2.2
 |0,_,_,_,h=>h
 |m+1,q,tk,c,h=>by
  simp only [rch]
  split
  ·exact h
  exact go_cell (rch_cell W H outs m) _ _ _ h
theorem cellI_eq {a b:Rows} (ha:cellI a) (hb:cellI b) (hl:a.length=b.length) (h:∀i:Nat,i < a.length->wI (a.getD i [])=wI (b.getD i [])):a=b:=by
 refine List.ext_getElem hl fun i h1 h2=>?_
 obtain ⟨v,hv⟩:=ha _ (kH h1)
 obtain ⟨w,hw⟩:=hb _ (kH h2)
 have:=h i h1
 rw [zH,zH,zJ h1,zJ h2,kK,kK,hv,hw] at this
 rw [hv,hw]
 have:v=w:=this
 rw [this]
end HX

namespace HX
open Go Go.Proofs CX
set_option maxHeartbeats 4000000 in
set_option maxRecDepth 100000 in
theorem walk84 {ro A pre fn} (hE:EnvOk ⟨A,(cxE ro),ksF,sigL [],pre,fn⟩) {P:List (List D)->Prop} {res:List (List D)->Nat->Nat->D}
  (hv:∀(a0_0:Int) (a0_1:Int) (a0_2:Int) (a1:Int) (a2:Int),P [[.i a0_0,.i a0_1,.i a0_2],[.i a1],[.i a2]]->V84 a0_0 a0_1 a0_2 a1 a2 (res [[.i a0_0,.i a0_1,.i a0_2],[.i a1],[.i a2]]) ) :
  PureC (cxE ro) 84 ⟨[(true,[.int .i64,.int .i64,.int .i64]),(false,[.int .i64]),(false,[.int .i64])],[(false,[.int .i64]),(false,[.bool])],false⟩ P res:=by
 have hA:=hE.A
 simp only [] at hA
 have hinl:∀f fn,inlL [] f=some fn->(cxE ro).fn f=some fn/\(cxE ro).ext f=none:=Inls.ok (by repeat (first |exact .nil |refine .cons rfl rfl ?_))
 refine PureC.of_vc hE hinl 6 (f:=84) (fn:=Try.f84) ⟨rfl,rfl⟩ ?_
 intro a0_0 a0_1 a0_2 a1 a2 hP
 obtain ⟨R,hR⟩:∃R,res [[.i a0_0,.i a0_1,.i a0_2],[.i a1],[.i a2]]=R:=⟨_,rfl⟩
 rw [hR]
 have hV:=hv a0_0 a0_1 a0_2 a1 a2  hP
 rw [hR] at hV
 clear hR hP hv
 cbv
 repeat' (first |(refine Br.mk (fun _=>?_) (fun _=>?_)<;>cbv) |(refine NilB.mk (fun _=>?_) ?_<;>cbv) |refine And.intro ?_ ?_ |exact True.intro)
 ·subst hA;exact hV.g0
 ·subst hA;exact hV.g0
 ·subst hA;exact hV.g2
 next hp3_0=>
  subst hA;exact hV.g3 (dt hp3_0)
 next hp4_0=>
  subst hA;exact hV.g4 (dt hp4_0)
 next hp5_0=>
  subst hA;exact hV.g5 (dt hp5_0)
 next hp6_0=>
  subst hA;exact hV.g6 (dt hp6_0)
 next hp7_0 hp7_1=>
  subst hA;exact hV.g7 (df hp7_0) (dt hp7_1)
 next hp8_0 hp8_1=>
  subst hA;exact hV.g8 (df hp8_0) (dt hp8_1)
 next hp9_0 hp9_1=>
  subst hA;exact hV.g9 (df hp9_0) (dt hp9_1)
 next hp10_0 hp10_1=>
  subst hA;exact hV.g10 (df hp10_0) (dt hp10_1)
 next hp11_0 hp11_1 hp11_2=>
  subst hA;exact hV.g11 (df hp11_0) (df hp11_1) (dt hp11_2)
 next hp12_0 hp12_1 hp12_2=>
  subst hA;exact hV.g12 (df hp12_0) (df hp12_1) (dt hp12_2)
 next hp13_0 hp13_1 hp13_2=>
  subst hA;exact hV.g13 (df hp13_0) (df hp13_1) (dt hp13_2)
 next hp14_0 hp14_1 hp14_2 hp14_3=>
  subst hA;exact hV.g14 (df hp14_0) (df hp14_1) (df hp14_2) (dt hp14_3)
 next hp15_0 hp15_1 hp15_2 hp15_3=>
  subst hA;exact hV.g15 (df hp15_0) (df hp15_1) (df hp15_2) (dt hp15_3)
 next hp16_0 hp16_1 hp16_2 hp16_3=>
  subst hA;exact hV.g16 (df hp16_0) (df hp16_1) (df hp16_2) (dt hp16_3)
 next hp17_0 hp17_1 hp17_2 hp17_3=>
  subst hA;exact hV.g17 (df hp17_0) (df hp17_1) (df hp17_2) (df hp17_3)
 rename_i hp18_0 hp18_1 hp18_2 hp18_3
 subst hA;exact hV.g18 (df hp18_0) (df hp18_1) (df hp18_2) (df hp18_3)
end HX
