/-
  Texts of the executors: PkV, PkX, PkY, PkW, V53, V89, V65, V66, V40, V54, PqN, V28, PqP, PqQ, PqB, V9, PkZ, SkB, V30, SkR, SpD, V31.
-/
import Derived.Test.YtmnaiddobipclaaSensePacks8
set_option linter.all false
noncomputable section
namespace HX
open Go Go.Proofs CX
theorem put_hd {s:Rows×Int} (h:Wf s) (hb:40<=bitsN s) {i:Nat} (hi:i < 5):i+1 < s.1.length\/(i < s.1.length/\s.2=0):=by
 have:=h.r0;have:=h.r7
 simp only [bitsN] at hb
 omega
structure Sb (s s':Rows×Int):Prop where
 le:bitsN s<=bitsN s'
 bit:∀p:Nat,(p:Int) < bitsN s->bAt s'.1 p=bAt s.1 p
 hd:40<=bitsN s->∀i,i < 5->gt s'.1 i 0=gt s.1 i 0
theorem Sb.refl (s:Rows×Int):Sb s s:=⟨Int.le_refl _,fun _ _=>rfl,fun _ _ _=>rfl⟩
theorem Sb.trans {a b c:Rows×Int} (h:Sb a b) (g:Sb b c):Sb a c:=
 ⟨kQ h.le g.le,fun p hp=>by rw [g.bit p (Int.lt_of_lt_of_le hp h.le),h.bit p hp],fun hb i hi=>by rw [g.hd (kQ hb h.le) i hi,h.hd hb i hi]⟩
theorem putN_ok {v:Int} (hv:0<=v) (hv2:v<=9223372036854775807):∀n,n<=64->∀{s:Rows×Int},Wb s->
  Wb (putN v n s)/\Sb s (putN v n s)/\∀t,t < n->bAt (putN v n s).1 ((bitsN s).toNat+t)=v / 2 ^ (n - 1 - t) % 2
 |0,_,s,h=>⟨h,Sb.refl s,fun t ht=>by omega⟩
 |n+1,hn,s,h=>by
  obtain ⟨a1,a2,a3,a4⟩:=put1_ok h (k:=(n:Int)) hv hv2 (by omega) (by omega)
  have a5:=(put1_wf h.wf v n).2
  obtain ⟨b1,b2,b3⟩:=putN_ok hv hv2 n (by omega) a1
  have pos:0<=bitsN s:=by have:=h.wf.pos;have:=h.wf.r7;simp only [bitsN];omega
  refine ⟨b1,Sb.trans ⟨by omega,a2,fun hb i hi=>a4 i (put_hd h.wf hb hi)⟩ b2,fun t ht=>?_⟩
  cases t with
  |zero=>
   show bAt (putN v n (put1 s v n)).1 _=_
   rw [kB,b2.bit _ (by omega),a3]
   rfl
  |succ t=>
   have:=b3 t (by omega)
   rw [a5] at this
   rw [show (bitsN s).toNat+(t+1)=(bitsN s+1).toNat+t by omega,show n+1 - 1 - (t+1)=n - 1 - t by omega]
   exact this
theorem mod_two (v:Int) (n:Nat):v % 2 ^ (n+1)=v / 2 ^ n % 2 * 2 ^ n+v % 2 ^ n:=by
 have hp:(0:Int) < 2 ^ n:=kX (by omega)
 obtain ⟨P,hP⟩:∃P:Int,(2:Int) ^ n=P:=⟨_,rfl⟩
 rw [Int.pow_succ,hP]
 rw [hP] at hp
 have h1:=Int.mul_ediv_add_emod v P
 have m0:=Int.emod_nonneg v (b:=P) (by omega)
 have m1:=Int.emod_lt_of_pos v hp
 obtain ⟨Q,hQ⟩:∃Q,v / P=Q:=⟨_,rfl⟩
 obtain ⟨M,hM⟩:∃M,v % P=M:=⟨_,rfl⟩
 rw [hQ,hM] at h1
 rw [hM] at m0 m1
 rw [hQ,hM]
 have hq:Q=2 * (Q / 2)+Q % 2:=by omega
 have e:v=(Q % 2 * P+M)+P * 2 * (Q / 2):=by
  have:P * Q=P * 2 * (Q / 2)+Q % 2 * P:=by
   rw [Int.mul_assoc,Int.mul_comm (Q % 2) P,<-Int.mul_add,<-hq]
  omega
 rw [e,Int.add_mul_emod_self_left]
 have hr:Q % 2=0\/Q % 2=1:=by omega
 refine Int.emod_eq_of_lt ?_ ?_
 ·rcases hr with h |h<;>rw [h]<;>omega
 rcases hr with h |h<;>rw [h]<;>omega
theorem tk_ok {d:Rows} {v:Int}:∀(n:Nat) (x:Int) (p:Nat),(∀t,t < n->bAt d (p+t)=v / 2 ^ (n - 1 - t) % 2)->tkN d n x p=x * 2 ^ n+v % 2 ^ n
 |0,x,p,_=>by simp [tkN,Int.emod_one]
 |n+1,x,p,h=>by
  have h0:=h 0 (by omega)
  rw [kB,show n+1 - 1 - 0=n by omega] at h0
  rw [tkN,tk_ok n _ (p+1) fun t ht=>by
   have:=h (t+1) (by omega)
   rw [show p+1+t=p+(t+1) by omega,this]
   congr 2
   congr 1
   omega]
  rw [h0,mod_two,Int.pow_succ]
  generalize v / 2 ^ n % 2=b
  generalize v % 2 ^ n=m
  generalize (2:Int) ^ n=P
  rw [Int.add_mul,Int.mul_comm 2 x,Int.mul_assoc x 2 P,Int.mul_comm 2 P]
  omega
theorem rdU_ones {d:Rows}:∀(n f p:Nat),n<=f->p+n<=8 * d.length->(∀t,t < n->bAt d (p+t)=1)->rdU d f p=rdU d (f - n) (p+n)
 |0,f,p,_,_,_=>rfl
 |n+1,f,p,hf,hp,h=>by
  obtain ⟨g,rfl⟩:∃g,f=g+1:=⟨f - 1,by omega⟩
  have h0:=h 0 (by omega)
  rw [kB] at h0
  rw [rdU,if_neg (by omega),if_neg (by omega),rdU_ones n g (p+1) (by omega) (by omega) fun t ht=>by
   have:=h (t+1) (by omega)
   rw [show p+1+t=p+(t+1) by omega];exact this]
  rw [show g+1 - (n+1)=g - n by omega,show p+(n+1)=p+1+n by omega]
structure Rd (d:Rows) (s:Rows×Int):Prop where
 len:bitsN s<=40+8 * d.length
 bit:∀p:Nat,40<=p->(p:Int) < bitsN s->bAt d (p - 40)=bAt s.1 p
theorem Rd.less {d:Rows} {s s':Rows×Int} (h:Rd d s') (g:Sb s s'):Rd d s:=
 ⟨kQ g.le h.len,fun p h1 h2=>by rw [h.bit p h1 (Int.lt_of_lt_of_le h2 g.le),g.bit p h2]⟩
theorem ones24:∀t,t < 24->(16777215:Int) / 2 ^ (24 - 1 - t) % 2=1:=by decide
theorem onesq:∀q,q < 24->∀t,t < q->((2:Int) ^ (q+1) - 2) / 2 ^ (q+1 - 1 - t) % 2=1:=by decide
theorem zeroq:∀q,q < 24->((2:Int) ^ (q+1) - 2) / 2 ^ (q+1 - 1 - q) % 2=0:=by decide
theorem wr_ok {m:Int×Int} {v:Int} (hv:0<=v) (hv2:v<=2147483647) {s:Rows×Int} (h:Wb s) (hb:40<=bitsN s) :
  Wb (wrS m v s)/\Sb s (wrS m v s)/\∀d,Rd d (wrS m v s)->rdS d m (bitsN s - 40).toNat=some (v,(bitsN (wrS m v s) - 40).toNat):=by
 have hk:=lowK_le m
 obtain ⟨K,hK⟩:∃K,lowK m=K:=⟨_,rfl⟩
 have hq:=shr_bd (v:=v) (k:=(lowK m:Int)) hv (by omega) (by omega)
 have hqe:=shr_eq (v:=v) (k:=(lowK m:Int)) (by omega) (by omega)
 rw [hK] at hk hq hqe
 rw [zW] at hqe
 unfold wrS
 rw [hK]
 obtain ⟨q,hqq⟩:∃q,Ar.std.shr .i64 v (K:Int)=q:=⟨_,rfl⟩
 rw [hqq] at hq hqe ⊢
 split
 next h24=>
  obtain ⟨Q,rfl⟩:∃Q:Nat,q=Q:=⟨q.toNat,by omega⟩
  have hw:Ar.std.shl .i64 1 ((Q:Int)+1) - 2=2 ^ (Q+1) - 2:=by
   rw [shl_one (by omega) (by omega),show ((Q:Int)+1).toNat=Q+1 by omega]
  rw [hw,show ((Q:Int)+1).toNat=Q+1 by omega]
  have pl:=pow_le (Q+1) (by omega)
  have p2:(2:Int)<=2 ^ (Q+1):=by rw [Int.pow_succ];have:=(pow_le Q (by omega)).1;omega
  obtain ⟨a1,a2,a3⟩:=putN_ok (v:=2 ^ (Q+1) - 2) (by omega) (by omega) (Q+1) (by omega) h
  obtain ⟨b1,b2,b3⟩:=putN_ok hv (by omega) K (by omega) a1
  have c1:=(putN_wf (2 ^ (Q+1) - 2) (Q+1) h.wf).2
  have c2:=(putN_wf v K a1.wf).2
  refine ⟨b1,a2.trans b2,fun d hd=>?_⟩
  have hd1:=hd.less b2
  have len:=hd.len
  have at1:∀t,t < Q+1->bAt d ((bitsN s - 40).toNat+t)=(2 ^ (Q+1) - 2) / 2 ^ (Q+1 - 1 - t) % 2:=fun t ht=>by
   rw [<-a3 t ht,<-hd1.bit ((bitsN s).toNat+t) (by omega) (by omega)]
   congr 1;omega
  have at2:∀t,t < K->bAt d ((bitsN s - 40).toNat+(Q+1)+t)=v / 2 ^ (K - 1 - t) % 2:=fun t ht=>by
   rw [<-b3 t ht,<-hd.bit ((bitsN (putN (2 ^ (Q+1) - 2) (Q+1) s)).toNat+t) (by omega) (by omega)]
   congr 1;omega
  have u:rdU d 24 (bitsN s - 40).toNat=some (Q,(bitsN s - 40).toNat+(Q+1)):=by
   rw [rdU_ones Q 24 _ (by omega) (by omega) fun t ht=>by rw [at1 t (by omega)];exact onesq Q (by omega) t ht]
   rw [show 24 - Q=(23 - Q)+1 by omega,rdU,if_neg (by omega),if_pos (by rw [at1 Q (by omega)];exact zeroq Q (by omega)),show 23 - (23 - Q)=Q by omega]
   rfl
  rw [rdS,u]
  simp only [hK]
  rw [if_neg (by omega),if_neg (by omega),tk_ok K 0 _ at2,Int.zero_mul,Int.zero_add]
  congr 2
  ·rw [hqe,Int.mul_comm]
   exact Int.mul_ediv_add_emod v _
  omega
 rename_i h24
 obtain ⟨N,hN⟩:∃N:Nat,N=24:=⟨_,rfl⟩
 obtain ⟨M,hM⟩:∃M:Nat,M=31:=⟨_,rfl⟩
 obtain ⟨W,hW⟩:∃W:Int,W=16777215:=⟨_,rfl⟩
 rw [<-hN,<-hM,<-hW]
 obtain ⟨a1,a2,a3⟩:=putN_ok (v:=W) (by omega) (by omega) N (by omega) h
 obtain ⟨b1,b2,b3⟩:=putN_ok hv (by omega) M (by omega) a1
 have c1:=(putN_wf W N h.wf).2
 have c2:=(putN_wf v M a1.wf).2
 refine ⟨b1,a2.trans b2,fun d hd=>?_⟩
 have hd1:=hd.less b2
 have len:=hd.len
 have at1:∀t,t < N->bAt d ((bitsN s - 40).toNat+t)=1:=fun t ht=>by
  have e:=a3 t ht
  rw [hW,hN,ones24 t (by omega)] at e
  rw [hN] at *
  have e2:=hd1.bit ((bitsN s).toNat+t) (by omega) (by omega)
  rw [show (bitsN s - 40).toNat+t=(bitsN s).toNat+t - 40 by omega,e2]
  rw [hW]
  exact e
 have at2:∀t,t < M->bAt d ((bitsN s - 40).toNat+N+t)=v / 2 ^ (M - 1 - t) % 2:=fun t ht=>by
  have e2:=hd.bit ((bitsN (putN W N s)).toNat+t) (by omega) (by omega)
  rw [show (bitsN s - 40).toNat+N+t=(bitsN (putN W N s)).toNat+t - 40 by omega,e2]
  exact b3 t ht
 have u:rdU d 24 (bitsN s - 40).toNat=some (24,(bitsN s - 40).toNat+N):=by
  rw [<-hN,rdU_ones N N _ (by omega) (by omega) at1,qK,rdU,hN]
 have fin:tkN d 31 0 ((bitsN s - 40).toNat+N)=v:=by
  rw [<-hM,tk_ok M 0 _ at2,Int.zero_mul,Int.zero_add,hM]
  exact Int.emod_eq_of_lt hv (by omega)
 rw [rdS,u]
 simp only [hK]
 rw [if_pos trivial,if_neg (by omega),fin]
 congr 2
 omega
end HX

namespace HX
open Go Go.Proofs CX
def stP (l:Rows) (q:Nat):Rows×Int:=((pkS l q).o,(pkS l q).r)
theorem hdr_by (l:Rows):byL (hdrP l):=by
 intro i hi
 have h1:=wrapU8_rng (Ar.std.shr .i64 (l.length:Int) 16)
 have h2:=wrapU8_rng (Ar.std.shr .i64 (l.length:Int) 8)
 have h3:=wrapU8_rng (l.length:Int)
 simp only [hdrP,zH,zK] at hi
 have:i=0\/i=1\/i=2\/i=3\/i=4:=by omega
 rcases this with rfl |rfl |rfl |rfl |rfl
 ·show (0:Int)<=71/\(71:Int)<=255;omega
 ·show (0:Int)<=83/\(83:Int)<=255;omega
 ·exact h1
 ·exact h2
 exact h3
theorem pk_step {l:Rows} (h:EvOk' l):∀q,q<=l.length->Wb (stP l q)/\40<=bitsN (stP l q)/\Sb (stP l 0) (stP l q)
 |0,_=>⟨⟨⟨by simp [stP,pkS,hdrP],by simp [stP,pkS],by simp [stP,pkS]⟩,hdr_by l,by show _ % (2:Int) ^ 0=0;rw [pw.1,Int.emod_one]⟩,by simp [stP,pkS,hdrP,bitsN],Sb.refl _⟩
 |q+1,hq=>by
  obtain ⟨a1,a2,a3⟩:=pk_step h q (by omega)
  obtain ⟨g1,g2⟩:=gap_bd h (q:=q) (by omega)
  obtain ⟨b1,b2,_⟩:=wr_ok (m:=(pkS l q).t) g1.1 (by omega) a1 a2
  obtain ⟨c1,c2,_⟩:=wr_ok (m:=(pkS l q).d) g2.1 (by omega) b1 (kQ a2 b2.le)
  exact ⟨c1,kQ a2 (b2.trans c2).le,a3.trans (b2.trans c2)⟩
theorem pk_sb {l:Rows} (h:EvOk' l) {q:Nat} (hq:q < l.length) :
  Sb (stP l q) (wrS (pkS l q).t (gapE l q (pkS l q).bt) (stP l q))/\Sb (wrS (pkS l q).t (gapE l q (pkS l q).bt) (stP l q)) (stP l (q+1))/\
  ∀d,Rd d (stP l (q+1))->∃P1,rdS d (pkS l q).t (bitsN (stP l q) - 40).toNat=some (gapE l q (pkS l q).bt,P1)/\rdS d (pkS l q).d P1=some (plcE l q (pkS l q).bt (pkS l q).bi,(bitsN (stP l (q+1)) - 40).toNat):=by
 obtain ⟨a1,a2,a3⟩:=pk_step h q (by omega)
 obtain ⟨g1,g2⟩:=gap_bd h (q:=q) (by omega)
 obtain ⟨b1,b2,b3⟩:=wr_ok (m:=(pkS l q).t) g1.1 (by omega) a1 a2
 obtain ⟨c1,c2,c3⟩:=wr_ok (m:=(pkS l q).d) g2.1 (by omega) b1 (kQ a2 b2.le)
 exact ⟨b2,c2,fun d hd=>⟨_,b3 d (Rd.less hd c2),c3 d hd⟩⟩
theorem pk_to {l:Rows} (h:EvOk' l):∀f q,q+f=l.length->Sb (stP l q) (stP l l.length)
 |0,q,e=>by rw [show q=l.length by omega];exact Sb.refl _
 |f+1,q,e=>by
  obtain ⟨b1,b2,_⟩:=pk_sb h (q:=q) (by omega)
  exact (b1.trans b2).trans (pk_to h f (q+1) (by omega))
def Can (l:Rows):Prop:=∀i,(h:i < l.length)->l[i]=[.i (eT l i),.i (eI l i)]
theorem unp_ok {l:Rows} (h:EvOk' l) (hc:Can l) {d:Rows} (hd:Rd d (stP l l.length)):∀f q,q+f=l.length->unpG d f (l.take q) (bitsN (stP l q) - 40).toNat (pkS l q).t (pkS l q).d=some l
 |0,q,e=>by rw [unpG,List.take_of_length_le (by omega)]
 |f+1,q,e=>by
  obtain ⟨b1,b2,b3⟩:=pk_sb h (q:=q) (by omega)
  obtain ⟨P1,r1,r2⟩:=b3 d (hd.less (pk_to h f (q+1) (by omega)))
  have lq:(l.take q).length=q:=by rw [zM];omega
  obtain ⟨e1,e2⟩:=pk_before l q
  have tT:0 < q->eT (l.take q) (q - 1)=eT l (q - 1):=fun hq=>by unfold eT;rw [gt_take (by omega)]
  have tI:0 < q->eI (l.take q) (q - 1)=eI l (q - 1):=fun hq=>by unfold eI;rw [gt_take (by omega)]
  have rq:=h.rt q (by omega)
  have n1:nxT (l.take q) (gapE l q (pkS l q).bt)=eT l q:=by
   rw [nxT,lq,gapE,e1]
   by_cases hq:0 < q
   ·rw [if_pos hq,if_pos hq,tT hq,if_neg (by omega)];omega
   rw [if_neg hq,if_neg hq]
  have n2:nxI (l.take q) (gapE l q (pkS l q).bt) (plcE l q (pkS l q).bt (pkS l q).bi)=eI l q:=by
   by_cases hq:0 < q
   ·have eb:(pkS l q).bt=eT l (q - 1):=by rw [e1,if_neg (by omega)]
    have ei:(pkS l q).bi=eI l (q - 1):=by rw [e2,if_neg (by omega)]
    rw [eb,ei,nxI,lq,tI hq,gapE,if_pos hq,plcE]
    by_cases he:eT l q=eT l (q - 1)
    ·rw [if_pos he,if_pos ⟨hq,by omega⟩];omega
    rw [if_neg he,if_neg fun h=>he (by omega)]
   have eb:(pkS l q).bt=-1:=by rw [e1,if_pos (by omega)]
   rw [eb,nxI,lq,if_neg fun h=>hq h.1,plcE,if_neg (by omega)]
  have fo:folE (l.take q) (eT l q) (eI l q)=0:=by
   refine folE_of rq (h.ri q (by omega)) fun hq=>?_
   rw [lq] at hq ⊢
   rw [tT hq,tI hq]
   have:=h.up (q - 1) (by omega)
   rw [show q - 1+1=q by omega] at this
   exact this
  rw [unpG,r1]
  simp only []
  rw [r2]
  simp only []
  rw [n1,n2,if_pos fo]
  have tk:l.take q++[[.i (eT l q),.i (eI l q)]]=l.take (q+1):=by
   rw [List.take_succ_eq_append_getElem (by omega),hc q (by omega)]
  rw [tk]
  exact unp_ok h hc hd f (q+1) (by omega)
theorem eqL_refl (a:Rows):eqL a a=true:=qI ⟨rfl,fun _ _=>rfl⟩
theorem pack_len {l:Rows} (h:EvOk' l):7<=(packP l).length/\(packP l).length<=14 * l.length+8/\(packP l).length=(stP l l.length).1.length+2/\5<=(stP l l.length).1.length:=by
 obtain ⟨a,b,c,_,_⟩:=pk_ok h l.length (zB _)
 have:=a.r0;have:=a.r7
 have e:(packP l).length=(stP l l.length).1.length+2:=by simp [packP,stP]
 simp only [bitsN] at b c this
 rw [e]
 show 7<=(pkS l l.length).o.length+2/\_/\_/\5<=(pkS l l.length).o.length
 refine ⟨by omega,?_,rfl,by omega⟩
 show (pkS l l.length).o.length+2<=_
 omega
theorem gt_dat {a:Rows} {j:Nat} (h:j+7 < a.length):gt (v29i a) j 0=gt a (5+j) 0:=by
 rw [v29i,gt_take (by omega),gt_drop]
 rfl
theorem len_dat (a:Rows):(v29i a).length=a.length - 7:=by
 simp only [v29i,zM,xC,show Int.toNat 5=5 from rfl];omega
theorem pack_gt {l:Rows} {j:Nat} (h:j < (stP l l.length).1.length):gt (packP l) j 0=gt (stP l l.length).1 j 0:=by
 show gt ((stP l l.length).1++[[.i (sum0 (pkS l l.length).o)],[.i (sum1 (pkS l l.length).o)]]) j 0=_
 rw [gt_eq,gt_eq,xI h]
theorem pack_rd {l:Rows} (h:EvOk' l):Rd (v29i (packP l)) (stP l l.length):=by
 obtain ⟨l1,l2,l3,l4⟩:=pack_len h
 obtain ⟨a,_,_⟩:=pk_step h l.length (zB _)
 have r0:=a.wf.r0
 refine ⟨?_,fun p h1 h2=>?_⟩
 ·rw [len_dat,l3];simp only [bitsN];omega
 simp only [bitsN] at h2
 unfold bAt
 rw [gt_dat (by omega),pack_gt (by omega),show 5+(p - 40) / 8=p / 8 by omega,show (p - 40) % 8=p % 8 by omega]
theorem pack_sum {l:Rows} (h:EvOk' l):sumOk (packP l)/\v29c (packP l)=(stP l l.length).1:=by
 obtain ⟨l1,l2,l3,l4⟩:=pack_len h
 have e:packP l=(stP l l.length).1++[[.i (sum0 (stP l l.length).1)],[.i (sum1 (stP l l.length).1)]]:=rfl
 have n:(((packP l).length:Int) - 2).toNat=(stP l l.length).1.length:=by omega
 have c:v29c (packP l)=(stP l l.length).1:=by
  rw [v29c,n,xU,e,List.take_left]
 have a:v29a (packP l)=[[.i (sum0 (stP l l.length).1)],[.i (sum1 (stP l l.length).1)]]:=by
  rw [v29a,n,l3,e,List.drop_left,show (stP l l.length).1.length+2 - (stP l l.length).1.length=2 by omega]
  rfl
 refine ⟨?_,c⟩
 rw [sumOk,a,c]
 exact ⟨rfl,rfl⟩
end HX

namespace HX
open Go Go.Proofs CX
theorem unp_ev {d:Rows}:∀f out p mt md x,EvOk' out->unpG d f out p mt md=some x->EvOk' x
 |0,out,_,_,_,x,he,h1=>by simp only [unpG,zA] at h1;rw [<-h1];exact he
 |f+1,out,p,mt,md,x,he,h1=>by
  rw [unpG] at h1
  cases ha:rdS d mt p with
  |none=>rw [ha] at h1;cases h1
  |some y=>
   obtain ⟨g,p1⟩:=y
   rw [ha] at h1
   simp only [] at h1
   cases hb:rdS d md p1 with
   |none=>rw [hb] at h1;cases h1
   |some z=>
    obtain ⟨v,p2⟩:=z
    rw [hb] at h1
    simp only [] at h1
    split at h1
    next h2=>exact unp_ev f _ _ _ _ x (he.push h2) h1
    cases h1
theorem unpR_0 {a:Rows} (h:(unpR a).1=0):7<=a.length/\sumOk a/\unpG (dat a) (cntU a).toNat [] 0 (4,1) (4,1)=some (unpR a).2/\(unpR a).2.length<=65536/\eqL (packP (unpR a).2) a=true:=by
 rw [unpR] at h ⊢
 split at h
 ·cases h
 rename_i h1
 rw [if_neg h1]
 split at h
 ·cases h
 rename_i h2
 rw [if_neg h2]
 cases hu:unpG (dat a) (cntU a).toNat [] 0 (4,1) (4,1) with
 |none=>rw [hu] at h;cases h
 |some x=>
  rw [hu] at h
  simp only [] at h ⊢
  split at h
  ·cases h
  rename_i h3
  rw [if_neg h3]
  split at h
  next h4=>
   rw [if_pos h4]
   exact ⟨by omega,Classical.not_not.1 h2,rfl,Nat.not_lt.1 h3,h4⟩
  cases h
theorem chk_G {l:Rows} (h:EvOk' l):∀f,f<=l.length->chkG l f=0
 |0,_=>rfl
 |f+1,hf=>by
  have q:l.length - (f+1) < l.length:=by omega
  obtain ⟨Q,hQ⟩:∃Q,l.length - (f+1)=Q:=⟨_,rfl⟩
  rw [chkG,hQ]
  rw [hQ] at q
  have lq:(l.take Q).length=Q:=by rw [zM];omega
  rw [if_pos]
  ·exact chk_G h f (by omega)
  refine folE_of (h.rt Q q) (h.ri Q q) fun hp=>?_
  rw [lq] at hp ⊢
  have:=h.up (Q - 1) (by omega)
  rw [show Q - 1+1=Q by omega] at this
  unfold eT eI at this ⊢
  rw [gt_take (by omega),gt_take (by omega)]
  exact this
theorem chk_0 {l:Rows} (h:EvOk' l) (hl:l.length<=65536):chkE l=0:=by
 rw [chkE,if_neg (by omega)];exact chk_G h _ (zB _)
theorem chk_of:∀{l:Rows},chkE l=0->l.length<=65536:=by
 intro l h
 rw [chkE] at h
 split at h<;>omega
section
variable {l:Rows} (h:EvOk' l) (hc:Can l) (hl:l.length<=255)
include h hc hl
end
theorem yes_same {a:Rows} (h0:(unpR a).1=0):chkE (unpR a).2=0/\Ar.std.strD (pacL (unpR a).2)=Ar.std.strD a:=by
 obtain ⟨_,_,u,hl,e⟩:=unpR_0 h0
 have ev:=unp_ev _ _ _ _ _ _ ev_nil u
 have c:=chk_0 ev hl
 refine ⟨c,?_⟩
 rw [pacL,if_pos c]
 have e:=zQ e
 generalize packP (unpR a).2=b at e
 show b.map _=a.map _
 refine List.ext_getElem (by simp [e.1]) fun i h1 h2=>?_
 simp only [List.length_map] at h1 h2
 have:=e.2 i h1
 simp only [List.getElem_map]
 rw [gt_eq,gt_eq,zE h1,zE h2] at this
 have this:(b[i].getD 0 .nil).int=(a[i].getD 0 .nil).int:=this
 rw [this]
end HX

namespace HX
open Go Go.Proofs CX
theorem chkG_all {l:Rows}:∀f,f<=l.length->chkG l f=0->∀j,l.length - f<=j->j < l.length->folE (l.take j) (eT l j) (eI l j)=0
 |0,_,_,j,h1,h2=>by omega
 |f+1,hf,h,j,h1,h2=>by
  rw [chkG] at h
  split at h
  next h3=>
   by_cases e:j=l.length - (f+1)
   ·rw [e];exact h3
   exact chkG_all f (by omega) h j (by omega) h2
  rename_i h3;exact absurd h h3
theorem chk_ev {l:Rows} (h:chkE l=0):l.length<=65536/\EvOk' l:=by
 have hl:=chk_of h
 rw [chkE,if_neg (by omega)] at h
 have all:=fun j hj=>folE_0 (chkG_all l.length (zB _) h j (by omega) hj)
 refine ⟨hl,fun i hi=>(all i hi).1,fun i hi=>(all i hi).2.1,fun i hi=>?_⟩
 have:=(all (i+1) hi).2.2
 have lt:(l.take (i+1)).length=i+1:=by rw [zM];omega
 rw [lt,qJ] at this
 have:=this (by omega)
 unfold eT eI at this ⊢
 rw [gt_take (by omega),gt_take (by omega)] at this
 exact this
end HX

namespace HX
open Go Go.Proofs CX
structure V53 (a0:Int) (a1:Int) (a2:Int) (R:Nat->Nat->D)  : Prop where
 g0:(a1<=a0)->R 0 0=D.b (decide (a0<=a2))
 g1:(¬a1<=a0)->R 0 0=D.b false
end HX

namespace HX
open Go Go.Proofs CX
structure V89 (a0_0:Int) (a0_1:Int) (R:Nat->Nat->D) (I0:Int->Prop) (m0:Int->Nat):Prop where
 i0:I0 0
 g1:∀x0_0,I0 x0_0->(x0_0 < 24)->0<=x0_0
 g2:∀x0_0,I0 x0_0->(x0_0 < 24)->((Ar.std.shl IntKind.i64 a0_1 x0_0) < a0_0)->-9223372036854775808<=(x0_0+1)/\(x0_0+1)<=9223372036854775807
 n3:∀x0_0,I0 x0_0->(x0_0 < 24)->((Ar.std.shl IntKind.i64 a0_1 x0_0) < a0_0)->I0 (x0_0+1)/\m0 (x0_0+1) < m0 x0_0
 g4:∀x0_0,I0 x0_0->(x0_0 < 24)->(¬(Ar.std.shl IntKind.i64 a0_1 x0_0) < a0_0)->R 0 0=D.i x0_0
 g5:∀x0_0,I0 x0_0->(¬x0_0 < 24)->R 0 0=D.i x0_0
end HX

namespace HX
open Go Go.Proofs CX
structure V65 (a0_0:Int) (a0_1:Int) (a1:Int) (R:Nat->Nat->D)  : Prop where
 g0:-9223372036854775808<=(a0_0+a1)/\(a0_0+a1)<=9223372036854775807
 g1:-9223372036854775808<=(a0_1+1)/\(a0_1+1)<=9223372036854775807
 g2:((a0_1+1)=64)->(2:Int)≠0
 g3:((a0_1+1)=64)->-9223372036854775808<=(Int.tdiv (a0_0+a1) 2)/\(Int.tdiv (a0_0+a1) 2)<=9223372036854775807
 g5:((a0_1+1)=64)->-9223372036854775808<=(Int.tdiv (a0_1+1) 2)/\(Int.tdiv (a0_1+1) 2)<=9223372036854775807
 g6:((a0_1+1)=64)->R 0 0=D.i (Int.tdiv (a0_0+a1) 2)
 g7:((a0_1+1)=64)->R 0 1=D.i (Int.tdiv (a0_1+1) 2)
 g8:(¬(a0_1+1)=64)->R 0 0=D.i (a0_0+a1)
 g9:(¬(a0_1+1)=64)->R 0 1=D.i (a0_1+1)
end HX

namespace HX
open Go Go.Proofs CX
structure V66 (a0:Rows) (R:Nat->Nat->D) (I0:Int->Int->Int->Prop) (m0:Int->Int->Int->Nat):Prop where
 i0:I0 0 0 0
 g1:∀x0_0 x0_1 x0_2,I0 x0_0 x0_1 x0_2->(x0_2 < (a0.length:Int))->0<=x0_2
 g2:∀x0_0 x0_1 x0_2,I0 x0_0 x0_1 x0_2->(x0_2 < (a0.length:Int))->x0_2 < (a0.length:Int)
 g3:∀x0_0 x0_1 x0_2,I0 x0_0 x0_1 x0_2->(x0_2 < (a0.length:Int))->(((Int.toNat x0_2:Nat):Int)) < (a0.length:Int)
 g4:∀x0_0 x0_1 x0_2,I0 x0_0 x0_1 x0_2->(x0_2 < (a0.length:Int))->-9223372036854775808<=(D.int (gt a0 x0_2.toNat 0))/\(D.int (gt a0 x0_2.toNat 0))<=9223372036854775807
 g5:∀x0_0 x0_1 x0_2,I0 x0_0 x0_1 x0_2->(x0_2 < (a0.length:Int))->-9223372036854775808<=(x0_0+(D.int (gt a0 x0_2.toNat 0)))/\(x0_0+(D.int (gt a0 x0_2.toNat 0)))<=9223372036854775807
 g6:∀x0_0 x0_1 x0_2,I0 x0_0 x0_1 x0_2->(x0_2 < (a0.length:Int))->(255:Int)≠0
 g7:∀x0_0 x0_1 x0_2,I0 x0_0 x0_1 x0_2->(x0_2 < (a0.length:Int))->-9223372036854775808<=(x0_1+(Int.tmod (x0_0+(D.int (gt a0 x0_2.toNat 0))) 255))/\(x0_1+(Int.tmod (x0_0+(D.int (gt a0 x0_2.toNat 0))) 255))<=9223372036854775807
 g9:∀x0_0 x0_1 x0_2,I0 x0_0 x0_1 x0_2->(x0_2 < (a0.length:Int))->-9223372036854775808<=(x0_2+1)/\(x0_2+1)<=9223372036854775807
 n10:∀x0_0 x0_1 x0_2,I0 x0_0 x0_1 x0_2->(x0_2 < (a0.length:Int))->I0 (Int.tmod (x0_0+(D.int (gt a0 x0_2.toNat 0))) 255) (Int.tmod (x0_1+(Int.tmod (x0_0+(D.int (gt a0 x0_2.toNat 0))) 255)) 255) (x0_2+1)/\m0 (Int.tmod (x0_0+(D.int (gt a0 x0_2.toNat 0))) 255) (Int.tmod (x0_1+(Int.tmod (x0_0+(D.int (gt a0 x0_2.toNat 0))) 255)) 255) (x0_2+1) < m0 x0_0 x0_1 x0_2
 g11:∀x0_0 x0_1 x0_2,I0 x0_0 x0_1 x0_2->(¬x0_2 < (a0.length:Int))->R 0 0=D.i x0_0
 g12:∀x0_0 x0_1 x0_2,I0 x0_0 x0_1 x0_2->(¬x0_2 < (a0.length:Int))->R 1 0=D.i x0_1
end HX

namespace HX
open Go Go.Proofs CX
structure V40 (pre:Nat->List (List D)->Prop) (fn:Nat->List (List D)->Nat->Nat->D) (a0_0:Int) (a0_1:Int) (a1_0:Int) (a1_1:Int) (a2:Bool) (R:Nat->Nat->D)  : Prop where
 g0:pre 53 [[D.i a1_0],[D.i 0],[D.i 1073741824]]
 g1:(D.boo (fn 53 [[D.i a1_0],[D.i 0],[D.i 1073741824]] 0 0)=false)->R 0 0=D.i 3
 g2:(D.boo (fn 53 [[D.i a1_0],[D.i 0],[D.i 1073741824]] 0 0)=true)->pre 53 [[D.i a1_1],[D.i 0],[D.i 65535]]
 g3:(D.boo (fn 53 [[D.i a1_0],[D.i 0],[D.i 1073741824]] 0 0)=true)->(D.boo (fn 53 [[D.i a1_1],[D.i 0],[D.i 65535]] 0 0)=false)->R 0 0=D.i 3
 g4:(D.boo (fn 53 [[D.i a1_0],[D.i 0],[D.i 1073741824]] 0 0)=true)->(D.boo (fn 53 [[D.i a1_1],[D.i 0],[D.i 65535]] 0 0)=true)->(a2=false)->(a1_0 < a0_0)->R 0 0=D.i 2
 g5:(D.boo (fn 53 [[D.i a1_0],[D.i 0],[D.i 1073741824]] 0 0)=true)->(D.boo (fn 53 [[D.i a1_1],[D.i 0],[D.i 65535]] 0 0)=true)->(a2=false)->(¬a1_0 < a0_0)->(a1_0=a0_0)->(a1_1<=a0_1)->R 0 0=D.i 2
 g6:(D.boo (fn 53 [[D.i a1_0],[D.i 0],[D.i 1073741824]] 0 0)=true)->(D.boo (fn 53 [[D.i a1_1],[D.i 0],[D.i 65535]] 0 0)=true)->(a2=false)->(¬a1_0 < a0_0)->(a1_0=a0_0)->(¬a1_1<=a0_1)->R 0 0=D.i 0
 g7:(D.boo (fn 53 [[D.i a1_0],[D.i 0],[D.i 1073741824]] 0 0)=true)->(D.boo (fn 53 [[D.i a1_1],[D.i 0],[D.i 65535]] 0 0)=true)->(a2=false)->(¬a1_0 < a0_0)->(¬a1_0=a0_0)->R 0 0=D.i 0
 g8:(D.boo (fn 53 [[D.i a1_0],[D.i 0],[D.i 1073741824]] 0 0)=true)->(D.boo (fn 53 [[D.i a1_1],[D.i 0],[D.i 65535]] 0 0)=true)->(a2=true)->R 0 0=D.i 0
end HX

namespace HX
open Go Go.Proofs CX
structure V54 (pre:Nat->List (List D)->Prop) (fn:Nat->List (List D)->Nat->Nat->D) (a0:Rows) (R:Nat->Nat->D) (I0:Int->Int->Prop) (m0:Int->Int->Nat):Prop where
 g0:(65536 < (a0.length:Int))->R 0 0=D.i 9
 i0:(¬65536 < (a0.length:Int))->I0 0 0
 g2:∀x0_0 x0_1,I0 x0_0 x0_1->(¬65536 < (a0.length:Int))->(x0_1 < (a0.length:Int))->(0 < x0_1)->-9223372036854775808<=(x0_1 - 1)/\(x0_1 - 1)<=9223372036854775807
 g3:∀x0_0 x0_1,I0 x0_0 x0_1->(¬65536 < (a0.length:Int))->(x0_1 < (a0.length:Int))->(0 < x0_1)->0<=(x0_1 - 1)
 g4:∀x0_0 x0_1,I0 x0_0 x0_1->(¬65536 < (a0.length:Int))->(x0_1 < (a0.length:Int))->(0 < x0_1)->(x0_1 - 1) < (a0.length:Int)
 g5:∀x0_0 x0_1,I0 x0_0 x0_1->(¬65536 < (a0.length:Int))->(x0_1 < (a0.length:Int))->(0 < x0_1)->(((Int.toNat (x0_1 - 1):Nat):Int)) < (a0.length:Int)
 g6:∀x0_0 x0_1,I0 x0_0 x0_1->(¬65536 < (a0.length:Int))->(x0_1 < (a0.length:Int))->(0 < x0_1)->0<=x0_1
 g7:∀x0_0 x0_1,I0 x0_0 x0_1->(¬65536 < (a0.length:Int))->(x0_1 < (a0.length:Int))->(0 < x0_1)->x0_1 < (a0.length:Int)
 g8:∀x0_0 x0_1,I0 x0_0 x0_1->(¬65536 < (a0.length:Int))->(x0_1 < (a0.length:Int))->(0 < x0_1)->(((Int.toNat x0_1:Nat):Int)) < (a0.length:Int)
 g9:∀x0_0 x0_1,I0 x0_0 x0_1->(¬65536 < (a0.length:Int))->(x0_1 < (a0.length:Int))->(0 < x0_1)->pre 40 [[D.i (D.int (gt a0 (Int.toNat (x0_1 - 1)) 0)),D.i (D.int (gt a0 (Int.toNat (x0_1 - 1)) 1))],[D.i (D.int (gt a0 x0_1.toNat 0)),D.i (D.int (gt a0 x0_1.toNat 1))],[D.b (decide (x0_1=0))]]
 g10:∀x0_0 x0_1,I0 x0_0 x0_1->(¬65536 < (a0.length:Int))->(x0_1 < (a0.length:Int))->(0 < x0_1)->(¬(D.int (fn 40 [[D.i (D.int (gt a0 (Int.toNat (x0_1 - 1)) 0)),D.i (D.int (gt a0 (Int.toNat (x0_1 - 1)) 1))],[D.i (D.int (gt a0 x0_1.toNat 0)),D.i (D.int (gt a0 x0_1.toNat 1))],[D.b (decide (x0_1=0))]] 0 0))=0)->R 0 0=D.i (D.int (fn 40 [[D.i (D.int (gt a0 (Int.toNat (x0_1 - 1)) 0)),D.i (D.int (gt a0 (Int.toNat (x0_1 - 1)) 1))],[D.i (D.int (gt a0 x0_1.toNat 0)),D.i (D.int (gt a0 x0_1.toNat 1))],[D.b (decide (x0_1=0))]] 0 0))
 g11:∀x0_0 x0_1,I0 x0_0 x0_1->(¬65536 < (a0.length:Int))->(x0_1 < (a0.length:Int))->(0 < x0_1)->((D.int (fn 40 [[D.i (D.int (gt a0 (Int.toNat (x0_1 - 1)) 0)),D.i (D.int (gt a0 (Int.toNat (x0_1 - 1)) 1))],[D.i (D.int (gt a0 x0_1.toNat 0)),D.i (D.int (gt a0 x0_1.toNat 1))],[D.b (decide (x0_1=0))]] 0 0))=0)->-9223372036854775808<=(x0_1+1)/\(x0_1+1)<=9223372036854775807
 n12:∀x0_0 x0_1,I0 x0_0 x0_1->(¬65536 < (a0.length:Int))->(x0_1 < (a0.length:Int))->(0 < x0_1)->((D.int (fn 40 [[D.i (D.int (gt a0 (Int.toNat (x0_1 - 1)) 0)),D.i (D.int (gt a0 (Int.toNat (x0_1 - 1)) 1))],[D.i (D.int (gt a0 x0_1.toNat 0)),D.i (D.int (gt a0 x0_1.toNat 1))],[D.b (decide (x0_1=0))]] 0 0))=0)->I0 x0_0 (x0_1+1)/\m0 x0_0 (x0_1+1) < m0 x0_0 x0_1
 g13:∀x0_0 x0_1,I0 x0_0 x0_1->(¬65536 < (a0.length:Int))->(x0_1 < (a0.length:Int))->(¬0 < x0_1)->0<=x0_1
 g14:∀x0_0 x0_1,I0 x0_0 x0_1->(¬65536 < (a0.length:Int))->(x0_1 < (a0.length:Int))->(¬0 < x0_1)->x0_1 < (a0.length:Int)
 g15:∀x0_0 x0_1,I0 x0_0 x0_1->(¬65536 < (a0.length:Int))->(x0_1 < (a0.length:Int))->(¬0 < x0_1)->(((Int.toNat x0_1:Nat):Int)) < (a0.length:Int)
 g16:∀x0_0 x0_1,I0 x0_0 x0_1->(¬65536 < (a0.length:Int))->(x0_1 < (a0.length:Int))->(¬0 < x0_1)->pre 40 [[D.i 0,D.i 0],[D.i (D.int (gt a0 x0_1.toNat 0)),D.i (D.int (gt a0 x0_1.toNat 1))],[D.b (decide (x0_1=0))]]
 g17:∀x0_0 x0_1,I0 x0_0 x0_1->(¬65536 < (a0.length:Int))->(x0_1 < (a0.length:Int))->(¬0 < x0_1)->(¬(D.int (fn 40 [[D.i 0,D.i 0],[D.i (D.int (gt a0 x0_1.toNat 0)),D.i (D.int (gt a0 x0_1.toNat 1))],[D.b (decide (x0_1=0))]] 0 0))=0)->R 0 0=D.i (D.int (fn 40 [[D.i 0,D.i 0],[D.i (D.int (gt a0 x0_1.toNat 0)),D.i (D.int (gt a0 x0_1.toNat 1))],[D.b (decide (x0_1=0))]] 0 0))
 g18:∀x0_0 x0_1,I0 x0_0 x0_1->(¬65536 < (a0.length:Int))->(x0_1 < (a0.length:Int))->(¬0 < x0_1)->((D.int (fn 40 [[D.i 0,D.i 0],[D.i (D.int (gt a0 x0_1.toNat 0)),D.i (D.int (gt a0 x0_1.toNat 1))],[D.b (decide (x0_1=0))]] 0 0))=0)->-9223372036854775808<=(x0_1+1)/\(x0_1+1)<=9223372036854775807
 n19:∀x0_0 x0_1,I0 x0_0 x0_1->(¬65536 < (a0.length:Int))->(x0_1 < (a0.length:Int))->(¬0 < x0_1)->((D.int (fn 40 [[D.i 0,D.i 0],[D.i (D.int (gt a0 x0_1.toNat 0)),D.i (D.int (gt a0 x0_1.toNat 1))],[D.b (decide (x0_1=0))]] 0 0))=0)->I0 x0_0 (x0_1+1)/\m0 x0_0 (x0_1+1) < m0 x0_0 x0_1
 g20:∀x0_0 x0_1,I0 x0_0 x0_1->(¬65536 < (a0.length:Int))->(¬x0_1 < (a0.length:Int))->R 0 0=D.i 0
end HX

namespace HX
open Go Go.Proofs CX
theorem law53 {a b c:Int} {R:Nat->Nat->D} (hR:R 0 0=.b (inB a b c)):V53 a b c R:=by
 constructor
 ·intro h;rw [hR,inB];congr 1;exact qT.2 ⟨fun h=>h.2,fun h2=>⟨h,h2⟩⟩
 intro h;rw [hR,inB,qE fun h2=>h h2.1]
theorem law89 {a n:Int} {R:Nat->Nat->D} (hR:R 0 0=.i (lowK (a,n))):V89 a n R (fun k=>∃f:Nat,f<=24/\k=(24 - f:Nat)/\lowG a n 24=lowG a n f) (fun k=>(24 - k).toNat):=by
 have hR':R 0 0=.i (lowG a n 24):=hR
 constructor
 case i0=>exact ⟨24,zB _,rfl,rfl⟩
 all_goals (intro k hI;obtain ⟨f,h1,h2,h3⟩:=hI;subst h2)
 case g1 |g2=>intros;omega
 case n3=>
  intro hk hs
  obtain ⟨g,rfl⟩:∃g,f=g+1:=⟨f - 1,by omega⟩
  refine ⟨⟨g,by omega,by omega,?_⟩,by omega⟩
  rw [h3,lowG,if_pos (by rw [show 23 - g=24 - (g+1) by omega];exact hs)]
 case g4=>
  intro hk hs
  obtain ⟨g,rfl⟩:∃g,f=g+1:=⟨f - 1,by omega⟩
  rw [hR',h3,lowG,if_neg (by rw [show 23 - g=24 - (g+1) by omega];exact hs)]
  congr 2
  omega
 case g5=>
  intro hk
  obtain rfl:f=0:=by omega
  rw [hR',h3]
  rfl
theorem law65 {a n v:Int} (hm:MOk (a,n)) (h0:0<=v) (h1:v<=8589934592) {R:Nat->Nat->D} (hR0:R 0 0=.i (lrn (a,n) v).1) (hR1:R 0 1=.i (lrn (a,n) v).2):V65 a n v R:=by
 have a0:=hm.a0;have a1:=hm.a1;have n0:=hm.n0;have n1:=hm.n1
 simp only [] at a0 a1 n0 n1
 have td:Int.tdiv (a+v) 2=(a+v) / 2:=xL (by omega)
 have td2:Int.tdiv (n+1) 2=(n+1) / 2:=xL (by omega)
 constructor
 case g6=>intro h;rw [hR0,lrn,if_pos h]
 case g7=>intro h;rw [hR1,lrn,if_pos h]
 case g8=>intro h;rw [hR0,lrn,if_neg h]
 case g9=>intro h;rw [hR1,lrn,if_neg h]
 all_goals (intros;omega)
def folF (t i t2 i2:Int) (first:Bool):Int:=
 if ¬(inB t2 0 1073741824=true/\inB i2 0 65535=true) then 3 else if first=false/\(t2 < t\/(t2=t/\i2<=i)) then 2 else 0
theorem law40 {pre:Nat->List (List D)->Prop} {fn:Nat->List (List D)->Nat->Nat->D} (hp53:∀x,pre 53 x) (hf53:∀a b c,fn 53 [[.i a],[.i b],[.i c]] 0 0=.b (inB a b c))
  {t i t2 i2:Int} {f:Bool} {R:Nat->Nat->D} (hR:R 0 0=.i (folF t i t2 i2 f)):V40 pre fn t i t2 i2 f R:=by
 have hb:∀n:Bool,(D.b n).boo=n:=fun _=>rfl
 constructor
 all_goals (try simp only [hf53,hb])
 case g0=>exact hp53 _
 case g1=>intro h;rw [hR,folF,if_pos fun h2=>by rw [h] at h2;cases h2.1]
 case g2=>intro _;exact hp53 _
 case g3=>intro _ h;rw [hR,folF,if_pos fun h2=>by rw [h] at h2;cases h2.2]
 all_goals (intro h1 h2 h3;rw [hR,folF,if_neg fun h=>h ⟨h1,h2⟩])
 case g4=>intro h;rw [if_pos ⟨h3,.inl h⟩]
 case g5=>intro _ h h5;rw [if_pos ⟨h3,.inr ⟨h,h5⟩⟩]
 case g6=>intro h4 h5 h6;rw [if_neg fun h=>by omega]
 case g7=>intro h4 h5;rw [if_neg fun h=>by omega]
 case g8=>rw [if_neg fun h=>by rw [h3] at h;cases h.1]
theorem fol_eq {l:Rows} {t2 i2:Int} {t i:Int} (h:0 < l.length->t=eT l (l.length - 1)/\i=eI l (l.length - 1)):folF t i t2 i2 (decide (l.length=0))=folE l t2 i2:=by
 unfold folF folE
 split
 ·rfl
 by_cases hl:0 < l.length
 ·obtain ⟨rfl,rfl⟩:=h hl
  have d:decide (l.length=0)=false:=qE (by omega)
  rw [d]
  by_cases c:t2 < eT l (l.length - 1)\/(t2=eT l (l.length - 1)/\i2<=eI l (l.length - 1))
  ·rw [if_pos ⟨rfl,c⟩,if_pos]
   refine ⟨hl,?_⟩
   simp only [cmpE,cmpI]
   repeat' split
   all_goals omega
  rw [if_neg fun h=>c h.2,if_neg]
  intro ⟨_,h⟩
  simp only [cmpE,cmpI] at h
  repeat' (split at h)
  all_goals omega
 rw [if_neg fun h=>by have:=of_decide_eq_false h.1;omega,if_neg fun h=>hl h.1]
end HX

namespace HX
open Go Go.Proofs CX
abbrev vZ28 (x:Int):=-9223372036854775808<=x/\x<=9223372036854775807
abbrev v28a (x1_0:Int) (fn:Nat->List (List D)->Nat->Nat->D) (x0_2:Int) (x0_3:Int):=(Ar.std.shr IntKind.i64 x1_0 (D.int (fn 89 [[D.i x0_2,D.i x0_3]] 0 0)))
abbrev v28b (a0:Rows) (x0_1:Int):=((D.int (gt a0 x0_1.toNat 0)) - (D.int (gt a0 (Int.toNat (x0_1 - 1)) 0)))
structure V28r1 (a0:Rows) (x0_1:Int) (I1:Int->Int->Prop):Prop where
 g11:(0 < x0_1)->vZ28 ((x0_1 - 1))
 g12:(0 < x0_1)->0<=(x0_1 - 1)
 g13:(0 < x0_1)->(x0_1 - 1) < (a0.length:Int)
 g14:(0 < x0_1)->(((Int.toNat (x0_1 - 1):Nat):Int)) < (a0.length:Int)
 g15:(0 < x0_1)->vZ28 ((v28b a0 x0_1))
 g16:(0 < x0_1)->((v28b a0 x0_1)=0)->vZ28 ((x0_1 - 1))
 g17:(0 < x0_1)->((v28b a0 x0_1)=0)->0<=(x0_1 - 1)
 g18:(0 < x0_1)->((v28b a0 x0_1)=0)->(x0_1 - 1) < (a0.length:Int)
 g19:(0 < x0_1)->((v28b a0 x0_1)=0)->(((Int.toNat (x0_1 - 1):Nat):Int)) < (a0.length:Int)
 g20:(0 < x0_1)->((v28b a0 x0_1)=0)->vZ28 (((D.int (gt a0 (Int.toNat (x0_1 - 1)) 1))+1))
 g21:(0 < x0_1)->((v28b a0 x0_1)=0)->vZ28 (((D.int (gt a0 x0_1.toNat 1)) - ((D.int (gt a0 (Int.toNat (x0_1 - 1)) 1))+1)))
 n22:(0 < x0_1)->((v28b a0 x0_1)=0)->I1 (v28b a0 x0_1) ((D.int (gt a0 x0_1.toNat 1)) - ((D.int (gt a0 (Int.toNat (x0_1 - 1)) 1))+1))
 n23:(0 < x0_1)->(¬(v28b a0 x0_1)=0)->I1 (v28b a0 x0_1) (D.int (gt a0 x0_1.toNat 1))
 n24:(¬0 < x0_1)->I1 (D.int (gt a0 x0_1.toNat 0)) (D.int (gt a0 x0_1.toNat 1))
structure V28c4 (x1_0:Int) (x4_0:Rows) (x4_1:Int) (I2:Rows->Prop) (I4:Rows->Int->Prop) (m4:Rows->Int->Nat):Prop where
 g34:(0<=x4_1)->0<=x4_1
 g35:(0<=x4_1)->(2:Int)≠0
 g36:(0<=x4_1)->(x4_0.length+(List.length ([[D.i (Int.tmod (Ar.std.shr IntKind.i64 x1_0 x4_1) 2)]]:Rows))) * 8<=4294967296/\(x4_0.length+(List.length ([[D.i (Int.tmod (Ar.std.shr IntKind.i64 x1_0 x4_1) 2)]]:Rows)))<=4294967296
 g37:(0<=x4_1)->vZ28 ((x4_1 - 1))
 n38:(0<=x4_1)->I4 (x4_0++[[D.i (Int.tmod (Ar.std.shr IntKind.i64 x1_0 x4_1) 2)]]) (x4_1 - 1)/\m4 (x4_0++[[D.i (Int.tmod (Ar.std.shr IntKind.i64 x1_0 x4_1) 2)]]) (x4_1 - 1) < m4 x4_0 x4_1
 n39:(¬0<=x4_1)->I2 x4_0
abbrev V28l4 (x1_0:Int) (x3_0:Rows) (I2:Rows->Prop):Prop:=∃(I4:Rows->Int->Prop) (m4:Rows->Int->Nat),I4 x3_0 (31 - 1)/\∀x4_0 x4_1,I4 x4_0 x4_1->V28c4 x1_0 x4_0 x4_1 I2 I4 m4
abbrev V28l5 (fn:Nat->List (List D)->Nat->Nat->D) (x0_2:Int) (x0_3:Int) (x1_0:Int) (x3_0:Rows) (I2:Rows->Prop):Prop:=∃(I5:Rows->Int->Prop) (m5:Rows->Int->Nat),I5 (x3_0++[[D.i 0]]) ((D.int (fn 89 [[D.i x0_2,D.i x0_3]] 0 0)) - 1)/\∀x5_0 x5_1,I5 x5_0 x5_1->V28c4 x1_0 x5_0 x5_1 I2 I5 m5
structure V28c3 (fn:Nat->List (List D)->Nat->Nat->D) (x0_2:Int) (x0_3:Int) (x1_0:Int) (x3_0:Rows) (x3_1:Int) (I2:Rows->Prop) (I3:Rows->Int->Prop) (m3:Rows->Int->Nat):Prop where
 g29:(x3_1 < (v28a x1_0 fn x0_2 x0_3))->(x3_1 < 24)->(x3_0.length+(List.length ([[D.i 1]]:Rows))) * 8<=4294967296/\(x3_0.length+(List.length ([[D.i 1]]:Rows)))<=4294967296
 g30:(x3_1 < (v28a x1_0 fn x0_2 x0_3))->(x3_1 < 24)->vZ28 ((x3_1+1))
 n31:(x3_1 < (v28a x1_0 fn x0_2 x0_3))->(x3_1 < 24)->I3 (x3_0++[[D.i 1]]) (x3_1+1)/\m3 (x3_0++[[D.i 1]]) (x3_1+1) < m3 x3_0 x3_1
 g32:(x3_1 < (v28a x1_0 fn x0_2 x0_3))->(¬x3_1 < 24)->(24<=(v28a x1_0 fn x0_2 x0_3))->vZ28 (((31 - 1):Int))
 g40:(x3_1 < (v28a x1_0 fn x0_2 x0_3))->(¬x3_1 < 24)->(¬24<=(v28a x1_0 fn x0_2 x0_3))->(x3_0.length+(List.length ([[D.i 0]]:Rows))) * 8<=4294967296/\(x3_0.length+(List.length ([[D.i 0]]:Rows)))<=4294967296
 g41:(x3_1 < (v28a x1_0 fn x0_2 x0_3))->(¬x3_1 < 24)->(¬24<=(v28a x1_0 fn x0_2 x0_3))->vZ28 (((D.int (fn 89 [[D.i x0_2,D.i x0_3]] 0 0)) - 1))
 g49:(¬x3_1 < (v28a x1_0 fn x0_2 x0_3))->(24<=(v28a x1_0 fn x0_2 x0_3))->vZ28 (((31 - 1):Int))
 g57:(¬x3_1 < (v28a x1_0 fn x0_2 x0_3))->(¬24<=(v28a x1_0 fn x0_2 x0_3))->(x3_0.length+(List.length ([[D.i 0]]:Rows))) * 8<=4294967296/\(x3_0.length+(List.length ([[D.i 0]]:Rows)))<=4294967296
 g58:(¬x3_1 < (v28a x1_0 fn x0_2 x0_3))->(¬24<=(v28a x1_0 fn x0_2 x0_3))->vZ28 (((D.int (fn 89 [[D.i x0_2,D.i x0_3]] 0 0)) - 1))
 l4:(x3_1 < (v28a x1_0 fn x0_2 x0_3))->(¬x3_1 < 24)->(24<=(v28a x1_0 fn x0_2 x0_3))->V28l4 x1_0 x3_0 I2
 l5:(x3_1 < (v28a x1_0 fn x0_2 x0_3))->(¬x3_1 < 24)->(¬24<=(v28a x1_0 fn x0_2 x0_3))->V28l5 fn x0_2 x0_3 x1_0 x3_0 I2
 l6:(¬x3_1 < (v28a x1_0 fn x0_2 x0_3))->(24<=(v28a x1_0 fn x0_2 x0_3))->V28l4 x1_0 x3_0 I2
 l7:(¬x3_1 < (v28a x1_0 fn x0_2 x0_3))->(¬24<=(v28a x1_0 fn x0_2 x0_3))->V28l5 fn x0_2 x0_3 x1_0 x3_0 I2
abbrev V28l3 (fn:Nat->List (List D)->Nat->Nat->D) (x0_0:Rows) (x0_2:Int) (x0_3:Int) (x1_0:Int) (I2:Rows->Prop):Prop:=∃(I3:Rows->Int->Prop) (m3:Rows->Int->Nat),I3 x0_0 0/\∀x3_0 x3_1,I3 x3_0 x3_1->V28c3 fn x0_2 x0_3 x1_0 x3_0 x3_1 I2 I3 m3
structure V28r2 (pre:Nat->List (List D)->Prop) (fn:Nat->List (List D)->Nat->Nat->D) (x0_0:Rows) (x0_2:Int) (x0_3:Int) (x1_0:Int) (I2:Rows->Prop):Prop where
 g26:pre 89 [[D.i x0_2,D.i x0_3]]
 g27:0<=(D.int (fn 89 [[D.i x0_2,D.i x0_3]] 0 0))
 l3:V28l3 fn x0_0 x0_2 x0_3 x1_0 I2
structure V28c8 (pre:Nat->List (List D)->Prop) (fn:Nat->List (List D)->Nat->Nat->D) (x0_0:Rows) (x0_1:Int) (x0_2:Int) (x0_3:Int) (x0_4:Int) (x0_5:Int) (x1_0:Int) (x1_1:Int) (x8_0:Rows) (I0:Rows->Int->Int->Int->Int->Int->Prop) (m0:Rows->Int->Int->Int->Int->Int->Nat):Prop where
 g108:pre 65 [[D.i x0_4,D.i x0_5],[D.i x1_1]]
 g109:vZ28 ((x0_1+1))
 n110:I0 x8_0 (x0_1+1) (D.int (fn 65 [[D.i x0_2,D.i x0_3],[D.i x1_0]] 0 0)) (D.int (fn 65 [[D.i x0_2,D.i x0_3],[D.i x1_0]] 0 1)) (D.int (fn 65 [[D.i x0_4,D.i x0_5],[D.i x1_1]] 0 0)) (D.int (fn 65 [[D.i x0_4,D.i x0_5],[D.i x1_1]] 0 1))/\m0 x8_0 (x0_1+1) (D.int (fn 65 [[D.i x0_2,D.i x0_3],[D.i x1_0]] 0 0)) (D.int (fn 65 [[D.i x0_2,D.i x0_3],[D.i x1_0]] 0 1)) (D.int (fn 65 [[D.i x0_4,D.i x0_5],[D.i x1_1]] 0 0)) (D.int (fn 65 [[D.i x0_4,D.i x0_5],[D.i x1_1]] 0 1)) < m0 x0_0 x0_1 x0_2 x0_3 x0_4 x0_5
abbrev V28j8 (pre:Nat->List (List D)->Prop) (fn:Nat->List (List D)->Nat->Nat->D) (x0_0:Rows) (x0_1:Int) (x0_2:Int) (x0_3:Int) (x0_4:Int) (x0_5:Int) (x1_0:Int) (x1_1:Int) (x2_0:Rows) (I0:Rows->Int->Int->Int->Int->Int->Prop) (m0:Rows->Int->Int->Int->Int->Int->Nat):Prop:=∃(I8:Rows->Prop),V28r2 pre fn x2_0 x0_4 x0_5 x1_1 I8/\∀x8_0,I8 x8_0->V28c8 pre fn x0_0 x0_1 x0_2 x0_3 x0_4 x0_5 x1_0 x1_1 x8_0 I0 m0
structure V28c2 (pre:Nat->List (List D)->Prop) (fn:Nat->List (List D)->Nat->Nat->D) (x0_0:Rows) (x0_1:Int) (x0_2:Int) (x0_3:Int) (x0_4:Int) (x0_5:Int) (x1_0:Int) (x1_1:Int) (x2_0:Rows) (I0:Rows->Int->Int->Int->Int->Int->Prop) (m0:Rows->Int->Int->Int->Int->Int->Nat):Prop where
 g66:pre 65 [[D.i x0_2,D.i x0_3],[D.i x1_0]]
 l8:V28j8 pre fn x0_0 x0_1 x0_2 x0_3 x0_4 x0_5 x1_0 x1_1 x2_0 I0 m0
abbrev V28j2 (pre:Nat->List (List D)->Prop) (fn:Nat->List (List D)->Nat->Nat->D) (x0_0:Rows) (x0_1:Int) (x0_2:Int) (x0_3:Int) (x0_4:Int) (x0_5:Int) (x1_0:Int) (x1_1:Int) (I0:Rows->Int->Int->Int->Int->Int->Prop) (m0:Rows->Int->Int->Int->Int->Int->Nat):Prop:=∃(I2:Rows->Prop),V28r2 pre fn x0_0 x0_2 x0_3 x1_0 I2/\∀x2_0,I2 x2_0->V28c2 pre fn x0_0 x0_1 x0_2 x0_3 x0_4 x0_5 x1_0 x1_1 x2_0 I0 m0
structure V28c1 (pre:Nat->List (List D)->Prop) (fn:Nat->List (List D)->Nat->Nat->D) (x0_0:Rows) (x0_1:Int) (x0_2:Int) (x0_3:Int) (x0_4:Int) (x0_5:Int) (x1_0:Int) (x1_1:Int) (I0:Rows->Int->Int->Int->Int->Int->Prop) (m0:Rows->Int->Int->Int->Int->Int->Nat):Prop where
 l2:V28j2 pre fn x0_0 x0_1 x0_2 x0_3 x0_4 x0_5 x1_0 x1_1 I0 m0
abbrev V28j1 (pre:Nat->List (List D)->Prop) (fn:Nat->List (List D)->Nat->Nat->D) (a0:Rows) (x0_0:Rows) (x0_1:Int) (x0_2:Int) (x0_3:Int) (x0_4:Int) (x0_5:Int) (I0:Rows->Int->Int->Int->Int->Int->Prop) (m0:Rows->Int->Int->Int->Int->Int->Nat):Prop:=∃(I1:Int->Int->Prop),V28r1 a0 x0_1 I1/\∀x1_0 x1_1,I1 x1_0 x1_1->V28c1 pre fn x0_0 x0_1 x0_2 x0_3 x0_4 x0_5 x1_0 x1_1 I0 m0
structure V28c16 (x14_0:Rows) (x15_0:Rows) (x15_1:Int) (x16_0:Int) (x16_1:Int) (I15:Rows->Int->Prop) (m15:Rows->Int->Nat) (I16:Int->Int->Prop) (m16:Int->Int->Nat):Prop where
 g119:(x16_1 < 8)->vZ28 ((2 * x16_0))
 g120:(x16_1 < 8)->vZ28 ((x15_1+x16_1))
 g121:(x16_1 < 8)->0<=(x15_1+x16_1)
 g122:(x16_1 < 8)->(x15_1+x16_1) < (x14_0.length:Int)
 g123:(x16_1 < 8)->(((Int.toNat (x15_1+x16_1):Nat):Int)) < (x14_0.length:Int)
 g124:(x16_1 < 8)->vZ28 (((2 * x16_0)+(D.int (gt x14_0 (Int.toNat (x15_1+x16_1)) 0))))
 g125:(x16_1 < 8)->vZ28 ((x16_1+1))
 n126:(x16_1 < 8)->I16 ((2 * x16_0)+(D.int (gt x14_0 (Int.toNat (x15_1+x16_1)) 0))) (x16_1+1)/\m16 ((2 * x16_0)+(D.int (gt x14_0 (Int.toNat (x15_1+x16_1)) 0))) (x16_1+1) < m16 x16_0 x16_1
 g127:(¬x16_1 < 8)->(x15_0.length+(List.length ([[D.i (Ar.std.wrap IntKind.u8 x16_0)]]:Rows))) * 1<=4294967296/\(x15_0.length+(List.length ([[D.i (Ar.std.wrap IntKind.u8 x16_0)]]:Rows)))<=4294967296
 g128:(¬x16_1 < 8)->vZ28 ((x15_1+8))
 n129:(¬x16_1 < 8)->I15 (x15_0++[[D.i (Ar.std.wrap IntKind.u8 x16_0)]]) (x15_1+8)/\m15 (x15_0++[[D.i (Ar.std.wrap IntKind.u8 x16_0)]]) (x15_1+8) < m15 x15_0 x15_1
abbrev V28l16 (x14_0:Rows) (x15_0:Rows) (x15_1:Int) (I15:Rows->Int->Prop) (m15:Rows->Int->Nat):Prop:=∃(I16:Int->Int->Prop) (m16:Int->Int->Nat),I16 0 0/\∀x16_0 x16_1,I16 x16_0 x16_1->V28c16 x14_0 x15_0 x15_1 x16_0 x16_1 I15 m15 I16 m16
structure V28c15 (pre:Nat->List (List D)->Prop) (fn:Nat->List (List D)->Nat->Nat->D) (R:Nat->Nat->D) (x14_0:Rows) (x15_0:Rows) (x15_1:Int) (I15:Rows->Int->Prop) (m15:Rows->Int->Nat):Prop where
 g130:(¬x15_1 < (x14_0.length:Int))->pre 66 [[D.l x15_0]]
 g131:(¬x15_1 < (x14_0.length:Int))->(x15_0.length+(List.length ([[D.i (Ar.std.wrap IntKind.u8 (D.int (fn 66 [[D.l x15_0]] 0 0)))],[D.i (Ar.std.wrap IntKind.u8 (D.int (fn 66 [[D.l x15_0]] 1 0)))]]:Rows))) * 1<=4294967296/\(x15_0.length+(List.length ([[D.i (Ar.std.wrap IntKind.u8 (D.int (fn 66 [[D.l x15_0]] 0 0)))],[D.i (Ar.std.wrap IntKind.u8 (D.int (fn 66 [[D.l x15_0]] 1 0)))]]:Rows)))<=4294967296
 g132:(¬x15_1 < (x14_0.length:Int))->R 0 0=D.l (x15_0++[[D.i (Ar.std.wrap IntKind.u8 (D.int (fn 66 [[D.l x15_0]] 0 0)))],[D.i (Ar.std.wrap IntKind.u8 (D.int (fn 66 [[D.l x15_0]] 1 0)))]])
 g133:(¬x15_1 < (x14_0.length:Int))->R 1 0=D.i 0
 l16:(x15_1 < (x14_0.length:Int))->V28l16 x14_0 x15_0 x15_1 I15 m15
abbrev V28l15 (pre:Nat->List (List D)->Prop) (fn:Nat->List (List D)->Nat->Nat->D) (a0:Rows) (R:Nat->Nat->D) (x14_0:Rows):Prop:=∃(I15:Rows->Int->Prop) (m15:Rows->Int->Nat),I15 [[D.i 71],[D.i 83],[D.i (Ar.std.wrap IntKind.u8 (Ar.std.shr IntKind.i64 (a0.length:Int) 16))],[D.i (Ar.std.wrap IntKind.u8 (Ar.std.shr IntKind.i64 (a0.length:Int) 8))],[D.i (Ar.std.wrap IntKind.u8 (a0.length:Int))]] 0/\∀x15_0 x15_1,I15 x15_0 x15_1->V28c15 pre fn R x14_0 x15_0 x15_1 I15 m15
structure V28c14 (pre:Nat->List (List D)->Prop) (fn:Nat->List (List D)->Nat->Nat->D) (a0:Rows) (R:Nat->Nat->D) (x14_0:Rows) (I14:Rows->Prop) (m14:Rows->Nat):Prop where
 g114:(8:Int)≠0
 g115:(¬(Int.tmod (x14_0.length:Int) 8)=0)->(x14_0.length+(List.length ([[D.i 0]]:Rows))) * 8<=4294967296/\(x14_0.length+(List.length ([[D.i 0]]:Rows)))<=4294967296
 n116:(¬(Int.tmod (x14_0.length:Int) 8)=0)->I14 (x14_0++[[D.i 0]])/\m14 (x14_0++[[D.i 0]]) < m14 x14_0
 l15:((Int.tmod (x14_0.length:Int) 8)=0)->V28l15 pre fn a0 R x14_0
abbrev V28l14 (pre:Nat->List (List D)->Prop) (fn:Nat->List (List D)->Nat->Nat->D) (a0:Rows) (R:Nat->Nat->D) (x0_0:Rows):Prop:=∃(I14:Rows->Prop) (m14:Rows->Nat),I14 x0_0/\∀x14_0,I14 x14_0->V28c14 pre fn a0 R x14_0 I14 m14
structure V28c0 (pre:Nat->List (List D)->Prop) (fn:Nat->List (List D)->Nat->Nat->D) (a0:Rows) (R:Nat->Nat->D) (x0_0:Rows) (x0_1:Int) (x0_2:Int) (x0_3:Int) (x0_4:Int) (x0_5:Int) (I0:Rows->Int->Int->Int->Int->Int->Prop) (m0:Rows->Int->Int->Int->Int->Int->Nat):Prop where
 g4:(x0_1 < (a0.length:Int))->0<=x0_1
 g5:(x0_1 < (a0.length:Int))->x0_1 < (a0.length:Int)
 g6:(x0_1 < (a0.length:Int))->(((Int.toNat x0_1:Nat):Int)) < (a0.length:Int)
 g111:(¬x0_1 < (a0.length:Int))->(0:Int)<=16
 g112:(¬x0_1 < (a0.length:Int))->(0:Int)<=8
 l1:(x0_1 < (a0.length:Int))->V28j1 pre fn a0 x0_0 x0_1 x0_2 x0_3 x0_4 x0_5 I0 m0
 l14:(¬x0_1 < (a0.length:Int))->V28l14 pre fn a0 R x0_0
abbrev V28l0 (pre:Nat->List (List D)->Prop) (fn:Nat->List (List D)->Nat->Nat->D) (a0:Rows) (R:Nat->Nat->D):Prop:=∃(I0:Rows->Int->Int->Int->Int->Int->Prop) (m0:Rows->Int->Int->Int->Int->Int->Nat),I0 [] 0 4 1 4 1/\∀x0_0 x0_1 x0_2 x0_3 x0_4 x0_5,I0 x0_0 x0_1 x0_2 x0_3 x0_4 x0_5->V28c0 pre fn a0 R x0_0 x0_1 x0_2 x0_3 x0_4 x0_5 I0 m0
structure V28 (pre:Nat->List (List D)->Prop) (fn:Nat->List (List D)->Nat->Nat->D) (a0:Rows) (R:Nat->Nat->D):Prop where
 g0:pre 54 [[D.l a0]]
 g1:(¬(D.int (fn 54 [[D.l a0]] 0 0))=0)->R 0 0=D.l []
 g2:(¬(D.int (fn 54 [[D.l a0]] 0 0))=0)->R 1 0=D.i (D.int (fn 54 [[D.l a0]] 0 0))
 l0:((D.int (fn 54 [[D.l a0]] 0 0))=0)->V28l0 pre fn a0 R
end HX

namespace HX
open Go Go.Proofs CX
def bitsR (v:Int):Nat->Rows->Rows
 |0,B=>B
 |n+1,B=>bitsR v n (B++[[.i (v / 2 ^ n % 2)]])
def ones (n:Nat) (B:Rows):Rows:=B++List.replicate n [.i 1]
def wrR (m:Int×Int) (v:Int) (B:Rows):Rows:=
 if Ar.std.shr .i64 v (lowK m:Int) < 24 then bitsR v (lowK m) (ones (Ar.std.shr .i64 v (lowK m:Int)).toNat B++[[.i 0]]) else bitsR v 31 (ones 24 B)
theorem ones_succ (n:Nat) (B:Rows):ones n B++[[.i 1]]=ones (n+1) B:=by
 rw [ones,ones,qN,<-List.replicate_succ']
theorem ones_len (n:Nat) (B:Rows):(ones n B).length=B.length+n:=by simp [ones]
structure LR (v:Int) (N:Nat) (B0:Rows) (k:Int) (B:Rows):Prop where
 lo:-1<=k
 hi:k+1<=N
 len:(B.length:Int)+(k+1)=B0.length+N
 to:bitsR v (k+1).toNat B=bitsR v N B0
theorem LR.start (v:Int) {N:Nat} (B0:Rows) {k:Int} (e:k+1=N):LR v N B0 k B0:=⟨by omega,by omega,by omega,by rw [show (k+1).toNat=N by omega]⟩
theorem LR.step {v:Int} {N:Nat} {B0:Rows} {k:Int} {B:Rows} (h:LR v N B0 k B) (hk:0<=k):LR v N B0 (k - 1) (B++[[.i (v / 2 ^ k.toNat % 2)]]):=by
 obtain ⟨h1,h2,h3,h4⟩:=h
 refine ⟨by omega,by omega,by simp;omega,?_⟩
 rw [<-h4,show (k+1).toNat=(k - 1+1).toNat+1 by omega,bitsR,show (k - 1+1).toNat=k.toNat by omega]
theorem LR.stop {v:Int} {N:Nat} {B0:Rows} {k:Int} {B:Rows} (h:LR v N B0 k B) (hk:¬0<=k):B=bitsR v N B0:=by
 have:=h.lo
 rw [<-h.to,show (k+1).toNat=0 by omega,bitsR]
theorem law28r {pre:Nat->List (List D)->Prop} {fn:Nat->List (List D)->Nat->Nat->D} (hp89:∀x,pre 89 x) (hf89:∀a n,fn 89 [[.i a,.i n]] 0 0=.i (lowK (a,n)))
  {B:Rows} {a n v:Int} (hB:B.length<=100000000) (h0:0<=v) (h1:v<=8589934592):V28r2 pre fn B a n v (fun B'=>B'=wrR (a,n) v B):=by
 have hi:∀n:Int,(D.i n).int=n:=fun _=>rfl
 have hk:=lowK_le (a,n)
 have hq:=shr_bd (v:=v) (k:=(lowK (a,n):Int)) h0 (by omega) (by omega)
 obtain ⟨K,hK⟩:∃K,lowK (a,n)=K:=⟨_,rfl⟩
 obtain ⟨q,hqe⟩:∃q,Ar.std.shr .i64 v (K:Int)=q:=⟨_,rfl⟩
 rw [hK] at hk hq
 rw [hqe] at hq
 have wl:wrR (a,n) v B=if q < 24 then bitsR v K (ones q.toNat B++[[.i 0]]) else bitsR v 31 (ones 24 B):=by rw [<-hqe,<-hK];rfl
 have bit:∀k:Int,0<=k->k<=64->Int.tmod (Ar.std.shr .i64 v k) 2=v / 2 ^ k.toNat % 2:=fun k k0 k1=>by
  rw [xR (shr_bd h0 k0 k1).1,shr_eq k0 k1]
 have lp:∀(N:Nat) (B0:Rows) (k0:Int),N<=31->k0+1=N->B0.length<=100000030->bitsR v N B0=wrR (a,n) v B->∃(I4:Rows->Int->Prop) (m4:Rows->Int->Nat),I4 B0 k0/\∀x k,I4 x k->V28c4 v x k (fun B'=>B'=wrR (a,n) v B) I4 m4:=by
  intro N B0 k0 hN e hl hw
  refine ⟨fun x k=>LR v N B0 k x,fun _ k=>(k+1).toNat,LR.start v B0 e,fun x k hI=>?_⟩
  have i1:=hI.lo
  have i2:=hI.hi
  have i3:=hI.len
  constructor
  case n38=>intro h;rw [bit k h (by omega)];exact ⟨hI.step h,by omega⟩
  case n39=>intro h;rw [<-hw];exact hI.stop h
  all_goals (try simp only [vZ28,zH,zK])
  all_goals (intros;omega)
 constructor
 all_goals (try simp only [hf89,hi,hK])
 case g26=>exact hp89 _
 case g27=>omega
 case l3=>
  refine ⟨fun x c=>∃i:Nat,c=i/\i<=24/\(i:Int)<=q/\x=ones i B,fun _ c=>(24 - c).toNat,⟨0,rfl,by omega,by omega,by simp [ones]⟩,fun x c hI=>?_⟩
  obtain ⟨i,hc,h24,hiq,hx⟩:=hI
  subst hc hx
  have ol:=ones_len i B
  constructor
  all_goals (try simp only [v28a,hf89,hi,hK,hqe])
  case n31=>intro h2 h3;exact ⟨⟨i+1,by omega,by omega,by omega,ones_succ i B⟩,by omega⟩
  case l4=>
   intro h2 h3 h4
   obtain rfl:i=24:=by omega
   exact lp 31 _ _ (by omega) (by omega) (by omega) (by rw [wl,if_neg (by omega)])
  case l6=>
   intro h2 h4
   obtain rfl:i=24:=by omega
   exact lp 31 _ _ (by omega) (by omega) (by omega) (by rw [wl,if_neg (by omega)])
  case l5=>intro h2 h3 h4;exfalso;omega
  case l7=>
   intro h2 h4
   have:=lp K (ones i B++[[.i 0]]) ((K:Int) - 1) (by omega) (by omega) (by simp;omega) (by rw [wl,if_pos (by omega),show q.toNat=i by omega])
   simp only [V28l5,hf89,hi,hK]
   exact this
  all_goals (try simp only [vZ28,zH,zK])
  all_goals (intros;omega)
end HX

namespace HX
open Go Go.Proofs CX
structure Rel (s:Rows×Int) (B:Rows):Prop where
 len:(B.length:Int)=bitsN s - 40
 bit:∀p,p < B.length->gt B p 0=.i (bAt s.1 (40+p))
theorem gtAp {A B:Rows} {t c:Nat}:gt (A++B) (A.length+t) c=gt B t c:=by
 rw [gt_eq,gt_eq,xK (by omega),Nat.add_sub_cancel_left]
theorem gtAl {A B:Rows} {t c:Nat} (h:t < A.length):gt (A++B) t c=gt A t c:=by
 rw [gt_eq,gt_eq,xI h]
theorem Rel.put {s:Rows×Int} {B:Rows} (h:Rel s B) (w:Wb s) (hb:40<=bitsN s) {v:Int} {n:Nat} (hv:0<=v) (hv2:v<=9223372036854775807) (hn:n<=64):Rel (put1 s v n) (B++[[.i (v / 2 ^ n % 2)]]):=by
 obtain ⟨a1,a2,a3,a4⟩:=put1_ok w (k:=(n:Int)) hv hv2 (by omega) (by omega)
 have a5:=(put1_wf w.wf v n).2
 have hl:=h.len
 refine ⟨by rw [a5];simp;omega,fun p hp=>?_⟩
 by_cases e:p < B.length
 ·rw [gtAl e,h.bit p e,a2 _ (by omega)]
 have e:p=B.length:=by simp at hp;omega
 subst e
 rw [gtN,show 40+B.length=(bitsN s).toNat by omega,a3,zW]
 rfl
theorem Rel.putN {v:Int} (hv:0<=v) (hv2:v<=9223372036854775807):∀(n:Nat) {s:Rows×Int} {B:Rows},n<=64->Rel s B->Wb s->40<=bitsN s->Rel (HX.putN v n s) (bitsR v n B)
 |0,_,_,_,h,_,_=>h
 |n+1,s,B,hn,h,w,hb=>by
  obtain ⟨a1,_⟩:=put1_ok w (k:=(n:Int)) hv hv2 (by omega) (by omega)
  have a5:=(put1_wf w.wf v n).2
  exact Rel.putN hv hv2 n (by omega) (h.put w hb hv hv2 (by omega)) a1 (by omega)
theorem Rel.many {s:Rows×Int} {B C:Rows} (h:Rel s B) (w:Wb s) (hb:40<=bitsN s) {v:Int} (hv:0<=v) (hv2:v<=9223372036854775807) {n:Nat} (hn:n<=64) (hC:C.length=n) (hc:∀t,t < n->gt C t 0=.i (v / 2 ^ (n - 1 - t) % 2)):Rel (HX.putN v n s) (B++C):=by
 obtain ⟨a1,a2,a3⟩:=putN_ok hv hv2 n hn w
 have a5:=(putN_wf v n w.wf).2
 have hl:=h.len
 refine ⟨by rw [a5,zP,hC];omega,fun p hp=>?_⟩
 by_cases e:p < B.length
 ·rw [gtAl e,h.bit p e,a2.bit _ (by omega)]
 obtain ⟨t,rfl⟩:∃t,p=B.length+t:=⟨p - B.length,by omega⟩
 have ht:t < n:=by rw [zP,hC] at hp;omega
 rw [gtAp,hc t ht,<-a3 t ht]
 congr 2
 omega
theorem Rel.wr {m:Int×Int} {v:Int} (hv:0<=v) (hv2:v<=2147483647) {s:Rows×Int} {B:Rows} (h:Rel s B) (w:Wb s) (hb:40<=bitsN s):Rel (wrS m v s) (wrR m v B):=by
 have hk:=lowK_le m
 obtain ⟨K,hK⟩:∃K,lowK m=K:=⟨_,rfl⟩
 have hq:=shr_bd (v:=v) (k:=(lowK m:Int)) hv (by omega) (by omega)
 rw [hK] at hk hq
 unfold wrS wrR
 rw [hK]
 obtain ⟨q,hqq⟩:∃q,Ar.std.shr .i64 v (K:Int)=q:=⟨_,rfl⟩
 rw [hqq] at hq ⊢
 split
 next h24=>
  obtain ⟨Q,rfl⟩:∃Q:Nat,q=Q:=⟨q.toNat,by omega⟩
  have hw:Ar.std.shl .i64 1 ((Q:Int)+1) - 2=2 ^ (Q+1) - 2:=by
   rw [shl_one (by omega) (by omega),show ((Q:Int)+1).toNat=Q+1 by omega]
  rw [hw,show ((Q:Int)+1).toNat=Q+1 by omega,zW]
  have pl:=pow_le (Q+1) (by omega)
  have p2:(2:Int)<=2 ^ (Q+1):=by rw [Int.pow_succ];have:=(pow_le Q (by omega)).1;omega
  have e:ones Q B++[[.i 0]]=B++(List.replicate Q [.i 1]++[[.i 0]]):=by rw [ones,qN]
  rw [e]
  have r1:=h.many (C:=List.replicate Q [.i 1]++[[.i 0]]) w hb (v:=2 ^ (Q+1) - 2) (by omega) (by omega) (n:=Q+1) (by omega) (by simp) fun t ht=>by
   by_cases c:t < Q
   ·rw [gtAl (by simpa using c),onesq Q (by omega) t c,gt_eq,kJ,if_pos c]
    rfl
   have c:t=(List.replicate Q [D.i 1]).length+0:=by simp;omega
   rw [c,gtAp]
   have z:=zeroq Q (by omega)
   simp only [xB,kB]
   rw [z]
   rfl
  obtain ⟨a1,a2,_⟩:=putN_ok (v:=2 ^ (Q+1) - 2) (by omega) (by omega) (Q+1) (by omega) w
  exact Rel.putN hv (by omega) K (by omega) r1 a1 (kQ hb a2.le)
 obtain ⟨N,hN⟩:∃N:Nat,N=24:=⟨_,rfl⟩
 obtain ⟨M,hM⟩:∃M:Nat,M=31:=⟨_,rfl⟩
 obtain ⟨W,hW⟩:∃W:Int,W=16777215:=⟨_,rfl⟩
 rw [<-hN,<-hM,<-hW]
 have r1:=h.many (C:=List.replicate N [.i 1]) w hb (v:=W) (by omega) (by omega) (n:=N) (by omega) (by simp) fun t ht=>by
  rw [gt_eq,kJ,if_pos ht]
  have:=ones24 t (by omega)
  rw [hN,hW,this]
  rfl
 obtain ⟨a1,a2,_⟩:=putN_ok (v:=W) (by omega) (by omega) N (by omega) w
 exact Rel.putN hv (by omega) M (by omega) r1 a1 (kQ hb a2.le)
def pkB (l:Rows):Nat->Rows
 |0=>[]
 |q+1=>wrR (pkS l q).d (plcE l q (pkS l q).bt (pkS l q).bi) (wrR (pkS l q).t (gapE l q (pkS l q).bt) (pkB l q))
theorem rel_all {l:Rows} (h:EvOk' l):∀q,q<=l.length->Rel (stP l q) (pkB l q)
 |0,_=>⟨by simp [pkB,stP,pkS,hdrP,bitsN],fun p hp=>by simp [pkB] at hp⟩
 |q+1,hq=>by
  obtain ⟨a1,a2,a3⟩:=pk_step h q (by omega)
  obtain ⟨g1,g2⟩:=gap_bd h (q:=q) (by omega)
  obtain ⟨b1,b2,_⟩:=wr_ok (m:=(pkS l q).t) g1.1 (by omega) a1 a2
  exact Rel.wr g2.1 (by omega) (Rel.wr g1.1 (by omega) (rel_all h q (by omega)) a1 a2) b1 (kQ a2 b2.le)
end HX

namespace HX
open Go Go.Proofs CX
def CanB (o:Rows):Prop:=∀i,(h:i < o.length)->o[i]=[.i (gt o i 0).int]
theorem can_app {o:Rows} (h:CanB o) (z:Int):CanB (o++[[.i z]]):=fun i hi=>by
 by_cases c:i < o.length
 ·rw [List.getElem_append_left c,h i c,gtA c]
 have c:i=o.length:=by simp at hi;omega
 subst c
 rw [gtN]
 simp [D.int]
theorem can_set {o:Rows} (h:CanB o) (j:Nat) (z:Int):CanB (o.set j [.i z]):=fun i hi=>by
 have hi':i < o.length:=by simpa using hi
 rw [List.getElem_set]
 split
 next e=>
  subst e
  rw [gt_set hi',if_pos rfl];rfl
 rename_i e
 rw [h i hi',gt_eq,gt_eq,List.getElem?_set_ne e]
theorem can_put1 {s:Rows×Int} (h:CanB s.1) (v k:Int):CanB (put1 s v k).1:=by
 unfold put1
 split
 ·exact can_set (can_app h _) _ _
 exact can_set h _ _
theorem can_putN (v:Int):∀n {s:Rows×Int},CanB s.1->CanB (putN v n s).1
 |0,_,h=>h
 |n+1,_,h=>can_putN v n (can_put1 h v n)
theorem can_wr {m:Int×Int} {v:Int} {s:Rows×Int} (h:CanB s.1):CanB (wrS m v s).1:=by
 unfold wrS
 split
 ·exact can_putN _ _ (can_putN _ _ h)
 exact can_putN _ _ (can_putN _ _ h)
theorem can_pk (l:Rows):∀q,CanB (stP l q).1
 |0=>can_app (o:=[[.i 71],[.i 83],[.i (Ar.std.wrap .u8 (Ar.std.shr .i64 (l.length:Int) 16))],[.i (Ar.std.wrap .u8 (Ar.std.shr .i64 (l.length:Int) 8))]]) (can_app (o:=[[.i 71],[.i 83],[.i (Ar.std.wrap .u8 (Ar.std.shr .i64 (l.length:Int) 16))]]) (can_app (o:=[[.i 71],[.i 83]]) (can_app (o:=[[.i 71]]) (can_app (o:=[]) (fun i h=>by simp at h) _) _) _) _) _
 |q+1=>can_wr (can_wr (can_pk l q))
theorem pad_bit {s:Rows×Int} {B:Rows} (h:Rel s B) (w:Wb s) (hb:40<=bitsN s) {t:Nat} (ht:(t:Int)<=s.2):∀p,p < (B++List.replicate t [D.i 0]).length->gt (B++List.replicate t [D.i 0]) p 0=.i (bAt s.1 (40+p)):=by
 intro p hp
 have hl:=h.len
 have r0:=w.wf.r0
 have r7:=w.wf.r7
 rw [zP,xB] at hp
 by_cases e:p < B.length
 ·rw [gtAl e,h.bit p e]
 obtain ⟨j,rfl⟩:∃j,p=B.length+j:=⟨p - B.length,by omega⟩
 rw [gtAp,gt_eq,kJ,if_pos (by omega)]
 show D.i 0=_
 have z:=w.z
 unfold bAt
 simp only [bitsN] at hl hb
 rw [show (40+(B.length+j)) / 8=s.1.length - 1 by omega]
 generalize (gt s.1 (s.1.length - 1) 0).int=x at z
 obtain ⟨r,hr⟩:∃r:Nat,s.2=r:=⟨s.2.toNat,by omega⟩
 rw [hr,zW] at z
 have hq:7 - (40+(B.length+j)) % 8 < r:=by omega
 generalize 7 - (40+(B.length+j)) % 8=q at hq
 have cr:r=1\/r=2\/r=3\/r=4\/r=5\/r=6\/r=7:=by omega
 have cq:q=0\/q=1\/q=2\/q=3\/q=4\/q=5\/q=6:=by omega
 have:x / 2 ^ q % 2=0:=by
  rcases cr with rfl |rfl |rfl |rfl |rfl |rfl |rfl<;>rcases cq with rfl |rfl |rfl |rfl |rfl |rfl |rfl<;>first |(exfalso;omega;done) |(simp only [pw] at z ⊢;omega)
 rw [this]
end HX

namespace HX
open Go Go.Proofs CX
end HX

namespace HX
open Go Go.Proofs CX
theorem pack_by {l:Rows} (h:EvOk' l):byL (packP l):=by
 obtain ⟨l1,l2,l3,l4⟩:=pack_len h
 intro i hi
 have hb:=(pk_step h l.length (zB _)).1.by_
 by_cases c:i < (stP l l.length).1.length
 ·rw [pack_gt c];exact hb i c
 have e:packP l=(stP l l.length).1++[[.i (sum0 (stP l l.length).1)],[.i (sum1 (stP l l.length).1)]]:=rfl
 have g:gt (packP l) i 0=if i - (stP l l.length).1.length=0 then D.i (sum0 (stP l l.length).1) else D.i (sum1 (stP l l.length).1):=by
  have:i - (stP l l.length).1.length=0\/i - (stP l l.length).1.length=1:=by omega
  rw [e,gt_eq,xK (by omega)]
  rcases this with h |h<;>rw [h]<;>rfl
 rw [g]
 split
 ·exact wrapU8_rng _
 exact wrapU8_rng _
end HX

namespace HX
open Go Go.Proofs CX
theorem or_i64x {a b:Int} (k x K:Nat) (hK:K=2 ^ k) (ha:0<=a) (hb:0<=b) (hs:a+b<=4611686018427387904) (e:a=((K * x:Nat):Int)) (hk:b < (K:Int)):Ar.std.bit .or .i64 a b=a+b:=by
 show IntKind.wrap .i64 ((BitVec.ofInt 64 a ||| BitVec.ofInt 64 b).toNat:Int)=_
 rw [BitVec.toNat_or,toNat_ofInt ha (by omega),toNat_ofInt hb (by omega)]
 have h1:a.toNat=2 ^ k * x:=by rw [<-hK];omega
 have h2:a.toNat ||| b.toNat=a.toNat+b.toNat:=by rw [h1];exact (Nat.two_pow_add_eq_or_of_lt (by rw [<-hK];omega) x).symm
 rw [h2,wrap64 (by omega) (by omega)]
 omega
theorem shl_i64 {a:Int} {k:Nat} (ha:0<=a) (hk:k<=24) (h:a<=255):Ar.std.shl .i64 a k=a * 2 ^ k:=by
 show IntKind.wrap .i64 (a * 2 ^ (Nat.min (k:Int).toNat 64))=_
 rw [show Nat.min (k:Int).toNat 64=k from qC (by omega)]
 have h1:(0:Int) < 2 ^ k:=kX (by omega)
 have h2:(2:Int) ^ k<=2 ^ 24:=by
  have:(2:Nat) ^ k<=2 ^ 24:=kS (by omega) hk
  have e:(2:Int) ^ k=((2 ^ k:Nat):Int):=by rw [kY];rfl
  rw [e]
  exact Int.ofNat_le.2 this
 have h3:a * 2 ^ k<=255 * 2 ^ 24:=Int.mul_le_mul h h2 (kP h1) (by omega)
 have h4:0<=a * 2 ^ k:=Int.mul_nonneg ha (kP h1)
 exact wrap64 (by omega) (by omega)
def cntS (a:Rows):Int:=(gt a 2 0).int * 65536+(gt a 3 0).int * 256+(gt a 4 0).int
theorem cnt_eq {a:Rows} (h2:0<=(gt a 2 0).int/\(gt a 2 0).int<=255) (h3:0<=(gt a 3 0).int/\(gt a 3 0).int<=255) (h4:0<=(gt a 4 0).int/\(gt a 4 0).int<=255):cntU a=cntS a:=by
 show Ar.std.bit .or .i64 (Ar.std.bit .or .i64 (Ar.std.shl .i64 (gt a 2 0).int (16:Nat)) (Ar.std.shl .i64 (gt a 3 0).int (8:Nat))) (gt a 4 0).int=_
 rw [cntS,shl_i64 h2.1 (by omega) h2.2,shl_i64 h3.1 (by omega) h3.2]
 generalize (gt a 2 0).int=x at h2 ⊢
 generalize (gt a 3 0).int=y at h3 ⊢
 generalize (gt a 4 0).int=z at h4 ⊢
 have p16:(2:Int) ^ 16=65536:=by decide
 have p8:(2:Int) ^ 8=256:=by decide
 rw [p16,p8]
 rw [show Ar.std.bit .or .i64 (x * 65536) (y * 256)=x * 65536+y * 256 from or_i64x 16 x.toNat 65536 rfl (by omega) (by omega) (by omega) (by omega) (by omega)]
 rw [or_i64x 8 (x * 256+y).toNat 256 rfl (by omega) (by omega) (by omega) (by omega) (by omega)]
theorem bit_doc {d:Rows} (hb:byL d) {p:Int} (h0:0<=p) (h1:p < 8 * d.length) :
  (0<=Int.tdiv p 8/\Int.tdiv p 8 < d.length)/\(0<=7 - Int.tmod p 8/\7 - Int.tmod p 8<=7)/\
  Int.tmod (Ar.std.shr .i64 (gt d (Int.tdiv p 8).toNat 0).int (7 - Int.tmod p 8)) 2=bAt d p.toNat:=by
 rw [xL h0,xR h0]
 have hx:=hb (p.toNat / 8) (by omega)
 refine ⟨by omega,by omega,?_⟩
 rw [show (p / 8).toNat=p.toNat / 8 by omega,shr_eq (by omega) (by omega)]
 show _=(gt d (p.toNat / 8) 0).int / 2 ^ (7 - p.toNat % 8) % 2
 rw [show (7 - p % 8:Int).toNat=7 - p.toNat % 8 by omega]
 exact xR (Int.ediv_nonneg hx.1 (kP (kX (by omega))))
theorem pack_cnt2 {l:Rows} (h:EvOk' l) (hl:l.length<=65536):cntU (packP l)=l.length:=by
 obtain ⟨l1,l2,l3,l4⟩:=pack_len h
 obtain ⟨a,b,c⟩:=pk_step h l.length (zB _)
 have hd:=c.hd (by simp [stP,pkS,hdrP,bitsN])
 have g:∀i,i < 5->gt (packP l) i 0=gt (hdrP l) i 0:=fun i hi=>by rw [pack_gt (by omega),hd i hi];rfl
 have p16:(2:Int) ^ (16:Int).toNat=65536:=by decide
 have p8:(2:Int) ^ (8:Int).toNat=256:=by decide
 have w:∀n:Int,Ar.std.wrap .u8 n=n % 256:=fun n=>by
  show IntKind.wrap .u8 n=_
  simp [IntKind.wrap,IntKind.bits,IntKind.signed]
 have e2:(gt (packP l) 2 0).int=(l.length:Int) / 65536 % 256:=by
  rw [g 2 (by omega)]
  show Ar.std.wrap .u8 (Ar.std.shr .i64 (l.length:Int) 16)=_
  rw [shr_eq (by omega) (by omega),p16,w]
 have e3:(gt (packP l) 3 0).int=(l.length:Int) / 256 % 256:=by
  rw [g 3 (by omega)]
  show Ar.std.wrap .u8 (Ar.std.shr .i64 (l.length:Int) 8)=_
  rw [shr_eq (by omega) (by omega),p8,w]
 have e4:(gt (packP l) 4 0).int=(l.length:Int) % 256:=by
  rw [g 4 (by omega)]
  show Ar.std.wrap .u8 (l.length:Int)=_
  rw [w]
 rw [cnt_eq (by rw [e2];omega) (by rw [e3];omega) (by rw [e4];omega),cntS,e2,e3,e4]
 omega
theorem pack_unp2 {l:Rows} (h:EvOk' l) (hc:Can l) (hl:l.length<=65536):unpG (dat (packP l)) (cntU (packP l)).toNat [] 0 (4,1) (4,1)=some l/\unpR (packP l)=(0,l):=by
 obtain ⟨l1,l2,l3,l4⟩:=pack_len h
 have u:=unp_ok h hc (pack_rd h) l.length 0 (by omega)
 have b0:(bitsN (stP l 0) - 40).toNat=0:=by simp [stP,pkS,hdrP,bitsN]
 rw [b0,List.take_zero] at u
 have u2:unpG (dat (packP l)) (cntU (packP l)).toNat [] 0 (4,1) (4,1)=some l:=by
  rw [pack_cnt2 h hl,zW]
  exact u
 refine ⟨u2,?_⟩
 rw [unpR,if_neg (by omega),if_neg (fun hn=>hn (pack_sum h).1),u2]
 simp only []
 rw [if_neg (by omega),if_pos (eqL_refl _)]
theorem str_inj {a b:Rows} (ca:CanB a) (cb:CanB b) (ba:byL a) (bb:byL b) (h:Ar.std.strD a=Ar.std.strD b):a=b:=by
 have h:a.map (fun x=>(x.getD 0 .nil).int.toNat)=b.map (fun x=>(x.getD 0 .nil).int.toNat):=h
 have hl:a.length=b.length:=by have:=congrArg List.length h;simpa using this
 refine List.ext_getElem hl fun i h1 h2=>?_
 rw [ca i h1,cb i h2]
 have e:=congrArg (fun l=>l[i]?) h
 simp only [kM,zE h1,zE h2,zX,zA] at e
 have x1:=ba i h1
 have x2:=bb i h2
 have g1:(gt a i 0).int=(a[i].getD 0 .nil).int:=by rw [gt_eq,zE h1];rfl
 have g2:(gt b i 0).int=(b[i].getD 0 .nil).int:=by rw [gt_eq,zE h2];rfl
 rw [g1] at x1 ⊢
 rw [g2] at x2 ⊢
 rw [show (a[i].getD 0 .nil).int=(b[i].getD 0 .nil).int by omega]
theorem pack_can (l:Rows):CanB (packP l):=by
 have e:packP l=((stP l l.length).1++[[.i (sum0 (stP l l.length).1)]])++[[.i (sum1 (stP l l.length).1)]]:=by
  rw [qN];rfl
 rw [e]
 exact can_app (can_app (can_pk l l.length) _) _
theorem acc_ok {a out:Rows} (ca:CanB a) (ba:byL a) (hc:Can out) (h0:chkE out=0) (hs:Ar.std.strD (pacL out)=Ar.std.strD a):unpR a=(0,out):=by
 obtain ⟨hl,ev⟩:=chk_ev h0
 rw [pacL,if_pos h0] at hs
 have e:=str_inj (pack_can out) ca (pack_by ev) ba hs
 rw [<-e]
 exact (pack_unp2 ev hc hl).2
theorem unpR_7 {a:Rows} (h7:7<=a.length) (hs:sumOk a) (h:∀l,unpG (dat a) (cntU a).toNat [] 0 (4,1) (4,1)=some l->¬(chkE l=0/\Ar.std.strD (pacL l)=Ar.std.strD a)):unpR a=(7,[]):=by
 by_cases h0:(unpR a).1=0
 ·obtain ⟨_,_,u,_,_⟩:=unpR_0 h0
  exact absurd (yes_same h0) (h _ u)
 rw [unpR,if_neg (by omega),if_neg (fun hn=>hn hs)] at h0 ⊢
 split at h0
 ·rfl
 rename_i x hu
 split at h0
 next h3=>rw [if_pos h3]
 rename_i h3
 rw [if_neg h3]
 split at h0
 ·exact absurd rfl h0
 rename_i h4;rw [if_neg h4]
end HX

namespace HX
open Go Go.Proofs CX
abbrev vZ30 (x:Int):=-9223372036854775808<=x/\x<=9223372036854775807
abbrev v30a (a0:Rows) (fn:Nat->List (List D)->Nat->Nat->D):=((D.int (gt a0 (Int.toNat ((a0.length:Int) - 2)) 0))=(D.int (fn 66 [[D.l (List.take (Int.toNat ((a0.length:Int) - 2)) (List.drop 0 a0))]] 0 0)))
abbrev v30b (a0:Rows):=(((Ar.std.shl IntKind.i64 (D.int (gt a0 (Int.toNat 2) 0)) 16)+(Ar.std.shl IntKind.i64 (D.int (gt a0 (Int.toNat 3) 0)) 8))+(D.int (gt a0 (Int.toNat 4) 0)))
abbrev v30c (a0:Rows) (fn:Nat->List (List D)->Nat->Nat->D):=((D.int (gt a0 (Int.toNat ((a0.length:Int) - 1)) 0))=(D.int (fn 66 [[D.l (List.take (Int.toNat ((a0.length:Int) - 2)) (List.drop 0 a0))]] 1 0)))
abbrev v30d (fn:Nat->List (List D)->Nat->Nat->D) (s0:Int) (q0:Rows) (q1:Int):=(fn 53 [[D.i (s0+(D.int (gt q0 (Int.toNat (q1 - 1)) 0)))],[D.i 0],[D.i 1073741824]] 0 0)
abbrev v30e (a0:Rows):=(¬(a0.length:Int) < 7)
abbrev v30f (fn:Nat->List (List D)->Nat->Nat->D) (q5:Int) (q6:Int):=(D.int (fn 89 [[D.i q5,D.i q6]] 0 0))
abbrev v30g (t1:Rows) (t2:Int):=(Int.tmod (Ar.std.shr IntKind.i64 (D.int (gt t1 (Int.toNat (Int.tdiv t2 8)) 0)) (7 - (Int.tmod t2 8))) 2)
abbrev v30h (q0:Rows) (q1:Int):=((D.int (gt q0 (Int.toNat (q1 - 1)) 1))+1)
abbrev v30i (fn:Nat->List (List D)->Nat->Nat->D) (q0:Rows):=((D.int (fn 28 [[D.l q0]] 1 0))=0)
abbrev v30j (t1:Rows) (t2:Int):=(¬(8 * (t1.length:Int))<=t2)
abbrev v30k (s0:Int) (q0:Rows) (q1:Int):=(s0+(D.int (gt q0 (Int.toNat (q1 - 1)) 0)))
abbrev v30l (fn:Nat->List (List D)->Nat->Nat->D) (e0:Int):=(fn 53 [[D.i e0],[D.i 0],[D.i 65535]] 0 0)
abbrev v30m (u2:Rows):=(8 * (u2.length:Int))
abbrev v30n (v2:Rows):=(8 * (v2.length:Int))
abbrev v30o (a0:Rows):=(List.take (Int.toNat ((a0.length:Int) - 2)) (List.drop 0 a0))
abbrev v30p (fn:Nat->List (List D)->Nat->Nat->D) (s0:Int):=(D.boo (fn 53 [[D.i s0],[D.i 0],[D.i 1073741824]] 0 0)=true)
structure V30c3 (u0:Int) (u1:Int) (u2:Rows) (u3:Int) (u4:Bool) (I1:Int->Rows->Int->Bool->Prop) (I3:Int->Int->Rows->Int->Bool->Prop) (m3:Int->Int->Rows->Int->Bool->Nat):Prop where
 g47:(u1 < 31)->vZ30 ((2 * u0))
 g48:(u1 < 31)->vZ30 ((v30m u2))
 g49:(u1 < 31)->((v30m u2)<=u3)->vZ30 (((2 * u0)+0))
 g50:(u1 < 31)->((v30m u2)<=u3)->vZ30 ((u1+1))
 n51:(u1 < 31)->((v30m u2)<=u3)->I3 ((2 * u0)+0) (u1+1) u2 u3 true/\m3 ((2 * u0)+0) (u1+1) u2 u3 true < m3 u0 u1 u2 u3 u4
 g52:(u1 < 31)->(¬(v30m u2)<=u3)->(8:Int)≠0
 g53:(u1 < 31)->(¬(v30m u2)<=u3)->vZ30 ((Int.tdiv u3 8))
 g54:(u1 < 31)->(¬(v30m u2)<=u3)->0<=(Int.tdiv u3 8)
 g55:(u1 < 31)->(¬(v30m u2)<=u3)->(Int.tdiv u3 8) < (u2.length:Int)
 g56:(u1 < 31)->(¬(v30m u2)<=u3)->(((Int.toNat (Int.tdiv u3 8):Nat):Int)) < (u2.length:Int)
 g57:(u1 < 31)->(¬(v30m u2)<=u3)->vZ30 ((D.int (gt u2 (Int.toNat (Int.tdiv u3 8)) 0)))
 g59:(u1 < 31)->(¬(v30m u2)<=u3)->vZ30 ((7 - (Int.tmod u3 8)))
 g60:(u1 < 31)->(¬(v30m u2)<=u3)->0<=(7 - (Int.tmod u3 8))
 g61:(u1 < 31)->(¬(v30m u2)<=u3)->(2:Int)≠0
 g62:(u1 < 31)->(¬(v30m u2)<=u3)->vZ30 ((u3+1))
 g63:(u1 < 31)->(¬(v30m u2)<=u3)->vZ30 (((2 * u0)+(Int.tmod (Ar.std.shr IntKind.i64 (D.int (gt u2 (Int.toNat (Int.tdiv u3 8)) 0)) (7 - (Int.tmod u3 8))) 2)))
 g64:(u1 < 31)->(¬(v30m u2)<=u3)->vZ30 ((u1+1))
 n65:(u1 < 31)->(¬(v30m u2)<=u3)->I3 ((2 * u0)+(Int.tmod (Ar.std.shr IntKind.i64 (D.int (gt u2 (Int.toNat (Int.tdiv u3 8)) 0)) (7 - (Int.tmod u3 8))) 2)) (u1+1) u2 (u3+1) u4/\m3 ((2 * u0)+(Int.tmod (Ar.std.shr IntKind.i64 (D.int (gt u2 (Int.toNat (Int.tdiv u3 8)) 0)) (7 - (Int.tmod u3 8))) 2)) (u1+1) u2 (u3+1) u4 < m3 u0 u1 u2 u3 u4
 n66:(¬u1 < 31)->I1 u0 u2 u3 u4
abbrev V30l3 (t1:Rows) (t2:Int) (I1:Int->Rows->Int->Bool->Prop):Prop:=∃(I3:Int->Int->Rows->Int->Bool->Prop) (m3:Int->Int->Rows->Int->Bool->Nat),I3 0 0 t1 t2 true/\∀u0 u1 u2 u3 u4,I3 u0 u1 u2 u3 u4->V30c3 u0 u1 u2 u3 u4 I1 I3 m3
structure V30c4 (fn:Nat->List (List D)->Nat->Nat->D) (q5:Int) (q6:Int) (t0:Int) (v0:Int) (v1:Int) (v2:Rows) (v3:Int) (v4:Bool) (I1:Int->Rows->Int->Bool->Prop) (I4:Int->Int->Rows->Int->Bool->Prop) (m4:Int->Int->Rows->Int->Bool->Nat):Prop where
 g70:(v1 < (v30f fn q5 q6))->vZ30 ((2 * v0))
 g71:(v1 < (v30f fn q5 q6))->vZ30 ((v30n v2))
 g72:(v1 < (v30f fn q5 q6))->((v30n v2)<=v3)->vZ30 (((2 * v0)+0))
 g73:(v1 < (v30f fn q5 q6))->((v30n v2)<=v3)->vZ30 ((v1+1))
 n74:(v1 < (v30f fn q5 q6))->((v30n v2)<=v3)->I4 ((2 * v0)+0) (v1+1) v2 v3 true/\m4 ((2 * v0)+0) (v1+1) v2 v3 true < m4 v0 v1 v2 v3 v4
 g75:(v1 < (v30f fn q5 q6))->(¬(v30n v2)<=v3)->(8:Int)≠0
 g76:(v1 < (v30f fn q5 q6))->(¬(v30n v2)<=v3)->vZ30 ((Int.tdiv v3 8))
 g77:(v1 < (v30f fn q5 q6))->(¬(v30n v2)<=v3)->0<=(Int.tdiv v3 8)
 g78:(v1 < (v30f fn q5 q6))->(¬(v30n v2)<=v3)->(Int.tdiv v3 8) < (v2.length:Int)
 g79:(v1 < (v30f fn q5 q6))->(¬(v30n v2)<=v3)->(((Int.toNat (Int.tdiv v3 8):Nat):Int)) < (v2.length:Int)
 g80:(v1 < (v30f fn q5 q6))->(¬(v30n v2)<=v3)->vZ30 ((D.int (gt v2 (Int.toNat (Int.tdiv v3 8)) 0)))
 g82:(v1 < (v30f fn q5 q6))->(¬(v30n v2)<=v3)->vZ30 ((7 - (Int.tmod v3 8)))
 g83:(v1 < (v30f fn q5 q6))->(¬(v30n v2)<=v3)->0<=(7 - (Int.tmod v3 8))
 g84:(v1 < (v30f fn q5 q6))->(¬(v30n v2)<=v3)->(2:Int)≠0
 g85:(v1 < (v30f fn q5 q6))->(¬(v30n v2)<=v3)->vZ30 ((v3+1))
 g86:(v1 < (v30f fn q5 q6))->(¬(v30n v2)<=v3)->vZ30 (((2 * v0)+(Int.tmod (Ar.std.shr IntKind.i64 (D.int (gt v2 (Int.toNat (Int.tdiv v3 8)) 0)) (7 - (Int.tmod v3 8))) 2)))
 g87:(v1 < (v30f fn q5 q6))->(¬(v30n v2)<=v3)->vZ30 ((v1+1))
 n88:(v1 < (v30f fn q5 q6))->(¬(v30n v2)<=v3)->I4 ((2 * v0)+(Int.tmod (Ar.std.shr IntKind.i64 (D.int (gt v2 (Int.toNat (Int.tdiv v3 8)) 0)) (7 - (Int.tmod v3 8))) 2)) (v1+1) v2 (v3+1) v4/\m4 ((2 * v0)+(Int.tmod (Ar.std.shr IntKind.i64 (D.int (gt v2 (Int.toNat (Int.tdiv v3 8)) 0)) (7 - (Int.tmod v3 8))) 2)) (v1+1) v2 (v3+1) v4 < m4 v0 v1 v2 v3 v4
 g89:(¬v1 < (v30f fn q5 q6))->vZ30 (((Ar.std.shl IntKind.i64 t0 (v30f fn q5 q6))+v0))
 n90:(¬v1 < (v30f fn q5 q6))->I1 ((Ar.std.shl IntKind.i64 t0 (v30f fn q5 q6))+v0) v2 v3 v4
abbrev V30l4 (fn:Nat->List (List D)->Nat->Nat->D) (q5:Int) (q6:Int) (t0:Int) (t1:Rows) (t2:Int) (I1:Int->Rows->Int->Bool->Prop):Prop:=∃(I4:Int->Int->Rows->Int->Bool->Prop) (m4:Int->Int->Rows->Int->Bool->Nat),I4 0 0 t1 t2 true/\∀v0 v1 v2 v3 v4,I4 v0 v1 v2 v3 v4->V30c4 fn q5 q6 t0 v0 v1 v2 v3 v4 I1 I4 m4
abbrev V30l5 (t1:Rows) (t2:Int) (t3:Bool) (I1:Int->Rows->Int->Bool->Prop):Prop:=∃(I5:Int->Int->Rows->Int->Bool->Prop) (m5:Int->Int->Rows->Int->Bool->Nat),I5 0 0 t1 (t2+1) t3/\∀w0 w1 w2 w3 w4,I5 w0 w1 w2 w3 w4->V30c3 w0 w1 w2 w3 w4 I1 I5 m5
abbrev V30l6 (fn:Nat->List (List D)->Nat->Nat->D) (q5:Int) (q6:Int) (t0:Int) (t1:Rows) (t2:Int) (t3:Bool) (I1:Int->Rows->Int->Bool->Prop):Prop:=∃(I6:Int->Int->Rows->Int->Bool->Prop) (m6:Int->Int->Rows->Int->Bool->Nat),I6 0 0 t1 (t2+1) t3/\∀y0 y1 y2 y3 y4,I6 y0 y1 y2 y3 y4->V30c4 fn q5 q6 t0 y0 y1 y2 y3 y4 I1 I6 m6
abbrev V30l7 (t1:Rows) (t2:Int) (t3:Bool) (I1:Int->Rows->Int->Bool->Prop):Prop:=∃(I7:Int->Int->Rows->Int->Bool->Prop) (m7:Int->Int->Rows->Int->Bool->Nat),I7 0 0 t1 t2 t3/\∀z0 z1 z2 z3 z4,I7 z0 z1 z2 z3 z4->V30c3 z0 z1 z2 z3 z4 I1 I7 m7
abbrev V30l8 (fn:Nat->List (List D)->Nat->Nat->D) (q5:Int) (q6:Int) (t0:Int) (t1:Rows) (t2:Int) (t3:Bool) (I1:Int->Rows->Int->Bool->Prop):Prop:=∃(I8:Int->Int->Rows->Int->Bool->Prop) (m8:Int->Int->Rows->Int->Bool->Nat),I8 0 0 t1 t2 t3/\∀o0 o1 o2 o3 o4,I8 o0 o1 o2 o3 o4->V30c4 fn q5 q6 t0 o0 o1 o2 o3 o4 I1 I8 m8
structure V30c2 (pre:Nat->List (List D)->Prop) (fn:Nat->List (List D)->Nat->Nat->D) (q5:Int) (q6:Int) (t0:Int) (t1:Rows) (t2:Int) (t3:Bool) (I1:Int->Rows->Int->Bool->Prop) (I2:Int->Rows->Int->Bool->Prop) (m2:Int->Rows->Int->Bool->Nat):Prop where
 g43:(t0 < 24)->vZ30 ((8 * (t1.length:Int)))
 g67:(t0 < 24)->((8 * (t1.length:Int))<=t2)->(¬t0=24)->pre 89 [[D.i q5,D.i q6]]
 g68:(t0 < 24)->((8 * (t1.length:Int))<=t2)->(¬t0=24)->0<=(v30f fn q5 q6)
 g91:(t0 < 24)->(v30j t1 t2)->(8:Int)≠0
 g92:(t0 < 24)->(v30j t1 t2)->vZ30 ((Int.tdiv t2 8))
 g93:(t0 < 24)->(v30j t1 t2)->0<=(Int.tdiv t2 8)
 g94:(t0 < 24)->(v30j t1 t2)->(Int.tdiv t2 8) < (t1.length:Int)
 g95:(t0 < 24)->(v30j t1 t2)->(((Int.toNat (Int.tdiv t2 8):Nat):Int)) < (t1.length:Int)
 g96:(t0 < 24)->(v30j t1 t2)->vZ30 ((D.int (gt t1 (Int.toNat (Int.tdiv t2 8)) 0)))
 g98:(t0 < 24)->(v30j t1 t2)->vZ30 ((7 - (Int.tmod t2 8)))
 g99:(t0 < 24)->(v30j t1 t2)->0<=(7 - (Int.tmod t2 8))
 g100:(t0 < 24)->(v30j t1 t2)->(2:Int)≠0
 g101:(t0 < 24)->(v30j t1 t2)->vZ30 ((t2+1))
 g102:(t0 < 24)->(v30j t1 t2)->((v30g t1 t2)=1)->vZ30 ((t0+1))
 n103:(t0 < 24)->(v30j t1 t2)->((v30g t1 t2)=1)->I2 (t0+1) t1 (t2+1) t3/\m2 (t0+1) t1 (t2+1) t3 < m2 t0 t1 t2 t3
 g125:(t0 < 24)->(v30j t1 t2)->(¬(v30g t1 t2)=1)->(¬t0=24)->pre 89 [[D.i q5,D.i q6]]
 g126:(t0 < 24)->(v30j t1 t2)->(¬(v30g t1 t2)=1)->(¬t0=24)->0<=(v30f fn q5 q6)
 g170:(¬t0 < 24)->(¬t0=24)->pre 89 [[D.i q5,D.i q6]]
 g171:(¬t0 < 24)->(¬t0=24)->0<=(v30f fn q5 q6)
 l3:(t0 < 24)->((8 * (t1.length:Int))<=t2)->(t0=24)->V30l3 t1 t2 I1
 l4:(t0 < 24)->((8 * (t1.length:Int))<=t2)->(¬t0=24)->V30l4 fn q5 q6 t0 t1 t2 I1
 l5:(t0 < 24)->(v30j t1 t2)->(¬(v30g t1 t2)=1)->(t0=24)->V30l5 t1 t2 t3 I1
 l6:(t0 < 24)->(v30j t1 t2)->(¬(v30g t1 t2)=1)->(¬t0=24)->V30l6 fn q5 q6 t0 t1 t2 t3 I1
 l7:(¬t0 < 24)->(t0=24)->V30l7 t1 t2 t3 I1
 l8:(¬t0 < 24)->(¬t0=24)->V30l8 fn q5 q6 t0 t1 t2 t3 I1
abbrev V30l2 (pre:Nat->List (List D)->Prop) (fn:Nat->List (List D)->Nat->Nat->D) (q2:Rows) (q3:Int) (q4:Bool) (q5:Int) (q6:Int) (I1:Int->Rows->Int->Bool->Prop):Prop:=∃(I2:Int->Rows->Int->Bool->Prop) (m2:Int->Rows->Int->Bool->Nat),I2 0 q2 q3 q4/\∀t0 t1 t2 t3,I2 t0 t1 t2 t3->V30c2 pre fn q5 q6 t0 t1 t2 t3 I1 I2 m2
structure V30r1 (pre:Nat->List (List D)->Prop) (fn:Nat->List (List D)->Nat->Nat->D) (q2:Rows) (q3:Int) (q4:Bool) (q5:Int) (q6:Int) (I1:Int->Rows->Int->Bool->Prop):Prop where
 l2:V30l2 pre fn q2 q3 q4 q5 q6 I1
structure V30c9 (pre:Nat->List (List D)->Prop) (fn:Nat->List (List D)->Nat->Nat->D) (R:Nat->Nat->D) (q0:Rows) (q1:Int) (q2:Rows) (q3:Int) (q4:Bool) (q5:Int) (q6:Int) (q7:Int) (q8:Int) (s0:Int) (e0:Int) (e1:Rows) (e2:Int) (e3:Bool) (I0:Rows->Int->Rows->Int->Bool->Int->Int->Int->Int->Prop) (m0:Rows->Int->Rows->Int->Bool->Int->Int->Int->Int->Nat):Prop where
 g348:pre 65 [[D.i q7,D.i q8],[D.i e0]]
 g349:(0 < q1)->vZ30 ((q1 - 1))
 g350:(0 < q1)->0<=(q1 - 1)
 g351:(0 < q1)->(q1 - 1) < (q0.length:Int)
 g352:(0 < q1)->(((Int.toNat (q1 - 1):Nat):Int)) < (q0.length:Int)
 g354:(0 < q1)->vZ30 ((v30k s0 q0 q1))
 g355:(0 < q1)->(s0=0)->vZ30 ((q1 - 1))
 g356:(0 < q1)->(s0=0)->0<=(q1 - 1)
 g357:(0 < q1)->(s0=0)->(q1 - 1) < (q0.length:Int)
 g358:(0 < q1)->(s0=0)->(((Int.toNat (q1 - 1):Nat):Int)) < (q0.length:Int)
 g360:(0 < q1)->(s0=0)->vZ30 ((v30h q0 q1))
 g361:(0 < q1)->(s0=0)->vZ30 ((e0+(v30h q0 q1)))
 g362:(0 < q1)->(s0=0)->pre 53 [[D.i (v30k s0 q0 q1)],[D.i 0],[D.i 1073741824]]
 g363:(0 < q1)->(s0=0)->(D.boo (v30d fn s0 q0 q1)=false)->R 0 0=D.l []
 g364:(0 < q1)->(s0=0)->(D.boo (v30d fn s0 q0 q1)=false)->R 1 0=D.i 7
 g365:(0 < q1)->(s0=0)->(D.boo (v30d fn s0 q0 q1)=true)->pre 53 [[D.i (e0+(v30h q0 q1))],[D.i 0],[D.i 65535]]
 g366:(0 < q1)->(s0=0)->(D.boo (v30d fn s0 q0 q1)=true)->(D.boo (fn 53 [[D.i (e0+(v30h q0 q1))],[D.i 0],[D.i 65535]] 0 0)=false)->R 0 0=D.l []
 g367:(0 < q1)->(s0=0)->(D.boo (v30d fn s0 q0 q1)=true)->(D.boo (fn 53 [[D.i (e0+(v30h q0 q1))],[D.i 0],[D.i 65535]] 0 0)=false)->R 1 0=D.i 7
 g368:(0 < q1)->(s0=0)->(D.boo (v30d fn s0 q0 q1)=true)->(D.boo (fn 53 [[D.i (e0+(v30h q0 q1))],[D.i 0],[D.i 65535]] 0 0)=true)->(q0.length+(List.length ([[D.i (v30k s0 q0 q1),D.i (e0+(v30h q0 q1))]]:Rows))) * 16<=4294967296/\(q0.length+(List.length ([[D.i (v30k s0 q0 q1),D.i (e0+(v30h q0 q1))]]:Rows)))<=4294967296
 g369:(0 < q1)->(s0=0)->(D.boo (v30d fn s0 q0 q1)=true)->(D.boo (fn 53 [[D.i (e0+(v30h q0 q1))],[D.i 0],[D.i 65535]] 0 0)=true)->vZ30 ((q1+1))
 n370:(0 < q1)->(s0=0)->(D.boo (v30d fn s0 q0 q1)=true)->(D.boo (fn 53 [[D.i (e0+(v30h q0 q1))],[D.i 0],[D.i 65535]] 0 0)=true)->I0 (q0++[[D.i (v30k s0 q0 q1),D.i (e0+(v30h q0 q1))]]) (q1+1) e1 e2 e3 (D.int (fn 65 [[D.i q5,D.i q6],[D.i s0]] 0 0)) (D.int (fn 65 [[D.i q5,D.i q6],[D.i s0]] 0 1)) (D.int (fn 65 [[D.i q7,D.i q8],[D.i e0]] 0 0)) (D.int (fn 65 [[D.i q7,D.i q8],[D.i e0]] 0 1))/\m0 (q0++[[D.i (v30k s0 q0 q1),D.i (e0+(v30h q0 q1))]]) (q1+1) e1 e2 e3 (D.int (fn 65 [[D.i q5,D.i q6],[D.i s0]] 0 0)) (D.int (fn 65 [[D.i q5,D.i q6],[D.i s0]] 0 1)) (D.int (fn 65 [[D.i q7,D.i q8],[D.i e0]] 0 0)) (D.int (fn 65 [[D.i q7,D.i q8],[D.i e0]] 0 1)) < m0 q0 q1 q2 q3 q4 q5 q6 q7 q8
 g371:(0 < q1)->(¬s0=0)->pre 53 [[D.i (v30k s0 q0 q1)],[D.i 0],[D.i 1073741824]]
 g372:(0 < q1)->(¬s0=0)->(D.boo (v30d fn s0 q0 q1)=false)->R 0 0=D.l []
 g373:(0 < q1)->(¬s0=0)->(D.boo (v30d fn s0 q0 q1)=false)->R 1 0=D.i 7
 g374:(0 < q1)->(¬s0=0)->(D.boo (v30d fn s0 q0 q1)=true)->pre 53 [[D.i e0],[D.i 0],[D.i 65535]]
 g375:(0 < q1)->(¬s0=0)->(D.boo (v30d fn s0 q0 q1)=true)->(D.boo (v30l fn e0)=false)->R 0 0=D.l []
 g376:(0 < q1)->(¬s0=0)->(D.boo (v30d fn s0 q0 q1)=true)->(D.boo (v30l fn e0)=false)->R 1 0=D.i 7
 g377:(0 < q1)->(¬s0=0)->(D.boo (v30d fn s0 q0 q1)=true)->(D.boo (v30l fn e0)=true)->(q0.length+(List.length ([[D.i (v30k s0 q0 q1),D.i e0]]:Rows))) * 16<=4294967296/\(q0.length+(List.length ([[D.i (v30k s0 q0 q1),D.i e0]]:Rows)))<=4294967296
 g378:(0 < q1)->(¬s0=0)->(D.boo (v30d fn s0 q0 q1)=true)->(D.boo (v30l fn e0)=true)->vZ30 ((q1+1))
 n379:(0 < q1)->(¬s0=0)->(D.boo (v30d fn s0 q0 q1)=true)->(D.boo (v30l fn e0)=true)->I0 (q0++[[D.i (v30k s0 q0 q1),D.i e0]]) (q1+1) e1 e2 e3 (D.int (fn 65 [[D.i q5,D.i q6],[D.i s0]] 0 0)) (D.int (fn 65 [[D.i q5,D.i q6],[D.i s0]] 0 1)) (D.int (fn 65 [[D.i q7,D.i q8],[D.i e0]] 0 0)) (D.int (fn 65 [[D.i q7,D.i q8],[D.i e0]] 0 1))/\m0 (q0++[[D.i (v30k s0 q0 q1),D.i e0]]) (q1+1) e1 e2 e3 (D.int (fn 65 [[D.i q5,D.i q6],[D.i s0]] 0 0)) (D.int (fn 65 [[D.i q5,D.i q6],[D.i s0]] 0 1)) (D.int (fn 65 [[D.i q7,D.i q8],[D.i e0]] 0 0)) (D.int (fn 65 [[D.i q7,D.i q8],[D.i e0]] 0 1)) < m0 q0 q1 q2 q3 q4 q5 q6 q7 q8
 g380:(¬0 < q1)->pre 53 [[D.i s0],[D.i 0],[D.i 1073741824]]
 g381:(¬0 < q1)->(D.boo (fn 53 [[D.i s0],[D.i 0],[D.i 1073741824]] 0 0)=false)->R 0 0=D.l []
 g382:(¬0 < q1)->(D.boo (fn 53 [[D.i s0],[D.i 0],[D.i 1073741824]] 0 0)=false)->R 1 0=D.i 7
 g383:(¬0 < q1)->(v30p fn s0)->pre 53 [[D.i e0],[D.i 0],[D.i 65535]]
 g384:(¬0 < q1)->(v30p fn s0)->(D.boo (v30l fn e0)=false)->R 0 0=D.l []
 g385:(¬0 < q1)->(v30p fn s0)->(D.boo (v30l fn e0)=false)->R 1 0=D.i 7
 g386:(¬0 < q1)->(v30p fn s0)->(D.boo (v30l fn e0)=true)->(q0.length+(List.length ([[D.i s0,D.i e0]]:Rows))) * 16<=4294967296/\(q0.length+(List.length ([[D.i s0,D.i e0]]:Rows)))<=4294967296
 g387:(¬0 < q1)->(v30p fn s0)->(D.boo (v30l fn e0)=true)->vZ30 ((q1+1))
 n388:(¬0 < q1)->(v30p fn s0)->(D.boo (v30l fn e0)=true)->I0 (q0++[[D.i s0,D.i e0]]) (q1+1) e1 e2 e3 (D.int (fn 65 [[D.i q5,D.i q6],[D.i s0]] 0 0)) (D.int (fn 65 [[D.i q5,D.i q6],[D.i s0]] 0 1)) (D.int (fn 65 [[D.i q7,D.i q8],[D.i e0]] 0 0)) (D.int (fn 65 [[D.i q7,D.i q8],[D.i e0]] 0 1))/\m0 (q0++[[D.i s0,D.i e0]]) (q1+1) e1 e2 e3 (D.int (fn 65 [[D.i q5,D.i q6],[D.i s0]] 0 0)) (D.int (fn 65 [[D.i q5,D.i q6],[D.i s0]] 0 1)) (D.int (fn 65 [[D.i q7,D.i q8],[D.i e0]] 0 0)) (D.int (fn 65 [[D.i q7,D.i q8],[D.i e0]] 0 1)) < m0 q0 q1 q2 q3 q4 q5 q6 q7 q8
abbrev V30j9 (pre:Nat->List (List D)->Prop) (fn:Nat->List (List D)->Nat->Nat->D) (R:Nat->Nat->D) (q0:Rows) (q1:Int) (q2:Rows) (q3:Int) (q4:Bool) (q5:Int) (q6:Int) (q7:Int) (q8:Int) (s0:Int) (s1:Rows) (s2:Int) (s3:Bool) (I0:Rows->Int->Rows->Int->Bool->Int->Int->Int->Int->Prop) (m0:Rows->Int->Rows->Int->Bool->Int->Int->Int->Int->Nat):Prop:=∃(I9:Int->Rows->Int->Bool->Prop),V30r1 pre fn s1 s2 s3 q7 q8 I9/\∀e0 e1 e2 e3,I9 e0 e1 e2 e3->V30c9 pre fn R q0 q1 q2 q3 q4 q5 q6 q7 q8 s0 e0 e1 e2 e3 I0 m0
structure V30c1 (pre:Nat->List (List D)->Prop) (fn:Nat->List (List D)->Nat->Nat->D) (R:Nat->Nat->D) (q0:Rows) (q1:Int) (q2:Rows) (q3:Int) (q4:Bool) (q5:Int) (q6:Int) (q7:Int) (q8:Int) (s0:Int) (s1:Rows) (s2:Int) (s3:Bool) (I0:Rows->Int->Rows->Int->Bool->Int->Int->Int->Int->Prop) (m0:Rows->Int->Rows->Int->Bool->Int->Int->Int->Int->Nat):Prop where
 g194:pre 65 [[D.i q5,D.i q6],[D.i s0]]
 l9:V30j9 pre fn R q0 q1 q2 q3 q4 q5 q6 q7 q8 s0 s1 s2 s3 I0 m0
abbrev V30j1 (pre:Nat->List (List D)->Prop) (fn:Nat->List (List D)->Nat->Nat->D) (R:Nat->Nat->D) (q0:Rows) (q1:Int) (q2:Rows) (q3:Int) (q4:Bool) (q5:Int) (q6:Int) (q7:Int) (q8:Int) (I0:Rows->Int->Rows->Int->Bool->Int->Int->Int->Int->Prop) (m0:Rows->Int->Rows->Int->Bool->Int->Int->Int->Int->Nat):Prop:=∃(I1:Int->Rows->Int->Bool->Prop),V30r1 pre fn q2 q3 q4 q5 q6 I1/\∀s0 s1 s2 s3,I1 s0 s1 s2 s3->V30c1 pre fn R q0 q1 q2 q3 q4 q5 q6 q7 q8 s0 s1 s2 s3 I0 m0
structure V30c0 (pre:Nat->List (List D)->Prop) (fn:Nat->List (List D)->Nat->Nat->D) (a0:Rows) (R:Nat->Nat->D) (q0:Rows) (q1:Int) (q2:Rows) (q3:Int) (q4:Bool) (q5:Int) (q6:Int) (q7:Int) (q8:Int) (I0:Rows->Int->Rows->Int->Bool->Int->Int->Int->Int->Prop) (m0:Rows->Int->Rows->Int->Bool->Int->Int->Int->Int->Nat):Prop where
 g389:(q1 < (v30b a0))->(q4=true)->pre 28 [[D.l q0]]
 g390:(q1 < (v30b a0))->(q4=true)->(¬(D.int (fn 28 [[D.l q0]] 1 0))=0)->R 0 0=D.l []
 g391:(q1 < (v30b a0))->(q4=true)->(¬(D.int (fn 28 [[D.l q0]] 1 0))=0)->R 1 0=D.i 7
 g392:(q1 < (v30b a0))->(q4=true)->(v30i fn q0)->(q4=true)->R 0 0=D.l []
 g393:(q1 < (v30b a0))->(q4=true)->(v30i fn q0)->(q4=true)->R 1 0=D.i 7
 g394:(q1 < (v30b a0))->(q4=true)->(v30i fn q0)->(q4=false)->Ar.std.pU8 (D.rows (fn 28 [[D.l q0]] 0 0))
 g395:(q1 < (v30b a0))->(q4=true)->(v30i fn q0)->(q4=false)->Ar.std.pU8 a0
 g396:(q1 < (v30b a0))->(q4=true)->(v30i fn q0)->(q4=false)->(¬(Ar.std.strD (D.rows (fn 28 [[D.l q0]] 0 0)))=(Ar.std.strD a0))->R 0 0=D.l []
 g397:(q1 < (v30b a0))->(q4=true)->(v30i fn q0)->(q4=false)->(¬(Ar.std.strD (D.rows (fn 28 [[D.l q0]] 0 0)))=(Ar.std.strD a0))->R 1 0=D.i 7
 g398:(q1 < (v30b a0))->(q4=true)->(v30i fn q0)->(q4=false)->((Ar.std.strD (D.rows (fn 28 [[D.l q0]] 0 0)))=(Ar.std.strD a0))->R 0 0=D.l q0
 g399:(q1 < (v30b a0))->(q4=true)->(v30i fn q0)->(q4=false)->((Ar.std.strD (D.rows (fn 28 [[D.l q0]] 0 0)))=(Ar.std.strD a0))->R 1 0=D.i 0
 g400:(¬q1 < (v30b a0))->pre 28 [[D.l q0]]
 g401:(¬q1 < (v30b a0))->(¬(D.int (fn 28 [[D.l q0]] 1 0))=0)->R 0 0=D.l []
 g402:(¬q1 < (v30b a0))->(¬(D.int (fn 28 [[D.l q0]] 1 0))=0)->R 1 0=D.i 7
 g403:(¬q1 < (v30b a0))->(v30i fn q0)->(q4=true)->R 0 0=D.l []
 g404:(¬q1 < (v30b a0))->(v30i fn q0)->(q4=true)->R 1 0=D.i 7
 g405:(¬q1 < (v30b a0))->(v30i fn q0)->(q4=false)->Ar.std.pU8 (D.rows (fn 28 [[D.l q0]] 0 0))
 g406:(¬q1 < (v30b a0))->(v30i fn q0)->(q4=false)->Ar.std.pU8 a0
 g407:(¬q1 < (v30b a0))->(v30i fn q0)->(q4=false)->(¬(Ar.std.strD (D.rows (fn 28 [[D.l q0]] 0 0)))=(Ar.std.strD a0))->R 0 0=D.l []
 g408:(¬q1 < (v30b a0))->(v30i fn q0)->(q4=false)->(¬(Ar.std.strD (D.rows (fn 28 [[D.l q0]] 0 0)))=(Ar.std.strD a0))->R 1 0=D.i 7
 g409:(¬q1 < (v30b a0))->(v30i fn q0)->(q4=false)->((Ar.std.strD (D.rows (fn 28 [[D.l q0]] 0 0)))=(Ar.std.strD a0))->R 0 0=D.l q0
 g410:(¬q1 < (v30b a0))->(v30i fn q0)->(q4=false)->((Ar.std.strD (D.rows (fn 28 [[D.l q0]] 0 0)))=(Ar.std.strD a0))->R 1 0=D.i 0
 l1:(q1 < (v30b a0))->(q4=false)->V30j1 pre fn R q0 q1 q2 q3 q4 q5 q6 q7 q8 I0 m0
abbrev V30l0 (pre:Nat->List (List D)->Prop) (fn:Nat->List (List D)->Nat->Nat->D) (a0:Rows) (R:Nat->Nat->D):Prop:=∃(I0:Rows->Int->Rows->Int->Bool->Int->Int->Int->Int->Prop) (m0:Rows->Int->Rows->Int->Bool->Int->Int->Int->Int->Nat),I0 [] 0 (List.take ((Int.toNat ((a0.length:Int) - 2)) - (Int.toNat 5)) (List.drop (Int.toNat 5) a0)) 0 false 4 1 4 1/\∀q0 q1 q2 q3 q4 q5 q6 q7 q8,I0 q0 q1 q2 q3 q4 q5 q6 q7 q8->V30c0 pre fn a0 R q0 q1 q2 q3 q4 q5 q6 q7 q8 I0 m0
structure V30 (pre:Nat->List (List D)->Prop) (fn:Nat->List (List D)->Nat->Nat->D) (a0:Rows) (R:Nat->Nat->D):Prop where
 g0:((a0.length:Int) < 7)->R 0 0=D.l []
 g1:((a0.length:Int) < 7)->R 1 0=D.i 19
 g2:(v30e a0)->vZ30 (((a0.length:Int) - 2))
 g3:(v30e a0)->0<=((a0.length:Int) - 2)
 g4:(v30e a0)->((a0.length:Int) - 2)<=(a0.length:Int)
 g5:(v30e a0)->pre 66 [[D.l (v30o a0)]]
 g8:(v30e a0)->((a0.length:Int) - 2) < (a0.length:Int)
 g9:(v30e a0)->(((Int.toNat ((a0.length:Int) - 2):Nat):Int)) < (a0.length:Int)
 g10:(v30e a0)->vZ30 ((D.int (gt a0 (Int.toNat ((a0.length:Int) - 2)) 0)))
 g11:(v30e a0)->(¬(D.int (gt a0 (Int.toNat ((a0.length:Int) - 2)) 0))=(D.int (fn 66 [[D.l (v30o a0)]] 0 0)))->R 0 0=D.l []
 g12:(v30e a0)->(¬(D.int (gt a0 (Int.toNat ((a0.length:Int) - 2)) 0))=(D.int (fn 66 [[D.l (v30o a0)]] 0 0)))->R 1 0=D.i 18
 g13:(v30e a0)->(v30a a0 fn)->vZ30 (((a0.length:Int) - 1))
 g14:(v30e a0)->(v30a a0 fn)->0<=((a0.length:Int) - 1)
 g15:(v30e a0)->(v30a a0 fn)->((a0.length:Int) - 1) < (a0.length:Int)
 g16:(v30e a0)->(v30a a0 fn)->(((Int.toNat ((a0.length:Int) - 1):Nat):Int)) < (a0.length:Int)
 g17:(v30e a0)->(v30a a0 fn)->vZ30 ((D.int (gt a0 (Int.toNat ((a0.length:Int) - 1)) 0)))
 g18:(v30e a0)->(v30a a0 fn)->(¬(D.int (gt a0 (Int.toNat ((a0.length:Int) - 1)) 0))=(D.int (fn 66 [[D.l (v30o a0)]] 1 0)))->R 0 0=D.l []
 g19:(v30e a0)->(v30a a0 fn)->(¬(D.int (gt a0 (Int.toNat ((a0.length:Int) - 1)) 0))=(D.int (fn 66 [[D.l (v30o a0)]] 1 0)))->R 1 0=D.i 18
 g20:(v30e a0)->(v30a a0 fn)->(v30c a0 fn)->(0:Int)<=2
 g21:(v30e a0)->(v30a a0 fn)->(v30c a0 fn)->2 < (a0.length:Int)
 g22:(v30e a0)->(v30a a0 fn)->(v30c a0 fn)->(((Int.toNat 2:Nat):Int)) < (a0.length:Int)
 g23:(v30e a0)->(v30a a0 fn)->(v30c a0 fn)->vZ30 ((D.int (gt a0 (Int.toNat 2) 0)))
 g24:(v30e a0)->(v30a a0 fn)->(v30c a0 fn)->(0:Int)<=16
 g25:(v30e a0)->(v30a a0 fn)->(v30c a0 fn)->(0:Int)<=3
 g26:(v30e a0)->(v30a a0 fn)->(v30c a0 fn)->3 < (a0.length:Int)
 g27:(v30e a0)->(v30a a0 fn)->(v30c a0 fn)->(((Int.toNat 3:Nat):Int)) < (a0.length:Int)
 g28:(v30e a0)->(v30a a0 fn)->(v30c a0 fn)->vZ30 ((D.int (gt a0 (Int.toNat 3) 0)))
 g29:(v30e a0)->(v30a a0 fn)->(v30c a0 fn)->(0:Int)<=8
 g30:(v30e a0)->(v30a a0 fn)->(v30c a0 fn)->vZ30 (((Ar.std.shl IntKind.i64 (D.int (gt a0 (Int.toNat 2) 0)) 16)+(Ar.std.shl IntKind.i64 (D.int (gt a0 (Int.toNat 3) 0)) 8)))
 g31:(v30e a0)->(v30a a0 fn)->(v30c a0 fn)->(0:Int)<=4
 g32:(v30e a0)->(v30a a0 fn)->(v30c a0 fn)->4 < (a0.length:Int)
 g33:(v30e a0)->(v30a a0 fn)->(v30c a0 fn)->(((Int.toNat 4:Nat):Int)) < (a0.length:Int)
 g34:(v30e a0)->(v30a a0 fn)->(v30c a0 fn)->vZ30 ((D.int (gt a0 (Int.toNat 4) 0)))
 g35:(v30e a0)->(v30a a0 fn)->(v30c a0 fn)->vZ30 ((v30b a0))
 g36:(v30e a0)->(v30a a0 fn)->(v30c a0 fn)->vZ30 (((a0.length:Int) - 2))
 g37:(v30e a0)->(v30a a0 fn)->(v30c a0 fn)->(0:Int)<=5
 g38:(v30e a0)->(v30a a0 fn)->(v30c a0 fn)->5<=((a0.length:Int) - 2)
 g39:(v30e a0)->(v30a a0 fn)->(v30c a0 fn)->((a0.length:Int) - 2)<=(a0.length:Int)
 l0:(v30e a0)->(v30a a0 fn)->(v30c a0 fn)->V30l0 pre fn a0 R
end HX

namespace HX
open Go Go.Proofs CX
structure NI (d:Rows) (N:Nat) (p:Int) (b0:Bool) (v t:Int) (rows:Rows) (at_:Int) (b:Bool):Prop where
 rw_:rows=d
 t0:0<=t/\t<=N
 v0:0<=v/\v < 2 ^ t.toNat
 at0:p<=at_/\at_<=8 * d.length
 y:b0=false->b=false->at_=p+t/\tkN d (N - t.toNat) v at_.toNat=tkN d N 0 p.toNat
 no:b0=false->b=true->8 * (d.length:Int) < p+N
 keep:b0=true->b=true
structure NRes (d:Rows) (N:Nat) (p:Int) (b0:Bool) (v at_:Int) (b:Bool):Prop where
 v0:0<=v/\v<=2147483647
 at0:p<=at_/\at_<=8 * d.length
 y:b0=false->b=false->v=tkN d N 0 p.toNat/\at_=p+N
 no:b0=false->b=true->8 * (d.length:Int) < p+N
 keep:b0=true->b=true
theorem two_le {N:Nat} (hN:N<=31) {t v:Int} (h0:0<=t) (h1:t<=N) (hv:v < 2 ^ t.toNat):v<=2147483647:=by
 have:(2:Nat) ^ t.toNat<=2 ^ 31:=kS (by omega) (by omega)
 have e:(2:Int) ^ t.toNat=((2 ^ t.toNat:Nat):Int):=by rw [kY];rfl
 omega
theorem NI.start {d:Rows} {N:Nat} {p:Int} {b:Bool} (hp:0<=p/\p<=8 * d.length):NI d N p b 0 0 d p b:=
 ⟨rfl,by omega,by simp,⟨Int.le_refl _,hp.2⟩,fun _ _=>⟨by omega,rfl⟩,fun h h2=>(by rw [h] at h2;cases h2),fun h=>h⟩
theorem NI.out {d:Rows} {N:Nat} {p:Int} {b0 b:Bool} {v t at_:Int} {rows:Rows} (h:NI d N p b0 v t rows at_ b) (ht:t < N) (ha:8 * (rows.length:Int)<=at_):NI d N p b0 (2 * v+0) (t+1) rows at_ true:=by
 obtain ⟨rfl,t0,v0,a0,y,no,keep⟩:=h
 refine ⟨rfl,by omega,⟨by omega,?_⟩,a0,fun _ h=>(by cases h),fun h _=>?_,fun _=>rfl⟩
 ·rw [show (t+1).toNat=t.toNat+1 by omega,Int.pow_succ];omega
 cases b with
 |true=>exact no h rfl
 |false=>have:=(y h rfl).1;omega
theorem NI.step {d:Rows} {N:Nat} {p:Int} {b0 b:Bool} {v t at_:Int} {rows:Rows} (h:NI d N p b0 v t rows at_ b) (hp:0<=p) (ht:t < N) (ha:¬8 * (rows.length:Int)<=at_):NI d N p b0 (2 * v+bAt rows at_.toNat) (t+1) rows (at_+1) b:=by
 obtain ⟨rfl,t0,v0,a0,y,no,keep⟩:=h
 have hb:=bAt_rng rows at_.toNat
 refine ⟨rfl,by omega,⟨by omega,?_⟩,by omega,fun h1 h2=>?_,no,keep⟩
 ·rw [show (t+1).toNat=t.toNat+1 by omega,Int.pow_succ];omega
 obtain ⟨y1,y2⟩:=y h1 h2
 refine ⟨by omega,?_⟩
 rw [<-y2,show N - t.toNat=(N - (t+1).toNat)+1 by omega,tkN,show (at_+1).toNat=at_.toNat+1 by omega]
theorem NI.stop {d:Rows} {N:Nat} (hN:N<=31) {p:Int} {b0 b:Bool} {v t at_:Int} {rows:Rows} (h:NI d N p b0 v t rows at_ b) (ht:¬t < N):NRes d N p b0 v at_ b:=by
 obtain ⟨rfl,t0,v0,a0,y,no,keep⟩:=h
 have et:t=N:=by omega
 refine ⟨⟨v0.1,two_le hN t0.1 t0.2 v0.2⟩,a0,fun h1 h2=>?_,no,keep⟩
 obtain ⟨y1,y2⟩:=y h1 h2
 rw [show N - t.toNat=0 by omega] at y2
 exact ⟨y2,by omega⟩
section
variable {d:Rows} (hb:byL d) (hl:d.length<=100000000)
include hb hl
theorem num31 {p:Int} (hp:0<=p/\p<=8 * d.length) {b0:Bool} {I1:Int->Rows->Int->Bool->Prop} (hI:∀v at_ b,NRes d 31 p b0 v at_ b->I1 v d at_ b) :
  ∃(I:Int->Int->Rows->Int->Bool->Prop) (m:Int->Int->Rows->Int->Bool->Nat),I 0 0 d p b0/\∀x0 x1 x2 x3 x4,I x0 x1 x2 x3 x4->V30c3 x0 x1 x2 x3 x4 I1 I m:=by
 refine ⟨fun v t rows at_ b=>NI d 31 p b0 v t rows at_ b,fun _ t _ _ _=>(31 - t).toNat,NI.start hp,?_⟩
 intro v t rows at_ b h
 have hv:=two_le (zB 31) h.t0.1 h.t0.2 h.v0.2
 have hr:=h.rw_
 have h0:=h.t0;have h1:=h.v0.1;have h2:=h.at0
 have bit:¬8 * (rows.length:Int)<=at_->_:=fun ha=>bit_doc (d:=rows) (by rw [hr];exact hb) (p:=at_) (by omega) (by omega)
 have by_:¬8 * (rows.length:Int)<=at_->0<=(gt rows (Int.tdiv at_ 8).toNat 0).int/\(gt rows (Int.tdiv at_ 8).toNat 0).int<=255:=fun ha=>by
  have:=(bit ha).1
  rw [hr] at this ⊢
  exact hb _ (by omega)
 have hg:=bAt_rng rows at_.toNat
 have len:rows.length=d.length:=by rw [hr]
 constructor
 all_goals (try simp only [v30m])
 case n51=>intro hx ha;exact ⟨h.out (by omega) ha,by omega⟩
 case n65=>intro hx ha;rw [(bit ha).2.2];exact ⟨h.step hp.1 (by omega) ha,by omega⟩
 case n66=>intro hx;rw [hr];exact hI _ _ _ (h.stop (by omega) (by omega))
 case g63=>intro hx ha;rw [(bit ha).2.2];unfold vZ30;omega
 case g57=>intro hx ha;have:=by_ ha;unfold vZ30;omega
 all_goals (intro hx;(try unfold vZ30);(try (intro ha;first |(have:=bit ha;omega) |omega));(try omega))
theorem numK {fn:Nat->List (List D)->Nat->Nat->D} (hf89:∀a n,fn 89 [[.i a,.i n]] 0 0=.i (lowK (a,n))) {a n q:Int} (hq:0<=q/\q<=24) {p:Int} (hp:0<=p/\p<=8 * d.length) {b0:Bool} {I1:Int->Rows->Int->Bool->Prop}
  (hI:∀v at_ b,NRes d (lowK (a,n)) p b0 v at_ b->I1 (q * 2 ^ lowK (a,n)+v) d at_ b) :
  ∃(I:Int->Int->Rows->Int->Bool->Prop) (m:Int->Int->Rows->Int->Bool->Nat),I 0 0 d p b0/\∀x0 x1 x2 x3 x4,I x0 x1 x2 x3 x4->V30c4 fn a n q x0 x1 x2 x3 x4 I1 I m:=by
 have hi:∀n:Int,(D.i n).int=n:=fun _=>rfl
 have hk:=lowK_le (a,n)
 obtain ⟨K,hK⟩:∃K,lowK (a,n)=K:=⟨_,rfl⟩
 rw [hK] at hk hI
 have sh:=shl_i64 (a:=q) (k:=K) hq.1 (by omega) (by omega)
 have qb:0<=q * 2 ^ K/\q * 2 ^ K<=24 * 16777216:=by
  have h1:(0:Int) < 2 ^ K:=kX (by omega)
  have h2:(2:Int) ^ K<=16777216:=by
   have:(2:Nat) ^ K<=2 ^ 24:=kS (by omega) (by omega)
   have e:(2:Int) ^ K=((2 ^ K:Nat):Int):=by rw [kY];rfl
   omega
  exact ⟨Int.mul_nonneg hq.1 (kP h1),Int.mul_le_mul hq.2 h2 (kP h1) (by omega)⟩
 refine ⟨fun v t rows at_ b=>NI d K p b0 v t rows at_ b,fun _ t _ _ _=>(K - t).toNat,NI.start hp,?_⟩
 intro v t rows at_ b h
 have hv:=two_le (show K<=31 by omega) h.t0.1 h.t0.2 h.v0.2
 have hr:=h.rw_
 have h0:=h.t0;have h1:=h.v0.1;have h2:=h.at0
 have bit:¬8 * (rows.length:Int)<=at_->_:=fun ha=>bit_doc (d:=rows) (by rw [hr];exact hb) (p:=at_) (by omega) (by omega)
 have by_:¬8 * (rows.length:Int)<=at_->0<=(gt rows (Int.tdiv at_ 8).toNat 0).int/\(gt rows (Int.tdiv at_ 8).toNat 0).int<=255:=fun ha=>by
  have:=(bit ha).1
  rw [hr] at this ⊢
  exact hb _ (by omega)
 have hg:=bAt_rng rows at_.toNat
 have len:rows.length=d.length:=by rw [hr]
 constructor
 all_goals (simp only [v30n,v30f,hf89,hi,hK])
 case n74=>intro hx ha;exact ⟨h.out (by omega) ha,by omega⟩
 case n88=>intro hx ha;rw [(bit ha).2.2];exact ⟨h.step hp.1 (by omega) ha,by omega⟩
 case n90=>intro hx;rw [hr,sh];exact hI _ _ _ (h.stop (by omega) (by omega))
 case g89=>intro hx;rw [sh];unfold vZ30;omega
 case g86=>intro hx ha;rw [(bit ha).2.2];unfold vZ30;omega
 case g80=>intro hx ha;have:=by_ ha;unfold vZ30;omega
 all_goals (intro hx;(try unfold vZ30);(try (intro ha;first |(have:=bit ha;omega) |omega));(try omega))
structure RJD (d:Rows) (m:Int×Int) (p:Int) (b0:Bool) (v:Int) (rows:Rows) (at_:Int) (b:Bool):Prop where
 rw_:rows=d
 at0:p<=at_/\at_<=8 * d.length
 v0:0<=v/\v<=4294967296
 y:b0=false->b=false->rdS d m p.toNat=some (v,at_.toNat)
 no:b0=false->b=true->rdS d m p.toNat=none
 keep:b0=true->b=true
theorem law30r {pre:Nat->List (List D)->Prop} {fn:Nat->List (List D)->Nat->Nat->D} (hp89:∀x,pre 89 x) (hf89:∀a n,fn 89 [[.i a,.i n]] 0 0=.i (lowK (a,n))) {p:Int} (hp:0<=p/\p<=8 * d.length) {b0:Bool} {a n:Int} :
  V30r1 pre fn d p b0 a n (fun v rows at_ b=>RJD d (a,n) p b0 v rows at_ b):=by
 have hi:∀n:Int,(D.i n).int=n:=fun _=>rfl
 have hk:=lowK_le (a,n)
 have qb:∀q:Int,0<=q->q<=24->0<=q * 2 ^ lowK (a,n)/\q * 2 ^ lowK (a,n)<=24 * 16777216:=fun q h0 h24=>by
  have h1:(0:Int) < 2 ^ lowK (a,n):=kX (by omega)
  have h2:(2:Int) ^ lowK (a,n)<=16777216:=by
   have:(2:Nat) ^ lowK (a,n)<=2 ^ 24:=kS (by omega) (by omega)
   have e:(2:Int) ^ lowK (a,n)=((2 ^ lowK (a,n):Nat):Int):=by rw [kY];rfl
   omega
  exact ⟨Int.mul_nonneg h0 (kP h1),Int.mul_le_mul h24 h2 (kP h1) (by omega)⟩
 refine ⟨⟨fun q rows at_ b=>rows=d/\(0<=q/\q<=24)/\(p<=at_/\at_<=8 * d.length)/\b=b0/\(b0=false->at_=p+q/\rdU d (24 - q.toNat) at_.toNat=rdU d 24 p.toNat),fun q _ _ _=>(24 - q).toNat,⟨rfl,by omega,⟨Int.le_refl _,hp.2⟩,rfl,fun _=>⟨by omega,rfl⟩⟩,?_⟩⟩
 rintro q rows at_ b ⟨rfl,q0,a0,rfl,hy⟩
 have bit:¬8 * (rows.length:Int)<=at_->_:=fun ha=>bit_doc hb (p:=at_) (by omega) (by omega)
 have by_:¬8 * (rows.length:Int)<=at_->0<=(gt rows (Int.tdiv at_ 8).toNat 0).int/\(gt rows (Int.tdiv at_ 8).toNat 0).int<=255:=fun ha=>by
  have:=(bit ha).1
  exact hb _ (by omega)
 have hg:=bAt_rng rows at_.toNat
 have un:b=false->q < 24->rdU rows 24 p.toNat=if 8 * rows.length < at_.toNat+1 then none else if bAt rows at_.toNat=0 then some (q.toNat,at_.toNat+1) else rdU rows (24 - (q+1).toNat) (at_.toNat+1):=fun h hq=>by
  rw [<-(hy h).2,show 24 - q.toNat=(23 - q.toNat)+1 by omega,rdU,show 23 - (23 - q.toNat)=q.toNat by omega,show 24 - (q+1).toNat=23 - q.toNat by omega]
 constructor
 all_goals (try simp only [v30j,v30g,v30f,hf89,hi])
 case g67 |g125 |g170=>intros;exact hp89 _
 case n103=>
  intro hx ha h1
  rw [(bit ha).2.2] at h1
  refine ⟨⟨trivial,by omega,by omega,trivial,fun h=>⟨by have:=(hy h).1;omega,?_⟩⟩,by omega⟩
  rw [un h hx,if_neg (by omega),if_neg (by omega),show (at_+1).toNat=at_.toNat+1 by omega]
 case l3 |l5=>intros;omega
 case l8=>intros;omega
 case l4=>
  intro hx ha _
  refine numK hb hl hf89 q0 (p:=at_) (by omega) (b0:=true) fun v at2 b2 hr=>?_
  have:=qb q q0.1 q0.2
  have hv:=hr.v0
  refine ⟨rfl,by have:=hr.at0;omega,by omega,fun h h2=>(by rw [hr.keep rfl] at h2;cases h2),fun h _=>?_,fun _=>hr.keep rfl⟩
  rw [rdS,un h hx,if_pos (by omega)]
 case l6=>
  intro hx ha h1 _
  rw [(bit ha).2.2] at h1
  refine numK hb hl hf89 q0 (p:=at_+1) (by omega) (b0:=b) fun v at2 b2 hr=>?_
  have:=qb q q0.1 q0.2
  have hv:=hr.v0
  have e:b=false->rdU rows 24 p.toNat=some (q.toNat,at_.toNat+1):=fun h=>by rw [un h hx,if_neg (by omega),if_pos (by omega)]
  refine ⟨rfl,by have:=hr.at0;omega,by omega,fun h h2=>?_,fun h h2=>?_,hr.keep⟩
  ·obtain ⟨y1,y2⟩:=hr.y h h2
   have:=hr.at0
   rw [rdS,e h]
   simp only []
   rw [if_neg (by omega),if_neg (by omega),y1,show ((q.toNat:Nat):Int)=q by omega,show (at_+1).toNat=at_.toNat+1 by omega,show at2.toNat=at_.toNat+1+lowK (a,n) by omega]
  have:=hr.no h h2
  rw [rdS,e h]
  simp only []
  rw [if_neg (by omega),if_pos (by omega)]
 case l7=>
  intro _ hq
  refine num31 hb hl (p:=at_) (by omega) (b0:=b) fun v at2 b2 hr=>?_
  have hv:=hr.v0
  have e:b=false->rdU rows 24 p.toNat=some (24,at_.toNat):=fun h=>by rw [<-(hy h).2,show 24 - q.toNat=0 by omega,rdU]
  refine ⟨rfl,by have:=hr.at0;omega,by omega,fun h h2=>?_,fun h h2=>?_,hr.keep⟩
  ·obtain ⟨y1,y2⟩:=hr.y h h2
   have:=hr.at0
   rw [rdS,e h]
   simp only []
   rw [if_pos trivial,if_neg (by omega),y1,show at2.toNat=at_.toNat+31 by omega]
  have:=hr.no h h2
  rw [rdS,e h]
  simp only []
  rw [if_pos trivial,if_pos (by omega)]
 case g96=>intro hx ha;have:=by_ ha;unfold vZ30;omega
 all_goals (intro hx;(try unfold vZ30);(try (intro ha;first |omega |(have:=bit ha;omega) |skip));(try (intros;omega));(try omega))
end
end HX

namespace HX
open Go Go.Proofs CX
def ddt (S:List (Int×Int)):Nat->List (Int×Int)
 |0=>[]
 |m+1=>if 0 < m/\S.getD m (0,0)=S.getD (m - 1) (0,0) then ddt S m else ddt S m++[S.getD m (0,0)]
theorem ddt_eq {S:List (Int×Int)} {m:Nat} (h0:0 < m) (h:S.getD m (0,0)=S.getD (m - 1) (0,0)):ddt S (m+1)=ddt S m:=by rw [ddt,if_pos ⟨h0,h⟩]
theorem ddt_ne {S:List (Int×Int)} {m:Nat} (h:¬S.getD m (0,0)=S.getD (m - 1) (0,0)):ddt S (m+1)=ddt S m++[S.getD m (0,0)]:=by rw [ddt,if_neg fun h2=>h h2.2]
theorem un_len (S:List (Int×Int)):(unprs S).length=S.length:=by simp [unprs]
theorem prs_len (l:Rows):(prs l).length=l.length:=by simp [prs]
theorem un_app (S T:List (Int×Int)):unprs (S++T)=unprs S++unprs T:=by simp [unprs]
theorem prs_app (l m:Rows):prs (l++m)=prs l++prs m:=by simp [prs]
theorem prs_un (S:List (Int×Int)):prs (unprs S)=S:=by
 simp only [prs,unprs,List.map_map]
 conv=>rhs;rw [<-List.map_id S]
 rfl
theorem un_take (S:List (Int×Int)) (m:Nat):unprs (S.take m)=(unprs S).take m:=by simp [unprs,List.map_take]
theorem un_get {S:List (Int×Int)} {i:Nat} (h:i < S.length):(unprs S)[i]?=some [.i (S.getD i (0,0)).1,.i (S.getD i (0,0)).2]:=by
 simp only [unprs,kM,zI,zE h,zX,kE]
theorem gt_of {l:Rows} {i:Nat} {x y:D} (h:l[i]?=some [x,y]):gt l i 0=x/\gt l i 1=y:=by
 simp only [gt,zI,h,kE]
 exact ⟨rfl,rfl⟩
theorem un_gt {S:List (Int×Int)} {i:Nat} (h:i < S.length):gt (unprs S) i 0=.i (S.getD i (0,0)).1/\gt (unprs S) i 1=.i (S.getD i (0,0)).2:=gt_of (un_get h)
theorem pair_eq {a b:Int×Int}:a=b↔a.1=b.1/\a.2=b.2:=Prod.ext_iff
def Plt (x y:Int×Int):Prop:=x.1 < y.1\/(x.1=y.1/\x.2 < y.2)
theorem ltP_iff {x y:Int×Int}:ltP x y=true↔Plt x y:=by unfold ltP;exact decide_eq_true_iff
theorem Plt.trans {x y z:Int×Int} (h:Plt x y) (k:Plt y z):Plt x z:=by unfold Plt at *;omega
theorem Plt.irr {x:Int×Int} (h:Plt x x):False:=by unfold Plt at h;omega
theorem Plt.tot {x y:Int×Int} (h:¬Plt y x) (k:¬x=y):Plt x y:=by
 rw [pair_eq] at k
 unfold Plt at *
 omega
theorem psort_perm (l:List (Int×Int)):(psort l).Perm l:=List.mergeSort_perm _ _
theorem psort_sorted (l:List (Int×Int)):(psort l).Pairwise fun x y=>¬Plt y x:=by
 have h:=List.pairwise_mergeSort (le:=fun x y:Int×Int=>!ltP y x) (fun a b c h1 h2=>by
  simp only [kG,Bool.eq_false_iff,ne_eq,ltP_iff] at *
  unfold Plt at *
  omega) (fun a b=>by
  rw [Bool.or_eq_true]
  simp only [kG,Bool.eq_false_iff,ne_eq,ltP_iff]
  unfold Plt
  omega) l
 refine h.imp fun h=>?_
 simpa only [kG,Bool.eq_false_iff,ne_eq,ltP_iff] using h
theorem take_snoc {S:List (Int×Int)} {m:Nat} (h:m < S.length):S.take (m+1)=S.take m++[S.getD m (0,0)]:=by
 rw [List.take_succ,zI,zE h]
 rfl
theorem ddt_ok {S:List (Int×Int)} (hS:S.Pairwise fun x y=>¬Plt y x):∀m,m<=S.length->(ddt S m).Pairwise Plt/\(∀x,x∈ddt S m↔x∈S.take m)/\∀x,x∈ddt S m->0 < m->x=S.getD (m - 1) (0,0)\/Plt x (S.getD (m - 1) (0,0))
 |0,_=>⟨.nil,fun x=>by simp [ddt],fun _ _ h=>by omega⟩
 |m+1,hm=>by
  obtain ⟨h1,h2,h3⟩:=ddt_ok hS m (by omega)
  have le:0 < m->¬Plt (S.getD m (0,0)) (S.getD (m - 1) (0,0)):=fun h0=>by
   have:=List.pairwise_iff_getElem.1 hS (m - 1) m (by omega) (by omega) (by omega)
   rw [zI,zE (by omega),zI,zE (by omega)]
   exact this
  by_cases hc:0 < m/\S.getD m (0,0)=S.getD (m - 1) (0,0)
  ·rw [ddt_eq hc.1 hc.2,take_snoc (by omega)]
   refine ⟨h1,fun x=>?_,fun x hx _=>?_⟩
   ·rw [xN,h2 x,hc.2]
    refine ⟨.inl,fun h=>?_⟩
    rcases h with h |h
    ·exact h
    rw [xE] at h
    rw [h]
    have e:=take_snoc (S:=S) (m:=m - 1) (by omega)
    rw [show m - 1+1=m by omega] at e
    rw [e]
    exact xP _ (.head _)
   rw [show m+1 - 1=m by omega,hc.2]
   exact h3 x hx hc.1
  have hne:0 < m->Plt (S.getD (m - 1) (0,0)) (S.getD m (0,0)):=fun h0=>Plt.tot (le h0) fun e=>hc ⟨h0,e.symm⟩
  have e:ddt S (m+1)=ddt S m++[S.getD m (0,0)]:=by rw [ddt,if_neg hc]
  have all:∀x,x∈ddt S m->Plt x (S.getD m (0,0)):=fun x hx=>by
   by_cases h0:0 < m
   ·rcases h3 x hx h0 with h |h
    ·rw [h];exact hne h0
    exact h.trans (hne h0)
   have:m=0:=by omega
   subst this
   simp [ddt] at hx
  rw [e,take_snoc (by omega)]
  refine ⟨List.pairwise_append.2 ⟨h1,List.pairwise_singleton _ _,fun x hx y hy=>?_⟩,fun x=>?_,fun x hx _=>?_⟩
  ·rw [xE] at hy
   rw [hy];exact all x hx
  ·rw [xN,xN,h2 x]
  rw [show m+1 - 1=m by omega]
  rcases xN.1 hx with h |h
  ·exact .inr (all x h)
  exact .inl (xE.1 h)
theorem srt_uniq:∀l m:List (Int×Int),l.Pairwise Plt->m.Pairwise Plt->(∀x,x∈l↔x∈m)->l=m
 |[],[],_,_,_=>rfl
 |[],y :: m,_,_,h=>by have:=(h y).2 (.head _);cases this
 |x :: l,[],_,_,h=>by have:=(h x).1 (.head _);cases this
 |x :: l,y :: m,hl,hm,h=>by
  rw [qW] at hl hm
  have e:x=y:=by
   rcases zT.1 ((h x).1 (.head _)) with e |h1
   ·exact e
   rcases zT.1 ((h y).2 (.head _)) with e |h2
   ·exact e.symm
   exact absurd ((hl.1 y h2).trans (hm.1 x h1)) Plt.irr
  subst e
  refine congrArg (x :: ·) (srt_uniq l m hl.2 hm.2 fun z=>?_)
  constructor
  ·intro hz
   rcases zT.1 ((h z).1 (.tail _ hz)) with e |h1
   ·subst e;exact absurd (hl.1 z hz) Plt.irr
   exact h1
  intro hz
  rcases zT.1 ((h z).2 (.tail _ hz)) with e |h1
  ·subst e;exact absurd (hm.1 z hz) Plt.irr
  exact h1
def mg (p q:List (Int×Int)):List (Int×Int):=ddt (psort (p++q)) (psort (p++q)).length
theorem mg_ok (p q:List (Int×Int)):(mg p q).Pairwise Plt/\∀x,x∈mg p q↔x∈p\/x∈q:=by
 obtain ⟨h1,h2,_⟩:=ddt_ok (psort_sorted (p++q)) _ (zB _)
 refine ⟨h1,fun x=>?_⟩
 rw [mg,h2 x,qH,(psort_perm (p++q)).mem_iff,xN]
structure Ok2 (s:List (Int×Int)):Prop where
 up:s.Pairwise Plt
 rg:∀x∈s,(0<=x.1/\x.1<=1073741824)/\0<=x.2/\x.2<=65535
theorem Ok2.lt {s:List (Int×Int)} (h:s.Pairwise Plt) {i j:Nat} (hij:i < j) (hj:j < s.length):Plt (s.getD i (0,0)) (s.getD j (0,0)):=by
 have:=List.pairwise_iff_getElem.1 h i j (by omega) hj hij
 rw [zI,zE (by omega),zI,zE hj]
 exact this
theorem prs_get {l:Rows} {i:Nat} (h:i < l.length):(prs l)[i]?=some (eT l i,eI l i):=by
 simp only [prs,kM,zE h,zX,eT,eI,gt,zI (l:=l),kE]
theorem ev_lt {l:Rows} (h:EvOk' l) {i:Nat}:∀j,i < j->j < l.length->Plt (eT l i,eI l i) (eT l j,eI l j)
 |0,hi,_=>by omega
 |j+1,hi,hj=>by
  have hu:Plt (eT l j,eI l j) (eT l (j+1),eI l (j+1)):=h.up j hj
  by_cases e:i=j
  ·subst e;exact hu
  exact (ev_lt h j (by omega) (by omega)).trans hu
theorem ev_ok2 {l:Rows} (h:EvOk' l):Ok2 (prs l):=by
 refine ⟨List.pairwise_iff_getElem.2 fun i j hi hj hij=>?_,fun x hx=>?_⟩
 ·rw [prs_len] at hi hj
  have a:=zE (l:=prs l) (i:=i) (by rw [prs_len];omega)
  have b:=zE (l:=prs l) (i:=j) (by rw [prs_len];omega)
  rw [prs_get hi] at a
  rw [prs_get hj] at b
  rw [<-qX a,<-qX b]
  exact ev_lt h j hij hj
 obtain ⟨i,hi,rfl⟩:=List.getElem_of_mem hx
 rw [prs_len] at hi
 have a:=zE (l:=prs l) (i:=i) (by rw [prs_len];omega)
 rw [prs_get hi] at a
 rw [<-qX a]
 exact ⟨h.rt i hi,h.ri i hi⟩
theorem can_un {l:Rows} (h:Can l):unprs (prs l)=l:=by
 refine qO fun i=>?_
 by_cases hi:i < l.length
 ·rw [un_get (by rw [prs_len];exact hi),zI,prs_get hi,zE hi,h i hi]
  rfl
 rw [kV (by rw [un_len,prs_len];omega),kV (by omega)]
theorem shr_can {l:Rows} (h:ShR [.int .i64,.int .i64] l):Can l:=fun i hi=>by
 have:=h.1 l[i] (kD hi)
 have e:l[i]?=some l[i]:=zE hi
 match hr:l[i],this with
 |[a,b],h2=>
  simp only [ShL,ShK] at h2
  obtain ⟨⟨n,rfl⟩,⟨m,rfl⟩,_⟩:=h2
  rw [hr] at e
  unfold eT eI
  rw [(gt_of e).1,(gt_of e).2]
  rfl
 |[],h2=>simp [ShL] at h2
 |[_],h2=>simp [ShL] at h2
 |_ :: _ :: _ :: _,h2=>simp [ShL] at h2
end HX

namespace HX
open Go Go.Proofs CX
abbrev vZ31 (x:Int):=-9223372036854775808<=x/\x<=9223372036854775807
abbrev v31a (j2:Rows) (f0:Int) (j1:Int):=((¬(D.int (gt j2 (f0.toNat+j1.toNat) 0))=(D.int (gt j2 (f0.toNat+(Int.toNat (j1 - 1))) 0)))\/(¬(D.int (gt j2 (f0.toNat+j1.toNat) 1))=(D.int (gt j2 (f0.toNat+(Int.toNat (j1 - 1))) 1))))
abbrev v31b (a0:Rows) (a1:Rows):=(([[D.l a0],[D.l a1]]).length:Int)
abbrev v31c (e0:Rows):=(((srtR e0)).length:Int)
abbrev v31d (d0:Int) (a0:Rows) (a1:Rows) (d1:Int):=(d0+((((D.rows (gt [[D.l a0],[D.l a1]] d1.toNat 0))).length:Int)))
structure V31c4 (R:Nat->Nat->D) (e0:Rows) (f0:Int) (j0:Int) (j1:Int) (j2:Rows) (I4:Int->Int->Rows->Prop) (m4:Int->Int->Rows->Nat):Prop where
 g52:(j1 < ((((List.length ((srtR e0):Rows)) - f0.toNat:Nat):Int)))->(f0.toNat+((List.length ((srtR e0):Rows)) - f0.toNat))<=j2.length
 g53:(j1 < ((((List.length ((srtR e0):Rows)) - f0.toNat:Nat):Int)))->0<=j1
 g54:(j1 < ((((List.length ((srtR e0):Rows)) - f0.toNat:Nat):Int)))->j1 < ((((List.length ((srtR e0):Rows)) - f0.toNat:Nat):Int))
 g55:(j1 < ((((List.length ((srtR e0):Rows)) - f0.toNat:Nat):Int)))->(((f0.toNat+j1.toNat:Nat):Int)) < (j2.length:Int)
 g57:(j1 < ((((List.length ((srtR e0):Rows)) - f0.toNat:Nat):Int)))->vZ31 ((j1 - 1))
 g59:(j1 < ((((List.length ((srtR e0):Rows)) - f0.toNat:Nat):Int)))->0<=(j1 - 1)
 g60:(j1 < ((((List.length ((srtR e0):Rows)) - f0.toNat:Nat):Int)))->(j1 - 1) < ((((List.length ((srtR e0):Rows)) - f0.toNat:Nat):Int))
 g61:(j1 < ((((List.length ((srtR e0):Rows)) - f0.toNat:Nat):Int)))->(((f0.toNat+(Int.toNat (j1 - 1)):Nat):Int)) < (j2.length:Int)
 g63:(j1 < ((((List.length ((srtR e0):Rows)) - f0.toNat:Nat):Int)))->(v31a j2 f0 j1)->(f0.toNat+((List.length ((srtR e0):Rows)) - f0.toNat))<=j2.length
 g64:(j1 < ((((List.length ((srtR e0):Rows)) - f0.toNat:Nat):Int)))->(v31a j2 f0 j1)->0<=j1
 g65:(j1 < ((((List.length ((srtR e0):Rows)) - f0.toNat:Nat):Int)))->(v31a j2 f0 j1)->j1 < ((((List.length ((srtR e0):Rows)) - f0.toNat:Nat):Int))
 g66:(j1 < ((((List.length ((srtR e0):Rows)) - f0.toNat:Nat):Int)))->(v31a j2 f0 j1)->(((f0.toNat+j1.toNat:Nat):Int)) < (j2.length:Int)
 g67:(j1 < ((((List.length ((srtR e0):Rows)) - f0.toNat:Nat):Int)))->(v31a j2 f0 j1)->0<=j0
 g68:(j1 < ((((List.length ((srtR e0):Rows)) - f0.toNat:Nat):Int)))->(v31a j2 f0 j1)->j0 < (j2.length:Int)
 g69:(j1 < ((((List.length ((srtR e0):Rows)) - f0.toNat:Nat):Int)))->(v31a j2 f0 j1)->(((Int.toNat j0:Nat):Int)) < (j2.length:Int)
 g70:(j1 < ((((List.length ((srtR e0):Rows)) - f0.toNat:Nat):Int)))->(v31a j2 f0 j1)->vZ31 ((j0+1))
 g71:(j1 < ((((List.length ((srtR e0):Rows)) - f0.toNat:Nat):Int)))->(v31a j2 f0 j1)->vZ31 ((j1+1))
 n72:(j1 < ((((List.length ((srtR e0):Rows)) - f0.toNat:Nat):Int)))->(v31a j2 f0 j1)->I4 (j0+1) (j1+1) (List.set j2 j0.toNat [D.i (D.int (gt j2 (f0.toNat+j1.toNat) 0)),D.i (D.int (gt j2 (f0.toNat+j1.toNat) 1))])/\m4 (j0+1) (j1+1) (List.set j2 j0.toNat [D.i (D.int (gt j2 (f0.toNat+j1.toNat) 0)),D.i (D.int (gt j2 (f0.toNat+j1.toNat) 1))]) < m4 j0 j1 j2
 g73:(j1 < ((((List.length ((srtR e0):Rows)) - f0.toNat:Nat):Int)))->((D.int (gt j2 (f0.toNat+j1.toNat) 0))=(D.int (gt j2 (f0.toNat+(Int.toNat (j1 - 1))) 0))/\(D.int (gt j2 (f0.toNat+j1.toNat) 1))=(D.int (gt j2 (f0.toNat+(Int.toNat (j1 - 1))) 1)))->vZ31 ((j1+1))
 n74:(j1 < ((((List.length ((srtR e0):Rows)) - f0.toNat:Nat):Int)))->((D.int (gt j2 (f0.toNat+j1.toNat) 0))=(D.int (gt j2 (f0.toNat+(Int.toNat (j1 - 1))) 0))/\(D.int (gt j2 (f0.toNat+j1.toNat) 1))=(D.int (gt j2 (f0.toNat+(Int.toNat (j1 - 1))) 1)))->I4 j0 (j1+1) j2/\m4 j0 (j1+1) j2 < m4 j0 j1 j2
 g75:(¬j1 < ((((List.length ((srtR e0):Rows)) - f0.toNat:Nat):Int)))->0<=j0
 g76:(¬j1 < ((((List.length ((srtR e0):Rows)) - f0.toNat:Nat):Int)))->j0<=(j2.length:Int)
 g77:(¬j1 < ((((List.length ((srtR e0):Rows)) - f0.toNat:Nat):Int)))->(j0.toNat+(j2.length - j0.toNat))<=j2.length
 g79:(¬j1 < ((((List.length ((srtR e0):Rows)) - f0.toNat:Nat):Int)))->j0<=(((((List.take j0.toNat (List.drop 0 j2))++((List.replicate (j2.length - j0.toNat) [D.i 0,D.i 0])++(List.take (j2.length - (j0.toNat+(j2.length - j0.toNat))) (List.drop (j0.toNat+(j2.length - j0.toNat)) j2))))).length:Int))
 g80:(¬j1 < ((((List.length ((srtR e0):Rows)) - f0.toNat:Nat):Int)))->(65536 < (((Int.toNat j0:Nat):Int)))->R 0 0=D.l []
 g81:(¬j1 < ((((List.length ((srtR e0):Rows)) - f0.toNat:Nat):Int)))->(65536 < (((Int.toNat j0:Nat):Int)))->R 1 0=D.i 9
 g82:(¬j1 < ((((List.length ((srtR e0):Rows)) - f0.toNat:Nat):Int)))->(¬65536 < (((Int.toNat j0:Nat):Int)))->R 0 0=D.l (List.take j0.toNat (List.drop 0 ((List.take j0.toNat (List.drop 0 j2))++((List.replicate (j2.length - j0.toNat) [D.i 0,D.i 0])++(List.take (j2.length - (j0.toNat+(j2.length - j0.toNat))) (List.drop (j0.toNat+(j2.length - j0.toNat)) j2))))))
 g83:(¬j1 < ((((List.length ((srtR e0):Rows)) - f0.toNat:Nat):Int)))->(¬65536 < (((Int.toNat j0:Nat):Int)))->R 1 0=D.i 0
abbrev V31l4 (R:Nat->Nat->D) (e0:Rows) (f0:Int):Prop:=∃(I4:Int->Int->Rows->Prop) (m4:Int->Int->Rows->Nat),I4 f0 1 (srtR e0)/\∀j0 j1 j2,I4 j0 j1 j2->V31c4 R e0 f0 j0 j1 j2 I4 m4
structure V31c3 (R:Nat->Nat->D) (e0:Rows) (f0:Int) (I3:Int->Prop) (m3:Int->Nat):Prop where
 g40:(f0 < (v31c e0))->0<=f0
 g41:(f0 < (v31c e0))->f0 < (v31c e0)
 g42:(f0 < (v31c e0))->(((Int.toNat f0:Nat):Int)) < (v31c e0)
 g44:(f0 < (v31c e0))->vZ31 ((f0 - 1))
 g45:(f0 < (v31c e0))->0<=(f0 - 1)
 g46:(f0 < (v31c e0))->(f0 - 1) < (v31c e0)
 g47:(f0 < (v31c e0))->(((Int.toNat (f0 - 1):Nat):Int)) < (v31c e0)
 g49:(f0 < (v31c e0))->((D.int (gt (srtR e0) f0.toNat 0))=(D.int (gt (srtR e0) (Int.toNat (f0 - 1)) 0))/\(D.int (gt (srtR e0) f0.toNat 1))=(D.int (gt (srtR e0) (Int.toNat (f0 - 1)) 1)))->0<=f0
 g50:(f0 < (v31c e0))->((D.int (gt (srtR e0) f0.toNat 0))=(D.int (gt (srtR e0) (Int.toNat (f0 - 1)) 0))/\(D.int (gt (srtR e0) f0.toNat 1))=(D.int (gt (srtR e0) (Int.toNat (f0 - 1)) 1)))->f0<=(v31c e0)
 g84:(f0 < (v31c e0))->((¬(D.int (gt (srtR e0) f0.toNat 0))=(D.int (gt (srtR e0) (Int.toNat (f0 - 1)) 0)))\/(¬(D.int (gt (srtR e0) f0.toNat 1))=(D.int (gt (srtR e0) (Int.toNat (f0 - 1)) 1))))->vZ31 ((f0+1))
 n85:(f0 < (v31c e0))->((¬(D.int (gt (srtR e0) f0.toNat 0))=(D.int (gt (srtR e0) (Int.toNat (f0 - 1)) 0)))\/(¬(D.int (gt (srtR e0) f0.toNat 1))=(D.int (gt (srtR e0) (Int.toNat (f0 - 1)) 1))))->I3 (f0+1)/\m3 (f0+1) < m3 f0
 g86:(¬f0 < (v31c e0))->(65536 < (v31c e0))->R 0 0=D.l []
 g87:(¬f0 < (v31c e0))->(65536 < (v31c e0))->R 1 0=D.i 9
 g88:(¬f0 < (v31c e0))->(¬65536 < (v31c e0))->R 0 0=D.l (srtR e0)
 g89:(¬f0 < (v31c e0))->(¬65536 < (v31c e0))->R 1 0=D.i 0
 l4:(f0 < (v31c e0))->((D.int (gt (srtR e0) f0.toNat 0))=(D.int (gt (srtR e0) (Int.toNat (f0 - 1)) 0))/\(D.int (gt (srtR e0) f0.toNat 1))=(D.int (gt (srtR e0) (Int.toNat (f0 - 1)) 1)))->V31l4 R e0 f0
abbrev V31l3 (R:Nat->Nat->D) (e0:Rows):Prop:=∃(I3:Int->Prop) (m3:Int->Nat),I3 1/\∀f0,I3 f0->V31c3 R e0 f0 I3 m3
structure V31c2 (a0:Rows) (a1:Rows) (R:Nat->Nat->D) (e0:Rows) (e1:Int) (I2:Rows->Int->Prop) (m2:Rows->Int->Nat):Prop where
 g28:(e1 < (v31b a0 a1))->0<=e1
 g29:(e1 < (v31b a0 a1))->e1 < (v31b a0 a1)
 g30:(e1 < (v31b a0 a1))->(((Int.toNat e1:Nat):Int)) < (v31b a0 a1)
 g31:(e1 < (v31b a0 a1))->(e0.length+(List.length ((D.rows (gt [[D.l a0],[D.l a1]] e1.toNat 0)):Rows))) * 16<=4294967296/\(e0.length+(List.length ((D.rows (gt [[D.l a0],[D.l a1]] e1.toNat 0)):Rows)))<=4294967296
 g32:(e1 < (v31b a0 a1))->vZ31 ((e1+1))
 n33:(e1 < (v31b a0 a1))->I2 (e0++(D.rows (gt [[D.l a0],[D.l a1]] e1.toNat 0))) (e1+1)/\m2 (e0++(D.rows (gt [[D.l a0],[D.l a1]] e1.toNat 0))) (e1+1) < m2 e0 e1
 g34:(¬e1 < (v31b a0 a1))->(e0.length+1)<=4611686018427387904
 g35:(¬e1 < (v31b a0 a1))->((v31c e0) < 2)->(65536 < (v31c e0))->R 0 0=D.l []
 g36:(¬e1 < (v31b a0 a1))->((v31c e0) < 2)->(65536 < (v31c e0))->R 1 0=D.i 9
 g37:(¬e1 < (v31b a0 a1))->((v31c e0) < 2)->(¬65536 < (v31c e0))->R 0 0=D.l (srtR e0)
 g38:(¬e1 < (v31b a0 a1))->((v31c e0) < 2)->(¬65536 < (v31c e0))->R 1 0=D.i 0
 l3:(¬e1 < (v31b a0 a1))->(¬(v31c e0) < 2)->V31l3 R e0
abbrev V31l2 (a0:Rows) (a1:Rows) (R:Nat->Nat->D) (d0:Int):Prop:=∃(I2:Rows->Int->Prop) (m2:Rows->Int->Nat),I2 (List.take (Int.toNat 0) (List.drop 0 (List.replicate (Int.toNat (d0 - (0 - 0))) [D.i 0,D.i 0]))) 0/\∀e0 e1,I2 e0 e1->V31c2 a0 a1 R e0 e1 I2 m2
abbrev V31l5 (a0:Rows) (a1:Rows) (R:Nat->Nat->D):Prop:=∃(I5:Rows->Int->Prop) (m5:Rows->Int->Nat),I5 [] 0/\∀k0 k1,I5 k0 k1->V31c2 a0 a1 R k0 k1 I5 m5
structure V31c1 (a0:Rows) (a1:Rows) (R:Nat->Nat->D) (d0:Int) (d1:Int) (I1:Int->Int->Prop) (m1:Int->Int->Nat):Prop where
 g10:(d1 < (v31b a0 a1))->0<=d1
 g11:(d1 < (v31b a0 a1))->d1 < (v31b a0 a1)
 g12:(d1 < (v31b a0 a1))->(((Int.toNat d1:Nat):Int)) < (v31b a0 a1)
 g13:(d1 < (v31b a0 a1))->vZ31 ((v31d d0 a0 a1 d1))
 g14:(d1 < (v31b a0 a1))->((v31d d0 a0 a1 d1) < 0)->False
 g15:(d1 < (v31b a0 a1))->(¬(v31d d0 a0 a1 d1) < 0)->vZ31 ((d1+1))
 n16:(d1 < (v31b a0 a1))->(¬(v31d d0 a0 a1 d1) < 0)->I1 (v31d d0 a0 a1 d1) (d1+1)/\m1 (v31d d0 a0 a1 d1) (d1+1) < m1 d0 d1
 g17:(¬d1 < (v31b a0 a1))->(d0 < 0)->False
 g18:(¬d1 < (v31b a0 a1))->(¬d0 < 0)->vZ31 (((0 - 0):Int))
 g19:(¬d1 < (v31b a0 a1))->(¬d0 < 0)->vZ31 ((d0 - (0 - 0)))
 g20:(¬d1 < (v31b a0 a1))->(¬d0 < 0)->(0 < (d0 - (0 - 0)))->(0:Int)<=0
 g21:(¬d1 < (v31b a0 a1))->(¬d0 < 0)->(0 < (d0 - (0 - 0)))->0<=(((0:Nat):Int))
 g22:(¬d1 < (v31b a0 a1))->(¬d0 < 0)->(0 < (d0 - (0 - 0)))->0<=(d0 - (0 - 0))
 g23:(¬d1 < (v31b a0 a1))->(¬d0 < 0)->(0 < (d0 - (0 - 0)))->((d0 - (0 - 0)) * (Int.ofNat 2))<=4096
 g24:(¬d1 < (v31b a0 a1))->(¬d0 < 0)->(0 < (d0 - (0 - 0)))->(Int.toNat (d0 - (0 - 0))) * 16<=4294967296/\(Int.toNat (d0 - (0 - 0)))<=4294967296
 g26:(¬d1 < (v31b a0 a1))->(¬d0 < 0)->(0 < (d0 - (0 - 0)))->0<=((((List.replicate (Int.toNat (d0 - (0 - 0))) [D.i 0,D.i 0])).length:Int))
 l2:(¬d1 < (v31b a0 a1))->(¬d0 < 0)->(0 < (d0 - (0 - 0)))->V31l2 a0 a1 R d0
 l5:(¬d1 < (v31b a0 a1))->(¬d0 < 0)->(¬0 < (d0 - (0 - 0)))->V31l5 a0 a1 R
abbrev V31l1 (a0:Rows) (a1:Rows) (R:Nat->Nat->D):Prop:=∃(I1:Int->Int->Prop) (m1:Int->Int->Nat),I1 0 0/\∀d0 d1,I1 d0 d1->V31c1 a0 a1 R d0 d1 I1 m1
structure V31c0 (pre:Nat->List (List D)->Prop) (fn:Nat->List (List D)->Nat->Nat->D) (a0:Rows) (a1:Rows) (R:Nat->Nat->D) (b0:Rows) (b1:Int) (b2:Int) (I0:Rows->Int->Int->Prop) (m0:Rows->Int->Int->Nat):Prop where
 g1:(b2 < (v31b a0 a1))->0<=b2
 g2:(b2 < (v31b a0 a1))->b2 < (v31b a0 a1)
 g3:(b2 < (v31b a0 a1))->(((Int.toNat b2:Nat):Int)) < (v31b a0 a1)
 g4:(b2 < (v31b a0 a1))->pre 51 [[D.l (D.rows (gt [[D.l a0],[D.l a1]] b2.toNat 0))]]
 g5:(b2 < (v31b a0 a1))->(¬(D.int (fn 51 [[D.l (D.rows (gt [[D.l a0],[D.l a1]] b2.toNat 0))]] 0 0))=0)->R 0 0=D.l []
 g6:(b2 < (v31b a0 a1))->(¬(D.int (fn 51 [[D.l (D.rows (gt [[D.l a0],[D.l a1]] b2.toNat 0))]] 0 0))=0)->R 1 0=D.i (D.int (fn 51 [[D.l (D.rows (gt [[D.l a0],[D.l a1]] b2.toNat 0))]] 0 0))
 g7:(b2 < (v31b a0 a1))->((D.int (fn 51 [[D.l (D.rows (gt [[D.l a0],[D.l a1]] b2.toNat 0))]] 0 0))=0)->vZ31 ((b2+1))
 n8:(b2 < (v31b a0 a1))->((D.int (fn 51 [[D.l (D.rows (gt [[D.l a0],[D.l a1]] b2.toNat 0))]] 0 0))=0)->I0 b0 b1 (b2+1)/\m0 b0 b1 (b2+1) < m0 b0 b1 b2
 l1:(¬b2 < (v31b a0 a1))->V31l1 a0 a1 R
abbrev V31l0 (pre:Nat->List (List D)->Prop) (fn:Nat->List (List D)->Nat->Nat->D) (a0:Rows) (a1:Rows) (R:Nat->Nat->D):Prop:=∃(I0:Rows->Int->Int->Prop) (m0:Rows->Int->Int->Nat),I0 [] 0 0/\∀b0 b1 b2,I0 b0 b1 b2->V31c0 pre fn a0 a1 R b0 b1 b2 I0 m0
structure V31 (pre:Nat->List (List D)->Prop) (fn:Nat->List (List D)->Nat->Nat->D) (a0:Rows) (a1:Rows) (R:Nat->Nat->D):Prop where
 l0:V31l0 pre fn a0 a1 R
end HX
