/-
  Texts of the executors: CxSeq, CxDraw, CxDraw2, CxDraw3, CxDraw4, CxDraw5, CxNd, CxNd2, CxNd3, CxCode.
-/
import Derived.Test.YtcpndododgchbaaMeshTrees2
import Derived.Maps.RangeRun
import Derived.LoopNIn
set_option linter.all false
noncomputable section
namespace CX
open Go
theorem conv1_ok {Z:Nm} {n:Nat} {u:Value} {v:V} (h:conv1 u=some v):Rv Z n v u:=by
 unfold conv1 at h
 split at h<;>first |cases h;done |skip
 all_goals (simp only [zA] at h;subst h)
 all_goals simp only [Rv]
 rename_i s
 refine ⟨fun x hx=>?_,?_⟩
 ·obtain ⟨b,_,rfl⟩:=qB.1 hx
  exact b.toNat_lt
 congr 1
 simp only [bytesOf,List.map_map]
 have:(UInt8.ofNat∘UInt8.toNat)=id:=by funext x;simp
 rw [this,List.map_id]
theorem convL_ok {Z:Nm} {n:Nat}:∀(us:List Value) {vs:List V},convL us=some vs->RvL Z n vs us
 |[],vs,h=>by simp only [convL,zA] at h;subst h;simp [RvL]
 |u :: us,vs,h=>by
  simp only [convL] at h
  split at h
  next v l hv hl=>
   simp only [zA] at h
   subst h
   simp only [RvL]
   exact ⟨conv1_ok hv,convL_ok us hl⟩
  cases h
theorem conv_ok {Z:Nm} {n:Nat} {u:Value} {v:V} (h:conv u=some v):Rv Z n v u:=by
 unfold conv at h
 split at h
 ·split at h
  next cs l hl=>
   simp only [zA] at h
   subst h
   simp only [Rv]
   exact ⟨_,convL_ok _ hl,rfl⟩
  cases h
 exact conv1_ok h
theorem evR_ok {Z:Nm} {n:Nat} {regs:T V} {a:Act} (hR:RegsOk Z n regs a.tmps) (x:Operand) (v:V) (h:evR regs x=some v):Rv Z n v (a.eval x):=by
 cases x with
 |tmp t=>
  obtain ⟨u,h1,h2⟩:=hR t v h
  have:a.eval (.tmp t)=u:=by simp [Act.eval,kC,h1]
  rw [this];exact h2
 |const c=>exact conv_ok h
 |func f=>
  simp only [evR,zA] at h
  subst h
  simp only [Rv]
  exact ⟨[],[],by simp [RvL],by simp [RvL],rfl⟩
 |«global» g=>cases h
def upD (regs:T V) (dst:Option Nat) (v:V):T V:=
 match dst with
 |none=>regs
 |some d=>regs.up d (some v)
theorem putD_ok {S:St} {dst:Option Nat} {v:V} {h:T O} {nx:Nat} {k:St->R} {r:Ex×St} (hk:putD S dst v h nx k=some r) :
  k ⟨S.nt,S.bar,upD S.regs dst v,h,nx,S.df⟩=some r/\∀d,dst=some d->d < S.nt:=by
 cases dst with
 |none=>exact ⟨hk,fun d h=>by cases h⟩
 |some d=>
  simp only [putD] at hk
  split at hk
  next hd=>
   rw [T.set_eq] at hk
   exact ⟨hk,fun d' h=>by cases h;simpa [kB] using hd⟩
  cases hk
theorem put_ok {Z:Nm} {n nt:Nat} {regs:T V} {a:Act} {dst:Option Nat} {v:V} {u:Value} (hR:RegsOk Z n regs a.tmps) (hv:Rv Z n v u) (hs:a.tmps.size=nt) (hd:∀d,dst=some d->d < nt) :
  RegsOk Z n (upD regs dst v) (a.put dst u).tmps/\(a.put dst u).tmps.size=nt/\(a.put dst u).defers=a.defers:=by
 cases dst with
 |none=>exact ⟨hR,hs,rfl⟩
 |some d=>
  refine ⟨fun t y ht=>?_,by simp [Act.put,hs],rfl⟩
  have hd:=hd d rfl
  simp only [upD] at ht
  rw [T.get_up] at ht
  simp only [Act.put]
  split at ht
  next e=>
   subst e
   simp only [zA] at ht
   subst ht
   exact ⟨u,by simp [hs,hd],hv⟩
  rename_i e
  obtain ⟨u',h1,h2⟩:=hR t y ht
  exact ⟨u',by rw [kV (Ne.symm e)];exact h1,h2⟩
theorem wantX_ok {regs:T V} {all:Array Oper} {o:Oper} {k:Bool->R} {r:Ex×St} (h:wantX regs all.toList o k=some r) {Z:Nm} {n:Nat} {a:Act} (hR:RegsOk Z n regs a.tmps) :
  k (Region.wanted o (yielded all a.tmps))=some r:=by
 unfold wantX at h
 split at h
 next hg=>
  simpa [Region.wanted,hg] using h
 rename_i g want hg
 split at h
 rotate_left
 ·cases h
 rename_i og hog
 split at h
 rotate_left
 ·cases h
 rename_i d hd
 rw [nth_eq] at hog
 have hd':(all[g]?).bind (·.dst)=some d:=by
  rw [xE] at hog
  simp [hog,hd]
 split at h
 next b hb=>
  obtain ⟨u,h1,h2⟩:=hR d _ hb
  simp only [Rv] at h2
  subst h2
  have hw:Region.wanted o (yielded all a.tmps)=(b == want):=by
   simp only [Region.wanted,hg,yielded,hd',qG,h1]
   cases b<;>cases want<;>rfl
  rw [hw]
  split at h
  ·exact h
  ·exact h
  rename_i h3 h4
  cases b<;>cases want<;>first |exact h |exact (h3 rfl rfl).elim |exact (h4 rfl rfl).elim
 next hb=>
  obtain ⟨u,h1,h2⟩:=hR d _ hb
  simp only [Rv] at h2
  obtain ⟨x,hx,rfl⟩:=h2
  have hw:Region.wanted o (yielded all a.tmps)=false:=by
   simp only [Region.wanted,hg,yielded,hd',qG,h1]
   cases want<;>rfl
  rw [hw];exact h
 cases h
section
variable {P:Program} {E:Env} (hE:EnvOk E P) {ih:IH} (hI:IhOk E P ih) {ro:Option Nat}
include hE hI
theorem seqOps_ok (all:Array Oper) {Z0:Nm} {S0:St} {w0:World}:∀(rest:List Oper) (i:Nat) (S:St) {k:St->R} {r:Ex×St},(∀(j:Nat),rest[j]?=all[i+j]?)->seqOps E ih all.toList rest S k=some r->
  ∀{Z:Nm} {a:Act} {w:World},Lands E Z0 S0 w0 S a w Z->∀{Q:Exit->Act->World->Prop},(∀S' Z' a' w',k S'=some r->Lands E Z0 S0 w0 S' a' w' Z'->Q .normal a' w')->
  wpOpsIn (Fw ro) 0 P all Q (List.range' i rest.length) a w
 |[],i,S,k,r,_,h,Z,a,w,hL,Q,hQ=>by
  simp only [xI,List.range'_zero,wpOpsIn]
  exact hQ S Z a w h hL
 |o :: rest,i,S,k,r,hall,h,Z,a,w,hL,Q,hQ=>by
  have h0:all[i]?=some o:=by simpa using (hall 0).symm
  have hall':∀(j:Nat),rest[j]?=all[i+1+j]?:=fun j=>by have:=hall (j+1);simpa [xP,Nat.add_comm 1 j] using this
  simp only [zY,List.range'_succ,wpOpsIn,h0]
  simp only [seqOps] at h
  have h:=wantX_ok h hL.sat.regs
  cases hw:Region.wanted o (yielded all a.tmps) with
  |true=>
   rw [hw] at h
   simp only at h
   rw [if_pos rfl]
   obtain ⟨v,g',n',h1,h2⟩:=opA_ok hI hE hL.sat.ro hL.sat.hs (fun x _ v hv=>evR_ok hL.sat.regs x v hv) h
   refine h2 ro _ _ fun u Z' w' hv hS' hag hn hfr=>?_
   obtain ⟨h3,hd⟩:=putD_ok h1
   have hR':RegsOk Z' n' S.regs a.tmps:=hL.sat.regs.ext hn (fun i L hi hl=>by rw [hag i hi];exact hl)
   obtain ⟨g1,g2,g3⟩:=put_ok hR' hv hL.sat.size hd
   exact seqOps_ok all rest (i+1) _ hall' h3 (hL.trans ⟨⟨hS',g2,g1,by rw [g3];exact hL.sat.df.ext hn (fun i L hi hl=>by rw [hag i hi];exact hl),hL.sat.ro.fr hfr⟩,hag,hn,rfl,rfl,hfr⟩) hQ
  |false=>
   rw [hw] at h
   simp only at h
   simp only [kN,if_false]
   refine ⟨fun _ _=>trivial,?_⟩
   obtain ⟨h3,hd⟩:=putD_ok h
   obtain ⟨g1,g2,g3⟩:=put_ok (u:=undef) hL.sat.regs (v:=.tup []) (by simp only [Rv];exact ⟨[],by simp [RvL],rfl⟩) hL.sat.size hd
   exact seqOps_ok all rest (i+1) _ hall' h3 (hL.trans ⟨⟨hL.sat.hs,g2,g1,by rw [g3];exact hL.sat.df,hL.sat.ro⟩,agree.refl _ _,zB _,rfl,rfl,Fr.refl _ _⟩) hQ
end
end CX

namespace CX
open Go
theorem bit_eq (m i:Nat):bit m i=m.testBit i:=by
 rw [Nat.testBit_eq_decide_div_mod_eq]
 unfold bit
 rw [kM,kG,xQ]
 rw [show Nat.shiftRight m i=m / 2 ^ i from Nat.shiftRight_eq_div_pow m i,show Nat.land (m / 2 ^ i) 1=m / 2 ^ i % 2 from Nat.and_one_is_mod _]
theorem lor_bit (a m e j:Nat):(Nat.lor a (Nat.lor m (Nat.shiftLeft 1 e))).testBit j=true↔a.testBit j=true\/m.testBit j=true\/j=e:=by
 show (a ||| (m ||| 1 <<< e)).testBit j=true↔_
 rw [Nat.testBit_or,Nat.testBit_or,Nat.testBit_shiftLeft]
 have:(decide (j≥e) && Nat.testBit 1 (j - e))=true↔j=e:=by
  rw [zC,xQ,Nat.testBit_one_eq_true_iff_self_eq_zero]
  omega
 rw [Bool.or_eq_true,Bool.or_eq_true,this]
theorem maskOf_ok {β:Type} {cl:T Nat}:∀(l:List Edge) (acc:Nat) {k:Nat->Option β} {r:β},maskOf cl l acc k=some r->
  ∃m,k m=some r/\(∀j,m.testBit j=true->acc.testBit j=true\/∃e∈l,bindsA e=true/\(j=e.on\/∃me,cl.get e.on=some me/\me.testBit j=true))/\
   (∀e∈l,bindsA e=true->∃me,cl.get e.on=some me/\m.testBit e.on=true)/\(∀j,acc.testBit j=true->m.testBit j=true)
 |[],acc,k,r,h=>⟨acc,h,fun j hj=>.inl hj,fun e he=>by simp at he,fun _ h=>h⟩
 |e :: l,acc,k,r,h=>by
  simp only [maskOf] at h
  split at h
  next hb=>
   obtain ⟨m,h1,h2,h3,h4⟩:=maskOf_ok l acc h
   refine ⟨m,h1,fun j hj=>(h2 j hj).imp id fun ⟨e',g1,g2⟩=>⟨e',by simp [g1],g2⟩,fun e' he' hbe=>?_,h4⟩
   rcases zL.1 he' with rfl |he'
   ·rw [hb] at hbe;cases hbe
   exact h3 e' he' hbe
  rename_i hb
  split at h
  next me hme=>
   rw [fN_eq] at h
   obtain ⟨m,h1,h2,h3,h4⟩:=maskOf_ok l _ h
   refine ⟨m,h1,fun j hj=>?_,fun e' he' hbe=>?_,fun j hj=>h4 j ((lor_bit _ _ _ _).2 (.inl hj))⟩
   ·rcases h2 j hj with h |⟨e',g1,g2⟩
    ·rcases (lor_bit _ _ _ _).1 h with h |h |h
     ·exact .inl h
     ·exact .inr ⟨e,by simp,hb,.inr ⟨me,hme,h⟩⟩
     exact .inr ⟨e,by simp,hb,.inl h⟩
    exact .inr ⟨e',by simp [g1],g2⟩
   rcases zL.1 he' with rfl |he'
   ·exact ⟨me,hme,h4 _ ((lor_bit _ _ _ _).2 (.inr (.inr rfl)))⟩
   exact h3 e' he' hbe
  cases h
structure PrepOk (ops:List Oper) (ms dm:T Nat):Prop where
 hm:∀(i:Nat) o,ops[i]?=some o->∃m,ms.get i=some m/\(∀j,m.testBit j=true->∃e∈o.after.toList,bindsA e=true/\(j=e.on\/∃me,ms.get e.on=some me/\me.testBit j=true))/\
  ∀e∈o.after.toList,bindsA e=true->e.on < i
 lt:∀i m j,ms.get i=some m->m.testBit j=true->j < i
 hd:∀(i:Nat) o d,ops[i]?=some o->o.dst=some d->dm.get d=some i
 nms:∀i m,ms.get i=some m->i < ops.length
theorem prep_ok {β:Type}:∀(rest pre:List Oper) (ms dm:T Nat) {k:T Nat->T Nat->Option β} {r:β},prep rest pre.length ms dm k=some r->PrepOk pre ms dm->
  ∃ms' dm',k ms' dm'=some r/\PrepOk (pre++rest) ms' dm'
 |[],pre,ms,dm,k,r,h,hp=>⟨ms,dm,h,by simpa using hp⟩
 |o :: rest,pre,ms,dm,k,r,h,hp=>by
  simp only [prep] at h
  obtain ⟨m,h,h2,h3,_⟩:=maskOf_ok _ _ h
  rw [T.set_eq] at h
  have old:∀i x,ms.get i=some x->(ms.up pre.length (some m)).get i=some x:=fun i x hx=>by
   rw [T.get_up,if_neg (Nat.ne_of_lt (hp.nms i x hx))];exact hx
  have back:∀i x,i < pre.length->(ms.up pre.length (some m)).get i=some x->ms.get i=some x:=fun i x hi hx=>by
   rw [T.get_up,if_neg (Nat.ne_of_lt hi)] at hx;exact hx
  have hlt0:∀j,m.testBit j=true->j < pre.length:=by
   intro j hj
   rcases h2 j hj with h |⟨e,he,hb,h⟩
   ·simp at h
   obtain ⟨me,hme,_⟩:=h3 e he hb
   rcases h with rfl |⟨me',hme',h⟩
   ·exact hp.nms _ _ hme
   rw [hme] at hme';cases hme'
   exact Nat.lt_trans (hp.lt _ _ _ hme h) (hp.nms _ _ hme)
  have mk:∀dm',(∀(i:Nat) o' d,(pre++[o])[i]?=some o'->o'.dst=some d->dm'.get d=some i)->PrepOk (pre++[o]) (ms.up pre.length (some m)) dm':=by
   intro dm' hdm
   refine ⟨fun i o' ho=>?_,fun i x j hx hj=>?_,hdm,fun i x hx=>?_⟩
   ·by_cases hi:i < pre.length
    ·rw [zW hi] at ho
     obtain ⟨x,g1,g2,g3⟩:=hp.hm i o' ho
     refine ⟨x,old i x g1,fun j hj=>?_,g3⟩
     obtain ⟨e,he,hb,h⟩:=g2 j hj
     exact ⟨e,he,hb,h.imp id fun ⟨me,hme,hj⟩=>⟨me,old _ _ hme,hj⟩⟩
    rw [zU (by omega)] at ho
    have hi':i - pre.length=0:=by
     cases hh:i - pre.length with
     |zero=>rfl
     |succ q=>rw [hh] at ho;simp at ho
    have hi:i=pre.length:=by omega
    subst hi
    simp only [kX,zK,zA] at ho
    subst ho
    refine ⟨m,by rw [T.get_up,if_pos rfl],fun j hj=>?_,fun e he hb=>?_⟩
    ·rcases h2 j hj with h |⟨e,he,hb,h⟩
     ·simp at h
     exact ⟨e,he,hb,h.imp id fun ⟨me,hme,hj⟩=>⟨me,old _ _ hme,hj⟩⟩
    obtain ⟨me,hme,_⟩:=h3 e he hb
    exact hp.nms _ _ hme
   ·rw [T.get_up] at hx
    split at hx
    next e=>
     simp only [zA] at hx
     subst hx e
     exact hlt0 j hj
    exact hp.lt i x j hx hj
   rw [T.get_up] at hx
   rw [xK]
   split at hx
   next e=>subst e;simp
   have:=hp.nms i x hx;omega
  have fin:∀dm',prep rest (Nat.succ pre.length) (ms.up pre.length (some m)) dm' k=some r->(∀(i:Nat) o' d,(pre++[o])[i]?=some o'->o'.dst=some d->dm'.get d=some i)->
    ∃ms' dm',k ms' dm'=some r/\PrepOk (pre++o :: rest) ms' dm':=by
   intro dm' h hdm
   have:=prep_ok rest (pre++[o]) _ dm' (k:=k) (r:=r) (by simpa using h) (mk dm' hdm)
   simpa using this
  have last:∀(i:Nat) o',(pre++[o])[i]?=some o'->(pre[i]?=some o'/\i < pre.length)\/(i=pre.length/\o'=o):=by
   intro i o' ho
   by_cases hi:i < pre.length
   ·rw [zW hi] at ho;exact .inl ⟨ho,hi⟩
   rw [zU (by omega)] at ho
   cases hh:i - pre.length with
   |zero=>rw [hh] at ho;simp only [zK,zA] at ho;exact .inr ⟨by omega,ho.symm⟩
   |succ q=>rw [hh] at ho;simp at ho
  split at h
  next hd=>
   refine fin dm h fun i o' d ho hdo=>?_
   rcases last i o' ho with ⟨ho,_⟩ |⟨_,rfl⟩
   ·exact hp.hd i o' d ho hdo
   rw [hd] at hdo;cases hdo
  rename_i d hd
  split at h
  next hdn=>
   rw [T.set_eq] at h
   refine fin _ h fun i o' d' ho hdo=>?_
   rcases last i o' ho with ⟨ho,_⟩ |⟨hi,rfl⟩
   ·have:=hp.hd i o' d' ho hdo
    rw [T.get_up,if_neg (fun e=>by subst e;rw [hdn] at this;cases this)]
    exact this
   rw [hd] at hdo
   cases hdo
   rw [T.get_up,if_pos rfl,hi]
  cases h
def partS (h:T O):List Nat->T O->T O
 |[],t=>t
 |x :: r,t=>partS h r (t.up x (h.get x))
theorem part_eq {β:Type} (h:T O):∀(F:List Nat) (t:T O) (k:T O->β),part h F t k=k (partS h F t)
 |[],_,_=>rfl
 |x :: r,t,k=>by simp only [part,partS];rw [T.set_eq];exact part_eq h r _ k
theorem partS_get (h:T O):∀(F:List Nat) (t:T O) (j:Nat),(partS h F t).get j=if j∈F then h.get j else t.get j
 |[],t,j=>by simp [partS]
 |x :: r,t,j=>by
  simp only [partS]
  rw [partS_get h r,T.get_up]
  by_cases h1:j∈r
  ·simp [h1]
  by_cases h2:j=x
  ·subst h2;simp [h1]
  simp [h1,h2]
def copyS (g:T O):Nat->Nat->T O->T O
 |_,0,h=>h
 |lo,n+1,h=>copyS g (Nat.succ lo) n (h.up lo (g.get lo))
theorem copyN_eq {β:Type} (g:T O):∀(n lo:Nat) (h:T O) (k:T O->β),copyN g lo n h k=k (copyS g lo n h)
 |0,_,_,_=>rfl
 |n+1,lo,h,k=>by simp only [copyN,copyS];rw [T.set_eq];exact copyN_eq g n _ _ k
theorem copyS_get (g:T O):∀(n lo:Nat) (h:T O) (j:Nat),(copyS g lo n h).get j=if lo<=j/\j < lo+n then g.get j else h.get j
 |0,lo,h,j=>by rw [if_neg (by omega)];rfl
 |n+1,lo,h,j=>by
  simp only [copyS]
  rw [copyS_get g n,T.get_up]
  by_cases h1:Nat.succ lo<=j/\j < Nat.succ lo+n
  ·rw [if_pos h1,if_pos (by omega)]
  rw [if_neg h1]
  by_cases h2:j=lo
  ·subst h2;rw [if_pos rfl,if_pos (by omega)]
  rw [if_neg h2,if_neg (by omega)]
def dropS:Nat->Nat->T O->T O
 |_,0,h=>h
 |lo,n+1,h=>dropS (Nat.succ lo) n (h.up lo none)
theorem dropN_eq {β:Type}:∀(n lo:Nat) (h:T O) (k:T O->β),dropN lo n h k=k (dropS lo n h)
 |0,_,_,_=>rfl
 |n+1,lo,h,k=>by simp only [dropN,dropS];rw [T.set_eq];exact dropN_eq n _ _ k
theorem dropS_get:∀(n lo:Nat) (h:T O) (j:Nat) (o:O),(dropS lo n h).get j=some o->h.get j=some o/\¬(lo<=j/\j < lo+n)
 |0,lo,h,j,o,hj=>⟨hj,by omega⟩
 |n+1,lo,h,j,o,hj=>by
  simp only [dropS] at hj
  obtain ⟨h1,h2⟩:=dropS_get n _ _ j o hj
  rw [T.get_up] at h1
  split at h1
  ·cases h1
  exact ⟨h1,by omega⟩
def withoutS (cl:Nat):List Rc->T O->T O
 |[],h=>h
 |r :: rs,h=>match bit cl r.i with
  |true=>withoutS cl rs h
  |false=>withoutS cl rs (dropS r.lo (Nat.sub r.hi r.lo) h)
theorem without_eq {β:Type} (cl:Nat):∀(rs:List Rc) (h:T O) (k:T O->β),without cl rs h k=k (withoutS cl rs h)
 |[],_,_=>rfl
 |r :: rs,h,k=>by
  simp only [without,withoutS]
  cases bit cl r.i with
  |true=>exact without_eq cl rs h k
  |false=>simp only;rw [dropN_eq];exact without_eq cl rs _ k
theorem withoutS_get (cl:Nat):∀(rs:List Rc) (h:T O) (j:Nat) (o:O),(withoutS cl rs h).get j=some o->h.get j=some o/\∀r∈rs,bit cl r.i=false->¬(r.lo<=j/\j < r.hi)
 |[],h,j,o,hj=>⟨hj,fun r hr=>by simp at hr⟩
 |r :: rs,h,j,o,hj=>by
  simp only [withoutS] at hj
  cases hb:bit cl r.i with
  |true=>
   rw [hb] at hj
   obtain ⟨h1,h2⟩:=withoutS_get cl rs h j o hj
   refine ⟨h1,fun r' hr' hb'=>?_⟩
   rcases zL.1 hr' with rfl |hr'
   ·rw [hb] at hb';cases hb'
   exact h2 r' hr' hb'
  |false=>
   rw [hb] at hj
   obtain ⟨h1,h2⟩:=withoutS_get cl rs _ j o hj
   obtain ⟨h3,h4⟩:=dropS_get _ _ _ _ _ h1
   refine ⟨h3,fun r' hr' hb'=>?_⟩
   rcases zL.1 hr' with rfl |hr'
   ·intro h5
    apply h4
    show r'.lo<=j/\j < r'.lo+(r'.hi - r'.lo)
    omega
   exact h2 r' hr' hb'
theorem memN_iff {x:Nat}:∀l:List Nat,memN x l=true↔x∈l
 |[]=>by simp [memN]
 |y :: r=>by
  simp only [memN]
  split
  next h=>
   simp [zF h]
  rename_i h
  have:x≠y:=fun e=>by subst e;simp at h
  simp [memN_iff r,this]
theorem disj_ok:∀(a b:List Nat),disj a b=true->∀x∈a,x∉b
 |[],b,_,x,h=>by simp at h
 |y :: r,b,h,x,hx=>by
  simp only [disj] at h
  split at h
  ·cases h
  rename_i hm
  rcases zL.1 hx with rfl |hx
  ·exact fun hb=>by rw [(memN_iff b).2 hb] at hm;cases hm
  exact disj_ok r b h x hx
theorem outs_ok {lo hi:Nat}:∀(l:List Nat),outs lo hi l=true->∀x∈l,¬(lo<=x/\x < hi)
 |[],_,x,h=>by simp at h
 |y :: r,h,x,hx=>by
  simp only [outs] at h
  split at h
  ·cases h
  rename_i hm
  rcases zL.1 hx with rfl |hx
  ·intro hc
   rw [Bool.and_eq_false_iff] at hm
   rcases hm with hm |hm
   ·rw [<-Bool.not_eq_true,xV] at hm;exact hm hc.1
   rw [<-Bool.not_eq_true,kB] at hm;exact hm hc.2
  exact outs_ok r h x hx
theorem below_ok {nx:Nat}:∀(l:List Nat),below nx l=true->∀x∈l,x < nx
 |[],_,x,h=>by simp at h
 |y :: r,h,x,hx=>by
  simp only [below] at h
  split at h
  next hm=>
   rcases zL.1 hx with rfl |hx
   ·simpa [kB] using hm
   exact below_ok r h x hx
  cases h
theorem geL_mem {bar x:Nat}:∀l:List Nat,x∈geL bar l↔x∈l/\bar<=x
 |[]=>by simp [geL]
 |y :: r=>by
  simp only [geL]
  split
  next h=>
   have h:bar<=y:=by simpa using h
   simp only [zL,geL_mem r]
   constructor
   ·rintro (rfl |⟨h1,h2⟩)
    ·exact ⟨.inl rfl,h⟩
    exact ⟨.inr h1,h2⟩
   rintro ⟨rfl |h1,h2⟩
   ·exact .inl rfl
   exact .inr ⟨h1,h2⟩
  rename_i h
  have h:¬bar<=y:=by rw [<-xV,h];simp
  simp only [zL,geL_mem r]
  constructor
  ·exact fun ⟨h1,h2⟩=>⟨.inr h1,h2⟩
  rintro ⟨rfl |h1,h2⟩
  ·exact absurd h2 h
  exact ⟨h1,h2⟩
theorem isNil_ok {l:List Nat} (h:isNil l=true):l=[]:=by cases l<;>simp_all [isNil]
theorem fits_ok {cl:Nat} {fp:Fp}:∀(rs:List Rc),fits cl fp rs=true->∀r∈rs,bit cl r.i=true\/pairOk fp r=true
 |[],_,r,h=>by simp at h
 |r' :: rs,h,r,hr=>by
  simp only [fits] at h
  cases hb:bit cl r'.i with
  |true=>
   rw [hb] at h
   rcases zL.1 hr with rfl |hr
   ·exact .inl hb
   exact fits_ok rs h r hr
  |false=>
   rw [hb] at h
   simp only at h
   split at h
   next hp=>
    rcases zL.1 hr with rfl |hr
    ·exact .inr hp
    exact fits_ok rs h r hr
   cases h
section
variable {tch Rd cl:Nat->Nat->Prop} {D:Nat->Prop} {len i x m:Nat}
theorem claimA (h2:∀j i,j < i->i < len->tch j x->Rd i x->cl i j) (h3:∀j i,j < i->i < len->Rd j x->tch i x->cl i j) (hD:∀a b,D a->cl a b->D b) (hi:¬D i) (hil:i < len) (hcl:∀b,cl i b->D b)
  (hR:Rd i x) (hm:∀t,t < len->tch t x->(t < m↔D t)):∀t,t < len->tch t x->(t < m↔t < i):=by
 intro t ht htx
 rw [hm t ht htx]
 constructor
 ·intro hd
  rcases Nat.lt_trichotomy t i with h |h |h
  ·exact h
  ·subst h;exact absurd hd hi
  exact absurd (hD t i hd (h3 i t h ht hR htx)) hi
 exact fun h=>hcl t (h2 t i h hil htx hR)
theorem claimB (h1:∀j i,j < i->i < len->tch j x->tch i x->cl i j) (hD:∀a b,D a->cl a b->D b) (hi:¬D i) (hil:i < len) (hcl:∀b,cl i b->D b) (hix:tch i x) :
  ∀t,t < len->tch t x->(t < i+1↔D t\/t=i):=by
 intro t ht htx
 constructor
 ·intro h
  rcases Nat.lt_or_ge t i with h |h
  ·exact .inl (hcl t (h1 t i h hil htx hix))
  exact .inr (by omega)
 rintro (hd |rfl)
 ·rcases Nat.lt_trichotomy t i with h |h |h
  ·omega
  ·omega
  exact absurd (hD t i hd (h1 i t h ht hix htx)) hi
 omega
theorem sameRange {α:Type} {g:Nat->α} (same:∀t,t < len->¬tch t x->g (t+1)=g t):∀(n a b:Nat),a+n=b->b<=len->(∀t,t < len->tch t x->(t < a↔t < b))->g a=g b
 |0,a,b,h,_,_=>by rw [<-h];rfl
 |n+1,a,b,h,hb,hh=>by
  have h1:¬tch a x:=fun ht=>by have:=(hh a (by omega) ht);omega
  rw [<-same a (by omega) h1]
  exact sameRange same n (a+1) b (by omega) hb fun t ht htx=>by
   have:=hh t ht htx
   have hne:t≠a:=fun e=>by subst e;exact h1 htx
   omega
theorem sameRange' {α:Type} {g:Nat->α} (same:∀t,t < len->¬tch t x->g (t+1)=g t) {a b:Nat} (ha:a<=len) (hb:b<=len) (hh:∀t,t < len->tch t x->(t < a↔t < b)):g a=g b:=by
 rcases Nat.le_total a b with h |h
 ·exact sameRange same (b - a) a b (by omega) hb hh
 exact (sameRange same (a - b) b a (by omega) ha (fun t ht htx=>(hh t ht htx).symm)).symm
end
end CX

namespace CX
open Go
def Wm (bar:Nat) (fp:Fp) (x:Nat):Prop:=
 match fp with
 |.all=>True
 |.q=>False
 |.ls F wr=>wr=true/\x∈F/\bar<=x
def Nw (g:Nat->St) (i x:Nat):Prop:=(g i).nx<=x/\x < (g (i+1)).nx
def Tm (g:Nat->St) (fp:Nat->Fp) (i x:Nat):Prop:=Wm (g i).bar (fp i) x\/Nw g i x
def Cl (ms:T Nat) (i j:Nat):Prop:=∃m,ms.get i=some m/\m.testBit j=true
def Rm (ms:T Nat) (g:Nat->St) (fp:Nat->Fp) (i x:Nat):Prop:=
 match fp i with
 |.all=>True
 |.q=>x < (g i).nx/\∀j,j < i->¬Cl ms i j->¬Nw g j x
 |.ls F _=>x∈F
def Triv (g:Nat->St) (fp:Nat->Fp) (i:Nat):Prop:=fp i=.ls [] false/\(g (i+1)).nx=(g i).nx
def barOf (fp:Fp) (bar nx:Nat):Nat:=
 match fp with
 |.all=>bar
 |.q=>nx
 |.ls _ wr=>match wr with
  |true=>bar
  |false=>nx
structure MemStep (E:Env) (ih:IH) (ms dm:T Nat) (g:Nat->St) (fp:Nat->Fp) (i cl:Nat) (o:Oper) (v:V):Prop where
 ran:∃hv h' r0,opA E ih (barOf (fp i) (g i).bar (g i).nx) (evD (g i).regs ms dm i cl) hv (g i).nx o.op retV=some r0/\(∀v' g' n',retV v' g' n'=some r0->v'=v/\g'=h'/\n'=(g (i+1)).nx)/\
  (∀x ob,hv.get x=some ob->(g i).h.get x=some ob/\((fp i=.q->x < (g i).nx)->Rm ms g fp i x))/\
  (∀x,Tm g fp i x->(g (i+1)).h.get x=h'.get x)/\(∀x,¬Tm g fp i x->(g (i+1)).h.get x=(g i).h.get x)
 bar:(g i).bar<=(g i).nx
 mono:(g i).nx<=(g (i+1)).nx
 low:∀F wr,fp i=.ls F wr->∀x∈F,x < (g i).nx
structure StepOk (E:Env) (ih:IH) (all:List Oper) (ms dm:T Nat) (g:Nat->St) (fp:Nat->Fp) (i:Nat) (o:Oper):Prop where
  nt:(g (i+1)).nt=(g i).nt
  bar:(g (i+1)).bar=(g i).bar
  df:(g (i+1)).df=(g i).df
  ex:∃cl v,ms.get i=some cl/\(g (i+1)).regs=upD (g i).regs o.dst v/\(∀d,o.dst=some d->d < (g i).nt)/\
    ((wantB (g i).regs ms dm i cl all o=some false/\v=.tup []/\(g (i+1)).h=(g i).h/\Triv g fp i)\/
     (wantB (g i).regs ms dm i cl all o = some true /\ clsOf E o.op = 0 /\ (∃ r0, opP E (evD (g i).regs ms dm i cl) o.op (fun v => retV v .e 0) = some r0 /\ ∀ v', retV v' .e 0 = some r0 -> v' = v) /\
        (g (i+1)).h=(g i).h/\Triv g fp i)\/
     (wantB (g i).regs ms dm i cl all o=some true/\MemStep E ih ms dm g fp i cl o v))
section
variable {E:Env} {ih:IH} {all:List Oper} {ms dm:T Nat} {g g':Nat->St} {fp fp':Nat->Fp}
theorem Nw.congr {i:Nat} (h:g' i=g i) (h1:g' (i+1)=g (i+1)) (x:Nat):Nw g' i x↔Nw g i x:=by unfold Nw;rw [h,h1]
theorem Tm.congr {i:Nat} (h:g' i=g i) (h1:g' (i+1)=g (i+1)) (hf:fp' i=fp i) (x:Nat):Tm g' fp' i x↔Tm g fp i x:=by unfold Tm;rw [Nw.congr h h1,h,hf]
theorem Triv.congr {i:Nat} (h:g' i=g i) (h1:g' (i+1)=g (i+1)) (hf:fp' i=fp i):Triv g' fp' i↔Triv g fp i:=by unfold Triv;rw [h,h1,hf]
theorem Rm.congr {i:Nat} (h:∀k,k<=i->g' k=g k) (hf:fp' i=fp i) (x:Nat):Rm ms g' fp' i x↔Rm ms g fp i x:=by
 unfold Rm
 rw [hf,h i (zB _)]
 split
 ·exact Iff.rfl
 ·refine and_congr_right fun _=>forall_congr' fun j=>forall_congr' fun hj=>forall_congr' fun _=>not_congr ?_
  exact Nw.congr (h j (by omega)) (h (j+1) (by omega)) x
 exact Iff.rfl
theorem MemStep.congr {i cl:Nat} {o:Oper} {v:V} (h:∀k,k<=i+1->g' k=g k) (hf:fp' i=fp i) (hm:MemStep E ih ms dm g fp i cl o v):MemStep E ih ms dm g' fp' i cl o v:=by
 have e0:=h i (by omega)
 have e1:=h (i+1) (by omega)
 obtain ⟨⟨hv,h',r0,a1,a2,a3,a4,a5⟩,b,c,d⟩:=hm
 refine ⟨⟨hv,h',r0,?_,?_,fun x ob hx=>?_,fun x hx=>?_,fun x hx=>?_⟩,?_,?_,?_⟩
 ·rw [hf,e0];exact a1
 ·rw [e1];exact a2
 ·rw [e0,Rm.congr (fun k hk=>h k (by omega)) hf,hf];exact a3 x ob hx
 ·rw [e1];exact a4 x ((Tm.congr e0 e1 hf x).1 hx)
 ·rw [e1,e0];exact a5 x (fun hn=>hx ((Tm.congr e0 e1 hf x).2 hn))
 ·rw [e0];exact b
 ·rw [e0,e1];exact c
 rw [hf,e0];exact d
theorem StepOk.congr {i:Nat} {o:Oper} (h:∀k,k<=i+1->g' k=g k) (hf:fp' i=fp i) (hs:StepOk E ih all ms dm g fp i o):StepOk E ih all ms dm g' fp' i o:=by
 have e0:=h i (by omega)
 have e1:=h (i+1) (by omega)
 obtain ⟨a,b,c,cl,v,d1,d2,d3,d4⟩:=hs
 refine ⟨by rw [e0,e1];exact a,by rw [e0,e1];exact b,by rw [e0,e1];exact c,cl,v,d1,by rw [e0,e1];exact d2,by rw [e0];exact d3,?_⟩
 rcases d4 with ⟨f1,f2,f3,f4⟩ |⟨f1,f2,f3,f4,f5⟩ |⟨f1,f2⟩
 ·exact .inl ⟨by rw [e0];exact f1,f2,by rw [e0,e1];exact f3,(Triv.congr e0 e1 hf).2 f4⟩
 ·exact .inr (.inl ⟨by rw [e0];exact f1,f2,by rw [e0];exact f3,by rw [e0,e1];exact f4,(Triv.congr e0 e1 hf).2 f5⟩)
 exact .inr (.inr ⟨by rw [e0];exact f1,f2.congr h hf⟩)
structure Tr (E:Env) (ih:IH) (all:List Oper) (ms dm:T Nat) (i:Nat) (g:Nat->St) (fp:Nat->Fp) (recs:List Rc):Prop where
 st:∀(j:Nat) o,j < i->all[j]?=some o->StepOk E ih all ms dm g fp j o
 rc:∀r∈recs,r.i < i/\r.fp=fp r.i/\r.lo=(g r.i).nx/\r.hi=(g (r.i+1)).nx
 cov:∀j,j < i->(∃r∈recs,r.i=j)\/Triv g fp j
 pr:∀a b,a < b->b < i->Cl ms b a\/Triv g fp b\/Triv g fp a\/pairOk (fp b) ⟨a,fp a,(g a).nx,(g (a+1)).nx⟩=true
theorem putO_ok {β:Type} {S:St} {dst:Option Nat} {v:V} {k:St->Option β} {r:β} (hk:putO S dst v k=some r) :
  k ⟨S.nt,S.bar,upD S.regs dst v,S.h,S.nx,S.df⟩=some r/\∀d,dst=some d->d < S.nt:=by
 obtain ⟨nt,bar,regs,h,nx,df⟩:=S
 cases dst with
 |none=>exact ⟨hk,fun d h=>by cases h⟩
 |some d=>
  simp only [putO] at hk
  split at hk
  next hd=>
   rw [T.set_eq] at hk
   exact ⟨hk,fun d' h=>by cases h;simpa [kB] using hd⟩
  cases hk
theorem Tr.snoc {i:Nat} {recs recs':List Rc} {o:Oper} (hT:Tr E ih all ms dm i g fp recs) (hg:∀k,k<=i->g' k=g k) (hf:∀k,k < i->fp' k=fp k) (ho:all[i]?=some o) (hs:StepOk E ih all ms dm g' fp' i o)
  (hr:(recs'=recs/\Triv g' fp' i)\/(recs'=⟨i,fp' i,(g' i).nx,(g' (i+1)).nx⟩ :: recs/\∃cl,ms.get i=some cl/\fits cl (fp' i) recs=true)):Tr E ih all ms dm (i+1) g' fp' recs':=by
 have rcOld:∀r∈recs,r.i < i+1/\r.fp=fp' r.i/\r.lo=(g' r.i).nx/\r.hi=(g' (r.i+1)).nx:=by
  intro r hr
  obtain ⟨h1,h2,h3,h4⟩:=hT.rc r hr
  exact ⟨by omega,by rw [hf _ h1];exact h2,by rw [hg _ (by omega)];exact h3,by rw [hg _ (by omega)];exact h4⟩
 have tv:∀j,j < i->(Triv g' fp' j↔Triv g fp j):=fun j hj=>Triv.congr (hg j (by omega)) (hg (j+1) (by omega)) (hf j hj)
 refine ⟨fun j o' hj ho'=>?_,fun r hr'=>?_,fun j hj=>?_,fun a b hab hb=>?_⟩
 ·by_cases h:j=i
  ·subst h;rw [ho] at ho';cases ho';exact hs
  exact (hT.st j o' (by omega) ho').congr (fun k hk=>hg k (by omega)) (hf j (by omega))
 ·rcases hr with ⟨rfl,_⟩ |⟨rfl,_⟩
  ·exact rcOld r hr'
  rcases zL.1 hr' with rfl |hr'
  ·exact ⟨by simp,rfl,rfl,rfl⟩
  exact rcOld r hr'
 ·by_cases h:j=i
  ·subst h
   rcases hr with ⟨_,h⟩ |⟨rfl,_⟩
   ·exact .inr h
   exact .inl ⟨⟨j,fp' j,(g' j).nx,(g' (j+1)).nx⟩,by simp,rfl⟩
  rcases hT.cov j (by omega) with ⟨r,h1,h2⟩ |h1
  ·refine .inl ⟨r,?_,h2⟩
   rcases hr with ⟨rfl,_⟩ |⟨rfl,_⟩
   ·exact h1
   simp [h1]
  exact .inr ((tv j (by omega)).2 h1)
 by_cases h:b=i
 ·subst h
  rcases hr with ⟨_,h⟩ |⟨_,cl,hcl,hfit⟩
  ·exact .inr (.inl h)
  rcases hT.cov a hab with ⟨r,h1,h2⟩ |h1
  ·subst h2
   rcases fits_ok recs hfit r h1 with h3 |h3
   ·exact .inl ⟨cl,hcl,by rw [<-bit_eq];exact h3⟩
   refine .inr (.inr (.inr ?_))
   obtain ⟨_,e1,e2,e3⟩:=rcOld r h1
   rw [<-e1,<-e2,<-e3]
   exact h3
  exact .inr (.inr (.inl ((tv a hab).2 h1)))
 have e:(⟨a,fp' a,(g' a).nx,(g' (a+1)).nx⟩:Rc)=⟨a,fp a,(g a).nx,(g (a+1)).nx⟩:=by rw [hf a (by omega),hg a (by omega),hg (a+1) (by omega)]
 rw [e,hf b (by omega),tv b (by omega),tv a (by omega)]
 exact hT.pr a b hab (by omega)
def VwP (cl:Nat) (recs:List Rc) (fp:Fp) (x:Nat):Prop:=
 match fp with
 |.all=>True
 |.q=>∀r∈recs,bit cl r.i=false->¬(r.lo<=x/\x < r.hi)
 |.ls F _=>x∈F
theorem viewX_ok {β:Type} {cl:Nat} {recs:List Rc} {fp:Fp} {h:T O} {bar nx:Nat} {k:T O->Nat->Option β} {r:β} (hk:viewX cl recs fp h bar nx k=some r) :
  ∃hv,k hv (barOf fp bar nx)=some r/\∀x ob,hv.get x=some ob->h.get x=some ob/\VwP cl recs fp x:=by
 cases fp with
 |all=>exact ⟨h,hk,fun x ob hx=>⟨hx,trivial⟩⟩
 |q=>
  simp only [viewX] at hk
  rw [without_eq] at hk
  exact ⟨_,hk,fun x ob hx=>withoutS_get _ _ _ _ _ hx⟩
 |ls F wr=>
  simp only [viewX] at hk
  rw [part_eq] at hk
  refine ⟨partS h F .e,?_,fun x ob hx=>?_⟩
  ·cases wr with
   |true=>exact hk
   |false=>exact hk
  rw [partS_get] at hx
  split at hx
  next hm=>exact ⟨hx,hm⟩
  simp [T.get] at hx
theorem mergeX_ok {β:Type} {fp:Fp} {h h':T O} {bar lo hi:Nat} (hlo:lo<=hi) {k:T O->Option β} {r:β} (hk:mergeX fp h h' bar lo hi k=some r) :
  ∃h2,k h2=some r/\(∀x,(Wm bar fp x\/(lo<=x/\x < hi))->h2.get x=h'.get x)/\∀x,¬(Wm bar fp x\/(lo<=x/\x < hi))->h2.get x=h.get x:=by
 have hs:lo+Nat.sub hi lo=hi:=by show lo+(hi - lo)=hi;omega
 cases fp with
 |all=>exact ⟨h',hk,fun x _=>rfl,fun x hx=>absurd (.inl trivial) hx⟩
 |q=>
  simp only [mergeX] at hk
  rw [copyN_eq] at hk
  refine ⟨_,hk,fun x hx=>?_,fun x hx=>?_⟩
  ·rw [copyS_get,hs,if_pos (by rcases hx with hx |hx;exact hx.elim;exact hx)]
  rw [copyS_get,hs,if_neg (fun h=>hx (.inr h))]
 |ls F wr=>
  cases wr with
  |true=>
   simp only [mergeX] at hk
   rw [part_eq,copyN_eq] at hk
   refine ⟨_,hk,fun x hx=>?_,fun x hx=>?_⟩
   ·rw [copyS_get,hs]
    split
    ·rfl
    rename_i hn
    rcases hx with hx |hx
    ·rw [partS_get,if_pos ((geL_mem F).2 hx.2)]
    exact absurd hx hn
   rw [copyS_get,hs,if_neg (fun h=>hx (.inr h)),partS_get,if_neg (fun h=>hx (.inl ⟨rfl,(geL_mem F).1 h⟩))]
  |false=>
   simp only [mergeX] at hk
   rw [copyN_eq] at hk
   refine ⟨_,hk,fun x hx=>?_,fun x hx=>?_⟩
   ·rw [copyS_get,hs,if_pos (by rcases hx with hx |hx;exact (by cases hx.1);exact hx)]
   rw [copyS_get,hs,if_neg (fun h=>hx (.inr h))]
theorem stepD_ok {r:List Oper} {o:Oper} {i:Nat} {recs recs':List Rc} {S':St} (hk:stepD E ih all ms dm r o i recs (g i)=some (S',recs')) (hT:Tr E ih all ms dm i g fp recs) (ho:all[i]?=some o) :
  ∃g' fp',Tr E ih all ms dm (i+1) g' fp' recs'/\(∀k,k<=i->g' k=g k)/\g' (i+1)=S':=by
 have mkG:∀S':St,∃g':Nat->St,(∀k,k<=i->g' k=g k)/\g' (i+1)=S':=fun S'=>⟨fun k=>if k=i+1 then S' else g k,fun k hk=>if_neg (by omega),if_pos rfl⟩
 have mkF:∀f:Fp,∃fp':Nat->Fp,(∀k,k < i->fp' k=fp k)/\fp' i=f:=fun f=>⟨fun k=>if k=i then f else fp k,fun k hk=>if_neg (by omega),if_pos rfl⟩
 unfold stepD at hk
 split at hk
 ·cases hk
 rename_i cl hcl
 split at hk
 ·cases hk
 next hw=>
  obtain ⟨h1,h2⟩:=putO_ok hk
  simp only [zA,zI] at h1
  obtain ⟨rfl,rfl⟩:=h1
  obtain ⟨g',hg,hg1⟩:=mkG ⟨(g i).nt,(g i).bar,upD (g i).regs o.dst (.tup []),(g i).h,(g i).nx,(g i).df⟩
  obtain ⟨fp',hfp,hf1⟩:=mkF (.ls [] false)
  have tv:Triv g' fp' i:=by
   unfold Triv;rw [hf1,hg1,hg i (zB _)];exact ⟨rfl,rfl⟩
  refine ⟨g',fp',hT.snoc hg hfp ho ?_ (.inl ⟨rfl,tv⟩),hg,hg1⟩
  refine ⟨?_,?_,?_,cl,.tup [],hcl,?_,?_,.inl ⟨?_,rfl,?_,tv⟩⟩
  all_goals first |rw [hg1,hg i (zB _)] |rw [hg i (zB _)]
  ·exact h2
  exact hw
 rename_i hw
 split at hk
 next hc=>
  obtain ⟨r0,v,g0,n0,hr0,hk,hv⟩:=outV_ok hk
  obtain ⟨h1,h2⟩:=putO_ok hk
  simp only [zA,zI] at h1
  obtain ⟨rfl,rfl⟩:=h1
  obtain ⟨g',hg,hg1⟩:=mkG ⟨(g i).nt,(g i).bar,upD (g i).regs o.dst v,(g i).h,(g i).nx,(g i).df⟩
  obtain ⟨fp',hfp,hf1⟩:=mkF (.ls [] false)
  have tv:Triv g' fp' i:=by
   unfold Triv;rw [hf1,hg1,hg i (zB _)];exact ⟨rfl,rfl⟩
  refine ⟨g',fp',hT.snoc hg hfp ho ?_ (.inl ⟨rfl,tv⟩),hg,hg1⟩
  refine ⟨?_,?_,?_,cl,v,hcl,?_,?_,.inr (.inl ⟨?_,hc,?_,?_,tv⟩)⟩
  all_goals first |rw [hg1,hg i (zB _)] |rw [hg i (zB _)]
  ·exact h2
  ·exact hw
  exact ⟨r0,hr0,fun v' h=>(hv v' _ _ h).1⟩
 split at hk
 rotate_left
 ·cases hk
 rename_i f hpick
 unfold memD at hk
 obtain ⟨hgi⟩:∃x,g i=x:=⟨_,rfl⟩
 split at hk
 rename_i nt bar regs h nx df hgi
 split at hk
 ·cases hk
 rename_i hchk
 simp only [zC,xV] at hchk
 obtain ⟨⟨hbel,hfit⟩,hbar⟩:=hchk
 obtain ⟨hv,hk,hview⟩:=viewX_ok hk
 obtain ⟨r0,v,h',nx',hr0,hk,hval⟩:=outV_ok hk
 split at hk
 ·cases hk
 rename_i hmono
 have hmono:nx<=nx':=by simpa using hmono
 obtain ⟨h2,hk,hm1,hm2⟩:=mergeX_ok hmono hk
 obtain ⟨h1,hd⟩:=putO_ok hk
 simp only [zA,zI] at h1
 obtain ⟨rfl,rfl⟩:=h1
 obtain ⟨g',hg,hg1⟩:=mkG ⟨nt,bar,upD regs o.dst v,h2,nx',df⟩
 obtain ⟨fp',hfp,hf1⟩:=mkF f
 refine ⟨g',fp',hT.snoc hg hfp ho ?_ (.inr ⟨?_,cl,hcl,by rw [hf1];exact hfit⟩),hg,hg1⟩
 ·have e0:=hg i (zB _)
  refine ⟨?_,?_,?_,cl,v,hcl,?_,?_,.inr (.inr ⟨?_,⟨hv,h',r0,?_,?_,fun x ob hx=>?_,fun x hx=>?_,fun x hx=>?_⟩,?_,?_,?_⟩)⟩
  ·rw [hg1,e0,hgi]
  ·rw [hg1,e0,hgi]
  ·rw [hg1,e0,hgi]
  ·rw [hg1,e0,hgi]
  ·rw [e0,hgi];exact hd
  ·rw [e0];exact hw
  ·rw [hf1,e0,hgi];exact hr0
  ·rw [hg1];exact hval
  ·rw [e0,hgi]
   obtain ⟨q1,q2⟩:=hview x ob hx
   refine ⟨q1,fun hlt=>?_⟩
   unfold Rm
   rw [hf1] at hlt
   rw [hf1,e0,hgi]
   cases f with
   |all=>trivial
   |q=>
    refine ⟨hlt rfl,fun j hj hnc hnw=>?_⟩
    rw [Nw.congr (hg j (by omega)) (hg (j+1) (by omega))] at hnw
    rcases hT.cov j hj with ⟨rc,p1,p2⟩ |p
    ·subst p2
     obtain ⟨_,_,p3,p4⟩:=hT.rc rc p1
     refine q2 rc p1 ?_ ⟨by rw [p3];exact hnw.1,by rw [p4];exact hnw.2⟩
     rw [<-Bool.not_eq_true,bit_eq]
     exact fun hb=>hnc ⟨cl,hcl,hb⟩
    have:=p.2;unfold Nw at hnw;omega
   |ls F wr=>exact q2
  ·rw [hg1]
   refine hm1 x ?_
   unfold Tm Nw at hx
   rw [hf1,hg1,e0,hgi] at hx
   exact hx
  ·rw [hg1,e0,hgi]
   refine hm2 x ?_
   unfold Tm Nw at hx
   rw [hf1,hg1,e0,hgi] at hx
   exact hx
  ·rw [e0,hgi];exact hbar
  ·rw [hg1,e0,hgi];exact hmono
  intro F wr hF x hx
  rw [hf1] at hF
  rw [e0,hgi]
  subst hF
  exact below_ok F hbel x hx
 rw [hf1,hg1,hg i (zB _),hgi]
theorem drawGo_ok:∀(rest:List Oper) (i:Nat) (recs:List Rc) (g:Nat->St) (fp:Nat->Fp) {Se:St},(∀(j:Nat),rest[j]?=all[i+j]?)->drawGo E ih all ms dm rest i recs (g i)=some Se->Tr E ih all ms dm i g fp recs->
  ∃g' fp' recs',Tr E ih all ms dm (i+rest.length) g' fp' recs'/\(∀k,k<=i->g' k=g k)/\g' (i+rest.length)=Se
 |[],i,recs,g,fp,Se,hall,h,hT=>by
  simp only [drawGo,zA] at h
  exact ⟨g,fp,recs,hT,fun _ _=>rfl,h⟩
 |o :: rest,i,recs,g,fp,Se,hall,h,hT=>by
  have h0:all[i]?=some o:=by simpa using (hall 0).symm
  simp only [drawGo] at h
  split at h
  next S recs1 hst=>
   obtain ⟨g1,f1,hT1,hg1,hg2⟩:=stepD_ok hst hT h0
   obtain ⟨g',fp',recs',h1,h2,h3⟩:=drawGo_ok rest (i+1) recs1 g1 f1 (fun j=>by have:=hall (j+1);simpa [xP,Nat.add_comm 1 j] using this) (by rw [hg2];exact h) hT1
   refine ⟨g',fp',recs',by rw [zY,show i+(rest.length+1)=i+1+rest.length by omega];exact h1,fun k hk=>?_,by rw [zY,show i+(rest.length+1)=i+1+rest.length by omega];exact h3⟩
   rw [h2 k (by omega),hg1 k hk]
  cases h
end
end CX

namespace CX
open Go
section
variable {P:Program} {E:Env} {ih:IH} {all:List Oper} {ms dm:T Nat} {g:Nat->St} {fp:Nat->Fp} {recs:List Rc} {len:Nat}
theorem Tr.at (hT:Tr E ih all ms dm len g fp recs) (hl:len=all.length) {i:Nat} (hi:i < len):∃o,all[i]?=some o/\StepOk E ih all ms dm g fp i o:=by
 obtain ⟨o,ho⟩:∃o,all[i]?=some o:=⟨all[i]'(by omega),by simp [show i < all.length by omega]⟩
 exact ⟨o,ho,hT.st i o hi ho⟩
theorem StepOk.mono {i:Nat} {o:Oper} (h:StepOk E ih all ms dm g fp i o):(g i).nx<=(g (i+1)).nx:=by
 obtain ⟨_,_,_,cl,v,_,_,_,h |h |h⟩:=h
 ·exact Nat.le_of_eq h.2.2.2.2.symm
 ·exact Nat.le_of_eq h.2.2.2.2.2.symm
 exact h.2.mono
theorem StepOk.low {i:Nat} {o:Oper} (h:StepOk E ih all ms dm g fp i o):∀F wr,fp i=.ls F wr->∀x∈F,x < (g i).nx:=by
 obtain ⟨_,_,_,cl,v,_,_,_,h |h |h⟩:=h
 ·intro F wr hF x hx;rw [h.2.2.2.1] at hF;cases hF;simp at hx
 ·intro F wr hF x hx;rw [h.2.2.2.2.1] at hF;cases hF;simp at hx
 exact h.2.low
theorem Triv.not {i x:Nat} (h:Triv g fp i):¬Tm g fp i x:=by
 unfold Tm Wm Nw
 rw [h.1,h.2]
 rintro (h |h)
 ·exact absurd h.1 (by simp)
 omega
theorem StepOk.same {i:Nat} {o:Oper} (h:StepOk E ih all ms dm g fp i o) (x:Nat) (hx:¬Tm g fp i x):(g (i+1)).h.get x=(g i).h.get x:=by
 obtain ⟨_,_,_,cl,v,_,_,_,h |h |h⟩:=h
 ·rw [h.2.2.1]
 ·rw [h.2.2.2.1]
 obtain ⟨_,_,_,_,_,_,_,h⟩:=h.2.ran
 exact h x hx
def TmR (all:List Oper) (i x:Nat):Prop:=∃o,all[i]?=some o/\o.dst=some x
def RdR (ms dm:T Nat) (i x:Nat):Prop:=dm.get x=none\/∃j,dm.get x=some j/\(Cl ms i j\/Cl ms j i)
theorem StepOk.sameR {i:Nat} {o:Oper} (h:StepOk E ih all ms dm g fp i o) (ho:all[i]?=some o) (x:Nat) (hx:¬TmR all i x):(g (i+1)).regs.get x=(g i).regs.get x:=by
 obtain ⟨_,_,_,cl,v,_,h,_,_⟩:=h
 rw [h]
 unfold upD
 split
 ·rfl
 rename_i d hd
 rw [T.get_up,if_neg]
 rintro rfl
 exact hx ⟨o,ho,hd⟩
theorem Cl.lt (hp:PrepOk all ms dm) {i j:Nat} (h:Cl ms i j):j < i:=by
 obtain ⟨m,h1,h2⟩:=h
 exact hp.lt i m j h1 h2
theorem nx_mono (hT:Tr E ih all ms dm len g fp recs) (hl:len=all.length):∀(n a b:Nat),a+n=b->b<=len->(g a).nx<=(g b).nx
 |0,a,b,h,_=>by rw [<-h];exact zB _
 |n+1,a,b,h,hb=>by
  obtain ⟨o,_,hs⟩:=hT.at hl (i:=a) (by omega)
  exact zT hs.mono (nx_mono hT hl n (a+1) b (by omega) hb)
theorem nx_le (hT:Tr E ih all ms dm len g fp recs) (hl:len=all.length) {a b:Nat} (h:a<=b) (hb:b<=len):(g a).nx<=(g b).nx:=nx_mono hT hl (b - a) a b (by omega) hb
theorem regT1 (hp:PrepOk all ms dm) {i j x:Nat} (_hij:j < i) (h1:TmR all j x) (h2:TmR all i x):Cl ms i j:=by
 obtain ⟨o,ho,hd⟩:=h1
 obtain ⟨o',ho',hd'⟩:=h2
 have e1:=hp.hd j o x ho hd
 have e2:=hp.hd i o' x ho' hd'
 rw [e1] at e2
 cases e2
 omega
theorem regT2 (hp:PrepOk all ms dm) {i j x:Nat} (hij:j < i) (h1:TmR all j x) (h2:RdR ms dm i x):Cl ms i j:=by
 obtain ⟨o,ho,hd⟩:=h1
 have e1:=hp.hd j o x ho hd
 rcases h2 with h |⟨q,h,h'⟩
 ·rw [h] at e1;cases e1
 rw [h] at e1;cases e1
 rcases h' with h' |h'
 ·exact h'
 have:=Cl.lt hp h';omega
theorem regT3 (hp:PrepOk all ms dm) {i j x:Nat} (hij:j < i) (h1:RdR ms dm j x) (h2:TmR all i x):Cl ms i j:=by
 obtain ⟨o,ho,hd⟩:=h2
 have e1:=hp.hd i o x ho hd
 rcases h1 with h |⟨q,h,h'⟩
 ·rw [h] at e1;cases e1
 rw [h] at e1;cases e1
 rcases h' with h' |h'
 ·have:=Cl.lt hp h';omega
 exact h'
theorem memT (hT:Tr E ih all ms dm len g fp recs) (hl:len=all.length) {i j x:Nat} (hij:j < i) (hi:i < len) :
  (Tm g fp j x->Tm g fp i x->Cl ms i j)/\(Tm g fp j x->Rm ms g fp i x->Cl ms i j)/\(Rm ms g fp j x->Tm g fp i x->Cl ms i j):=by
 by_cases hc:Cl ms i j
 ·exact ⟨fun _ _=>hc,fun _ _=>hc,fun _ _=>hc⟩
 obtain ⟨oi,_,hsi⟩:=hT.at hl hi
 obtain ⟨oj,_,hsj⟩:=hT.at hl (i:=j) (by omega)
 have hn1:(g j).nx<=(g (j+1)).nx:=hsj.mono
 have hn2:(g (j+1)).nx<=(g i).nx:=nx_le hT hl (by omega) (by omega)
 have lowj:=hsj.low
 have tRm:∀k,Triv g fp k->¬Rm ms g fp k x:=by
  intro k hk h
  unfold Rm at h
  rw [hk.1] at h
  simp at h
 rcases hT.pr j i hij hi with h |h |h |h
 ·exact absurd h hc
 ·exact ⟨fun _ h2=>absurd h2 h.not,fun _ h2=>absurd h2 (tRm i h),fun _ h2=>absurd h2 h.not⟩
 ·exact ⟨fun h2=>absurd h2 h.not,fun h2=>absurd h2 h.not,fun h2=>absurd h2 (tRm j h)⟩
 unfold pairOk at h
 cases hfi:fp i with
 |all=>rw [hfi] at h;cases h
 |q=>
  rw [hfi] at h
  cases hfj:fp j with
  |all=>rw [hfj] at h;cases h
  |q=>
   unfold Tm Rm Wm
   rw [hfi,hfj]
   simp only [Nw,false_or]
   refine ⟨fun h1 h2=>by omega,fun h1 h2=>absurd h1 ?_,fun h1 h2=>by omega⟩
   have:=h2.2 j hij hc
   simpa [Nw] using this
  |ls F wr=>
   rw [hfj] at h
   have hw:wr=true->F=[]:=by
    intro e;subst e;exact isNil_ok h
   unfold Tm Rm Wm
   rw [hfi,hfj]
   simp only [Nw,false_or]
   refine ⟨fun h1 h2=>?_,fun h1 h2=>?_,fun h1 h2=>?_⟩
   ·rcases h1 with h1 |h1
    ·have:=lowj F wr hfj x h1.2.1;omega
    omega
   ·rcases h1 with h1 |h1
    ·rw [hw h1.1] at h1;simp at h1
    have:=h2.2 j hij hc
    exact absurd h1 (by simpa [Nw] using this)
   have:=lowj F wr hfj x h1;omega
 |ls F wr=>
  rw [hfi] at h
  cases hfj:fp j with
  |all=>rw [hfj] at h;cases h
  |q=>
   rw [hfj] at h
   have hw:wr=true->F=[]:=by
    intro e;subst e;exact isNil_ok h
   have ho:x∈F->¬((g j).nx<=x/\x < (g (j+1)).nx):=by
    intro hx
    cases wr with
    |true=>rw [hw rfl] at hx;simp at hx
    |false=>exact outs_ok F h x hx
   unfold Tm Rm Wm
   rw [hfi,hfj]
   simp only [Nw,false_or]
   refine ⟨fun h1 h2=>?_,fun h1 h2=>absurd h1 (ho h2),fun h1 h2=>?_⟩
   ·rcases h2 with h2 |h2
    ·exact absurd h1 (ho h2.2.1)
    omega
   rcases h2 with h2 |h2
   ·rw [hw h2.1] at h2;simp at h2
   omega
  |ls F' wr'=>
   rw [hfj] at h
   simp only at h
   split at h
   ·cases h
   rename_i hout
   have ho:=outs_ok F hout x
   have hd:(wr=true\/wr'=true)->x∈F->x∈F'->False:=by
    intro hw h1 h2
    cases wr<;>cases wr'<;>first |(simp at hw;done) |exact disj_ok F F' h x h1 h2
   unfold Tm Rm Wm
   rw [hfi,hfj]
   simp only [Nw]
   refine ⟨fun h1 h2=>?_,fun h1 h2=>?_,fun h1 h2=>?_⟩
   ·rcases h2 with h2 |h2
    ·rcases h1 with h1 |h1
     ·exact (hd (.inl h2.1) h2.2.1 h1.2.1).elim
     exact absurd h1 (ho h2.2.1)
    rcases h1 with h1 |h1
    ·have:=lowj F' wr' hfj x h1.2.1;omega
    omega
   ·rcases h1 with h1 |h1
    ·exact (hd (.inr h1.1) h2 h1.2.1).elim
    exact absurd h1 (ho h2)
   rcases h2 with h2 |h2
   ·exact (hd (.inl h2.1) h2.2.1 h1).elim
   have:=lowj F' wr' hfj x h1;omega
structure DInv (Z0:Nm) (w0:World) (all:List Oper) (len:Nat) (g:Nat->St) (fp:Nat->Fp) (D:Nat->Prop) (Z:Nm) (xh:Nat->Option O) (xr:Nat->Option V) (a:Act) (w:World):Prop where
 mem:∀x,∃m,m<=len/\xh x=(g m).h.get x/\(∀t,t < len->Tm g fp t x->(t < m↔D t))/\(m=0\/∃t,m=t+1/\t < len/\Tm g fp t x)/\∀o,xh x=some o->x < (g m).nx/\ObjOk Z (g m).nx w x o
 reg:∀x,∃m,m<=len/\xr x=(g m).regs.get x/\(∀t,t < len->TmR all t x->(t < m↔D t))/\(m=0\/∃t,m=t+1/\t < len/\TmR all t x)/\∀v,xr x=some v->∃u,a.tmps[x]?=some u/\Rv Z (g m).nx v u
 sep:∀x o x' o',xh x=some o->xh x'=some o'->x≠x'->∀L L',Z x=some L->Z x'=some L'->L.b≠L'.b
 blk:∀x L,Z x=some L->L.b < w.heap.size
 dom:∀x L,Z x=some L->x < (g 0).nx\/∃t,t < len/\D t/\Nw g t x
 size:a.tmps.size=(g 0).nt
 df:RvD Z (g 0).nx (g 0).df a.defers
 ag:agree (g 0).nx Z0 Z
 fr:Fr (Own Z0 (g 0).h.get (g 0).bar) w0 (Own Z xh (g 0).bar) w
 cb:∀j,j < len->fp j=.all->D j->∀x o,(g (j+1)).h.get x=some o->x < (g (j+1)).nx
variable {Z0 Z:Nm} {w0 w:World} {D:Nat->Prop} {xh:Nat->Option O} {xr:Nat->Option V} {a:Act}
theorem DInv.memAt (hT:Tr E ih all ms dm len g fp recs) (hl:len=all.length) (hI:DInv Z0 w0 all len g fp D Z xh xr a w) (hD:∀a b,D a->Cl ms a b->D b) {i:Nat} (hi:¬D i) (hil:i < len) (hcl:∀b,Cl ms i b->D b) {x:Nat} (hR:Rm ms g fp i x) :
  xh x=(g i).h.get x/\∃m,m<=i/\∀o,xh x=some o->x < (g m).nx/\ObjOk Z (g m).nx w x o:=by
 obtain ⟨m,h1,h2,h3,h4,h5⟩:=hI.mem x
 have hA:=claimA (fun j i hj hi=>(memT hT hl hj hi).2.1) (fun j i hj hi=>(memT hT hl hj hi).2.2) hD hi hil hcl hR h3
 have same:∀t,t < len->¬Tm g fp t x->(g (t+1)).h.get x=(g t).h.get x:=fun t ht hn=>by
  obtain ⟨o,_,hs⟩:=hT.at hl ht
  exact hs.same x hn
 have e:=sameRange' (g:=fun k=>(g k).h.get x) same h1 (kW hil) hA
 refine ⟨h2.trans e,m,?_,h5⟩
 rcases h4 with rfl |⟨t,rfl,ht,htx⟩
 ·omega
 have:=(hA t ht htx).1 (zM t);omega
theorem DInv.regAt (hp:PrepOk all ms dm) (hT:Tr E ih all ms dm len g fp recs) (hl:len=all.length) (hI:DInv Z0 w0 all len g fp D Z xh xr a w) (hD:∀a b,D a->Cl ms a b->D b) {i:Nat} (hi:¬D i) (hil:i < len) (hcl:∀b,Cl ms i b->D b) {x:Nat} (hR:RdR ms dm i x) {v:V}
  (hv:(g i).regs.get x=some v):∃m u,m<=i/\a.tmps[x]?=some u/\Rv Z (g m).nx v u:=by
 obtain ⟨m,h1,h2,h3,h4,h5⟩:=hI.reg x
 have hA:=claimA (tch:=TmR all) (fun j i hj _=>regT2 hp hj) (fun j i hj _=>regT3 hp hj) hD hi hil hcl hR h3
 have same:∀t,t < len->¬TmR all t x->(g (t+1)).regs.get x=(g t).regs.get x:=fun t ht hn=>by
  obtain ⟨o,ho,hs⟩:=hT.at hl ht
  exact hs.sameR ho x hn
 have e:=sameRange' (g:=fun k=>(g k).regs.get x) same h1 (kW hil) hA
 obtain ⟨u,h6,h7⟩:=h5 v (by rw [h2,e,hv])
 refine ⟨m,u,?_,h6,h7⟩
 rcases h4 with rfl |⟨t,rfl,ht,htx⟩
 ·omega
 have:=(hA t ht htx).1 (zM t);omega
theorem getD_ok {regs:T V} {i cl t:Nat} (hcl:ms.get i=some cl) {v:V} (h:getD regs ms dm i cl t=some v):regs.get t=some v/\RdR ms dm i t:=by
 unfold getD at h
 split at h
 next hn=>exact ⟨h,.inl hn⟩
 rename_i j hj
 split at h
 next hb=>
  exact ⟨h,.inr ⟨j,hj,.inl ⟨cl,hcl,by rw [<-bit_eq];exact hb⟩⟩⟩
 split at h
 next m hm=>
  split at h
  next hb=>
   exact ⟨h,.inr ⟨j,hj,.inr ⟨m,hm,by rw [<-bit_eq];exact hb⟩⟩⟩
  cases h
 cases h
theorem DInv.regStep (hp:PrepOk all ms dm) (hI:DInv Z0 w0 all len g fp D Z xh xr a w) (hD:∀a b,D a->Cl ms a b->D b) {i:Nat} (hi:¬D i) (hil:i < len) (hcl:∀b,Cl ms i b->D b) {o:Oper} (ho:all[i]?=some o)
  {v:V} {u:Value} {Z':Nm} (hr:∀x L,Z x=some L->Z' x=some L) (hv:Rv Z' (g (i+1)).nx v u) (hg:(g (i+1)).regs=upD (g i).regs o.dst v) (hd:∀d,o.dst=some d->d < (g 0).nt) :
  ∀x,∃m,m<=len/\(if o.dst=some x then some v else xr x)=(g m).regs.get x/\(∀t,t < len->TmR all t x->(t < m↔(D t\/t=i)))/\(m=0\/∃t,m=t+1/\t < len/\TmR all t x)/\
   ∀v',(if o.dst=some x then some v else xr x)=some v'->∃u',(a.put o.dst u).tmps[x]?=some u'/\Rv Z' (g m).nx v' u':=by
 intro x
 by_cases hx:o.dst=some x
 ·have ht:TmR all i x:=⟨o,ho,hx⟩
  refine ⟨i+1,by omega,?_,claimB (fun j i hj _=>regT1 hp hj) hD hi hil hcl ht,.inr ⟨i,rfl,hil,ht⟩,fun v' hv'=>?_⟩
  ·rw [if_pos hx,hg,hx,upD,T.get_up,if_pos rfl]
  rw [if_pos hx] at hv'
  cases hv'
  refine ⟨u,?_,hv⟩
  rw [hx]
  simp [Act.put,hI.size,hd x hx]
 obtain ⟨m,h1,h2,h3,h4,h5⟩:=hI.reg x
 have hn:¬TmR all i x:=fun ⟨o',ho',hd'⟩=>by rw [ho] at ho';cases ho';exact hx hd'
 refine ⟨m,h1,by rw [if_neg hx];exact h2,fun t ht htx=>?_,h4,fun v' hv'=>?_⟩
 ·rw [h3 t ht htx]
  exact ⟨.inl,fun h=>h.resolve_right (fun e=>by subst e;exact hn htx)⟩
 rw [if_neg hx] at hv'
 obtain ⟨u',h6,h7⟩:=h5 v' hv'
 refine ⟨u',?_,Rv.ext (zB _) (fun i L _ h=>hr i L h) _ _ h7⟩
 cases hdst:o.dst with
 |none=>exact h6
 |some d=>
  simp only [Act.put]
  rw [kV (fun e=>hx (by rw [hdst,e]))]
  exact h6
end
end CX

namespace CX
open Go
section
variable {P:Program} {E:Env} {ih:IH} {all:List Oper} {ms dm:T Nat} {g:Nat->St} {fp:Nat->Fp} {recs:List Rc} {len:Nat}
variable {Z0 Z:Nm} {w0 w:World} {D:Nat->Prop} {xh:Nat->Option O} {xr:Nat->Option V} {a:Act}
theorem const_of (hT:Tr E ih all ms dm len g fp recs) (hl:len=all.length):∀i,i<=len->(g i).bar=(g 0).bar/\(g i).nt=(g 0).nt/\(g i).df=(g 0).df
 |0,_=>⟨rfl,rfl,rfl⟩
 |i+1,h=>by
  obtain ⟨o,_,hs⟩:=hT.at hl (i:=i) (by omega)
  obtain ⟨h1,h2,h3⟩:=const_of hT hl i (by omega)
  exact ⟨hs.bar.trans h1,hs.nt.trans h2,hs.df.trans h3⟩
theorem DInv.bound (hT:Tr E ih all ms dm len g fp recs) (hl:len=all.length) (hI:DInv Z0 w0 all len g fp D Z xh xr a w) (h0:∀x o,(g 0).h.get x=some o->x < (g 0).nx) :
  ∀i,i<=len->(∀j,j < i->fp j=.all->D j)->∀x o,(g i).h.get x=some o->x < (g i).nx
 |0,_,_,x,o,hx=>h0 x o hx
 |i+1,hi,hj,x,o,hx=>by
  obtain ⟨oo,_,hs⟩:=hT.at hl (i:=i) (by omega)
  by_cases ht:Tm g fp i x
  ·have hmono:=hs.mono
   rcases ht with ht |ht
   ·unfold Wm at ht
    split at ht
    next hf=>
     exact hI.cb i (by omega) hf (hj i (by omega) hf) x o hx
    ·exact ht.elim
    rename_i F wr hf
    have:=hs.low F wr hf x ht.2.1
    omega
   exact ht.2
  rw [hs.same x ht] at hx
  have:=DInv.bound hT hl hI h0 i (by omega) (fun j hji=>hj j (by omega)) x o hx
  have:=hs.mono
  omega
theorem wantB_ok (hp:PrepOk all ms dm) (hT:Tr E ih all ms dm len g fp recs) (hl:len=all.length) (hI:DInv Z0 w0 all len g fp D Z xh xr a w) (hD:∀a b,D a->Cl ms a b->D b) {i:Nat} (hi:¬D i) (hil:i < len) (hcl:∀b,Cl ms i b->D b)
  {ops:Array Oper} (hall:all=ops.toList) {o:Oper} {cl:Nat} (hc:ms.get i=some cl) {b:Bool} (h:wantB (g i).regs ms dm i cl all o=some b):Region.wanted o (yielded ops a.tmps)=b:=by
 subst hall
 unfold wantB at h
 split at h
 next hg=>
  simp only [zA] at h
  simp [Region.wanted,hg,h]
 rename_i gd want hg
 split at h
 rotate_left
 ·cases h
 rename_i og hog
 split at h
 rotate_left
 ·cases h
 rename_i d hd
 rw [nth_eq,xE] at hog
 have hd':(ops[gd]?).bind (·.dst)=some d:=by simp [hog,hd]
 split at h
 next x hx=>
  obtain ⟨h1,h2⟩:=getD_ok hc hx
  obtain ⟨m,u,_,h3,h4⟩:=hI.regAt hp hT hl hD hi hil hcl h2 h1
  simp only [Rv] at h4
  subst h4
  have hw:Region.wanted o (yielded ops a.tmps)=(x == want):=by
   simp only [Region.wanted,hg,yielded,hd',qG,h3]
   cases x<;>cases want<;>rfl
  rw [hw]
  split at h
  ·simp only [zA] at h;subst h;rfl
  ·simp only [zA] at h;subst h;rfl
  rename_i h5 h6
  simp only [zA] at h
  subst h
  cases x<;>cases want<;>first |rfl |exact (h5 rfl rfl).elim |exact (h6 rfl rfl).elim
 next hx=>
  obtain ⟨h1,h2⟩:=getD_ok hc hx
  obtain ⟨m,u,_,h3,h4⟩:=hI.regAt hp hT hl hD hi hil hcl h2 h1
  simp only [Rv] at h4
  obtain ⟨y,hy,rfl⟩:=h4
  simp only [zA] at h
  subst h
  simp only [Region.wanted,hg,yielded,hd',qG,h3]
  cases want<;>rfl
 cases h
theorem evD_ok (hp:PrepOk all ms dm) (hT:Tr E ih all ms dm len g fp recs) (hl:len=all.length) (hI:DInv Z0 w0 all len g fp D Z xh xr a w) (hD:∀a b,D a->Cl ms a b->D b) {i:Nat} (hi:¬D i) (hil:i < len) (hcl:∀b,Cl ms i b->D b)
  {cl:Nat} (hc:ms.get i=some cl) (x:Operand) (v:V) (h:evD (g i).regs ms dm i cl x=some v):Rv (fun k=>if k < (g i).nx then Z k else none) (g i).nx v (a.eval x):=by
 cases x with
 |tmp t=>
  obtain ⟨h1,h2⟩:=getD_ok hc h
  obtain ⟨m,u,hm,h3,h4⟩:=hI.regAt hp hT hl hD hi hil hcl h2 h1
  have:a.eval (.tmp t)=u:=by simp [Act.eval,kC,h3]
  rw [this]
  have hle:=nx_le hT hl hm (kW hil)
  refine Rv.ext hle (fun k L hk hL=>?_) v u h4
  rw [if_pos (by omega)];exact hL
 |const c=>exact conv_ok h
 |func f=>
  simp only [evD,zA] at h
  subst h
  simp only [Rv]
  exact ⟨[],[],by simp [RvL],by simp [RvL],rfl⟩
 |«global» g=>cases h
theorem put_tmps {dst:Option Nat} {u:Value} {n:Nat} (h:a.tmps.size=n):(a.put dst u).tmps.size=n/\(a.put dst u).defers=a.defers:=by
 cases dst with
 |none=>exact ⟨h,rfl⟩
 |some d=>exact ⟨by simp [Act.put,h],rfl⟩
theorem DInv.quiet (hp:PrepOk all ms dm) (hI:DInv Z0 w0 all len g fp D Z xh xr a w) (hD:∀a b,D a->Cl ms a b->D b) {i:Nat} (hi:¬D i) (hil:i < len) (hcl:∀b,Cl ms i b->D b)
  {o:Oper} (ho:all[i]?=some o) {v:V} {u:Value} (hv:Rv Z (g (i+1)).nx v u) (hg:(g (i+1)).regs=upD (g i).regs o.dst v) (hd:∀d,o.dst=some d->d < (g 0).nt) (ht:Triv g fp i) :
  DInv Z0 w0 all len g fp (fun t=>D t\/t=i) Z xh (fun x=>if o.dst=some x then some v else xr x) (a.put o.dst u) w:=by
 obtain ⟨hs1,hs2⟩:=put_tmps (dst:=o.dst) (u:=u) hI.size
 refine ⟨fun x=>?_,hI.regStep hp hD hi hil hcl ho (fun _ _ h=>h) hv hg hd,hI.sep,hI.blk,fun x L hx=>(hI.dom x L hx).imp id fun ⟨t,h1,h2,h3⟩=>⟨t,h1,.inl h2,h3⟩,hs1,by rw [hs2];exact hI.df,hI.ag,hI.fr,fun j hj hf hdj=>?_⟩
 ·obtain ⟨m,h1,h2,h3,h4,h5⟩:=hI.mem x
  refine ⟨m,h1,h2,fun t htl htx=>?_,h4,h5⟩
  rw [h3 t htl htx]
  exact ⟨.inl,fun h=>h.resolve_right fun e=>by subst e;exact ht.not htx⟩
 rcases hdj with hdj |rfl
 ·exact hI.cb j hj hf hdj
 rw [ht.1] at hf;cases hf
theorem barOf_facts {bar nx:Nat} {f:Fp} (h:bar<=nx):bar<=barOf f bar nx/\barOf f bar nx<=nx:=by
 cases f with
 |all=>exact ⟨zB _,h⟩
 |q=>exact ⟨h,zB _⟩
 |ls F wr=>cases wr with
  |true=>exact ⟨zB _,h⟩
  |false=>exact ⟨h,zB _⟩
open Classical in
theorem DInv.memo (hp:PrepOk all ms dm) (hT:Tr E ih all ms dm len g fp recs) (hl:len=all.length) (hI:DInv Z0 w0 all len g fp D Z xh xr a w) (hD:∀a b,D a->Cl ms a b->D b) {i:Nat} (hi:¬D i) (hil:i < len) (hcl:∀b,Cl ms i b->D b)
  {o:Oper} (ho:all[i]?=some o) {v:V} {u:Value} {hv h':T O} {Z':Nm} {w':World} (hview:∀x ob,hv.get x=some ob->xh x=some ob/\x < (g i).nx/\Rm ms g fp i x) (hm1:∀x,Tm g fp i x->(g (i+1)).h.get x=h'.get x)
  (hbar:(g 0).bar<=(g i).nx) (hmono:(g i).nx<=(g (i+1)).nx) (hg:(g (i+1)).regs=upD (g i).regs o.dst v) (hd:∀d,o.dst=some d->d < (g 0).nt) (hfb:(g i).bar=(g 0).bar)
  (hvu:Rv Z' (g (i+1)).nx v u) (hS':HSat Z' h'.get (g (i+1)).nx w') (hag:agree (g i).nx (fun k=>if k < (g i).nx then Z k else none) Z')
  (hfr:Fr (Own (fun k=>if k < (g i).nx then Z k else none) hv.get (barOf (fp i) (g 0).bar (g i).nx)) w (Own Z' h'.get (barOf (fp i) (g 0).bar (g i).nx)) w') :
  ∃Z2 xh2 xr2,DInv Z0 w0 all len g fp (fun t=>D t\/t=i) Z2 xh2 xr2 (a.put o.dst u) w':=by
 obtain ⟨hb1,hb2⟩:=barOf_facts (f:=fp i) hbar
 have hi1:i+1<=len:=hil
 have h0i:(g 0).nx<=(g i).nx:=nx_le hT hl (xZ _) (kW hil)
 obtain ⟨Z2,hρ2⟩:∃Z2:Nm,∀x,Z2 x=if x < (g i).nx then Z x else if x < (g (i+1)).nx then Z' x else Z x:=⟨_,fun _=>rfl⟩
 have hr:∀x L,Z x=some L->Z2 x=some L:=by
  intro x L hx
  rw [hρ2]
  split
  ·exact hx
  split
  ·exfalso
   rcases hI.dom x L hx with h |⟨t,h1,h2,h3,h4⟩
   ·omega
   rcases Nat.lt_trichotomy t i with h |h |h
   ·have:=nx_le hT hl (a:=t+1) (b:=i) (by omega) (by omega);omega
   ·subst h;exact hi h2
   have:=nx_le hT hl (a:=i+1) (b:=t) (by omega) (by omega);omega
  exact hx
 have he:∀x,x < (g (i+1)).nx->Z2 x=Z' x:=by
  intro x hx
  rw [hρ2,if_pos hx]
  split
  next h=>
   have:=hag x h
   simp only [if_pos h] at this
   exact this.symm
  rfl
 have wm:∀x,barOf (fp i) (g 0).bar (g i).nx<=x->x < (g i).nx->Rm ms g fp i x->Tm g fp i x:=by
  intro x hx hlt hR
  refine .inl ?_
  unfold Wm
  unfold Rm at hR
  rw [hfb]
  cases hf:fp i with
  |all=>trivial
  |q=>rw [hf] at hx;simp only [barOf] at hx;omega
  |ls F wr=>
   rw [hf] at hx hR
   cases wr with
   |true=>simp only [barOf] at hx;exact ⟨rfl,hR,hx⟩
   |false=>simp only [barOf] at hx;omega
 have tb:∀x,Tm g fp i x->fp i≠.all->barOf (fp i) (g 0).bar (g i).nx<=x:=by
  intro x hx hne
  unfold Tm Wm at hx
  rw [hfb] at hx
  cases hf:fp i with
  |all=>exact absurd hf hne
  |q=>
   rw [hf] at hx
   rcases hx with hx |hx
   ·exact hx.elim
   exact hx.1
  |ls F wr=>
   rw [hf] at hx
   rcases hx with hx |hx
   ·obtain ⟨rfl,_,h3⟩:=hx
    exact h3
   have:=hx.1
   cases wr with
   |true=>simp only [barOf];omega
   |false=>exact this
 have notOwn:∀x ob L,¬Tm g fp i x->xh x=some ob->Z x=some L->¬Own (fun k=>if k < (g i).nx then Z k else none) hv.get (barOf (fp i) (g 0).bar (g i).nx) L.b:=by
  rintro x ob L hnt hx hL ⟨id,o',L',h1,h2,h3,h4⟩
  obtain ⟨k1,k2,k3⟩:=hview id o' h2
  simp only [if_pos k2] at h3
  have hT':=wm id h1 k2 k3
  exact hI.sep id o' x ob k1 hx (fun e=>by subst e;exact hnt hT') L' L h3 hL h4
 have keepB:∀x ob L,¬Tm g fp i x->xh x=some ob->Z x=some L->w'.heap[L.b]?=w.heap[L.b]?:=fun x ob L h1 h2 h3=>hfr.keep _ (hI.blk x L h3) (notOwn x ob L h1 h2 h3)
 have locOf:∀x ob L,xh x=some ob->Z2 x=some L->Z x=some L:=by
  intro x ob L hx hL
  obtain ⟨m,_,_,_,_,h5⟩:=hI.mem x
  obtain ⟨L0,hL0⟩:=(h5 ob hx).2.loc
  have:=hr x L0 hL0
  rw [hL] at this
  cases this
  exact hL0
 have newLt:∀x ob,h'.get x=some ob->x < (g (i+1)).nx:=fun x ob hx=>(hS'.objs x ob hx).1
 have ownUp:∀b,Own (fun k=>if k < (g i).nx then Z k else none) hv.get (barOf (fp i) (g 0).bar (g i).nx) b->Own Z xh (g 0).bar b:=by
  rintro b ⟨id,o',L',h1,h2,h3,h4⟩
  obtain ⟨k1,k2,k3⟩:=hview id o' h2
  simp only [if_pos k2] at h3
  exact ⟨id,o',L',by omega,k1,h3,h4⟩
 have sepMix:∀x ob x' ob' L L',Tm g fp i x->¬Tm g fp i x'->h'.get x=some ob->xh x'=some ob'->Z2 x=some L->Z2 x'=some L'->L.b≠L'.b:=by
  intro x ob x' ob' L L' ht hnt hx hx' hL hL' e
  have hne:fp i≠.all:=fun hf=>hnt (by refine .inl ?_;unfold Wm;rw [hf];trivial)
  rw [he x (newLt x ob hx)] at hL
  have hL2:=locOf x' ob' L' hx' hL'
  rcases hfr.own L.b ⟨x,ob,L,tb x ht hne,hx,hL,rfl⟩ with h |h
  ·rw [e] at h;exact notOwn x' ob' L' hnt hx' hL2 h
  have:=hI.blk x' L' hL2;omega
 obtain ⟨hs1,hs2⟩:=put_tmps (dst:=o.dst) (u:=u) hI.size
 refine ⟨Z2,fun x=>if Tm g fp i x then h'.get x else xh x,fun x=>if o.dst=some x then some v else xr x,fun x=>?_,hI.regStep hp hD hi hil hcl ho hr ?_ hg hd,fun x ob x' ob' hx hx' hne L L' hL hL'=>?_,fun x L hx=>?_,fun x L hx=>?_,hs1,?_,?_,?_,fun j hj hf hdj=>?_⟩
 ·by_cases ht:Tm g fp i x
  ·refine ⟨i+1,hi1,?_,claimB (fun j i hj hi=>(memT hT hl hj hi).1) hD hi hil hcl ht,.inr ⟨i,rfl,hil,ht⟩,fun ob hob=>?_⟩
   ·rw [if_pos ht,hm1 x ht]
   rw [if_pos ht] at hob
   obtain ⟨k1,k2⟩:=hS'.objs x ob hob
   exact ⟨k1,ObjOk.ext k1 (zB _) (fun k L hk hL=>by rw [he k hk];exact hL) (fun _ _=>rfl) ob k2⟩
  obtain ⟨m,h1,h2,h3,h4,h5⟩:=hI.mem x
  refine ⟨m,h1,by rw [if_neg ht];exact h2,fun t htl htx=>?_,h4,fun ob hob=>?_⟩
  ·rw [h3 t htl htx]
   exact ⟨.inl,fun h=>h.resolve_right fun e=>by subst e;exact ht htx⟩
  rw [if_neg ht] at hob
  obtain ⟨k1,k2⟩:=h5 ob hob
  exact ⟨k1,ObjOk.ext k1 (zB _) (fun k L _ hL=>hr k L hL) (fun L hL=>keepB x ob L ht hob hL) ob k2⟩
 ·exact Rv.ext (zB _) (fun k L hk hL=>by rw [he k hk];exact hL) _ _ hvu
 ·split at hx
  next ht=>
   split at hx'
   ·rw [he x (newLt x ob hx)] at hL
    rw [he x' (newLt x' ob' hx')] at hL'
    exact hS'.sep x ob x' ob' hx hx' hne L L' hL hL'
   rename_i ht'
   exact sepMix x ob x' ob' L L' ht ht' hx hx' hL hL'
  rename_i ht
  split at hx'
  next ht'=>
   exact fun e=>sepMix x' ob' x ob L' L ht' ht hx' hx hL' hL e.symm
  exact hI.sep x ob x' ob' hx hx' hne L L' (locOf x ob L hx hL) (locOf x' ob' L' hx' hL')
 ·have hsz:=hfr.size
  rw [hρ2] at hx
  split at hx
  ·have:=hI.blk x L hx;omega
  split at hx
  ·exact hS'.blk x L hx
  have:=hI.blk x L hx;omega
 ·rw [hρ2] at hx
  split at hx
  ·exact (hI.dom x L hx).imp id fun ⟨t,h1,h2,h3⟩=>⟨t,h1,.inl h2,h3⟩
  rename_i hx1
  split at hx
  next hx2=>
   exact .inr ⟨i,hil,.inr rfl,Nat.le_of_not_lt hx1,hx2⟩
  exact (hI.dom x L hx).imp id fun ⟨t,h1,h2,h3⟩=>⟨t,h1,.inl h2,h3⟩
 ·rw [hs2];exact hI.df.ext (zB _) (fun k L _ hL=>hr k L hL)
 ·intro x hx
  rw [hρ2,if_pos (by omega)]
  exact hI.ag x hx
 ·refine hI.fr.trans ⟨hfr.os,hfr.tape,hfr.output,hfr.size,fun b hb hno=>hfr.keep b hb fun h=>hno (ownUp b h),?_⟩
  rintro b ⟨x,ob,L,hbx,hx,hL,rfl⟩
  simp only at hx
  split at hx
  next ht=>
   rw [he x (newLt x ob hx)] at hL
   have hbv:barOf (fp i) (g 0).bar (g i).nx<=x:=by
    by_cases hf:fp i=.all
    ·rw [hf];exact hbx
    exact tb x ht hf
   exact (hfr.own L.b ⟨x,ob,L,hbv,hx,hL,rfl⟩).imp (ownUp _) id
  exact .inl ⟨x,ob,L,hbx,hx,locOf x ob L hx hL,rfl⟩
 rcases hdj with hdj |rfl
 ·exact hI.cb j hj hf hdj
 intro x ob hx
 rw [hm1 x (by refine .inl ?_;unfold Wm;rw [hf];trivial)] at hx
 exact newLt x ob hx
end
end CX

namespace CX
open Go
theorem bindsA_eq (e:Edge):Region.binds .any e=bindsA e:=by
 unfold Region.binds bindsA
 cases e.ground<;>rfl
def unl:List Bool->Nat
 |[]=>0
 |true :: r=>unl r
 |false :: r=>unl r+1
theorem unl_set:∀(l:List Bool) (i:Nat),l[i]?=some false->unl (l.set i true)+1=unl l
 |[],i,h=>by simp at h
 |b :: r,0,h=>by
  simp only [zK,zA] at h
  subst h
  simp [unl]
 |b :: r,i+1,h=>by
  have:=unl_set r i (by simpa using h)
  cases b<;>simp only [List.set_cons_succ,unl]<;>omega
theorem unl_zero:∀(l:List Bool),unl l=0->∀i:Nat,l[i]?≠some false
 |[],_,i,h=>by simp at h
 |true :: r,h,0,h'=>by simp at h'
 |true :: r,h,i+1,h'=>unl_zero r (by simpa [unl] using h) i (by simpa using h')
 |false :: r,h,i,h'=>by simp [unl] at h
theorem unl_rep:∀n,unl (List.replicate n false)=n
 |0=>rfl
 |n+1=>by simp [List.replicate_succ,unl,unl_rep n]
theorem getD_false_iff {l:Array Bool} {i:Nat}:l.getD i true=false↔l.toList[i]?=some false:=by
 rw [kC,<-xE]
 cases h:l.toList[i]? with
 |none=>simp
 |some b=>simp
theorem getD_true_iff {l:Array Bool} {i:Nat}:Array.getD l i false=true↔l[i]?=some true:=by
 rw [kC]
 cases h:l[i]? with
 |none=>simp
 |some b=>simp
section
variable {P:Program} {E:Env} {ih:IH} {ms dm:T Nat} {g:Nat->St} {fp:Nat->Fp} {recs:List Rc} {len:Nat} {ops:Array Oper}
variable {Z0 Z:Nm} {w0 w:World} {D:Nat->Prop} {xh:Nat->Option O} {xr:Nat->Option V} {a:Act}
theorem DInv.last (hRo0:RoOk E Z0 (g 0).h.get (g 0).bar w0) (hT:Tr E ih ops.toList ms dm len g fp recs) (hl:len=ops.toList.length) (hI:DInv Z0 w0 ops.toList len g fp D Z xh xr a w) (hall:∀t,t < len->D t):Lands E Z0 (g 0) w0 (g len) a w Z:=by
 obtain ⟨hb,hn,hdf⟩:=const_of hT hl len (zB _)
 have hle:∀{m},m<=len->(g m).nx<=(g len).nx:=fun h=>nx_le hT hl h (zB _)
 have hmem:xh=(g len).h.get:=by
  funext x
  obtain ⟨m,h1,h2,h3,_⟩:=hI.mem x
  rw [h2]
  refine sameRange' (tch:=Tm g fp) (x:=x) (g:=fun k=>(g k).h.get x) (fun t ht hn=>?_) h1 (zB _) (fun t ht htx=>?_)
  ·obtain ⟨o,_,hs⟩:=hT.at hl ht
   exact hs.same x hn
  rw [h3 t ht htx];exact ⟨fun _=>ht,fun _=>hall t ht⟩
 have hreg:xr=(g len).regs.get:=by
  funext x
  obtain ⟨m,h1,h2,h3,_⟩:=hI.reg x
  rw [h2]
  refine sameRange' (tch:=TmR ops.toList) (x:=x) (g:=fun k=>(g k).regs.get x) (fun t ht hn=>?_) h1 (zB _) (fun t ht htx=>?_)
  ·obtain ⟨o,ho,hs⟩:=hT.at hl ht
   exact hs.sameR ho x hn
  rw [h3 t ht htx];exact ⟨fun _=>ht,fun _=>hall t ht⟩
 subst hmem hreg
 refine ⟨⟨⟨fun x o hx=>?_,hI.sep,fun x hx=>?_,hI.blk⟩,by rw [hn];exact hI.size,fun t v hv=>?_,?_,?_⟩,hI.ag,hle (xZ _),hn,hb,by rw [hb];exact hI.fr⟩
 ·obtain ⟨m,h1,_,_,_,h5⟩:=hI.mem x
  obtain ⟨h6,h7⟩:=h5 o hx
  have:=hle h1
  exact ⟨by omega,ObjOk.ext h6 this (fun _ _ _ h=>h) (fun _ _=>rfl) o h7⟩
 ·cases h:Z x with
  |none=>rfl
  |some L=>
   exfalso
   rcases hI.dom x L h with h |⟨t,h1,_,_,h4⟩
   ·have:=hle (xZ len);omega
   have:=hle (m:=t+1) (by omega);omega
 ·obtain ⟨m,h1,_,_,_,h5⟩:=hI.reg t
  obtain ⟨u,h6,h7⟩:=h5 v hv
  exact ⟨u,h6,Rv.ext (hle h1) (fun _ _ _ h=>h) _ _ h7⟩
 ·rw [hdf]
  exact hI.df.ext (hle (xZ _)) (fun _ _ _ h=>h)
 rw [hb];exact hRo0.fr hI.fr
variable (hE:EnvOk E P) (hI':IhOk E P ih)
include hE hI'
theorem DInv.step (hRo0:RoOk E Z0 (g 0).h.get (g 0).bar w0) (hp:PrepOk ops.toList ms dm) (hT:Tr E ih ops.toList ms dm len g fp recs) (hl:len=ops.toList.length) (h0:∀x o,(g 0).h.get x=some o->x < (g 0).nx) (hI:DInv Z0 w0 ops.toList len g fp D Z xh xr a w) (hD:∀a b,D a->Cl ms a b->D b)
  {i:Nat} (hi:¬D i) (hil:i < len) (hcl:∀b,Cl ms i b->D b) {ro:Option Nat} {K:Act->World->Prop} {Q:Exit->Act->World->Prop}
  (hK:∀Z' xh' xr' a' w',DInv Z0 w0 ops.toList len g fp (fun t=>D t\/t=i) Z' xh' xr' a' w'->K a' w'):wpOpIn (Fw ro) 0 P ops Q i K a w:=by
 obtain ⟨o,ho,hs⟩:=hT.at hl hil
 have ho':ops[i]?=some o:=by simpa using ho
 obtain ⟨hfb,hfn,_⟩:=const_of hT hl i (kW hil)
 obtain ⟨_,_,_,cl,v,hc,hg,hd,hex⟩:=hs
 rw [hfn] at hd
 unfold wpOpIn
 rw [ho']
 simp only
 rcases hex with ⟨hw,rfl,_,ht⟩ |⟨hw,hcls,⟨r0,hr0,hv0⟩,_,ht⟩ |⟨hw,⟨hv,h',r0,hr0,hv0,hview,hm1,_⟩,hbar,hmono,hlow⟩
 ·rw [wantB_ok hp hT hl hI hD hi hil hcl rfl hc hw,if_neg (by simp)]
  exact ⟨fun _ _=>trivial,hK _ _ _ _ _ (hI.quiet hp hD hi hil hcl ho (u:=undef) (by simp only [Rv];exact ⟨[],by simp [RvL],rfl⟩) hg hd ht)⟩
 ·rw [wantB_ok hp hT hl hI hD hi hil hcl rfl hc hw,if_pos rfl]
  have hnd:∀c,o.op≠.defer c:=fun c h=>by rw [h] at hcls;simp [clsOf] at hcls
  obtain ⟨v',u,h1,h2,h3⟩:=opP_ok hE (Ze:=a.eval) (fun x _ v hv=>evD_ok hp hT hl hI hD hi hil hcl hc x v hv) hr0
  have:=hv0 _ h1
  subst this
  refine ⟨fun _ _=>trivial,?_⟩
  show o.uponIn (Fw ro) 0 P a K Q ((o.semAt ro a.eval).run P w)
  rw [kS _ _ _ hnd,h3 w,Oper.uponIn_value]
  refine hK _ _ _ _ _ (hI.quiet hp hD hi hil hcl ho (v:=v') ?_ hg hd ht)
  rw [ht.2]
  refine Rv.ext (zB _) (fun k L hk hL=>?_) _ _ h2
  rw [if_pos hk] at hL;exact hL
 rw [wantB_ok hp hT hl hI hD hi hil hcl rfl hc hw,if_pos rfl]
 have hvw:∀x ob,hv.get x=some ob->xh x=some ob/\x < (g i).nx/\Rm ms g fp i x/\∃m,m<=i/\x < (g m).nx/\ObjOk Z (g m).nx w x ob:=by
  intro x ob hx
  obtain ⟨h1,h2⟩:=hview x ob hx
  have hR:Rm ms g fp i x:=by
   refine h2 fun hq=>?_
   refine hI.bound hT hl h0 i (kW hil) (fun j hj hf=>?_) x ob h1
   rcases hT.pr j i hj hil with h |h |h |h
   ·exact hcl j h
   ·rw [h.1] at hq;cases hq
   ·rw [h.1] at hf;cases hf
   unfold pairOk at h;rw [hq,hf] at h;cases h
  obtain ⟨h3,m,h4,h5⟩:=hI.memAt hT hl hD hi hil hcl hR
  rw [h1] at h3
  obtain ⟨h6,h7⟩:=h5 ob h3
  have:=nx_le hT hl h4 (kW hil)
  exact ⟨h3,by omega,hR,m,h4,h6,h7⟩
 have hS:HSat (fun k=>if k < (g i).nx then Z k else none) hv.get (g i).nx w:=by
  refine ⟨fun x ob hx=>?_,fun x ob x' ob' hx hx' hne L L' hL hL'=>?_,fun x hx=>if_neg (by omega),fun x L hL=>?_⟩
  ·obtain ⟨_,h1,_,m,h2,h3,h4⟩:=hvw x ob hx
   have hle:=nx_le hT hl h2 (kW hil)
   exact ⟨h1,ObjOk.ext h3 hle (fun k L hk hL=>by rw [if_pos (by omega)];exact hL) (fun _ _=>rfl) ob h4⟩
  ·rw [if_pos (hvw x ob hx).2.1] at hL
   rw [if_pos (hvw x' ob' hx').2.1] at hL'
   exact hI.sep x ob x' ob' (hvw x ob hx).1 (hvw x' ob' hx').1 hne L L' hL hL'
  split at hL
  ·exact hI.blk x L hL
  cases hL
 have hRo:RoOk E (fun k=>if k < (g i).nx then Z k else none) hv.get (barOf (fp i) (g i).bar (g i).nx) w:=by
  have hr1:=hRo0.fr hI.fr
  refine ⟨hr1.at_,fun a v ha id o L b1 b2 b3=>?_⟩
  have hid:=(hvw id o b2).2.1
  simp only [if_pos hid] at b3
  refine hr1.sep a v ha id o L ?_ (hvw id o b2).1 b3
  have:=(barOf_facts (f:=fp i) hbar).1
  rw [hfb] at this b1
  exact zT this b1
 obtain ⟨v',g',n',h1,h2⟩:=opA_ok hI' hE hRo hS (a:=a) (fun x _ v hv=>evD_ok hp hT hl hI hD hi hil hcl hc x v hv) hr0
 obtain ⟨rfl,rfl,rfl⟩:=hv0 _ _ _ h1
 refine h2 ro _ _ fun u Z' w' e1 e2 e3 _ e5=>?_
 rw [hfb] at e5 hbar
 obtain ⟨Z2,xh2,xr2,hI2⟩:=hI.memo hp hT hl hD hi hil hcl ho (u:=u) (fun x ob hx=>⟨(hvw x ob hx).1,(hvw x ob hx).2.1,(hvw x ob hx).2.2.1⟩) hm1 hbar hmono hg hd hfb e1 e2 e3 e5
 exact hK _ _ _ _ _ hI2
theorem DInv.walk (hRo0:RoOk E Z0 (g 0).h.get (g 0).bar w0) (hp:PrepOk ops.toList ms dm) (hT:Tr E ih ops.toList ms dm len g fp recs) (hl:len=ops.toList.length) (h0:∀x o,(g 0).h.get x=some o->x < (g 0).nx) {ro:Option Nat} {Q:Exit->Act->World->Prop}
  (hQ:∀Z a w,Lands E Z0 (g 0) w0 (g len) a w Z->Q .normal a w):∀(fuel:Nat) (listed:Array Bool) (Z:Nm) (xh:Nat->Option O) (xr:Nat->Option V) (a:Act) (w:World),listed.size=ops.size->unl listed.toList=fuel->
  DInv Z0 w0 ops.toList len g fp (fun t=>listed[t]?=some true) Z xh xr a w->(∀a b,listed[a]?=some true->Cl ms a b->listed[b]?=some true)->wpAnyIn (Fw ro) 0 P .any ops Q fuel listed a w:=by
 have hlen:len=ops.size:=by simpa using hl
 have empty:∀listed:Array Bool,listed.size=ops.size->Region.ready .any ops listed=[]->∀t,t < len->listed[t]?=some true:=by
  intro listed hsz hr t
  induction t using Nat.strongRecOn with
  |_ t ihh=>
   intro ht
   have hlt:t < listed.size:=by omega
   cases hc:listed.getD t true with
   |true=>
    rw [kC] at hc
    simp only [hlt,Array.getElem?_eq_getElem,kK] at hc
    simp [hlt,hc]
   |false=>
    exfalso
    have hm:t∈Region.ready .any ops listed:=by
     rw [mem_ready]
     obtain ⟨o,ho⟩:∃o,ops[t]?=some o:=⟨ops[t]'(by omega),by simp [show t < ops.size by omega]⟩
     refine ⟨hc,o,ho,fun e he hbe=>?_⟩
     obtain ⟨m,_,_,hb⟩:=hp.hm t o (by simpa using ho)
     have hlt:=hb e (by simpa using he) (by rw [<-bindsA_eq];exact hbe)
     exact getD_true_iff.2 (ihh e.on hlt (by omega))
    rw [hr] at hm
    cases hm
 intro fuel
 induction fuel with
 |zero=>
  intro listed Z xh xr a w hsz hu hI _
  have hr:Region.ready .any ops listed=[]:=by
   cases h:Region.ready .any ops listed with
   |nil=>rfl
   |cons x xs=>
    exfalso
    have hm:x∈Region.ready .any ops listed:=by rw [h];simp
    rw [mem_ready] at hm
    exact unl_zero _ hu x (getD_false_iff.1 hm.1)
  exact ⟨hr,hQ _ _ _ (hI.last hRo0 hT hl (empty listed hsz hr))⟩
 |succ fuel ihf=>
  intro listed Z xh xr a w hsz hu hI hD
  refine ⟨fun hr=>hQ _ _ _ (hI.last hRo0 hT hl (empty listed hsz hr)),fun i hi=>?_⟩
  rw [mem_ready] at hi
  obtain ⟨hif,o,ho,hpre⟩:=hi
  have hil:i < len:=by rw [hlen];exact (xW.1 ho).1
  have hfl:listed.toList[i]?=some false:=getD_false_iff.1 hif
  have hni:¬(listed[i]?=some true):=fun h=>by rw [<-xE,hfl] at h;cases h
  have hcl:∀b,Cl ms i b->listed[b]?=some true:=by
   rintro b ⟨m,hm,hb⟩
   obtain ⟨m',h1,h2,_⟩:=hp.hm i o (by simpa using ho)
   rw [hm] at h1;cases h1
   obtain ⟨e,he,hbe,h⟩:=h2 b hb
   have hon:=getD_true_iff.1 (hpre e (by simpa using he) (by rw [bindsA_eq];exact hbe))
   rcases h with rfl |⟨me,hme,hb'⟩
   ·exact hon
   exact hD e.on b hon ⟨me,hme,hb'⟩
  have hset:∀t,(listed.setIfInBounds i true)[t]?=some true↔(listed[t]?=some true\/t=i):=by
   intro t
   rw [Array.getElem?_setIfInBounds]
   by_cases h:i=t
   ·subst h
    rw [if_pos rfl,if_pos (by omega)]
    simp
   rw [if_neg h]
   exact ⟨.inl,fun hh=>hh.resolve_right fun e=>h e.symm⟩
  refine hI.step hE hI' hRo0 hp hT hl h0 hD hni hil hcl fun Z' xh' xr' a' w' hI2=>?_
  refine ihf _ Z' xh' xr' a' w' (by simpa using hsz) ?_ ?_ ?_
  ·have:=unl_set _ _ hfl
   rw [Array.toList_setIfInBounds]
   omega
  ·have e:(fun t=>(listed.setIfInBounds i true)[t]?=some true)=(fun t=>listed[t]?=some true\/t=i):=funext fun t=>propext (hset t)
   rw [e];exact hI2
  intro x y hx hy
  rw [hset] at hx ⊢
  rcases hx with hx |rfl
  ·exact .inl (hD x y hx hy)
  exact .inl (hcl y hy)
theorem draw_ok {Z:Nm} {S:St} {a:Act} {w:World} (hS:Sat E Z S a w) {id:Nat} {r:Ex×St}
  (h:(match prep ops.toList 0 .e .e (fun ms dm=>some (ms,dm)) with
   |some (ms,dm)=>match drawGo E ih ops.toList ms dm ops.toList 0 [] S with
    |some S=>some (Ex.normal,S)
    |none=>none
   |none=>none)=some r) {ro:Option Nat}:∃S',r=(.normal,S')/\(Code.region id ops true).wpIn (Fw ro) 0 P (CPost E Z S w .normal S') a w:=by
 split at h
 rotate_left
 ·cases h
 rename_i ms0 dm0 hprep
 obtain ⟨ms,dm,heq,hp⟩:=prep_ok ops.toList [] .e .e (k:=fun ms dm=>some (ms,dm)) (r:=(ms0,dm0)) (by simpa using hprep) ⟨by simp,fun i m j h=>by simp [T.get] at h,by simp,fun i m h=>by simp [T.get] at h⟩
 simp only [zA,zI] at heq
 obtain ⟨rfl,rfl⟩:=heq
 simp only [qI] at hp
 split at h
 rotate_left
 ·cases h
 rename_i S1 hd
 simp only [zA] at h
 subst h
 refine ⟨S1,rfl,wpIn_region_any hE.mixed ?_⟩
 obtain ⟨g,fp,recs,hT,hg0,hge⟩:=drawGo_ok (E:=E) (ih:=ih) (all:=ops.toList) (ms:=ms) (dm:=dm) ops.toList 0 [] (fun _=>S) (fun _=>.all) (fun j=>by simp) hd
  ⟨fun j o hj=>by omega,fun r hr=>by simp at hr,fun j hj=>by omega,fun a b _ hb=>by omega⟩
 have e0:g 0=S:=hg0 0 (zB _)
 rw [zO] at hT hge
 have hS1:Sat E Z S a { w with drawn:=w.drawn+1 }:=⟨hS.hs.world rfl,hS.size,hS.regs,hS.df,⟨hS.ro.at_,hS.ro.sep⟩⟩
 refine DInv.walk hE hI' (Z0:=Z) (w0:=w) (by rw [e0];exact hS.ro) hp hT rfl (by rw [e0];exact fun x o hx=>(hS.hs.objs x o hx).1) (fun Z' a' w' hL=>?_) ops.size _ Z S.h.get S.regs.get a _ (by simp) (by simp [unl_rep]) ?_ ?_
 ·rw [hge,e0] at hL
  exact ⟨rfl,Z',hL⟩
 ·have nn:∀t:Nat,¬((Array.replicate ops.size false)[t]?=some true):=by
   intro t h
   rw [Array.getElem?_replicate] at h
   split at h<;>cases h
  refine ⟨fun x=>⟨0,xZ _,by rw [e0],fun t _ _=>⟨fun h=>by omega,fun h=>absurd h (nn t)⟩,.inl rfl,fun o ho=>by rw [e0];exact hS1.hs.objs x o ho⟩,
   fun x=>⟨0,xZ _,by rw [e0],fun t _ _=>⟨fun h=>by omega,fun h=>absurd h (nn t)⟩,.inl rfl,fun v hv=>by rw [e0];exact hS1.regs x v hv⟩,
   hS1.hs.sep,hS1.hs.blk,fun x L hx=>.inl ?_,by rw [e0];exact hS1.size,by rw [e0];exact hS1.df,by rw [e0];exact agree.refl _ _,by rw [e0];exact ⟨rfl,rfl,⟨rfl,zQ _⟩,zB _,fun _ _ _=>rfl,fun _ h=>.inl h⟩,fun j hj _ hdj=>absurd hdj (nn j)⟩
  rw [e0]
  rcases Nat.lt_or_ge x S.nx with h |h
  ·exact h
  rw [hS1.hs.dom x h] at hx;cases hx
 intro x y hx _
 rw [Array.getElem?_replicate] at hx
 split at hx<;>cases hx
end
end CX

namespace CX
open Go
theorem meetH_ok:∀(t u:T O) {r:T O},meetH t u=some r->∀id o,r.get id=some o->t.get id=some o/\u.get id=some o
 |.e,_,r,h,id,o,hr=>by
  have h:some (T.e:T O)=some r:=h
  cases h;simp [T.get_e] at hr
 |.n l v r0,.e,r,h,id,o,hr=>by
  have h:some (T.e:T O)=some r:=h
  cases h;simp [T.get_e] at hr
 |.n l v r0,.n l' v' r',r,h,id,o,hr=>by
  have h:(match obSame v v' with
    |some o=>(match meetH l l' with
     |some l=>(match meetH r0 r' with
      |some r=>some (T.n l o r)
      |none=>none)
     |none=>none)
    |none=>none)=some r:=h
  split at h
  rotate_left
  ·cases h
  rename_i o' h1
  split at h
  rotate_left
  ·cases h
  rename_i l1 h2
  split at h
  rotate_left
  ·cases h
  rename_i r1 h3
  simp only [zA] at h
  subst h
  cases id with
  |zero=>
   rw [T.get_zero] at hr ⊢
   rw [T.get_zero]
   subst hr
   exact obSame_ok h1
  |succ j=>
   rw [T.get_succ] at hr ⊢
   rw [T.get_succ]
   split at hr
   next hj=>
    rw [if_pos hj,if_pos hj]
    exact meetH_ok l l' h2 _ _ hr
   rename_i hj
   rw [if_neg hj,if_neg hj]
   exact meetH_ok r0 r' h3 _ _ hr
theorem meetR_ok:∀(t u:T V) (id:Nat) (o:V),(meetR t u).get id=some o->t.get id=some o/\u.get id=some o
 |.e,_,id,o,hr=>by
  have hr:(T.e:T V).get id=some o:=hr
  simp [T.get_e] at hr
 |.n l v r0,.e,id,o,hr=>by
  have hr:(T.e:T V).get id=some o:=hr
  simp [T.get_e] at hr
 |.n l v r0,.n l' v' r',id,o,hr=>by
  have hr:(T.n (meetR l l') (match oSame vSame v v' with |true=>v |false=>none) (meetR r0 r')).get id=some o:=hr
  cases id with
  |zero=>
   rw [T.get_zero] at hr ⊢
   rw [T.get_zero]
   split at hr
   next h1=>
    exact ⟨hr,by rw [<-oSame_ok h1];exact hr⟩
   cases hr
  |succ j=>
   rw [T.get_succ] at hr ⊢
   rw [T.get_succ]
   split at hr
   next hj=>
    rw [if_pos hj,if_pos hj]
    exact meetR_ok l l' _ _ hr
   rename_i hj
   rw [if_neg hj,if_neg hj]
   exact meetR_ok r0 r' _ _ hr
theorem forceT_eq {α β:Type} (t:T α):∀k:T α->β,forceT t k=k t:=by
 induction t with
 |e=>intro k;rfl
 |n l v r il ir=>
  intro k
  have:forceT (T.n l v r) k=forceT l fun l=>forceT r fun r=>k (.n l v r):=rfl
  rw [this,il,ir]
theorem leR_ok:∀(t u:T V),leR t u=true->∀id v,t.get id=some v->u.get id=some v
 |.e,_,_,id,v,h=>by simp [T.get_e] at h
 |.n l x r,.e,h,id,v,hv=>by
  have h:(match (generalizing:=false) x with |none=>(match leR l .e with |true=>leR r .e |false=>false) |some _=>false)=true:=h
  split at h
  ·split at h
   next h1=>
    cases id with
    |zero=>rw [T.get_zero] at hv;cases hv
    |succ j=>
     rw [T.get_succ] at hv
     split at hv
     ·exact absurd (leR_ok l .e h1 _ _ hv) (by simp [T.get_e])
     exact absurd (leR_ok r .e h _ _ hv) (by simp [T.get_e])
   cases h
  cases h
 |.n l x r,.n l' x' r',h,id,v,hv=>by
  have h:(match (match (generalizing:=false) x with |none=>true |some _=>oSame vSame x x') with |true=>(match leR l l' with |true=>leR r r' |false=>false) |false=>false)=true:=h
  split at h
  next h0=>
   split at h
   next h1=>
    cases id with
    |zero=>
     rw [T.get_zero] at hv ⊢
     subst hv
     exact (oSame_ok h0).symm
    |succ j=>
     rw [T.get_succ] at hv ⊢
     split at hv
     next hj=>rw [if_pos hj];exact leR_ok l l' h1 _ _ hv
     rename_i hj;rw [if_neg hj];exact leR_ok r r' h _ _ hv
   cases h
  cases h
structure Wk (S S':St):Prop where
 nt:S'.nt=S.nt
 bar:S'.bar=S.bar
 nx:S'.nx=S.nx
 df:S'.df=S.df
 regs:∀t v,S'.regs.get t=some v->S.regs.get t=some v
 h:∀id o,S'.h.get id=some o->S.h.get id=some o
theorem Wk.refl (S:St):Wk S S:=⟨rfl,rfl,rfl,rfl,fun _ _ h=>h,fun _ _ h=>h⟩
theorem Wk.trans {S S1 S2:St} (a:Wk S S1) (b:Wk S1 S2):Wk S S2:=⟨b.nt.trans a.nt,b.bar.trans a.bar,b.nx.trans a.nx,b.df.trans a.df,fun t v h=>a.regs t v (b.regs t v h),fun id o h=>a.h id o (b.h id o h)⟩
theorem meetS_ok {S S' R:St} (h:meetS S S'=some R):Wk S R/\Wk S' R:=by
 cases S with
 |mk nt bar regs hh nx df=>
 cases S' with
 |mk nt' bar' regs' hh' nx' df'=>
 simp only [meetS] at h
 split at h
 next hb=>
  simp only [zC] at hb
  obtain ⟨⟨⟨b1,b2⟩,b3⟩,b4⟩:=hb
  have e1:=zF b1
  have e2:=zF b2
  have e3:=zF b3
  have e4:=(lEq_iff _ _).1 b4
  subst e1 e2 e3 e4
  split at h
  next h'' hm=>
   rw [forceT_eq] at h
   simp only [zA] at h
   subst h
   exact ⟨⟨rfl,rfl,rfl,rfl,fun t v hv=>(meetR_ok _ _ _ _ hv).1,fun id o ho=>(meetH_ok _ _ hm _ _ ho).1⟩,⟨rfl,rfl,rfl,rfl,fun t v hv=>(meetR_ok _ _ _ _ hv).2,fun id o ho=>(meetH_ok _ _ hm _ _ ho).2⟩⟩
  cases h
 cases h
structure WkL (S S':St):Prop where
 nt:S'.nt=S.nt
 bar:S'.bar=S.bar
 nx:S.nx<=S'.nx
 df:S'.df=S.df
 regs:∀t v,S'.regs.get t=some v->S.regs.get t=some v
 h:∀id o,S'.h.get id=some o->S.h.get id=some o
theorem WkL.refl (S:St):WkL S S:=⟨rfl,rfl,zB _,rfl,fun _ _ h=>h,fun _ _ h=>h⟩
theorem WkL.trans {S S1 S2:St} (a:WkL S S1) (b:WkL S1 S2):WkL S S2:=⟨b.nt.trans a.nt,b.bar.trans a.bar,zT a.nx b.nx,b.df.trans a.df,fun t v h=>a.regs t v (b.regs t v h),fun id o h=>a.h id o (b.h id o h)⟩
theorem meetM_ok {S S' R:St} (h:meetM S S'=some R):WkL S R/\WkL S' R:=by
 cases S with
 |mk nt bar regs hh nx df=>
 cases S' with
 |mk nt' bar' regs' hh' nx' df'=>
 simp only [meetM] at h
 split at h
 rotate_left
 ·cases h
 rename_i hb
 simp only [zC] at hb
 obtain ⟨⟨b1,b2⟩,b4⟩:=hb
 have e1:=zF b1
 have e2:=zF b2
 have e4:=(lEq_iff _ _).1 b4
 subst e1 e2 e4
 split at h
 next h'' hm=>
  rw [forceT_eq] at h
  split at h
  next hle=>
   have hle:=Nat.le_of_ble_eq_true hle
   simp only [zA] at h
   subst h
   exact ⟨⟨rfl,rfl,hle,rfl,fun t v hv=>(meetR_ok _ _ _ _ hv).1,fun id o ho=>(meetH_ok _ _ hm _ _ ho).1⟩,⟨rfl,rfl,zB _,rfl,fun t v hv=>(meetR_ok _ _ _ _ hv).2,fun id o ho=>(meetH_ok _ _ hm _ _ ho).2⟩⟩
  rename_i hle
  have hle:nx'<=nx:=by
   cases Nat.le_total nx nx' with
   |inl h1=>rw [Nat.ble_eq_true_of_le h1] at hle;cases hle
   |inr h1=>exact h1
  simp only [zA] at h
  subst h
  exact ⟨⟨rfl,rfl,zB _,rfl,fun t v hv=>(meetR_ok _ _ _ _ hv).1,fun id o ho=>(meetH_ok _ _ hm _ _ ho).1⟩,⟨rfl,rfl,hle,rfl,fun t v hv=>(meetR_ok _ _ _ _ hv).2,fun id o ho=>(meetH_ok _ _ hm _ _ ho).2⟩⟩
 cases h
theorem leS_ok {S S':St} (h:leS S S'=true):Wk S' S:=by
 cases S with
 |mk nt bar regs hh nx df=>
 cases S' with
 |mk nt' bar' regs' hh' nx' df'=>
 simp only [leS] at h
 split at h
 next hb=>
  simp only [zC] at hb
  obtain ⟨⟨⟨b1,b2⟩,b3⟩,b4⟩:=hb
  have e1:=zF b1
  have e2:=zF b2
  have e3:=zF b3
  have e4:=(lEq_iff _ _).1 b4
  subst e1 e2 e3 e4
  split at h
  next h1=>
   exact ⟨rfl,rfl,rfl,rfl,leR_ok _ _ h1,leH_ok _ _ h⟩
  cases h
 cases h
theorem Own.wk {Z:Nm} {S S':St} (h:Wk S S') {b:Nat} (ho:Own Z S'.h.get S'.bar b):Own Z S.h.get S.bar b:=by
 obtain ⟨id,o,L,h1,h2,h3,h4⟩:=ho
 exact ⟨id,o,L,by rw [<-h.bar];exact h1,h.h _ _ h2,h3,h4⟩
theorem Sat.wk {E:Env} {Z:Nm} {S S':St} {a:Act} {w:World} (hS:Sat E Z S a w) (h:Wk S S'):Sat E Z S' a w:=
 ⟨by rw [h.nx];exact hS.hs.sub h.h,by rw [h.nt];exact hS.size,fun t v hv=>by rw [h.nx];exact hS.regs t v (h.regs t v hv),by rw [h.df,h.nx];exact hS.df,
  ⟨hS.ro.at_,fun a v ha id o L h1 h2 h3=>hS.ro.sep a v ha id o L (by rw [<-h.bar];exact h1) (h.h _ _ h2) h3⟩⟩
theorem Own.wkL {Z:Nm} {S S':St} (h:WkL S S') {b:Nat} (ho:Own Z S'.h.get S'.bar b):Own Z S.h.get S.bar b:=by
 obtain ⟨id,o,L,h1,h2,h3,h4⟩:=ho
 exact ⟨id,o,L,by rw [<-h.bar];exact h1,h.h _ _ h2,h3,h4⟩
theorem Sat.wkL {E:Env} {Z:Nm} {S S':St} {a:Act} {w:World} (hS:Sat E Z S a w) (h:WkL S S'):Sat E Z S' a w:=
 ⟨⟨fun id o ho=>⟨xH (hS.hs.objs id o (h.h _ _ ho)).1 h.nx,ObjOk.ext (hS.hs.objs id o (h.h _ _ ho)).1 h.nx (fun _ _ _ h=>h) (fun _ _=>rfl) o (hS.hs.objs id o (h.h _ _ ho)).2⟩,
   fun id o id' o' h1 h2=>hS.hs.sep id o id' o' (h.h _ _ h1) (h.h _ _ h2),fun id hid=>hS.hs.dom id (zT h.nx hid),hS.hs.blk⟩,
  by rw [h.nt];exact hS.size,fun t v hv=>let ⟨u,h1,h2⟩:=hS.regs t v (h.regs t v hv);⟨u,h1,Rv.ext h.nx (fun _ _ _ h=>h) _ _ h2⟩,by rw [h.df];exact RvD.ext h.nx (fun _ _ _ h=>h) _ _ hS.df,
  ⟨hS.ro.at_,fun a v ha id o L h1 h2 h3=>hS.ro.sep a v ha id o L (by rw [<-h.bar];exact h1) (h.h _ _ h2) h3⟩⟩
theorem Lands.wkL {E:Env} {Z0 Z:Nm} {S0 S S':St} {a:Act} {w0 w:World} (hL:Lands E Z0 S0 w0 S a w Z) (h:WkL S S'):Lands E Z0 S0 w0 S' a w Z:=
 ⟨hL.sat.wkL h,hL.ag,zT hL.le h.nx,h.nt.trans hL.nt,h.bar.trans hL.bar,hL.fr.less fun b hb=>Own.wkL h hb⟩
theorem Lands.wk {E:Env} {Z0 Z:Nm} {S0 S S':St} {a:Act} {w0 w:World} (hL:Lands E Z0 S0 w0 S a w Z) (h:Wk S S'):Lands E Z0 S0 w0 S' a w Z:=
 ⟨hL.sat.wk h,hL.ag,by rw [h.nx];exact hL.le,h.nt.trans hL.nt,h.bar.trans hL.bar,hL.fr.less fun b hb=>Own.wk h hb⟩
def lft (bm bi:Nat) (w:World):Nat:=
 match w.heap[bm]?,w.heap[bi]? with
 |some (.map es _),some (.mapIter _ _ seen _)=>(leftOf es seen).size
 |_,_=>0
def LastOk (Z:Nm) (n:Nat) (es:Array MapEntry) (seen:Array Nat) (c0 c:Nat) (la:Option (V×V×Nat)):Prop:=
 ∀k v b,la=some (k,v,b)->∃(e:MapEntry) (seen0:Array Nat),e∈es.toList/\Rv Z n k e.key/\Rv Z n v e.val/\seen=seen0.push e.born/\c0=c
structure ItOk (Z:Nm) (n:Nat) (h:Nat->Option O) (i m bi bm:Nat) (l:List (V×V×Nat)) (c:Nat) (it:It) (w:World):Prop where
 ri:i < n/\∃bs,Z i=some ⟨bi,0,bs⟩
 rm:m < n/\∃L,Z m=some L/\L.b=bm
 lt:bi < w.heap.size/\bm < w.heap.size/\bi≠bm
 sep:∀id o L,h id=some o->Z id=some L->L.b≠bi/\L.b≠bm
 ex:∃es since seen c0,w.heap[bi]?=some (.mapIter (some bm) since seen c0)/\w.heap[bm]?=some (.map es c)/\RvM Z n l es.toList/\(∀x∈es.toList,x.born < since)/\since<=c0/\since<=c/\
  (es.toList.map (·.born)).Nodup/\LastOk Z n es seen c0 c (lastOf it)/\(match it with |.conc _ left=>RvM Z n left (leftOf es seen).toList |.abs _=>True)
theorem RvM.len {Z:Nm} {n:Nat}:∀{l:List (V×V×Nat)} {es:List MapEntry},RvM Z n l es->l.length=es.length
 |[],[],_=>rfl
 |_ :: l,_ :: es,h=>by simp only [RvM] at h;simp [RvM.len h.2.2.2]
 |[],_ :: _,h=>by simp [RvM] at h
 |_ :: _,[],h=>by simp [RvM] at h
theorem nexts_mem {Z:Nm} {n:Nat} {f:V×V×Nat->It}:∀{l:List (V×V×Nat)} {es:List MapEntry},RvM Z n l es->∀e∈es,∃k v,(V.tup [.bool true,k,v],f (k,v,e.born),true)∈nexts1 f l/\Rv Z n k e.key/\Rv Z n v e.val
 |[],[],_,e,he=>by cases he
 |(k,v,b) :: l,x :: es,h,e,he=>by
  simp only [RvM] at h
  obtain ⟨h1,h2,h3,h4⟩:=h
  rcases zL.1 he with rfl |he
  ·exact ⟨k,v,by rw [h3];exact .head _,h1,h2⟩
  obtain ⟨k',v',g1,g2⟩:=nexts_mem h4 e he
  exact ⟨k',v',.tail _ g1,g2⟩
 |[],_ :: _,h,_,_=>by simp [RvM] at h
 |_ :: _,[],h,_,_=>by simp [RvM] at h
theorem without1_ok {Z:Nm} {n b:Nat}:∀{l:List (V×V×Nat)} {es:List MapEntry},RvM Z n l es->RvM Z n (without1 b l) (es.filter fun e=>!(e.born == b))
 |[],[],_=>trivial
 |(k,v,c) :: l,x :: es,h=>by
  simp only [RvM] at h
  obtain ⟨h1,h2,h3,h4⟩:=h
  subst h3
  simp only [without1]
  split
  next hb=>
   have e:=zF hb
   rw [List.filter_cons,if_neg (by simp [e])]
   exact without1_ok h4
  rename_i hb
  have e:¬x.born=b:=fun e=>by rw [e] at hb;simp at hb
  rw [List.filter_cons,if_pos (by simp [e])]
  exact ⟨h1,h2,rfl,without1_ok h4⟩
 |[],_ :: _,h=>by simp [RvM] at h
 |_ :: _,[],h=>by simp [RvM] at h
theorem leftOf_push (es:Array MapEntry) (seen:Array Nat) (b:Nat):(leftOf es (seen.push b)).toList=(leftOf es seen).toList.filter fun e=>!(e.born == b):=by
 unfold leftOf
 rw [Array.toList_filter,Array.toList_filter,List.filter_filter]
 congr 1
 funext e
 rw [contains_push]
 cases seen.contains e.born<;>cases (e.born == b)<;>rfl
theorem ItOk.ext {Z Z':Nm} {n n':Nat} {h h':Nat->Option O} {i m bi bm:Nat} {l:List (V×V×Nat)} {c:Nat} {it:It} {w w':World} (H:ItOk Z n h i m bi bm l c it w) (hn:n<=n') (ha:agree n Z Z') (hsz:w.heap.size<=w'.heap.size)
  (hi:w'.heap[bi]?=w.heap[bi]?) (hm:w'.heap[bm]?=w.heap[bm]?) (hsep:∀id o L,h' id=some o->Z' id=some L->L.b≠bi/\L.b≠bm):ItOk Z' n' h' i m bi bm l c it w':=by
 obtain ⟨a1,bs,a2⟩:=H.ri
 obtain ⟨b1,L,b2,b3⟩:=H.rm
 obtain ⟨c1,c2,c3⟩:=H.lt
 obtain ⟨es,since,seen,c0,e1,e2,e3,e4,e5,e6,e8,e9,e7⟩:=H.ex
 have hr:∀i L,i < n->Z i=some L->Z' i=some L:=fun i L hi hl=>by rw [ha i hi];exact hl
 refine ⟨⟨by omega,bs,hr _ _ a1 a2⟩,⟨by omega,L,hr _ _ b1 b2,b3⟩,⟨by omega,by omega,c3⟩,hsep,es,since,seen,c0,hi.trans e1,hm.trans e2,RvM.ext hn hr _ _ e3,e4,e5,e6,e8,fun k v b hl=>?_,?_⟩
 ·obtain ⟨e,s0,f1,f2,f3,f4,f5⟩:=e9 k v b hl
  exact ⟨e,s0,f1,Rv.ext hn hr _ _ f2,Rv.ext hn hr _ _ f3,f4,f5⟩
 cases it with
 |conc la left=>exact RvM.ext hn hr _ _ e7
 |abs la=>trivial
theorem lft_eq {bm bi:Nat} {w w':World} (hi:w'.heap[bi]?=w.heap[bi]?) (hm:w'.heap[bm]?=w.heap[bm]?):lft bm bi w'=lft bm bi w:=by
 unfold lft;rw [hi,hm]
theorem next_ok {P:Program} {Z:Nm} {n:Nat} {h:Nat->Option O} {i m bi bm:Nat} {l:List (V×V×Nat)} {c:Nat} {it:It} {w:World} (H:ItOk Z n h i m bi bm l c it w) (ty:TypeId) :
  ∃v u it' adv w',(v,it',adv)∈nexts l it/\(Instr.next (.pointer (some ⟨bi,0,none⟩)) false ty).run P w=.ok u w'/\Rv Z n v u/\w'.os=w.os/\w'.tape=w.tape/\Io w w'/\w'.heap.size=w.heap.size/\
   (∀b,b≠bi->w'.heap[b]?=w.heap[b]?)/\ItOk Z n h i m bi bm l c it' w'/\lft bm bi w'+(if adv then 1 else 0)<=lft bm bi w:=by
 have H0:=H
 obtain ⟨a1,bs,a2⟩:=H.ri
 obtain ⟨b1,L,b2,b3⟩:=H.rm
 obtain ⟨c1,c2,c3⟩:=H.lt
 obtain ⟨es,since,seen,c0,e1,e2,e3,e4,e5,e6,e8,e9,e7⟩:=H.ex
 rcases run_next_at (P:=P) w ty bi bm since c0 seen es c e1 e2 e4 e5 with ⟨h0,hrun⟩ |⟨e,he,w1,hal,hrun⟩
 ·have:∃it',(V.tup [.bool false],it',false)∈nexts l it/\it'=it:=by
   cases it with
   |abs la=>exact ⟨.abs la,.head _,rfl⟩
   |conc la left=>
    have hl:left.length=(leftOf es seen).toList.length:=RvM.len e7
    have hl:left.length=0:=by rw [hl];simpa using h0
    have:=zS.1 hl
    subst this
    exact ⟨.conc la [],.head _,rfl⟩
  obtain ⟨it',g1,rfl⟩:=this
  exact ⟨_,_,it',false,w,g1,hrun,by simp [Rv,RvL],rfl,rfl,⟨rfl,zB _⟩,rfl,fun _ _=>rfl,H0,by simp⟩
 obtain ⟨m1,m2⟩:=mem_left he
 obtain ⟨it',k,v,g1,g2,g3,g5,g4⟩:∃(it':It) (k v:V),(V.tup [.bool true,k,v],it',true)∈nexts l it/\Rv Z n k e.key/\Rv Z n v e.val/\lastOf it'=some (k,v,e.born)/\(match it' with |.conc _ left=>RvM Z n left (leftOf es (seen.push e.born)).toList |.abs _=>True):=by
  cases it with
  |abs la=>
   obtain ⟨k,v,f1,f2,f3⟩:=nexts_mem (f:=fun e=>It.abs (some e)) e3 e m1
   exact ⟨.abs (some (k,v,e.born)),k,v,.tail _ f1,f2,f3,rfl,trivial⟩
  |conc la left=>
   have e7:RvM Z n left (leftOf es seen).toList:=e7
   obtain ⟨k,v,f1,f2,f3⟩:=nexts_mem (f:=fun e=>It.conc (some e) (without1 e.2.2 left)) e7 e he
   refine ⟨.conc (some (k,v,e.born)) (without1 e.born left),k,v,?_,f2,f3,rfl,?_⟩
   ·cases left with
    |nil=>simp [nexts1] at f1
    |cons=>exact f1
   show RvM Z n (without1 e.born left) (leftOf es (seen.push e.born)).toList
   rw [leftOf_push]
   exact without1_ok e7
 have hw1:w1.heap=w.heap/\w1.os=w.os/\w1.tape=w.tape/\Io w w1:=by rcases hal with rfl |rfl<;>exact ⟨rfl,rfl,rfl,rfl,by first |exact zB _ |exact zQ _⟩
 obtain ⟨q1,q2,q3,q4⟩:=hw1
 have hset:∀b,(ChangeMaps.setBlock w1 bi (.mapIter (some bm) since (seen.push e.born) c)).heap[b]?=if b=bi then some (.mapIter (some bm) since (seen.push e.born) c) else w.heap[b]?:=by
  intro b
  show (w1.heap.setIfInBounds bi _)[b]?=_
  rw [q1,Array.getElem?_setIfInBounds]
  by_cases hb:bi=b
  ·subst hb;simp [c1]
  rw [if_neg hb,if_neg (Ne.symm hb)]
 have hsz:(ChangeMaps.setBlock w1 bi (.mapIter (some bm) since (seen.push e.born) c)).heap.size=w.heap.size:=by
  show (w1.heap.setIfInBounds bi _).size=_
  rw [q1];simp
 have hbi:=hset bi
 rw [if_pos rfl] at hbi
 have hbm:=hset bm
 rw [if_neg (Ne.symm c3)] at hbm
 refine ⟨_,_,it',true,_,g1,hrun,by simp [Rv,RvL,g2,g3],q2,q3,q4,hsz,fun b hb=>by rw [hset,if_neg hb],⟨⟨a1,bs,a2⟩,⟨b1,L,b2,b3⟩,⟨by rw [hsz];exact c1,by rw [hsz];exact c2,c3⟩,H.sep,es,since,seen.push e.born,c,hbi,hbm.trans e2,e3,e4,e6,e6,e8,fun k' v' b' hl=>by rw [g5] at hl;cases hl;exact ⟨e,seen,m1,g2,g3,rfl,rfl⟩,g4⟩,?_⟩
 have:=left_shrinks es seen e he
 unfold lft
 rw [hbi,hbm,e2,e1]
 simp only [if_true]
 omega
theorem ItOk.forget {Z:Nm} {n:Nat} {h:Nat->Option O} {i m bi bm:Nat} {l:List (V×V×Nat)} {c:Nat} {it:It} {w:World} (H:ItOk Z n h i m bi bm l c it w):ItOk Z n h i m bi bm l c (.abs none) w:=by
 obtain ⟨es,since,seen,c0,e1,e2,e3,e4,e5,e6,e8,e9,e7⟩:=H.ex
 exact ⟨H.ri,H.rm,H.lt,H.sep,es,since,seen,c0,e1,e2,e3,e4,e5,e6,e8,fun k v b h=>(by cases h),trivial⟩
theorem entry_ok {P:Program} {Z:Nm} {n:Nat} {h:Nat->Option O} {i m bi bm:Nat} {l:List (V×V×Nat)} {c:Nat} {it:It} {w:World} (H:ItOk Z n h i m bi bm l c it w) {k v:V} {b:Nat} (hl:lastOf it=some (k,v,b)) :
  ∃x y,(Instr.entry (.pointer (some ⟨bi,0,none⟩))).run P w=.ok (.tuple #[x,y]) w/\Rv Z n k x/\Rv Z n v y:=by
 obtain ⟨es,since,seen,c0,e1,e2,e3,e4,e5,e6,e8,e9,e7⟩:=H.ex
 obtain ⟨e,s0,f1,f2,f3,rfl,rfl⟩:=e9 k v b hl
 exact ⟨e.key,e.val,run_entry_at w bi bm since s0 es c0 e e1 e2 f1 e8,f2,f3⟩
end CX

namespace CX
open Go
section
variable {P:Program} {E:Env} (hE:EnvOk E P) {ih:IH} (hI:IhOk E P ih) {ro:Option Nat}
include hE hI
theorem seqTail_ok (all:Array Oper) {Z0:Nm} {S0:St} {w0:World}:∀(rest:List Oper) (i:Nat) (S:St) {k:St->R} {r:Ex×St} {tail:List Nat},(∀(j:Nat) (o:Oper),rest[j]?=some o->all[i+j]?=some o)->seqOps E ih all.toList rest S k=some r->
  ∀{Z:Nm} {a:Act} {w:World},Lands E Z0 S0 w0 S a w Z->∀{Q:Exit->Act->World->Prop},(∀S' Z' a' w',k S'=some r->Lands E Z0 S0 w0 S' a' w' Z'->wpOpsIn (Fw ro) 0 P all Q tail a' w')->
  wpOpsIn (Fw ro) 0 P all Q (List.range' i rest.length++tail) a w
 |[],i,S,k,r,tail,_,h,Z,a,w,hL,Q,hQ=>by
  simp only [xI,List.range'_zero,qI]
  exact hQ S Z a w h hL
 |o :: rest,i,S,k,r,tail,hall,h,Z,a,w,hL,Q,hQ=>by
  have h0:all[i]?=some o:=by simpa using hall 0 o (by simp)
  have hall':∀(j:Nat) (o:Oper),rest[j]?=some o->all[i+1+j]?=some o:=fun j o hj=>by have:=hall (j+1) o (by simpa using hj);simpa [xP,Nat.add_comm 1 j] using this
  simp only [zY,List.range'_succ,List.cons_append,wpOpsIn,h0]
  simp only [seqOps] at h
  have h:=wantX_ok h hL.sat.regs
  cases hw:Region.wanted o (yielded all a.tmps) with
  |true=>
   rw [hw] at h
   simp only at h
   rw [if_pos rfl]
   obtain ⟨v,g',n',h1,h2⟩:=opA_ok hI hE hL.sat.ro hL.sat.hs (fun x _ v hv=>evR_ok hL.sat.regs x v hv) h
   refine h2 ro _ _ fun u Z' w' hv hS' hag hn hfr=>?_
   obtain ⟨h3,hd⟩:=putD_ok h1
   have hR':RegsOk Z' n' S.regs a.tmps:=hL.sat.regs.ext hn (fun i L hi hl=>by rw [hag i hi];exact hl)
   obtain ⟨g1,g2,g3⟩:=put_ok hR' hv hL.sat.size hd
   exact seqTail_ok all rest (i+1) _ hall' h3 (hL.trans ⟨⟨hS',g2,g1,by rw [g3];exact hL.sat.df.ext hn (fun i L hi hl=>by rw [hag i hi];exact hl),hL.sat.ro.fr hfr⟩,hag,hn,rfl,rfl,hfr⟩) hQ
  |false=>
   rw [hw] at h
   simp only at h
   simp only [kN,if_false]
   refine ⟨fun _ _=>trivial,?_⟩
   obtain ⟨h3,hd⟩:=putD_ok h
   obtain ⟨g1,g2,g3⟩:=put_ok (u:=undef) hL.sat.regs (v:=.tup []) (by simp only [Rv];exact ⟨[],by simp [RvL],rfl⟩) hL.sat.size hd
   exact seqTail_ok all rest (i+1) _ hall' h3 (hL.trans ⟨⟨hL.sat.hs,g2,g1,by rw [g3];exact hL.sat.df,hL.sat.ro⟩,agree.refl _ _,zB _,rfl,rfl,Fr.refl _ _⟩) hQ
end
section
variable {E:Env} {P:Program} {Z0:Nm} {S0:St} {w0:World} {i m bi bm:Nat} {l:List (V×V×Nat)} {cl:Nat}
structure NOut (E:Env) (Z0:Nm) (S0:St) (w0:World) (i m bi bm:Nat) (l:List (V×V×Nat)) (cl n:Nat) (Z:Nm) (w:World) (o:Out) (a':Act) (w':World) (Z':Nm):Prop where
 L:Lands E Z0 S0 w0 o.S a' w' Z'
 ag:agree n Z Z'
 le:n<=o.S.nx
 it:ItOk Z' o.S.nx o.S.h.get i m bi bm l cl o.it w'
 lf:lft bm bi w'+(if o.adv then 1 else 0)<=lft bm bi w
def NPost (E:Env) (Z0:Nm) (S0:St) (w0:World) (i m bi bm:Nat) (l:List (V×V×Nat)) (cl n:Nat) (Z:Nm) (w:World) (rs:List Out):Exit->Act->World->Prop:=
 fun x a' w'=>∃o∈rs,x=exO o.e/\∃Z',NOut E Z0 S0 w0 i m bi bm l cl n Z w o a' w' Z'
theorem NOut.from {n n1:Nat} {Z Z1 Z':Nm} {w w1 w':World} {o:Out} {a':Act} (h:NOut E Z0 S0 w0 i m bi bm l cl n1 Z1 w1 o a' w' Z') (ha:agree n Z Z1) (hn:n<=n1) (hl:lft bm bi w1<=lft bm bi w):NOut E Z0 S0 w0 i m bi bm l cl n Z w o a' w' Z':=
 ⟨h.L,ha.trans (h.ag.mono hn),zT hn h.le,h.it,zT h.lf hl⟩
theorem NOut.adv {n n1 : Nat} {Z Z1 Z' : Nm} {w w1 w' : World} {o : Out} {a' : Act} {b : Bool} (h : NOut E Z0 S0 w0 i m bi bm l cl n1 Z1 w1 o a' w' Z') (ha : agree n Z Z1) (hn : n <= n1) (hl : lft bm bi w1 + (if b then 1 else 0) <= lft bm bi w) :
    NOut E Z0 S0 w0 i m bi bm l cl n Z w ⟨o.e,o.it,o.S,orB b o.adv⟩ a' w' Z':=by
  refine ⟨h.L,ha.trans (h.ag.mono hn),zT hn h.le,h.it,?_⟩
  have h1:=h.lf
  show lft bm bi w'+(if orB b o.adv=true then 1 else 0)<=lft bm bi w
  cases b with
  | false => have e : orB false o.adv = o.adv := rfl
             rw [e];simp at hl;omega
  |true=>
    have e:orB true o.adv=true:=rfl
    rw [e];simp at hl ⊢;omega
theorem setAdv_mem {b:Bool} {o:Out}:∀{rs:List Out},o∈rs->(⟨o.e,o.it,o.S,orB b o.adv⟩:Out)∈setAdv b rs
 |x :: rs,h=>by
  rcases zL.1 h with rfl |h
  ·exact .head _
  exact .tail _ (setAdv_mem h)
theorem bindN_mem {f:Out->Option (List Out)}:∀{rs qs:List Out},bindN f rs=some qs->∀o∈rs,∃ps,f o=some ps/\∀p∈ps,p∈qs
 |x :: rs,qs,h,o,ho=>by
  simp only [bindN] at h
  split at h
  next l1 h1=>
   split at h
   next l2 h2=>
    simp only [zA] at h
    subst h
    rcases zL.1 ho with rfl |ho
    ·exact ⟨l1,h1,fun p hp=>xO _ hp⟩
    obtain ⟨ps,g1,g2⟩:=bindN_mem h2 o ho
    exact ⟨ps,g1,fun p hp=>xF _ (g2 p hp)⟩
   cases h
  cases h
theorem bindC_mem {f:V->It->Bool->Option (List Out)}:∀{L:List (V×It×Bool)} {qs:List Out},seqN.bindC f L=some qs->∀v it a,(v,it,a)∈L->∃ps,f v it a=some ps/\∀p∈ps,p∈qs
 |(v0,it0,a0) :: rs,qs,h,v,it,a,ho=>by
  simp only [seqN.bindC] at h
  split at h
  next l1 h1=>
   split at h
   next l2 h2=>
    simp only [zA] at h
    subst h
    rcases zL.1 ho with e |ho
    ·cases e;exact ⟨l1,h1,fun p hp=>xO _ hp⟩
    obtain ⟨ps,g1,g2⟩:=bindC_mem h2 v it a ho
    exact ⟨ps,g1,fun p hp=>xF _ (g2 p hp)⟩
   cases h
  cases h
theorem ItOk.lands {Z Z':Nm} {S S':St} {a':Act} {w w':World} {it:It} (H:ItOk Z S.nx S.h.get i m bi bm l cl it w) (hL:Lands E Z S w S' a' w' Z') (hb:S.bar=0):ItOk Z' S'.nx S'.h.get i m bi bm l cl it w'/\lft bm bi w'=lft bm bi w:=by
 obtain ⟨c1,c2,c3⟩:=H.lt
 have no:∀b,(b=bi\/b=bm)->¬Own Z S.h.get S.bar b:=by
  rintro b hbb ⟨id,o,L,_,h2,h3,h4⟩
  have:=H.sep id o L h2 h3
  rcases hbb with rfl |rfl
  ·exact this.1 h4
  exact this.2 h4
 have ki:=hL.fr.keep bi c1 (no _ (.inl rfl))
 have km:=hL.fr.keep bm c2 (no _ (.inr rfl))
 refine ⟨H.ext hL.le hL.ag hL.fr.size ki km fun id o L h2 h3=>?_,lft_eq ki km⟩
 have hown:Own Z' S'.h.get S'.bar L.b:=⟨id,o,L,by rw [hL.bar,hb];exact xZ _,h2,h3,rfl⟩
 rcases hL.fr.own _ hown with h |h
 ·exact ⟨fun e=>no _ (.inl e) h,fun e=>no _ (.inr e) h⟩
 exact ⟨by omega,by omega⟩
theorem ItOk.wk {Z:Nm} {S S':St} {w:World} {it:It} (H:ItOk Z S.nx S.h.get i m bi bm l cl it w) (h:Wk S S'):ItOk Z S'.nx S'.h.get i m bi bm l cl it w:=
 H.ext (by rw [h.nx];exact zB _) (agree.refl _ _) (zB _) rfl rfl fun id o L h2 h3=>H.sep id o L (h.h _ _ h2) h3
theorem ItOk.wkL {Z:Nm} {S S':St} {w:World} {it:It} (H:ItOk Z S.nx S.h.get i m bi bm l cl it w) (h:WkL S S'):ItOk Z S'.nx S'.h.get i m bi bm l cl it w:=
 H.ext h.nx (agree.refl _ _) (zB _) rfl rfl fun id o L h2 h3=>H.sep id o L (h.h _ _ h2) h3
theorem normals_mem {o:Out} (he:o.e=.normal):∀{rs:List Out},o∈rs->o∈normals rs
 |x :: rs,h=>by
  simp only [normals]
  rcases zL.1 h with rfl |h
  ·rw [he];exact .head _
  split
  ·exact .tail _ (normals_mem he h)
  exact normals_mem he h
theorem others_mem {o:Out} (he:o.e≠.normal):∀{rs:List Out},o∈rs->o∈others rs
 |x :: rs,h=>by
  simp only [others]
  rcases zL.1 h with rfl |h
  ·split
   ·exact absurd ‹_› he
   exact .head _
  split
  ·exact others_mem he h
  exact .tail _ (others_mem he h)
theorem meetL_ok:∀{rs:List Out} {S R:St},meetL S rs=some R->Wk S R
 |[],S,R,h=>by simp only [meetL,zA] at h;subst h;exact Wk.refl _
 |o :: rs,S,R,h=>by
  simp only [meetL] at h
  split at h
  next S' h1=>
   exact (meetS_ok h1).1.trans (meetL_ok h)
  cases h
theorem stable_ok {S:St}:∀{rs:List Out},stable S rs=true->∀o∈rs,o.adv=true/\(∃la,o.it=.abs la)/\Wk o.S S
 |x :: rs,h,o,ho=>by
  simp only [stable] at h
  split at h
  next h1 h2=>
   split at h
   next h3=>
    rcases zL.1 ho with rfl |ho
    ·exact ⟨h1,⟨_,h2⟩,leS_ok h3⟩
    exact stable_ok h o ho
   cases h
  cases h
theorem exSame_ok {a b:Ex} (h:exSame a b=true):a=b:=by
 cases a<;>cases b<;>simp_all [exSame]
theorem mergeN_ok:∀{rs:List Out} {o:Out} {e:Ex} {S:St},mergeN o rs=some (e,S)->o.e=e/\WkL o.S S/\∀q∈rs,q.e=e/\WkL q.S S
 |[],o,e,S,h=>by
  simp only [mergeN,zA,zI] at h
  obtain ⟨rfl,rfl⟩:=h
  exact ⟨rfl,WkL.refl _,fun q hq=>by cases hq⟩
 |q :: rs,o,e,S,h=>by
  simp only [mergeN] at h
  split at h
  next h1=>
   split at h
   next S1 h2=>
    obtain ⟨g1,g2,g3⟩:=mergeN_ok h
    obtain ⟨k1,k2⟩:=meetM_ok h2
    refine ⟨g1,k1.trans g2,fun p hp=>?_⟩
    rcases zL.1 hp with rfl |hp
    ·exact ⟨(exSame_ok h1).symm.trans g1,k2.trans g2⟩
    exact g3 p hp
   cases h
  cases h
theorem lands_next {Z:Nm} {S:St} {a:Act} {w w':World} {it:It} (hL:Lands E Z0 S0 w0 S a w Z) (H:ItOk Z S.nx S.h.get i m bi bm l cl it w) (hbi:w0.heap.size<=bi) (hio:w'.os=w.os/\w'.tape=w.tape/\Io w w') (hsz:w'.heap.size=w.heap.size) (hk:∀b,b≠bi->w'.heap[b]?=w.heap[b]?)
  {dst:Option Nat} {v:V} {u:Value} (hv:Rv Z S.nx v u) (hd:∀d,dst=some d->d < S.nt):Lands E Z0 S0 w0 ⟨S.nt,S.bar,upD S.regs dst v,S.h,S.nx,S.df⟩ (a.put dst u) w' Z:=by
 obtain ⟨g1,g2,g3⟩:=put_ok hL.sat.regs hv hL.sat.size hd
 have hS:=hL.sat.hs
 obtain ⟨es,since,seen,c0,e1,_⟩:=H.ex
 refine ⟨⟨⟨fun id o ho=>⟨(hS.objs id o ho).1,ObjOk.ext (hS.objs id o ho).1 (zB _) (fun _ _ _ h=>h) (fun L hl=>hk _ (H.sep id o L ho hl).1) o (hS.objs id o ho).2⟩,hS.sep,hS.dom,fun id L hl=>by rw [hsz];exact hS.blk id L hl⟩,g2,g1,by rw [g3];exact hL.sat.df,⟨fun x y hx=>?_,hL.sat.ro.sep⟩⟩,hL.ag,hL.le,hL.nt,hL.bar,?_⟩
 ·obtain ⟨h0,u',h1,h2⟩:=hL.sat.ro.at_ x y hx
  refine ⟨h0,u',?_,h2⟩
  have hne:x.block≠bi:=fun e=>by
   simp only [World.cell?,e,e1] at h1
   cases h1
  rw [<-h1]
  simp only [World.cell?,hk _ hne]
 exact ⟨hio.1.trans hL.fr.os,hio.2.1.trans hL.fr.tape,hio.2.2.trans hL.fr.output,by rw [hsz];exact hL.fr.size,fun b hb ho=>(hk b (by omega)).trans (hL.fr.keep b hb ho),hL.fr.own⟩
end
section
variable {P:Program} {E:Env} (hE:EnvOk E P) {ih:IH} (hI:IhOk E P ih) {Z0:Nm} {S0:St} {w0:World} {i m bi bm:Nat} {l:List (V×V×Nat)} {cl:Nat} (hbar:S0.bar=0) (hbi:w0.heap.size<=bi)
include hE hI hbar hbi
theorem seqN_ok {ro:Option Nat} (all:Array Oper):∀(rest:List Oper) (k:Nat) (it:It) (S:St) {rs:List Out},(∀(j:Nat),rest[j]?=all[k+j]?)->seqN E ih i l all.toList rest it S=some rs->
  ∀{Z:Nm} {a:Act} {w:World},Lands E Z0 S0 w0 S a w Z->ItOk Z S.nx S.h.get i m bi bm l cl it w->∀{Q:Exit->Act->World->Prop},
   (∀o∈rs,∀Z' a' w',NOut E Z0 S0 w0 i m bi bm l cl S.nx Z w o a' w' Z'->Q .normal a' w')->wpOpsIn (Fw ro) 0 P all Q (List.range' k rest.length) a w
 |[],k,it,S,rs,_,h,Z,a,w,hL,H,Q,hQ=>by
  simp only [seqN,zA] at h
  subst h
  simp only [xI,List.range'_zero,wpOpsIn]
  exact hQ _ (.head _) Z a w ⟨hL,agree.refl _ _,zB _,H,by simp⟩
 |o :: rest,k,it,S,rs,hall,h,Z,a,w,hL,H,Q,hQ=>by
  have h0:all[k]?=some o:=by simpa using (hall 0).symm
  have hall':∀(j:Nat),rest[j]?=all[k+1+j]?:=fun j=>by have:=hall (j+1);simpa [xP,Nat.add_comm 1 j] using this
  simp only [zY,List.range'_succ]
  simp only [seqN] at h
  split at h
  next hnx=>
   split at h
   rotate_left
   ·cases h
   rename_i x y hop hg
   have hy:y=false:=by rw [hop] at hnx;cases y<;>simp_all [isNext]
   subst hy
   split at h
   rotate_left
   ·cases h
   rename_i i' hev
   split at h
   rotate_left
   ·cases h
   rename_i hii
   have hii:=zF hii
   rw [hii] at hev
   obtain ⟨_,bs,hri⟩:=H.ri
   have hx:=evR_ok hL.sat.regs x _ hev
   simp only [Rv] at hx
   obtain ⟨_,L,hL1,hx⟩:=hx
   rw [hri] at hL1
   simp only [zA] at hL1
   subst hL1
   simp only [kF] at hx
   obtain ⟨v,u,it',adv,w',q1,q2,q3,q4,q5,q6,q7,q8,q9,q10⟩:=next_ok (P:=P) H o.type
   obtain ⟨ps,p1,p2⟩:=bindC_mem h v it' adv q1
   unfold seqN.outN at p1
   split at p1
   rotate_left
   ·cases p1
   rename_i e1 S1 hput
   obtain ⟨hput,hd⟩:=putD_ok hput
   simp only [zA,zI] at hput
   obtain ⟨_,rfl⟩:=hput
   dsimp only at p1
   split at p1
   next qs hqs=>
    simp only [zA] at p1
    subst p1
    simp only [wpOpsIn,h0]
    rw [if_pos (by simp [Region.wanted,hg])]
    refine ⟨fun _ _=>trivial,?_⟩
    show o.uponIn (Fw ro) 0 P a _ Q ((o.semAt ro a.eval).run P w)
    have hrun:(execOp a.eval o).run P w=.ok (.value u) w':=by
     simp [execOp,hop,hx,q2]
    rw [kS _ _ _ (fun c hc=>by rw [hop] at hc;cases hc),hrun,Oper.uponIn_value]
    have hL2:=lands_next hL H hbi ⟨q4,q5,q6⟩ q7 q8 q3 hd
    refine seqN_ok all rest (k+1) it' _ hall' hqs hL2 q9 fun o' ho' Z' a' w'' hN=>?_
    exact hQ _ (p2 _ (setAdv_mem ho')) Z' a' w'' (hN.adv (agree.refl _ _) (zB _) q10)
   cases p1
  split at h
  ·split at h
   rotate_left
   ·cases h
   rename_i x hop hg
   split at h
   rotate_left
   ·cases h
   rename_i i' hev
   split at h
   rotate_left
   ·cases h
   rename_i k0 v0 b0 hii hla
   have hii:=zF hii
   rw [hii] at hev
   obtain ⟨_,bs,hri⟩:=H.ri
   have hx:=evR_ok hL.sat.regs x _ hev
   simp only [Rv] at hx
   obtain ⟨_,L,hL1,hx⟩:=hx
   rw [hri] at hL1
   simp only [zA] at hL1
   subst hL1
   simp only [kF] at hx
   obtain ⟨ek,ev,q1,q2,q3⟩:=entry_ok (P:=P) H hla
   unfold seqN.outN at h
   split at h
   rotate_left
   ·cases h
   rename_i e1 S1 hput
   obtain ⟨hput,hd⟩:=putD_ok hput
   simp only [zA,zI] at hput
   obtain ⟨_,rfl⟩:=hput
   dsimp only at h
   simp only [wpOpsIn,h0]
   rw [if_pos (by simp [Region.wanted,hg])]
   refine ⟨fun _ _=>trivial,?_⟩
   show o.uponIn (Fw ro) 0 P a _ Q ((o.semAt ro a.eval).run P w)
   have hrun:(execOp a.eval o).run P w=.ok (.value (.tuple #[ek,ev])) w:=by
    simp [execOp,hop,hx,q1]
   rw [kS _ _ _ (fun c hc=>by rw [hop] at hc;cases hc),hrun,Oper.uponIn_value]
   have hv:Rv Z S.nx (.tup [k0,v0]) (.tuple #[ek,ev]):=by
    simp only [Rv]
    exact ⟨[ek,ev],by simp only [RvL];exact ⟨q2,q3,trivial⟩,rfl⟩
   have hL2:=lands_next hL H hbi (w':=w) ⟨rfl,rfl,rfl,zB _⟩ rfl (fun _ _=>rfl) hv hd
   refine seqN_ok all rest (k+1) it _ hall' h hL2 H fun o' ho' Z' a' w'' hN=>?_
   exact hQ _ ho' Z' a' w'' hN
  split at h
  next e1 S1 hone=>
   have hone':(e1,S1).2=S1:=rfl
   have key:∀S' Z' a' w',(some (Ex.normal,S'):R)=some (e1,S1)->Lands E Z S w S' a' w' Z'->wpOpsIn (Fw ro) 0 P all Q (List.range' (k+1) rest.length) a' w':=by
    intro S' Z' a' w' hk hL'
    simp only [zA,zI] at hk
    obtain ⟨_,rfl⟩:=hk
    obtain ⟨g1,g2⟩:=H.lands hL' (hL.bar.trans hbar)
    exact seqN_ok all rest (k+1) it _ hall' h (hL.trans hL') g1 fun o' ho' Z'' a'' w'' hN=>hQ o' ho' Z'' a'' w'' (hN.from hL'.ag hL'.le (Nat.le_of_eq g2))
   have:=seqTail_ok hE hI (ro:=ro) all (Z0:=Z) (S0:=S) (w0:=w) [o] k S (tail:=List.range' (k+1) rest.length) (fun j o' hj=>by
    cases j with
    |zero=>simpa [h0] using hj
    |succ j=>simp at hj) hone hL.sat.lands (Q:=Q) key
   simpa using this
  cases h
def NOk (E:Env) (P:Program) (ih:IH) (Z0:Nm) (S0:St) (w0:World) (i m bi bm:Nat) (l:List (V×V×Nat)) (cl:Nat) (rd:Option Nat) (n:Nat):Prop:=
 ∀c it S rs,setN E ih rd i l n c it S=some rs->∀Z a w,Lands E Z0 S0 w0 S a w Z->ItOk Z S.nx S.h.get i m bi bm l cl it w->c.wpIn (Fw (rdB Z0 rd)) 0 P (NPost E Z0 S0 w0 i m bi bm l cl S.nx Z w rs) a w
def NLoop (E:Env) (P:Program) (ih:IH) (Z0:Nm) (S0:St) (w0:World) (i m bi bm:Nat) (l:List (V×V×Nat)) (cl:Nat) (rd:Option Nat) (n:Nat):Prop:=
 ∀c la left S rs,hasNextC c=true->setN E ih rd i l n (.loop c) (.conc la left) S=some rs->∀Z a w,Lands E Z0 S0 w0 S a w Z->ItOk Z S.nx S.h.get i m bi bm l cl (.conc la left) w->Code.roundsIn (Fw (rdB Z0 rd)) 0 P c (NPost E Z0 S0 w0 i m bi bm l cl S.nx Z w rs) n a w
omit hE hbi in
theorem one_ok {rd:Option Nat} (hrd:RdOk Z0 S0.nx rd) {c:Code} {it:It} {S:St} {rs:List Out} (h:setN.one it (ih rd c S)=some rs) {Z:Nm} {a:Act} {w:World} (hL:Lands E Z0 S0 w0 S a w Z) (H:ItOk Z S.nx S.h.get i m bi bm l cl it w) :
  c.wpIn (Fw (rdB Z0 rd)) 0 P (NPost E Z0 S0 w0 i m bi bm l cl S.nx Z w rs) a w:=by
 unfold setN.one at h
 split at h
 next e S' h1=>
  simp only [zA] at h
  subst h
  have:=hI rd c S e S' h1 Z a w hL.sat (hrd.ag hL.ag hL.le)
  rw [rdB_ag hrd hL.ag] at this
  refine xM this ?_
  rintro x a1 w1 ⟨rfl,Z1,hL1⟩
  obtain ⟨g1,g2⟩:=H.lands hL1 (hL.bar.trans hbar)
  exact ⟨_,.head _,rfl,Z1,hL.trans hL1,hL1.ag,hL1.le,g1,by simp [g2]⟩
 cases h
omit hE hI hbar hbi in
theorem roundsIn_mono' {F:Fence} {n:Nat} {P:Program} {c:Code} {Q Q':Exit->Act->World->Prop} (hq:∀e a w,Q e a w->Q' e a w):∀(m:Nat) (a:Act) (w:World),Code.roundsIn F n P c Q m a w->Code.roundsIn F n P c Q' m a w
 |0,_,_,h=>h
 |m+1,a,w,h=>by
  rw [roundsIn_succ] at h ⊢
  refine xM h fun e a w he=>?_
  cases e<;>first |exact roundsIn_mono' hq m a w he |exact hq _ _ _ he
omit hE hI hbar hbi in
theorem NPost.bind {n n1:Nat} {Z Z1:Nm} {w w1:World} {b:Bool} {qs rs:List Out} {x:Exit} {a':Act} {w':World} (ha:agree n Z Z1) (hn:n<=n1) (hl:lft bm bi w1+(if b then 1 else 0)<=lft bm bi w) (hm:∀p∈setAdv b qs,p∈rs)
  (h:NPost E Z0 S0 w0 i m bi bm l cl n1 Z1 w1 qs x a' w'):NPost E Z0 S0 w0 i m bi bm l cl n Z w rs x a' w':=by
 obtain ⟨o,ho,hx,Z',hN⟩:=h
 exact ⟨_,hm _ (setAdv_mem ho),hx,Z',hN.adv ha hn hl⟩
theorem nloop_ok {rd:Option Nat} {n:Nat} (hN:NOk E P ih Z0 S0 w0 i m bi bm l cl rd n) (hL:NLoop E P ih Z0 S0 w0 i m bi bm l cl rd n):NLoop E P ih Z0 S0 w0 i m bi bm l cl rd (n+1):=by
 intro c la left S rs hc h Z a w hS H
 rw [roundsIn_succ]
 have h:(match hasNextC c with
   |false=>setN.one (.conc la left) (ih rd (.loop c) S)
   |true=>match setN E ih rd i l n c (.conc la left) S with
     |some rs=>bindN (fun o=>match o.e with
      |.normal=>match o.it with
       |.conc _ _=>match setN E ih rd i l n (.loop c) o.it o.S with
        |some qs=>some (setAdv o.adv qs)
        |none=>none
       |.abs _=>none
      |_=>some [o]) rs
     |none=>none)=some rs:=h
 rw [hc] at h
 simp only at h
 split at h
 rotate_left
 ·cases h
 rename_i rs1 h1
 refine xM (hN c _ S rs1 h1 Z a w hS H) ?_
 rintro x a1 w1 ⟨o,ho,rfl,Z1,hO⟩
 obtain ⟨ps,p1,p2⟩:=bindN_mem h o ho
 cases he:o.e with
 |normal=>
  rw [he] at p1
  simp only at p1
  cases hit:o.it with
  |abs la'=>rw [hit] at p1;cases p1
  |conc la' left'=>
   rw [hit] at p1
   simp only at p1
   split at p1
   next qs hq=>
    simp only [zA] at p1
    subst p1
    have hit':=hO.it
    rw [hit] at hit'
    refine roundsIn_mono' (fun x a2 w2 hp=>NPost.bind hO.ag hO.le hO.lf p2 hp) n a1 w1 (hL c la' left' o.S qs hc hq Z1 a1 w1 hO.L hit')
   cases p1
 |ret=>
  rw [he] at p1
  simp only [zA] at p1
  subst p1
  exact ⟨o,p2 _ (.head _),by rw [he],Z1,hO⟩
 |exit j=>
  rw [he] at p1
  simp only [zA] at p1
  subst p1
  exact ⟨o,p2 _ (.head _),by rw [he],Z1,hO⟩
omit hE hI hbar hbi in
theorem nabs_ok {rd:Option Nat} {n:Nat} (hN:NOk E P ih Z0 S0 w0 i m bi bm l cl rd n) {c:Code} {S1:St} {qs:List Out} (h1:setN E ih rd i l n c (.abs none) S1=some qs) (hst:stable S1 (normals qs)=true) :
  ∀(k:Nat) (Z:Nm) (a:Act) (w:World),Lands E Z0 S0 w0 S1 a w Z->ItOk Z S1.nx S1.h.get i m bi bm l cl (.abs none) w->lft bm bi w<=k->Code.roundsIn (Fw (rdB Z0 rd)) 0 P c (NPost E Z0 S0 w0 i m bi bm l cl S1.nx Z w (others qs)) (k+1) a w:=by
 intro k
 induction k with
 |zero=>
  intro Z a w hL H hk
  rw [roundsIn_succ]
  refine xM (hN c _ S1 qs h1 Z a w hL H) ?_
  rintro x a1 w1 ⟨o,ho,rfl,Z1,hO⟩
  cases he:o.e with
  |normal=>
   obtain ⟨g1,g2,g3⟩:=stable_ok hst o (normals_mem he ho)
   have:=hO.lf
   rw [g1] at this
   simp at this
   omega
  |ret=>exact ⟨o,others_mem (by rw [he];simp) ho,by rw [he],Z1,hO⟩
  |exit j=>exact ⟨o,others_mem (by rw [he];simp) ho,by rw [he],Z1,hO⟩
 |succ k ihk=>
  intro Z a w hL H hk
  rw [roundsIn_succ]
  refine xM (hN c _ S1 qs h1 Z a w hL H) ?_
  rintro x a1 w1 ⟨o,ho,rfl,Z1,hO⟩
  cases he:o.e with
  |normal=>
   obtain ⟨g1,g2,g3⟩:=stable_ok hst o (normals_mem he ho)
   have hlf:=hO.lf
   rw [g1] at hlf
   simp at hlf
   have hit:=hO.it.forget
   have hle:=hO.le
   have e:=g3.nx
   refine roundsIn_mono' (fun x a2 w2 hp=>?_) (k+1) a1 w1 (ihk Z1 a1 w1 (hO.L.wk g3) (hit.wk g3) (by omega))
   obtain ⟨o',ho',hx,Z',hN'⟩:=hp
   exact ⟨o',ho',hx,Z',hN'.from hO.ag (by omega) (by omega)⟩
  |ret=>exact ⟨o,others_mem (by rw [he];simp) ho,by rw [he],Z1,hO⟩
  |exit j=>exact ⟨o,others_mem (by rw [he];simp) ho,by rw [he],Z1,hO⟩
theorem setN_succ (rd:Option Nat) (n:Nat) (c:Code) (it:It) (S:St):setN E ih rd i l (n+1) c it S=(match c with
  |.seq a b=>match setN E ih rd i l n a it S with
   |some rs=>bindN (fun o=>match o.e with
    |.normal=>match setN E ih rd i l n b o.it o.S with
     |some qs=>some (setAdv o.adv qs)
     |none=>none
    |_=>some [o]) rs
   |none=>none
  |.block id b=>match setN E ih rd i l n b it S with
   |some rs=>bindN (fun o=>match o.e with
    |.exit j=>match Nat.beq j id with
     |true=>some [⟨.normal,o.it,o.S,o.adv⟩]
     |false=>some [o]
    |_=>some [o]) rs
   |none=>none
  |.cond x a b=>match evR S.regs x with
   |some (.bool true)=>setN E ih rd i l n a it S
   |some (.bool false)=>setN E ih rd i l n b it S
   |_=>none
  |.loop b=>match hasNextC b with
   |false=>setN.one it (ih rd (.loop b) S)
   |true=>match it with
    |.conc _ _=>match setN E ih rd i l n b it S with
     |some rs=>bindN (fun o=>match o.e with
      |.normal=>match o.it with
       |.conc _ _=>match setN E ih rd i l n (.loop b) o.it o.S with
        |some qs=>some (setAdv o.adv qs)
        |none=>none
       |.abs _=>none
      |_=>some [o]) rs
     |none=>none
    |.abs _=>match setN E ih rd i l n b (.abs none) S with
     |some rs=>match meetL S (normals rs) with
      |some S1=>match setN E ih rd i l n b (.abs none) S1 with
       |some qs=>match stable S1 (normals qs) with
        |true=>some (others qs)
        |false=>none
       |none=>none
      |none=>none
     |none=>none
  |.region id ops draw=>match draw,hasNext ops.toList with
   |false,true=>seqN E ih i l ops.toList ops.toList it S
   |_,_=>setN.one it (ih rd (.region id ops draw) S)
  |c=>setN.one it (ih rd c S)):=by cases c<;>rfl
theorem nseq_ok {rd:Option Nat} {n:Nat} (hN:NOk E P ih Z0 S0 w0 i m bi bm l cl rd n) {c1 c2:Code} {it:It} {S:St} {rs:List Out} (h:setN E ih rd i l (n+1) (.seq c1 c2) it S=some rs) {Z:Nm} {a:Act} {w:World} (hL:Lands E Z0 S0 w0 S a w Z) (H:ItOk Z S.nx S.h.get i m bi bm l cl it w) :
  c1.wpIn (Fw (rdB Z0 rd)) 0 P (Exit.then (c2.wpIn (Fw (rdB Z0 rd)) 0 P (NPost E Z0 S0 w0 i m bi bm l cl S.nx Z w rs)) (NPost E Z0 S0 w0 i m bi bm l cl S.nx Z w rs)) a w:=by
 rw [setN_succ hE hI hbar hbi] at h
 simp only at h
 split at h
 rotate_left
 ·cases h
 rename_i rs1 h1
 refine xM (hN c1 it S rs1 h1 Z a w hL H) ?_
 rintro x a1 w1 ⟨o,ho,rfl,Z1,hO⟩
 obtain ⟨ps,p1,p2⟩:=bindN_mem h o ho
 cases he:o.e with
 |normal=>
  rw [he] at p1
  simp only at p1
  split at p1
  next qs hq=>
   simp only [zA] at p1
   subst p1
   exact xM (hN c2 _ _ qs hq Z1 a1 w1 hO.L hO.it) fun x a2 w2 hp=>NPost.bind hO.ag hO.le hO.lf p2 hp
  cases p1
 |ret=>
  rw [he] at p1
  simp only [zA] at p1
  subst p1
  exact ⟨o,p2 _ (.head _),by rw [he],Z1,hO⟩
 |exit j=>
  rw [he] at p1
  simp only [zA] at p1
  subst p1
  exact ⟨o,p2 _ (.head _),by rw [he],Z1,hO⟩
theorem setN_ok {rd:Option Nat} (hrd:RdOk Z0 S0.nx rd):∀n,NOk E P ih Z0 S0 w0 i m bi bm l cl rd n/\NLoop E P ih Z0 S0 w0 i m bi bm l cl rd n
 |0=>⟨fun c it S rs h=>absurd (show (none:Option (List Out))=some rs from h) (by simp),fun c la left S rs _ h=>absurd (show (none:Option (List Out))=some rs from h) (by simp)⟩
 |n+1=>by
  obtain ⟨hN,hLp⟩:=setN_ok hrd n
  have hLp':=nloop_ok hE hI hbar hbi hN hLp
  refine ⟨fun c it S rs h Z a w hL H=>?_,hLp'⟩
  have h0:=h
  rw [setN_succ hE hI hbar hbi] at h
  have viaOne:∀{c:Code},setN.one it (ih rd c S)=some rs->c.wpIn (Fw (rdB Z0 rd)) 0 P (NPost E Z0 S0 w0 i m bi bm l cl S.nx Z w rs) a w:=fun h=>one_ok hI hbar hrd h hL H
  cases c with
  |seq c1 c2=>exact wpIn_seq (nseq_ok hE hI hbar hbi hN h0 hL H)
  |block id c1=>
   simp only at h
   split at h
   rotate_left
   ·cases h
   rename_i rs1 h1
   refine wpIn_block (xM (hN c1 it S rs1 h1 Z a w hL H) ?_)
   rintro x a1 w1 ⟨o,ho,rfl,Z1,hO⟩
   obtain ⟨ps,p1,p2⟩:=bindN_mem h o ho
   cases he:o.e with
   |normal=>
    rw [he] at p1
    simp only [zA] at p1
    subst p1
    exact ⟨o,p2 _ (.head _),by simp [he,exO,Exit.inBlock],Z1,hO⟩
   |ret=>
    rw [he] at p1
    simp only [zA] at p1
    subst p1
    exact ⟨o,p2 _ (.head _),by simp [he,exO,Exit.inBlock],Z1,hO⟩
   |exit j=>
    rw [he] at p1
    simp only at p1
    split at p1
    next hb=>
     simp only [zA] at p1
     subst p1
     simp only [exO,Exit.inBlock]
     rw [if_pos (zF hb)]
     exact ⟨_,p2 _ (.head _),rfl,Z1,⟨hO.L,hO.ag,hO.le,hO.it,hO.lf⟩⟩
    rename_i hb
    simp only [zA] at p1
    subst p1
    have:¬j=id:=fun e=>by subst e;simp at hb
    simp only [exO,Exit.inBlock]
    rw [if_neg this]
    exact ⟨o,p2 _ (.head _),by rw [he];rfl,Z1,hO⟩
  |cond x c1 c2=>
   simp only at h
   split at h
   next hx=>
    have hv:=evR_ok hL.sat.regs x _ hx
    simp only [Rv] at hv
    exact wpIn_cond_true hv (hN c1 it S rs h Z a w hL H)
   next hx=>
    have hv:=evR_ok hL.sat.regs x _ hx
    simp only [Rv] at hv
    exact wpIn_cond_false hv (hN c2 it S rs h Z a w hL H)
   cases h
  |loop c1=>
   simp only at h
   cases hc:hasNextC c1 with
   |false=>rw [hc] at h;exact viaOne h
   |true=>
    cases it with
    |conc la left=>exact wpIn_loop_rounds (n+1) (hLp' c1 la left S rs hc h0 Z a w hL H)
    |abs la=>
     rw [hc] at h
     simp only at h
     split at h
     next rs1 h1=>
      split at h
      next S1 h2=>
       split at h
       next qs h3=>
        split at h
        next h4=>
         simp only [zA] at h
         subst h
         have hw:=meetL_ok h2
         have:=nabs_ok hN h3 h4 (lft bm bi w) Z a w (hL.wk hw) (H.forget.wk hw) (zB _)
         rw [hw.nx] at this
         exact wpIn_loop_rounds _ this
        cases h
       cases h
      cases h
     cases h
  |region id ops draw=>
   simp only at h
   split at h
   ·refine wpIn_region ?_
    rw [List.range_eq_range']
    have:=seqN_ok hE hI hbar hbi (ro:=rdB Z0 rd) ops ops.toList 0 it S (fun j=>by simp) h hL H (Q:=NPost E Z0 S0 w0 i m bi bm l cl S.nx Z w rs) (fun o ho Z' a' w' hO=>?_)
    ·simpa using this
    have he:o.e=.normal:=seqN_normal h o ho
    exact ⟨o,ho,by rw [he];rfl,Z',hO⟩
   exact viaOne h
  |_=>exact viaOne h
where
 seqN_normal {E:Env} {ih:IH} {i:Nat} {l:List (V×V×Nat)} {all:List Oper}:∀{rest:List Oper} {it:It} {S:St} {rs:List Out},seqN E ih i l all rest it S=some rs->∀o∈rs,o.e=.normal
  |[],it,S,rs,h,o,ho=>by
   simp only [seqN,zA] at h
   subst h
   simp at ho
   rw [ho]
  |x :: rest,it,S,rs,h,o,ho=>by
   have adv:∀{b:Bool} {qs:List Out},(∀o∈qs,o.e=.normal)->∀o∈setAdv b qs,o.e=.normal:=by
    intro b qs
    induction qs with
    |nil=>intro _ o ho;cases ho
    |cons q qs ihq=>
     intro hq o ho
     rcases zL.1 ho with rfl |ho
     ·exact hq q (.head _)
     exact ihq (fun o ho=>hq o (.tail _ ho)) o ho
   have bind:∀{f:V->It->Bool->Option (List Out)} {L:List (V×It×Bool)} {qs:List Out},(∀v it a ps,f v it a=some ps->∀o∈ps,o.e=.normal)->seqN.bindC f L=some qs->∀o∈qs,o.e=.normal:=by
    intro f L
    induction L with
    |nil=>intro qs _ h o ho;simp only [seqN.bindC,zA] at h;subst h;cases ho
    |cons y L ihL=>
     intro qs hf h o ho
     obtain ⟨v,it,a⟩:=y
     simp only [seqN.bindC] at h
     split at h
     next l1 h1=>
      split at h
      next l2 h2=>
       simp only [zA] at h
       subst h
       rcases xU.1 ho with ho |ho
       ·exact hf _ _ _ _ h1 o ho
       exact ihL hf h2 o ho
      cases h
     cases h
   simp only [seqN] at h
   split at h
   ·split at h
    ·split at h
     ·split at h
      ·refine bind (fun v it a ps hp o ho=>?_) h o ho
       unfold seqN.outN at hp
       split at hp
       ·dsimp only at hp
        split at hp
        next qs hq=>
         simp only [zA] at hp
         subst hp
         exact adv (fun o ho=>seqN_normal hq o ho) o ho
        cases hp
       cases hp
      cases h
     cases h
    cases h
   split at h
   ·split at h
    ·split at h
     ·split at h
      ·unfold seqN.outN at h
       split at h
       ·exact seqN_normal h o ho
       cases h
      cases h
     cases h
    cases h
   split at h
   ·exact seqN_normal h o ho
   cases h
end
end CX

namespace CX
open Go
theorem splitLast_ok {l:List Oper}:∀{pre:List Oper} {o:Oper},splitLast l=some (pre,o)->l=pre++[o]:=by
 induction l with
 |nil=>intro pre o h;cases h
 |cons x l ih=>
  intro pre o h
  cases l with
  |nil=>
   have h:some (([]:List Oper),x)=some (pre,o):=h
   simp only [zA,zI] at h
   obtain ⟨rfl,rfl⟩:=h
   rfl
  |cons y l=>
   have h:(match splitLast (y :: l) with
    |some (l,x')=>some (x :: l,x')
    |none=>none)=some (pre,o):=h
   split at h
   next l' x' h1=>
    simp only [zA,zI] at h
    obtain ⟨rfl,rfl⟩:=h
    rw [ih h1]
    rfl
   cases h
theorem bornLt_ok {Z:Nm} {n c:Nat}:∀{l:List (V×V×Nat)} {es:List MapEntry},bornLt c l=true->RvM Z n l es->∀x∈es,x.born < c
 |[],[],_,_,x,hx=>by cases hx
 |(k,v,b) :: l,e :: es,h,hr,x,hx=>by
  simp only [bornLt] at h
  simp only [RvM] at hr
  split at h
  next hb=>
   rcases zL.1 hx with rfl |hx
   ·rw [hr.2.2.1];simpa [kB] using hb
   exact bornLt_ok h hr.2.2.2 x hx
  cases h
 |[],_ :: _,_,hr,_,_=>by simp [RvM] at hr
 |_ :: _,[],_,hr,_,_=>by simp [RvM] at hr
theorem nodupB_ok {Z:Nm} {n:Nat}:∀{l:List (V×V×Nat)} {es:List MapEntry},nodupB l=true->RvM Z n l es->(es.map (·.born)).Nodup
 |[],[],_,_=>by simp
 |(k,v,b) :: l,e :: es,h,hr=>by
  simp only [nodupB] at h
  simp only [RvM] at hr
  split at h
  next hb=>
   simp only [kD,List.nodup_cons]
   refine ⟨fun hm=>?_,nodupB_ok h hr.2.2.2⟩
   obtain ⟨x,hx,he⟩:=qB.1 hm
   exact no hb hr.2.2.2 x hx (by rw [he];exact hr.2.2.1)
  cases h
 |[],_ :: _,_,hr=>by simp [RvM] at hr
 |_ :: _,[],_,hr=>by simp [RvM] at hr
where
 no {b:Nat}:∀{l:List (V×V×Nat)} {es:List MapEntry},notB b l=true->RvM Z n l es->∀x∈es,x.born≠b
  |[],[],_,_,x,hx=>by cases hx
  |(k,v,c) :: l,e :: es,h,hr,x,hx=>by
   simp only [notB] at h
   simp only [RvM] at hr
   split at h
   ·cases h
   rename_i hb
   rcases zL.1 hx with rfl |hx
   ·intro e
    rw [hr.2.2.1] at e
    rw [e] at hb
    simp at hb
   exact no h hr.2.2.2 x hx
  |[],_ :: _,_,hr,_,_=>by simp [RvM] at hr
  |_ :: _,[],_,hr,_,_=>by simp [RvM] at hr
theorem cell_ne {w:World} {x:Addr} {u:Value} {b:Nat} {es:Array MapEntry} {c:Nat} (h:w.cell? x=some u) (hb:w.heap[b]?=some (.map es c)):b≠x.block:=fun e=>by
 simp only [World.cell?,<-e,hb] at h
 cases h
section
variable {P:Program} {E:Env} (hE:EnvOk E P) {ih:IH} (hI:IhOk E P ih)
include hE hI
theorem nodeN_ok {rd:Option Nat} {ops:Array Oper} {id:Nat} {c0 b:Code} {S:St} {r:Ex×St} (h:nodeN E ih rd ops.toList (.seq c0 b) S=some r) {Z:Nm} {a:Act} {w:World} (hS:Sat E Z S a w) (hrd:RdOk Z S.nx rd) :
  (Code.seq (.seq (.region id ops false) c0) b).wpIn (Fw (rdB Z rd)) 0 P (CPost E Z S w r.1 r.2) a w:=by
 unfold nodeN at h
 split at h
 rotate_left
 ·cases h
 rename_i hbar
 split at h
 rotate_left
 ·cases h
 rename_i pre o hsp
 have hops:=splitLast_ok hsp
 split at h
 rotate_left
 ·cases h
 rename_i t x hop hg
 split at h
 rotate_left
 ·cases h
 rename_i e1 nt bar regs hh nx df hpre
 split at h
 rotate_left
 ·cases h
 rename_i ke ee m hk hev
 split at h
 rotate_left
 ·cases h
 rename_i l c hm
 split at h
 rotate_left
 ·cases h
 rename_i hbn
 simp only [zC] at hbn
 obtain ⟨hborn,hnd⟩:=hbn
 rw [T.set_eq] at h
 obtain ⟨h,hd⟩:=putD_ok h
 split at h
 rotate_left
 ·cases h
 rename_i o1 rs hset
 split at h
 rotate_left
 ·cases h
 rename_i ex nt4 bar4 regs4 h4 nx4 df4 hmg
 rw [T.set_eq] at h
 simp only [zA] at h
 subst h
 have hsz:ops.size=pre.length+1:=by rw [<-kI,hops];simp
 refine wpIn_seq (wpIn_seq (wpIn_region ?_))
 rw [List.range_eq_range',hsz,List.range'_1_concat,zO]
 refine seqTail_ok hE hI (ro:=rdB Z rd) ops pre 0 S (tail:=[pre.length]) (fun j o' hj=>?_) hpre hS.lands (fun S1 Z1 a1 w1 hk1 hL1=>?_)
 ·rw [zO,<-xE,hops,zW (xB.1 hj).1];exact hj
 simp only [zA,zI] at hk1
 obtain ⟨_,rfl⟩:=hk1
 have h0:ops[pre.length]?=some o:=by rw [<-xE,hops];simp
 have hb0:bar=0:=hL1.bar.trans hbar
 simp only [wpOpsIn,h0]
 rw [if_pos (by simp [Region.wanted,hg])]
 refine ⟨fun _ _=>trivial,?_⟩
 show o.uponIn (Fw (rdB Z rd)) 0 P a1 _ _ ((o.semAt (rdB Z rd) a1.eval).run P w1)
 have hS1:=hL1.sat.hs
 obtain ⟨hmn,hob⟩:=hS1.objs m _ hm
 simp only [ObjOk] at hob
 obtain ⟨L,es,hLm,hes,hrv⟩:=hob
 have hx:=evR_ok hL1.sat.regs x _ hev
 simp only [Rv] at hx
 obtain ⟨_,L',hL',hx⟩:=hx
 rw [hLm] at hL'
 simp only [zA] at hL'
 subst hL'
 have ht:P.underlying t=some (.map ke ee):=by
  unfold kindOf at hk
  split at hk
  next ty hty=>
   obtain ⟨d,d1,_,d3⟩:=(hE.T t ty hty).und
   rw [hk] at d3
   simp only [KdOk] at d3
   rw [d1,d3]
  cases hk
 have hrun:(execOp a1.eval o).run P w1=.ok (.value (.pointer (some ⟨w1.heap.size,0,none⟩))) (w1.alloc (.mapIter (some L.b) c #[] c)):=by
  simp [execOp,hop,hx,run_range_map w1 t ke ee L.b es c ht hes]
 rw [kS _ _ _ (fun c hc=>by rw [hop] at hc;cases hc),hrun,Oper.uponIn_value]
 have hLb:=hS1.blk m L hLm
 have hw2:∀b,b < w1.heap.size->(w1.alloc (.mapIter (some L.b) c #[] c)).heap[b]?=w1.heap[b]?:=fun b hb=>(MapKept.heap_alloc w1 _).2 b hb
 have hw2n:=(MapKept.heap_alloc w1 (.mapIter (some L.b) c #[] c)).1
 have hw2s:(w1.alloc (.mapIter (some L.b) c #[] c)).heap.size=w1.heap.size+1:=by simp
 have hag:=agree_put Z1 nx ⟨w1.heap.size,0,0⟩
 have hext:∀i L,i < nx->Z1 i=some L->(Z1.put nx ⟨w1.heap.size,0,0⟩) i=some L:=fun i L hi hl=>by rw [hag i hi];exact hl
 obtain ⟨g1,g2,g3⟩:=put_ok (dst:=o.dst) (v:=.ptr nx 0) (u:=.pointer (some ⟨w1.heap.size,0,none⟩)) (hL1.sat.regs.ext (zQ _) hext) (by simp [Rv,put_same]) hL1.sat.size hd
 have hup:∀id o,(hh.up m none).get id=some o->id≠m/\hh.get id=some o:=fun id o ho=>by
  rw [T.get_up] at ho
  split at ho
  ·cases ho
  exact ⟨‹_›,ho⟩
 have hHS:HSat (Z1.put nx ⟨w1.heap.size,0,0⟩) (hh.up m none).get (nx+1) (w1.alloc (.mapIter (some L.b) c #[] c)):=by
  refine ⟨fun id o ho=>?_,fun id o id' o' h1 h2 hne L1 L2 e1 e2=>?_,dom_put hS1.dom _,fun id L0 hl=>?_⟩
  ·obtain ⟨_,ho⟩:=hup _ _ ho
   obtain ⟨i1,i2⟩:=hS1.objs id o ho
   exact ⟨Nat.lt_succ_of_lt i1,ObjOk.ext i1 (zQ _) hext (fun L0 hl=>hw2 _ (hS1.blk id L0 hl)) o i2⟩
  ·obtain ⟨_,h1⟩:=hup _ _ h1
   obtain ⟨_,h2⟩:=hup _ _ h2
   rw [hag id (hS1.objs id o h1).1] at e1
   rw [hag id' (hS1.objs id' o' h2).1] at e2
   exact hS1.sep id o id' o' h1 h2 hne L1 L2 e1 e2
  rw [hw2s]
  simp only [Nm.put] at hl
  split at hl
  ·simp only [zA] at hl;subst hl;exact zM _
  have:=hS1.blk id L0 hl;omega
 have hFr:Fr (Own Z1 hh.get bar) w1 (Own (Z1.put nx ⟨w1.heap.size,0,0⟩) (hh.up m none).get bar) (w1.alloc (.mapIter (some L.b) c #[] c)):=by
  refine ⟨rfl,rfl,⟨rfl,zB _⟩,by rw [hw2s];omega,fun b hb _=>hw2 b hb,fun b ⟨id,o,L0,h1,h2,h3,h4⟩=>.inl ?_⟩
  obtain ⟨_,h2⟩:=hup _ _ h2
  rw [hag id (hS1.objs id o h2).1] at h3
  exact ⟨id,o,L0,h1,h2,h3,h4⟩
 have hL2:Lands E Z S w ⟨nt,bar,upD regs o.dst (.ptr nx 0),hh.up m none,nx+1,df⟩ (a1.put o.dst (.pointer (some ⟨w1.heap.size,0,none⟩))) (w1.alloc (.mapIter (some L.b) c #[] c)) (Z1.put nx ⟨w1.heap.size,0,0⟩):=
  hL1.trans ⟨⟨hHS,g2,g1,by rw [g3];exact hL1.sat.df.ext (zQ _) hext,hL1.sat.ro.fr hFr⟩,hag,zQ _,rfl,rfl,hFr⟩
 have hit:∀it:It,(it=.conc none l\/it=.abs none)->ItOk (Z1.put nx ⟨w1.heap.size,0,0⟩) (nx+1) (hh.up m none).get nx m w1.heap.size L.b l c it (w1.alloc (.mapIter (some L.b) c #[] c)):=by
  intro it hit
  refine ⟨⟨zM _,0,put_same _ _ _⟩,⟨by show m < nx+1;have:m < nx:=hmn;omega,L,hext m L hmn hLm,rfl⟩,⟨by rw [hw2s];omega,by rw [hw2s];omega,by omega⟩,fun id o L0 h1 h2=>?_,es,c,#[],c,hw2n,(hw2 _ hLb).trans hes,RvM.ext (zQ _) hext _ _ hrv,bornLt_ok hborn hrv,zB _,zB _,nodupB_ok hnd hrv,fun k v b hl=>?_,?_⟩
  ·obtain ⟨hne,h1⟩:=hup _ _ h1
   rw [hag id (hS1.objs id o h1).1] at h2
   exact ⟨Nat.ne_of_lt (hS1.blk id L0 h2),hS1.sep id o m _ h1 hm hne L0 L h2 hLm⟩
  ·rcases hit with rfl |rfl<;>cases hl
  rcases hit with rfl |rfl
  ·have:leftOf es #[]=es:=by simp [leftOf]
   show RvM _ _ l (leftOf es #[]).toList
   rw [this]
   exact RvM.ext (zQ _) hext _ _ hrv
  trivial
 show c0.wpIn (Fw (rdB Z rd)) 0 P (Exit.then (b.wpIn (Fw (rdB Z rd)) 0 P (CPost E Z S w ex _)) (CPost E Z S w ex _)) _ _
 have hit':∀l',(match few l' with |true=>It.conc none l |false=>.abs none)=.conc none l\/(match few l' with |true=>It.conc none l |false=>.abs none)=.abs none:=fun l'=>by cases few l';exact .inr rfl;exact .inl rfl
 have then_mono:∀{A B:Exit->Act->World->Prop},(∀e a w,A e a w->B e a w)->∀e a w,Exit.then (b.wpIn (Fw (rdB Z rd)) 0 P A) A e a w->Exit.then (b.wpIn (Fw (rdB Z rd)) 0 P B) B e a w:=fun hab e a w he=>by
  cases e<;>first |exact xM he hab |exact hab _ _ _ he
 refine xM (nseq_ok hE hI (Z0:=Z) (S0:=S) (w0:=w) (i:=nx) (m:=m) (bi:=w1.heap.size) (bm:=L.b) (l:=l) (cl:=c) hbar hL1.fr.size (setN_ok hE hI hbar hL1.fr.size hrd 2999).1 hset hL2 (hit _ (hit' l))) (then_mono ?_)
 rintro x' a' w' ⟨q,hq,rfl,Z',hO⟩
 have hmq:q.e=ex/\WkL q.S ⟨nt4,bar4,regs4,h4,nx4,df4⟩:=by
  obtain ⟨k1,k2,k3⟩:=mergeN_ok hmg
  rcases zL.1 hq with rfl |hq
  ·exact ⟨k1,k2⟩
  exact k3 q hq
 obtain ⟨rfl,hwk⟩:=hmq
 have hL4:=hO.L.wkL hwk
 have hI4:=hO.it.wkL hwk
 refine ⟨rfl,Z',?_⟩
 obtain ⟨r1,L4,r2,r3⟩:=hI4.rm
 obtain ⟨es4,since4,seen4,c04,e1',e2',e3',_⟩:=hI4.ex
 have hup4:∀id o,(h4.up m (some (.map l c))).get id=some o->(id=m/\o=.map l c)\/(id≠m/\h4.get id=some o):=fun id o ho=>by
  rw [T.get_up] at ho
  split at ho
  ·simp only [zA] at ho;exact .inl ⟨‹_›,ho.symm⟩
  exact .inr ⟨‹_›,ho⟩
 have hS4:=hL4.sat.hs
 refine ⟨⟨⟨fun id o ho=>?_,fun id o id' o' h1 h2 hne L1 L2 e1 e2=>?_,hS4.dom,hS4.blk⟩,hL4.sat.size,hL4.sat.regs,hL4.sat.df,⟨hL4.sat.ro.at_,fun y v hy id o L0 h1 h2 h3=>?_⟩⟩,hL4.ag,hL4.le,hL4.nt,hL4.bar,?_⟩
 ·rcases hup4 _ _ ho with ⟨rfl,rfl⟩ |⟨_,ho⟩
  ·simp only [ObjOk]
   exact ⟨r1,L4,es4,r2,by rw [r3];exact e2',e3'⟩
  exact hS4.objs id o ho
 ·rcases hup4 _ _ h1 with ⟨z1,_⟩ |⟨n1,y1⟩
  ·rcases hup4 _ _ h2 with ⟨z2,_⟩ |⟨n2,y2⟩
   ·exact absurd (z1.trans z2.symm) hne
   rw [z1,r2] at e1
   simp only [zA] at e1
   rw [<-e1,r3]
   exact Ne.symm (hI4.sep id' o' L2 y2 e2).2
  rcases hup4 _ _ h2 with ⟨z2,_⟩ |⟨n2,y2⟩
  ·rw [z2,r2] at e2
   simp only [zA] at e2
   rw [<-e2,r3]
   exact (hI4.sep id o L1 y1 e1).2
  exact hS4.sep id o id' o' y1 y2 hne L1 L2 e1 e2
 ·rcases hup4 _ _ h2 with ⟨rfl,rfl⟩ |⟨n2,h2⟩
  ·rw [r2] at h3
   simp only [zA] at h3
   subst h3
   obtain ⟨_,u',hu',_⟩:=hL4.sat.ro.at_ y v hy
   rw [r3]
   exact cell_ne hu' e2'
  exact hL4.sat.ro.sep y v hy id o L0 h1 h2 h3
 refine ⟨hL4.fr.os,hL4.fr.tape,hL4.fr.output,hL4.fr.size,hL4.fr.keep,fun b' ⟨id,o,L0,h1,h2,h3,h5⟩=>?_⟩
 rcases hup4 _ _ h2 with ⟨rfl,rfl⟩ |⟨n2,h2⟩
 ·rw [r2] at h3
  simp only [zA] at h3
  subst h3
  have:=hL1.fr.own L.b ⟨id,_,L,by show bar<=id;rw [hb0];exact xZ _,hm,hLm,rfl⟩
  rw [<-h5,r3]
  exact this
 exact hL4.fr.own b' ⟨id,o,L0,h1,h2,h3,h5⟩
end
end CX

namespace CX
open Go
theorem roundsIn_mono {F:Fence} {n:Nat} {P:Program} {c:Code} {Q Q':Exit->Act->World->Prop} (hq:∀e a w,Q e a w->Q' e a w):∀(m:Nat) (a:Act) (w:World),Code.roundsIn F n P c Q m a w->Code.roundsIn F n P c Q' m a w
 |0,_,_,h=>h
 |m+1,a,w,h=>by
  rw [roundsIn_succ] at h ⊢
  refine xM h fun e a w he=>?_
  cases e<;>first |exact roundsIn_mono hq m a w he |exact hq _ _ _ he
def IhLoop (E:Env) (P:Program) (ih:IH) (m:Nat):Prop:=∀rd c S e S',ih rd (.loop c) S=some (e,S')->∀Z a w,Sat E Z S a w->RdOk Z S.nx rd->Code.roundsIn (Fw (rdB Z rd)) 0 P c (CPost E Z S w e S') m a w
theorem CPost.after {E:Env} {Z Z1:Nm} {S S1:St} {a1:Act} {w w1:World} (h:Lands E Z S w S1 a1 w1 Z1) {e:Ex} {S':St} {x:Exit} {a':Act} {w':World} (hp:CPost E Z1 S1 w1 e S' x a' w'):CPost E Z S w e S' x a' w':=by
 obtain ⟨h1,Z2,h2⟩:=hp
 exact ⟨h1,Z2,h.trans h2⟩
theorem run_enterLoop_inner {P:Program} {w:World} (fn:FuncId) (tmps:Array Value) (ps:Array Tmp) (assign body:Code) {l:Nat} {r:Loop} (h:w.heap[l]?=some (.loop r)) :
  (Instr.enterLoop fn tmps ps assign body (some l)).run P w=.ok (w.heap.size,[]) (w.alloc (.loop { state:=.ready,pending:=none,fn,tmps,params:=ps,assign,body,defers:=r.defers })):=by
 unfold Instr.enterLoop
 simp only [zN,run_getLoop h,run_newObj_alloc,Result.andThen,xD]
section
variable {P:Program} {E:Env} (hE:EnvOk E P) {ih:IH} (hI:IhOk E P ih)
include hE hI
theorem range_ok {Z Z1 : Nm} {S : St} {a : Act} {w w1 : World} {nx1 : Nat} {g1 : T O} {lid : Nat} {L : Loc} {mark : List Deferred} {df' : List Nat} {rd : Option Nat} {fnn : FuncId}
    (hro:RoOk E Z S.h.get S.bar w) (hsize:a.tmps.size=S.nt) (hreg:RegsOk Z S.nx S.regs a.tmps) (hS1:HSat Z1 g1.get nx1 w1) (hag:agree S.nx Z Z1) (hle:S.nx<=nx1) (hlid:lid < nx1) (hL:Z1 lid=some L) (hfr:Fr (Own Z S.h.get S.bar) w (Own Z1 g1.get S.bar) w1)
    (hdf:RvD Z1 nx1 df' (mark++a.defers)) {gop:Operand} {ps:Array Tmp} {assign body:Code} {f:Nat} {ga gb:List V} (hgo:evR S.regs gop=some (.fn (.func f) ga gb)) {r:Ex×St}
    (h : callF E ih S.bar g1 nx1 f (ga ++ [.fn (.yield lid) [] []] ++ gb) (fun _ h nx => match h.get lid with
          |some (.loop .busy ..)=>none
          |some (.loop _ j ..)=>setLoop S.bar h lid .exhausted j fun h=>exitOf j ⟨S.nt,S.bar,S.regs,h,nx,df'⟩
          |_=>none)=some r) (henter:(Instr.enterLoop fnn a.tmps ps assign body (rdB Z rd)).run P w=.ok (L.b,mark) w1) :
    ∃(l:Nat) (mark:List Deferred) (w₁:World) (d:Deferred) (w₁':World) (f:FuncId) (args:Array Value) (w₂:World),
      (Instr.enterLoop fnn a.tmps ps assign body (Fw (rdB Z rd)).round).run P w=.ok (l,mark) w₁/\
      (resolve a.eval (rangeCall gop l) 0).run P w₁=.ok d w₁'/\
      (∀f',Target.leads P w₁' d.target d.args=some f'->(Fw (rdB Z rd)).fn f')/\
      (invoke d.target d.args).run P w₁'=.ok (.enter f args) w₂/\
      ((Fw (rdB Z rd)).depth.isSome=true->1<=0)/\
      CallsIn (Fw (rdB Z rd)) (0 - 1) P f args w₂ (rangePost (Fw (rdB Z rd)) 0 P l (CPost E Z S w r.1 r.2) { a with defers:=mark++a.defers }):=by
  have hgv:=evR_ok hreg gop _ hgo
  simp only [Rv] at hgv
  obtain ⟨xa,xb,g1',g2',g3'⟩:=hgv
  have ext:∀{l x},RvL Z S.nx l x->RvL Z1 nx1 l x:=fun h=>RvL.ag hle hag h
  obtain ⟨v,g',n',fn,hk,e2,e3,e4⟩:=callF_ok hE hI (hro.fr hfr) hS1 (RvL.append (RvL.append (ext g1') (x':=[Value.func (.yield L.b) #[] #[]]) (by simp only [RvL,Rv];exact ⟨⟨hlid,L,[],[],hL,trivial,trivial,rfl⟩,trivial⟩)) (ext g2')) h
  obtain ⟨hfn,hname⟩:=hE.fn _ _ e2
  have hname':¬fn.name = "runtime.NumGoroutine":=hname
  have hev:∀x,a.eval (.const x)=x:=fun _=>rfl
  refine ⟨L.b,mark,w1,{ target:=.fn (.func f) xb.toArray,args:=xa.toArray++#[Value.func (.yield L.b) #[] #[]] },w1,f,(xa++[Value.func (.yield L.b) #[] #[]]++xb).toArray,w1,henter,?_,fun _ _=>trivial,?_,by simp [Fw,Fence.wide],?_⟩
  · simp [resolve,Deferred.ofValue,g3',hev]
  · simp [invoke,callFunc,hfn,hname',Option.isNone_iff_eq_none,Option.isSome_iff_ne_none.1 e3]
  · refine CallsIn.mono (e4 _) fun e w3 he=>?_
    obtain ⟨u,Z3,rfl,d1,d2,d3,d4,d5⟩:=he
    have fin : ∀ {st : LoopState} {j : Option Code} {nt : Nat} {regs : T V} {ps' : List Nat} {a' b' : Code} {dfi : Nat}, g'.get lid = some (.loop st j nt regs ps' a' b' dfi) -> st ≠ .busy ->
        (setLoop S.bar g' lid .exhausted j fun h=>exitOf j ⟨S.nt,S.bar,S.regs,h,n',df'⟩)=some r->
        rangePost (Fw (rdB Z rd)) 0 P L.b (CPost E Z S w r.1 r.2) { a with defers:=mark++a.defers } (.returned u) w3:=by
      intro st j nt regs ps' a' b' dfi hg hst hk
      obtain ⟨st0,j0,nt0,regs0,ps0,a0,b0,df0,hg0,hbar,hk⟩:=setLoop_ok hk
      rw [hg] at hg0
      cases hg0
      obtain ⟨L',D',fn',tm',k1,k2,k3,k4,k5,k6,k7,k8⟩:=loopObj d2 hg
      have hLe:L'=L:=by rw [d3 lid hlid] at k2;rw [hL] at k2;exact (Option.some.inj k2).symm
      subst hLe
      obtain ⟨hS4,hF4⟩:=putLoop_ok (bar:=S.bar) d2 hg hbar k2 k3 k4 k5 k6 (fn:=fn') .exhausted j
      refine ⟨j,_,run_endLoop k7 hst,?_⟩
      have hLand:Lands E Z S w ⟨S.nt,S.bar,S.regs,g'.up lid (some (.loop .exhausted j nt regs ps' a' b' dfi)),n',df'⟩ { a with defers:=mark++a.defers } _ Z3:=
        ⟨⟨hS4,hsize,hreg.ext (zT hle d4) (fun i L hi hl=>by rw [d3 i (by omega),hag i hi];exact hl),hdf.ext d4 (fun i L hi hl=>by rw [d3 i hi];exact hl),hro.fr ((hfr.trans d5).trans hF4)⟩,hag.trans (d3.mono hle),zT hle d4,rfl,rfl,(hfr.trans d5).trans hF4⟩
      unfold exitOf at hk
      split at hk
      · simp only [zA] at hk
        subst hk
        exact ⟨rfl,Z3,hLand⟩
      · simp only [zA] at hk
        subst hk
        exact wpIn_ret ⟨rfl,Z3,hLand⟩
      · simp only [zA] at hk
        subst hk
        exact wpIn_exit ⟨rfl,Z3,hLand⟩
      · cases hk
    split at hk
    · cases hk
    · rename_i hnb hg
      exact fin hg (fun e=>hnb e) hk
    · cases hk
theorem rangeX_ok {rd:Option Nat} {gop:Operand} {ps:Array Tmp} {assign body:Code} {S:St} {r:Ex×St} (h:rangeX E ih rd gop ps assign body S=some r) {Z:Nm} {a:Act} {w:World} (hS:Sat E Z S a w) (hrd:RdOk Z S.nx rd) :
  (Code.rangeFunc gop ps assign body).wpIn (Fw (rdB Z rd)) 0 P (CPost E Z S w r.1 r.2) a w:=by
 unfold rangeX at h
 split at h
 rotate_left
 ·cases h
 rename_i f ga gb hgo
 split at h
 next l=>
  split at h
  next q1 q2 q3 q4 q5 q6 q7 df hg=>
   rw [CX.new,T.set_eq] at h
   obtain ⟨L0,D,fn0,tm0,k1,k2,k3,k4,k5,k6,k7,k8⟩:=loopObj hS.hs hg
   have hrb:rdB Z (some l)=some L0.b:=by simp [rdB,k2]
   refine wpIn_rangeFunc fun fnn _=>?_
   obtain ⟨hS1,hF1⟩:=hS.hs.new (bar:=S.bar) (g':=(S.h.up S.nx (some (.loop .ready none S.nt S.regs ps.toList assign body df))).get) (w':=w.alloc (.loop { state:=.ready,pending:=none,fn:=fnn,tmps:=a.tmps,params:=ps,assign:=assign,body:=body,defers:=D.b })) (bs:=0) rfl ⟨rfl,rfl,rfl,zB _⟩
    (o:=.loop .ready none S.nt S.regs ps.toList assign body df) (by
     simp only [ObjOk]
     refine ⟨⟨w.heap.size,0,0⟩,fnn,a.tmps,D,put_same _ _ _,by omega,?_,hS.size,hS.regs.ext (zQ _) (fun i L hi hl=>?_),?_⟩
     ·rw [Nm.put,if_neg (Nat.ne_of_lt k3)];exact k4
     ·rw [Nm.put,if_neg (Nat.ne_of_lt hi)];exact hl
     simpa using alloc_get w _) (fun id=>T.get_up _ _ _ _)
   have hag:=agree_put Z S.nx ⟨w.heap.size,0,0⟩
   exact range_ok hE hI (mark:=[]) hS.ro hS.size hS.regs hS1 hag (zQ _) (zM _) (put_same _ _ _) hF1 (hS.df.ext (zQ _) (fun i L hi hl=>by rw [hag i hi];exact hl)) hgo h (by rw [hrb];exact run_enterLoop_inner _ _ _ _ _ k7)
  cases h
 rw [CX.new,T.set_eq,CX.new,T.set_eq] at h
 refine wpIn_rangeFunc fun fnn _=>?_
 obtain ⟨hS1,hF1⟩:=hS.hs.new (bar:=S.bar) (g':=(S.h.up S.nx (some (.dfr true))).get) (w':=w.alloc (.deferred (some []))) (bs:=0) rfl ⟨rfl,rfl,rfl,zB _⟩ (o:=.dfr true) (by
   simp only [ObjOk]
   exact ⟨⟨w.heap.size,0,0⟩,put_same _ _ _,by simpa using alloc_get w _⟩) (fun id=>T.get_up _ _ _ _)
 have hag:=agree_put Z S.nx ⟨w.heap.size,0,0⟩
 obtain ⟨hS2,hF2⟩:=hS1.new (bar:=S.bar) (g':=((S.h.up S.nx (some (.dfr true))).up (S.nx+1) (some (.loop .ready none S.nt S.regs ps.toList assign body S.nx))).get)
  (w':=(w.alloc (.deferred (some []))).alloc (.loop { state:=.ready,pending:=none,fn:=fnn,tmps:=a.tmps,params:=ps,assign:=assign,body:=body,defers:=w.heap.size })) (bs:=0) rfl ⟨rfl,rfl,rfl,zB _⟩
   (o:=.loop .ready none S.nt S.regs ps.toList assign body S.nx) (by
    simp only [ObjOk]
    refine ⟨⟨(w.alloc (.deferred (some []))).heap.size,0,0⟩,fnn,a.tmps,⟨w.heap.size,0,0⟩,put_same _ _ _,by omega,?_,hS.size,hS.regs.ext (by omega) (fun i L hi hl=>?_),?_⟩
    ·rw [Nm.put,if_neg (by omega)];exact put_same _ _ _
    ·rw [Nm.put,if_neg (by omega),Nm.put,if_neg (by omega)];exact hl
    simpa using alloc_get (w.alloc (.deferred (some []))) _) (fun id=>T.get_up _ _ _ _)
 have hag2:=agree_put (Z.put S.nx ⟨w.heap.size,0,0⟩) (S.nx+1) ⟨(w.alloc (.deferred (some []))).heap.size,0,0⟩
 have hagA:=hag.trans (hag2.mono (zQ _))
 refine range_ok hE hI (mark:=[{ target:=.collected w.heap.size,args:=#[] }]) hS.ro hS.size hS.regs hS2 hagA (by omega) (zM _) (put_same _ _ _) (hF1.trans hF2) ?_ hgo h ?_
 ·simp only [List.singleton_append,RvD]
  refine ⟨by omega,⟨⟨w.heap.size,0,0⟩,?_,rfl⟩,hS.df.ext (by omega) (fun i L hi hl=>by rw [hagA i hi];exact hl)⟩
  rw [Nm.put,if_neg (by omega)];exact put_same _ _ _
 have:=run_enterLoop_outer (P:=P) (w:=w) fnn a.tmps ps assign body
 simpa [rdB] using this
omit hE in
theorem cxLoop_ok {m:Nat} (hLp:IhLoop E P ih m):IhLoop E P (cxBody E ih) (m+1):=by
 intro rd c S e S' h Z a w hS hrd
 rw [roundsIn_succ]
 simp only [cxBody] at h
 split at h
 next S1 h1=>
  refine xM (hI rd c _ _ _ h1 Z a w hS hrd) ?_
  rintro x a1 w1 ⟨rfl,Z1,hL⟩
  have:=hLp rd c _ _ _ h Z1 a1 w1 hL.sat (hrd.ag hL.ag hL.le)
  rw [rdB_ag hrd hL.ag] at this
  exact roundsIn_mono (fun x a2 w2 hp=>hp.after hL) m a1 w1 this
 rename_i hne
 refine xM (hI rd c _ _ _ h Z a w hS hrd) ?_
 rintro x a1 w1 ⟨rfl,hp⟩
 cases e with
 |normal=>exact (hne _ h).elim
 |ret=>exact ⟨rfl,hp⟩
 |exit id=>exact ⟨rfl,hp⟩
theorem cxBody_ok {m:Nat} (hLp:IhLoop E P ih m):IhOk E P (cxBody E ih):=by
 intro rd c S e S' h Z a w hS hrd
 cases c with
 |skip=>simp only [cxBody,zA,zI] at h;obtain ⟨rfl,rfl⟩:=h;exact wpIn_skip ⟨rfl,Z,hS.lands⟩
 |label l=>simp only [cxBody,zA,zI] at h;obtain ⟨rfl,rfl⟩:=h;exact wpIn_label ⟨rfl,Z,hS.lands⟩
 |ret=>simp only [cxBody,zA,zI] at h;obtain ⟨rfl,rfl⟩:=h;exact wpIn_ret ⟨rfl,Z,hS.lands⟩
 |exit id=>simp only [cxBody,zA,zI] at h;obtain ⟨rfl,rfl⟩:=h;exact wpIn_exit ⟨rfl,Z,hS.lands⟩
 |seq c1 c2=>
  simp only [cxBody] at h
  split at h
  next S1 h1=>
   refine wpIn_seq (xM (hI rd c1 _ _ _ h1 Z a w hS hrd) ?_)
   rintro x a1 w1 ⟨rfl,Z1,hL⟩
   have:=hI rd c2 _ _ _ h Z1 a1 w1 hL.sat (hrd.ag hL.ag hL.le)
   rw [rdB_ag hrd hL.ag] at this
   exact xM this fun x a2 w2 hp=>hp.after hL
  next r1 hne h1=>
   simp only [zA] at h
   subst h
   refine wpIn_seq (xM (hI rd c1 _ _ _ h1 Z a w hS hrd) ?_)
   rintro x a1 w1 ⟨rfl,hp⟩
   cases e with
   |normal=>exact (hne _ rfl).elim
   |ret=>exact ⟨rfl,hp⟩
   |exit id=>exact ⟨rfl,hp⟩
  split at h
  ·exact nodeN_ok hE hI (r:=(e,S')) h hS hrd
  cases h
 |block id c1=>
  simp only [cxBody] at h
  split at h
  next i S1 h1=>
   refine wpIn_block (xM (hI rd c1 _ _ _ h1 Z a w hS hrd) ?_)
   rintro x a1 w1 ⟨rfl,hp⟩
   simp only [exO,Exit.inBlock]
   split at h
   next hb=>
    simp only [zA,zI] at h
    obtain ⟨rfl,rfl⟩:=h
    rw [if_pos (zF hb)]
    exact ⟨rfl,hp⟩
   rename_i hb
   simp only [zA,zI] at h
   obtain ⟨rfl,rfl⟩:=h
   rw [if_neg (fun e=>by subst e;simp at hb)]
   exact ⟨rfl,hp⟩
  rename_i hne
  refine wpIn_block (xM (hI rd c1 _ _ _ h Z a w hS hrd) ?_)
  rintro x a1 w1 ⟨rfl,hp⟩
  cases e with
  |normal=>exact ⟨rfl,hp⟩
  |ret=>exact ⟨rfl,hp⟩
  |exit id=>exact (hne _ _ h).elim
 |cond x c1 c2=>
  simp only [cxBody] at h
  split at h
  next hx=>
   have hv:=evR_ok hS.regs x _ hx
   simp only [Rv] at hv
   exact wpIn_cond_true hv (hI rd c1 _ _ _ h Z a w hS hrd)
  next hx=>
   have hv:=evR_ok hS.regs x _ hx
   simp only [Rv] at hv
   exact wpIn_cond_false hv (hI rd c2 _ _ _ h Z a w hS hrd)
  cases h
 |loop c1=>
  exact wpIn_loop_rounds (m+1) (cxLoop_ok hI hLp rd c1 S e S' h Z a w hS hrd)
 |region id ops draw=>
  cases draw with
  |true=>
   obtain ⟨S1,h1,h2⟩:=draw_ok (id:=id) (ro:=rdB Z rd) hE hI hS h
   simp only [zI] at h1
   obtain ⟨rfl,rfl⟩:=h1
   exact h2
  |false=>
   simp only [cxBody] at h
   refine wpIn_region ?_
   rw [List.range_eq_range']
   have:=seqOps_ok hE hI (ro:=rdB Z rd) ops (Z0:=Z) (S0:=S) (w0:=w) ops.toList 0 S (fun j=>by simp) h hS.lands (Q:=CPost E Z S w e S') (fun S1 Z1 a1 w1 h1 hL=>by
    simp only [zA,zI] at h1
    obtain ⟨rfl,rfl⟩:=h1
    exact ⟨rfl,Z1,hL⟩)
   simpa using this
 |rangeFunc gop ps assign body=>
  have:=rangeX_ok hE hI (rd:=rd) (r:=(e,S')) h hS hrd
  exact this
 |_=>cases h
omit hI in
theorem cx_ok:∀n,IhOk E P (cx E n)/\IhLoop E P (cx E n) n
 |0=>⟨fun rd c S e S' h=>absurd (show (none:R)=some (e,S') from h) (by simp),fun rd c S e S' h=>absurd (show (none:R)=some (e,S') from h) (by simp)⟩
 |n+1=>⟨cxBody_ok hE (cx_ok n).1 (cx_ok n).2,cxLoop_ok (cx_ok n).1 (cx_ok n).2⟩
def Kept (w w':World):Prop:=w'.os=w.os/\w'.tape=w.tape/\Io w w'/\w.heap.size<=w'.heap.size/\∀b,b < w.heap.size->w'.heap[b]?=w.heap[b]?
end
end CX
