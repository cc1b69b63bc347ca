/-
  Texts of the executors: CxSeq, CxDraw, CxDraw2, CxDraw3, CxDraw4, CxDraw5, CxNd, CxNd2, CxNd3, CxCode.
-/
import Derived.Test.YtmnaiddobipclaaSensePacks2
import Derived.Maps.RangeRun
import Derived.LoopNIn
set_option linter.all false
noncomputable section
namespace CX
open Go
theorem conv1_ok {ρ:Nm} {n:Nat} {u:Value} {v:V} (h:conv1 u=some v):Rv ρ n v u:=by
 unfold conv1 at h
 split at h<;>first |cases h;done |skip
 all_goals (simp only [zA] at h;subst h)
 all_goals simp only [Rv]
 rename_i s
 refine ⟨fun x hx=>?_,?_⟩
 ·obtain ⟨b,_,rfl⟩:=qQ.1 hx
  exact b.toNat_lt
 congr 1
 simp only [bytesOf,List.map_map]
 have:(UInt8.ofNat∘UInt8.toNat)=id:=by funext x;simp
 rw [this,List.map_id]
theorem convL_ok {ρ:Nm} {n:Nat}:∀(us:List Value) {vs:List V},convL us=some vs->RvL ρ n vs us
 |[],vs,h=>by simp only [convL,zA] at h;subst h;simp [RvL]
 |u :: us,vs,h=>by
  simp only [convL] at h
  split at h
  next v l hv hl=>
   simp only [zA] at h
   subst h
   simp only [RvL]
   exact ⟨conv1_ok hv,convL_ok us hl⟩
  cases h
theorem conv_ok {ρ:Nm} {n:Nat} {u:Value} {v:V} (h:conv u=some v):Rv ρ n v u:=by
 unfold conv at h
 split at h
 ·split at h
  next cs l hl=>
   simp only [zA] at h
   subst h
   simp only [Rv]
   exact ⟨_,convL_ok _ hl,rfl⟩
  cases h
 exact conv1_ok h
theorem evR_ok {ρ:Nm} {n:Nat} {regs:T V} {a:Act} (hR:RegsOk ρ n regs a.tmps) (x:Operand) (v:V) (h:evR regs x=some v):Rv ρ n v (a.eval x):=by
 cases x with
 |tmp t=>
  obtain ⟨u,h1,h2⟩:=hR t v h
  have:a.eval (.tmp t)=u:=by simp [Act.eval,xY,h1]
  rw [this];exact h2
 |const c=>exact conv_ok h
 |func f=>
  simp only [evR,zA] at h
  subst h
  simp only [Rv]
  exact ⟨[],[],by simp [RvL],by simp [RvL],rfl⟩
 |«global» g=>cases h
def upD (regs:T V) (dst:Option Nat) (v:V):T V:=
 match dst with
 |none=>regs
 |some d=>regs.up d (some v)
theorem putD_ok {S:St} {dst:Option Nat} {v:V} {h:T O} {nx:Nat} {k:St->R} {r:Ex×St} (hk:putD S dst v h nx k=some r) :
  k ⟨S.nt,S.bar,upD S.regs dst v,h,nx,S.df⟩=some r/\∀d,dst=some d->d < S.nt:=by
 cases dst with
 |none=>exact ⟨hk,fun d h=>by cases h⟩
 |some d=>
  simp only [putD] at hk
  split at hk
  next hd=>
   rw [T.set_eq] at hk
   exact ⟨hk,fun d' h=>by cases h;simpa [kL] using hd⟩
  cases hk
theorem put_ok {ρ:Nm} {n nt:Nat} {regs:T V} {a:Act} {dst:Option Nat} {v:V} {u:Value} (hR:RegsOk ρ n regs a.tmps) (hv:Rv ρ n v u) (hs:a.tmps.size=nt) (hd:∀d,dst=some d->d < nt) :
  RegsOk ρ n (upD regs dst v) (a.put dst u).tmps/\(a.put dst u).tmps.size=nt/\(a.put dst u).defers=a.defers:=by
 cases dst with
 |none=>exact ⟨hR,hs,rfl⟩
 |some d=>
  refine ⟨fun t y ht=>?_,by simp [Act.put,hs],rfl⟩
  have hd:=hd d rfl
  simp only [upD] at ht
  rw [T.get_up] at ht
  simp only [Act.put]
  split at ht
  next e=>
   subst e
   simp only [zA] at ht
   subst ht
   exact ⟨u,by simp [hs,hd],hv⟩
  rename_i e
  obtain ⟨u',h1,h2⟩:=hR t y ht
  exact ⟨u',by rw [kW (Ne.symm e)];exact h1,h2⟩
theorem wantX_ok {regs:T V} {all:Array Oper} {o:Oper} {k:Bool->R} {r:Ex×St} (h:wantX regs all.toList o k=some r) {ρ:Nm} {n:Nat} {a:Act} (hR:RegsOk ρ n regs a.tmps) :
  k (Region.wanted o (yielded all a.tmps))=some r:=by
 unfold wantX at h
 split at h
 next hg=>
  simpa [Region.wanted,hg] using h
 rename_i g want hg
 split at h
 rotate_left
 ·cases h
 rename_i og hog
 split at h
 rotate_left
 ·cases h
 rename_i d hd
 rw [nth_eq] at hog
 have hd':(all[g]?).bind (·.dst)=some d:=by
  rw [xG] at hog
  simp [hog,hd]
 split at h
 next b hb=>
  obtain ⟨u,h1,h2⟩:=hR d _ hb
  simp only [Rv] at h2
  subst h2
  have hw:Region.wanted o (yielded all a.tmps)=(b == want):=by
   simp only [Region.wanted,hg,yielded,hd',qS,h1]
   cases b<;>cases want<;>rfl
  rw [hw]
  split at h
  ·exact h
  ·exact h
  rename_i h3 h4
  cases b<;>cases want<;>first |exact h |exact (h3 rfl rfl).elim |exact (h4 rfl rfl).elim
 next hb=>
  obtain ⟨u,h1,h2⟩:=hR d _ hb
  simp only [Rv] at h2
  obtain ⟨x,hx,rfl⟩:=h2
  have hw:Region.wanted o (yielded all a.tmps)=false:=by
   simp only [Region.wanted,hg,yielded,hd',qS,h1]
   cases want<;>rfl
  rw [hw];exact h
 cases h
section
variable {P:Program} {E:Env} (hE:EnvOk E P) {ih:IH} (hI:IhOk E P ih) {ro:Option Nat}
include hE hI
theorem seqOps_ok (all:Array Oper) {ρ0:Nm} {S0:St} {w0:World}:∀(rest:List Oper) (i:Nat) (S:St) {k:St->R} {r:Ex×St},(∀(j:Nat),rest[j]?=all[i+j]?)->seqOps E ih all.toList rest S k=some r->
  ∀{ρ:Nm} {a:Act} {w:World},Lands E ρ0 S0 w0 S a w ρ->∀{Q:Exit->Act->World->Prop},(∀S' ρ' a' w',k S'=some r->Lands E ρ0 S0 w0 S' a' w' ρ'->Q .normal a' w')->
  wpOpsIn (Fw ro) 0 P all Q (List.range' i rest.length) a w
 |[],i,S,k,r,_,h,ρ,a,w,hL,Q,hQ=>by
  simp only [zK,List.range'_zero,wpOpsIn]
  exact hQ S ρ a w h hL
 |o :: rest,i,S,k,r,hall,h,ρ,a,w,hL,Q,hQ=>by
  have h0:all[i]?=some o:=by simpa using (hall 0).symm
  have hall':∀(j:Nat),rest[j]?=all[i+1+j]?:=fun j=>by have:=hall (j+1);simpa [xS,Nat.add_comm 1 j] using this
  simp only [zH,List.range'_succ,wpOpsIn,h0]
  simp only [seqOps] at h
  have h:=wantX_ok h hL.sat.regs
  cases hw:Region.wanted o (yielded all a.tmps) with
  |true=>
   rw [hw] at h
   simp only at h
   rw [if_pos rfl]
   obtain ⟨v,g',n',h1,h2⟩:=opA_ok hI hE hL.sat.ro hL.sat.hs (fun x _ v hv=>evR_ok hL.sat.regs x v hv) h
   refine h2 ro _ _ fun u ρ' w' hv hS' hag hn hfr=>?_
   obtain ⟨h3,hd⟩:=putD_ok h1
   have hR':RegsOk ρ' n' S.regs a.tmps:=hL.sat.regs.ext hn (fun i L hi hl=>by rw [hag i hi];exact hl)
   obtain ⟨g1,g2,g3⟩:=put_ok hR' hv hL.sat.size hd
   exact seqOps_ok all rest (i+1) _ hall' h3 (hL.trans ⟨⟨hS',g2,g1,by rw [g3];exact hL.sat.df.ext hn (fun i L hi hl=>by rw [hag i hi];exact hl),hL.sat.ro.fr hfr⟩,hag,hn,rfl,rfl,hfr⟩) hQ
  |false=>
   rw [hw] at h
   simp only at h
   simp only [qZ,if_false]
   refine ⟨fun _ _=>trivial,?_⟩
   obtain ⟨h3,hd⟩:=putD_ok h
   obtain ⟨g1,g2,g3⟩:=put_ok (u:=undef) hL.sat.regs (v:=.tup []) (by simp only [Rv];exact ⟨[],by simp [RvL],rfl⟩) hL.sat.size hd
   exact seqOps_ok all rest (i+1) _ hall' h3 (hL.trans ⟨⟨hL.sat.hs,g2,g1,by rw [g3];exact hL.sat.df,hL.sat.ro⟩,agree.refl _ _,zB _,rfl,rfl,Fr.refl _ _⟩) hQ
end
end CX

namespace CX
open Go
theorem bit_eq (m i:Nat):bit m i=m.testBit i:=by
 rw [Nat.testBit_eq_decide_div_mod_eq]
 unfold bit
 rw [kT,kC,xQ]
 rw [show Nat.shiftRight m i=m / 2 ^ i from Nat.shiftRight_eq_div_pow m i,show Nat.land (m / 2 ^ i) 1=m / 2 ^ i % 2 from Nat.and_one_is_mod _]
theorem lor_bit (a m e j:Nat):(Nat.lor a (Nat.lor m (Nat.shiftLeft 1 e))).testBit j=true↔a.testBit j=true\/m.testBit j=true\/j=e:=by
 show (a ||| (m ||| 1 <<< e)).testBit j=true↔_
 rw [Nat.testBit_or,Nat.testBit_or,Nat.testBit_shiftLeft]
 have:(decide (j≥e) && Nat.testBit 1 (j - e))=true↔j=e:=by
  rw [zC,xQ,Nat.testBit_one_eq_true_iff_self_eq_zero]
  omega
 rw [Bool.or_eq_true,Bool.or_eq_true,this]
theorem maskOf_ok {β:Type} {cl:T Nat}:∀(l:List Edge) (acc:Nat) {k:Nat->Option β} {r:β},maskOf cl l acc k=some r->
  ∃m,k m=some r/\(∀j,m.testBit j=true->acc.testBit j=true\/∃e∈l,bindsA e=true/\(j=e.on\/∃me,cl.get e.on=some me/\me.testBit j=true))/\
   (∀e∈l,bindsA e=true->∃me,cl.get e.on=some me/\m.testBit e.on=true)/\(∀j,acc.testBit j=true->m.testBit j=true)
 |[],acc,k,r,h=>⟨acc,h,fun j hj=>.inl hj,fun e he=>by simp at he,fun _ h=>h⟩
 |e :: l,acc,k,r,h=>by
  simp only [maskOf] at h
  split at h
  next hb=>
   obtain ⟨m,h1,h2,h3,h4⟩:=maskOf_ok l acc h
   refine ⟨m,h1,fun j hj=>(h2 j hj).imp id fun ⟨e',g1,g2⟩=>⟨e',by simp [g1],g2⟩,fun e' he' hbe=>?_,h4⟩
   rcases zT.1 he' with rfl |he'
   ·rw [hb] at hbe;cases hbe
   exact h3 e' he' hbe
  rename_i hb
  split at h
  next me hme=>
   rw [fN_eq] at h
   obtain ⟨m,h1,h2,h3,h4⟩:=maskOf_ok l _ h
   refine ⟨m,h1,fun j hj=>?_,fun e' he' hbe=>?_,fun j hj=>h4 j ((lor_bit _ _ _ _).2 (.inl hj))⟩
   ·rcases h2 j hj with h |⟨e',g1,g2⟩
    ·rcases (lor_bit _ _ _ _).1 h with h |h |h
     ·exact .inl h
     ·exact .inr ⟨e,by simp,hb,.inr ⟨me,hme,h⟩⟩
     exact .inr ⟨e,by simp,hb,.inl h⟩
    exact .inr ⟨e',by simp [g1],g2⟩
   rcases zT.1 he' with rfl |he'
   ·exact ⟨me,hme,h4 _ ((lor_bit _ _ _ _).2 (.inr (.inr rfl)))⟩
   exact h3 e' he' hbe
  cases h
structure PrepOk (ops:List Oper) (ms dm:T Nat):Prop where
 hm:∀(i:Nat) o,ops[i]?=some o->∃m,ms.get i=some m/\(∀j,m.testBit j=true->∃e∈o.after.toList,bindsA e=true/\(j=e.on\/∃me,ms.get e.on=some me/\me.testBit j=true))/\
  ∀e∈o.after.toList,bindsA e=true->e.on < i
 lt:∀i m j,ms.get i=some m->m.testBit j=true->j < i
 hd:∀(i:Nat) o d,ops[i]?=some o->o.dst=some d->dm.get d=some i
 nms:∀i m,ms.get i=some m->i < ops.length
theorem prep_ok {β:Type}:∀(rest pre:List Oper) (ms dm:T Nat) {k:T Nat->T Nat->Option β} {r:β},prep rest pre.length ms dm k=some r->PrepOk pre ms dm->
  ∃ms' dm',k ms' dm'=some r/\PrepOk (pre++rest) ms' dm'
 |[],pre,ms,dm,k,r,h,hp=>⟨ms,dm,h,by simpa using hp⟩
 |o :: rest,pre,ms,dm,k,r,h,hp=>by
  simp only [prep] at h
  obtain ⟨m,h,h2,h3,_⟩:=maskOf_ok _ _ h
  rw [T.set_eq] at h
  have old:∀i x,ms.get i=some x->(ms.up pre.length (some m)).get i=some x:=fun i x hx=>by
   rw [T.get_up,if_neg (Nat.ne_of_lt (hp.nms i x hx))];exact hx
  have back:∀i x,i < pre.length->(ms.up pre.length (some m)).get i=some x->ms.get i=some x:=fun i x hi hx=>by
   rw [T.get_up,if_neg (Nat.ne_of_lt hi)] at hx;exact hx
  have hlt0:∀j,m.testBit j=true->j < pre.length:=by
   intro j hj
   rcases h2 j hj with h |⟨e,he,hb,h⟩
   ·simp at h
   obtain ⟨me,hme,_⟩:=h3 e he hb
   rcases h with rfl |⟨me',hme',h⟩
   ·exact hp.nms _ _ hme
   rw [hme] at hme';cases hme'
   exact Nat.lt_trans (hp.lt _ _ _ hme h) (hp.nms _ _ hme)
  have mk:∀dm',(∀(i:Nat) o' d,(pre++[o])[i]?=some o'->o'.dst=some d->dm'.get d=some i)->PrepOk (pre++[o]) (ms.up pre.length (some m)) dm':=by
   intro dm' hdm
   refine ⟨fun i o' ho=>?_,fun i x j hx hj=>?_,hdm,fun i x hx=>?_⟩
   ·by_cases hi:i < pre.length
    ·rw [xI hi] at ho
     obtain ⟨x,g1,g2,g3⟩:=hp.hm i o' ho
     refine ⟨x,old i x g1,fun j hj=>?_,g3⟩
     obtain ⟨e,he,hb,h⟩:=g2 j hj
     exact ⟨e,he,hb,h.imp id fun ⟨me,hme,hj⟩=>⟨me,old _ _ hme,hj⟩⟩
    rw [xK (by omega)] at ho
    have hi':i - pre.length=0:=by
     cases hh:i - pre.length with
     |zero=>rfl
     |succ q=>rw [hh] at ho;simp at ho
    have hi:i=pre.length:=by omega
    subst hi
    simp only [qK,zL,zA] at ho
    subst ho
    refine ⟨m,by rw [T.get_up,if_pos rfl],fun j hj=>?_,fun e he hb=>?_⟩
    ·rcases h2 j hj with h |⟨e,he,hb,h⟩
     ·simp at h
     exact ⟨e,he,hb,h.imp id fun ⟨me,hme,hj⟩=>⟨me,old _ _ hme,hj⟩⟩
    obtain ⟨me,hme,_⟩:=h3 e he hb
    exact hp.nms _ _ hme
   ·rw [T.get_up] at hx
    split at hx
    next e=>
     simp only [zA] at hx
     subst hx e
     exact hlt0 j hj
    exact hp.lt i x j hx hj
   rw [T.get_up] at hx
   rw [zP]
   split at hx
   next e=>subst e;simp
   have:=hp.nms i x hx;omega
  have fin:∀dm',prep rest (Nat.succ pre.length) (ms.up pre.length (some m)) dm' k=some r->(∀(i:Nat) o' d,(pre++[o])[i]?=some o'->o'.dst=some d->dm'.get d=some i)->
    ∃ms' dm',k ms' dm'=some r/\PrepOk (pre++o :: rest) ms' dm':=by
   intro dm' h hdm
   have:=prep_ok rest (pre++[o]) _ dm' (k:=k) (r:=r) (by simpa using h) (mk dm' hdm)
   simpa using this
  have last:∀(i:Nat) o',(pre++[o])[i]?=some o'->(pre[i]?=some o'/\i < pre.length)\/(i=pre.length/\o'=o):=by
   intro i o' ho
   by_cases hi:i < pre.length
   ·rw [xI hi] at ho;exact .inl ⟨ho,hi⟩
   rw [xK (by omega)] at ho
   cases hh:i - pre.length with
   |zero=>rw [hh] at ho;simp only [zL,zA] at ho;exact .inr ⟨by omega,ho.symm⟩
   |succ q=>rw [hh] at ho;simp at ho
  split at h
  next hd=>
   refine fin dm h fun i o' d ho hdo=>?_
   rcases last i o' ho with ⟨ho,_⟩ |⟨_,rfl⟩
   ·exact hp.hd i o' d ho hdo
   rw [hd] at hdo;cases hdo
  rename_i d hd
  split at h
  next hdn=>
   rw [T.set_eq] at h
   refine fin _ h fun i o' d' ho hdo=>?_
   rcases last i o' ho with ⟨ho,_⟩ |⟨hi,rfl⟩
   ·have:=hp.hd i o' d' ho hdo
    rw [T.get_up,if_neg (fun e=>by subst e;rw [hdn] at this;cases this)]
    exact this
   rw [hd] at hdo
   cases hdo
   rw [T.get_up,if_pos rfl,hi]
  cases h
def partS (h:T O):List Nat->T O->T O
 |[],t=>t
 |x :: r,t=>partS h r (t.up x (h.get x))
theorem part_eq {β:Type} (h:T O):∀(F:List Nat) (t:T O) (k:T O->β),part h F t k=k (partS h F t)
 |[],_,_=>rfl
 |x :: r,t,k=>by simp only [part,partS];rw [T.set_eq];exact part_eq h r _ k
theorem partS_get (h:T O):∀(F:List Nat) (t:T O) (j:Nat),(partS h F t).get j=if j∈F then h.get j else t.get j
 |[],t,j=>by simp [partS]
 |x :: r,t,j=>by
  simp only [partS]
  rw [partS_get h r,T.get_up]
  by_cases h1:j∈r
  ·simp [h1]
  by_cases h2:j=x
  ·subst h2;simp [h1]
  simp [h1,h2]
def copyS (g:T O):Nat->Nat->T O->T O
 |_,0,h=>h
 |lo,n+1,h=>copyS g (Nat.succ lo) n (h.up lo (g.get lo))
theorem copyN_eq {β:Type} (g:T O):∀(n lo:Nat) (h:T O) (k:T O->β),copyN g lo n h k=k (copyS g lo n h)
 |0,_,_,_=>rfl
 |n+1,lo,h,k=>by simp only [copyN,copyS];rw [T.set_eq];exact copyN_eq g n _ _ k
theorem copyS_get (g:T O):∀(n lo:Nat) (h:T O) (j:Nat),(copyS g lo n h).get j=if lo<=j/\j < lo+n then g.get j else h.get j
 |0,lo,h,j=>by rw [if_neg (by omega)];rfl
 |n+1,lo,h,j=>by
  simp only [copyS]
  rw [copyS_get g n,T.get_up]
  by_cases h1:Nat.succ lo<=j/\j < Nat.succ lo+n
  ·rw [if_pos h1,if_pos (by omega)]
  rw [if_neg h1]
  by_cases h2:j=lo
  ·subst h2;rw [if_pos rfl,if_pos (by omega)]
  rw [if_neg h2,if_neg (by omega)]
def dropS:Nat->Nat->T O->T O
 |_,0,h=>h
 |lo,n+1,h=>dropS (Nat.succ lo) n (h.up lo none)
theorem dropN_eq {β:Type}:∀(n lo:Nat) (h:T O) (k:T O->β),dropN lo n h k=k (dropS lo n h)
 |0,_,_,_=>rfl
 |n+1,lo,h,k=>by simp only [dropN,dropS];rw [T.set_eq];exact dropN_eq n _ _ k
theorem dropS_get:∀(n lo:Nat) (h:T O) (j:Nat) (o:O),(dropS lo n h).get j=some o->h.get j=some o/\¬(lo<=j/\j < lo+n)
 |0,lo,h,j,o,hj=>⟨hj,by omega⟩
 |n+1,lo,h,j,o,hj=>by
  simp only [dropS] at hj
  obtain ⟨h1,h2⟩:=dropS_get n _ _ j o hj
  rw [T.get_up] at h1
  split at h1
  ·cases h1
  exact ⟨h1,by omega⟩
def withoutS (cl:Nat):List Rc->T O->T O
 |[],h=>h
 |r :: rs,h=>match bit cl r.i with
  |true=>withoutS cl rs h
  |false=>withoutS cl rs (dropS r.lo (Nat.sub r.hi r.lo) h)
theorem without_eq {β:Type} (cl:Nat):∀(rs:List Rc) (h:T O) (k:T O->β),without cl rs h k=k (withoutS cl rs h)
 |[],_,_=>rfl
 |r :: rs,h,k=>by
  simp only [without,withoutS]
  cases bit cl r.i with
  |true=>exact without_eq cl rs h k
  |false=>simp only;rw [dropN_eq];exact without_eq cl rs _ k
theorem withoutS_get (cl:Nat):∀(rs:List Rc) (h:T O) (j:Nat) (o:O),(withoutS cl rs h).get j=some o->h.get j=some o/\∀r∈rs,bit cl r.i=false->¬(r.lo<=j/\j < r.hi)
 |[],h,j,o,hj=>⟨hj,fun r hr=>by simp at hr⟩
 |r :: rs,h,j,o,hj=>by
  simp only [withoutS] at hj
  cases hb:bit cl r.i with
  |true=>
   rw [hb] at hj
   obtain ⟨h1,h2⟩:=withoutS_get cl rs h j o hj
   refine ⟨h1,fun r' hr' hb'=>?_⟩
   rcases zT.1 hr' with rfl |hr'
   ·rw [hb] at hb';cases hb'
   exact h2 r' hr' hb'
  |false=>
   rw [hb] at hj
   obtain ⟨h1,h2⟩:=withoutS_get cl rs _ j o hj
   obtain ⟨h3,h4⟩:=dropS_get _ _ _ _ _ h1
   refine ⟨h3,fun r' hr' hb'=>?_⟩
   rcases zT.1 hr' with rfl |hr'
   ·intro h5
    apply h4
    show r'.lo<=j/\j < r'.lo+(r'.hi - r'.lo)
    omega
   exact h2 r' hr' hb'
theorem memN_iff {x:Nat}:∀l:List Nat,memN x l=true↔x∈l
 |[]=>by simp [memN]
 |y :: r=>by
  simp only [memN]
  split
  next h=>
   simp [zS h]
  rename_i h
  have:x≠y:=fun e=>by subst e;simp at h
  simp [memN_iff r,this]
theorem disj_ok:∀(a b:List Nat),disj a b=true->∀x∈a,x∉b
 |[],b,_,x,h=>by simp at h
 |y :: r,b,h,x,hx=>by
  simp only [disj] at h
  split at h
  ·cases h
  rename_i hm
  rcases zT.1 hx with rfl |hx
  ·exact fun hb=>by rw [(memN_iff b).2 hb] at hm;cases hm
  exact disj_ok r b h x hx
theorem outs_ok {lo hi:Nat}:∀(l:List Nat),outs lo hi l=true->∀x∈l,¬(lo<=x/\x < hi)
 |[],_,x,h=>by simp at h
 |y :: r,h,x,hx=>by
  simp only [outs] at h
  split at h
  ·cases h
  rename_i hm
  rcases zT.1 hx with rfl |hx
  ·intro hc
   rw [Bool.and_eq_false_iff] at hm
   rcases hm with hm |hm
   ·rw [<-Bool.not_eq_true,xX] at hm;exact hm hc.1
   rw [<-Bool.not_eq_true,kL] at hm;exact hm hc.2
  exact outs_ok r h x hx
theorem below_ok {nx:Nat}:∀(l:List Nat),below nx l=true->∀x∈l,x < nx
 |[],_,x,h=>by simp at h
 |y :: r,h,x,hx=>by
  simp only [below] at h
  split at h
  next hm=>
   rcases zT.1 hx with rfl |hx
   ·simpa [kL] using hm
   exact below_ok r h x hx
  cases h
theorem geL_mem {bar x:Nat}:∀l:List Nat,x∈geL bar l↔x∈l/\bar<=x
 |[]=>by simp [geL]
 |y :: r=>by
  simp only [geL]
  split
  next h=>
   have h:bar<=y:=by simpa using h
   simp only [zT,geL_mem r]
   constructor
   ·rintro (rfl |⟨h1,h2⟩)
    ·exact ⟨.inl rfl,h⟩
    exact ⟨.inr h1,h2⟩
   rintro ⟨rfl |h1,h2⟩
   ·exact .inl rfl
   exact .inr ⟨h1,h2⟩
  rename_i h
  have h:¬bar<=y:=by rw [<-xX,h];simp
  simp only [zT,geL_mem r]
  constructor
  ·exact fun ⟨h1,h2⟩=>⟨.inr h1,h2⟩
  rintro ⟨rfl |h1,h2⟩
  ·exact absurd h2 h
  exact ⟨h1,h2⟩
theorem isNil_ok {l:List Nat} (h:isNil l=true):l=[]:=by cases l<;>simp_all [isNil]
theorem fits_ok {cl:Nat} {fp:Fp}:∀(rs:List Rc),fits cl fp rs=true->∀r∈rs,bit cl r.i=true\/pairOk fp r=true
 |[],_,r,h=>by simp at h
 |r' :: rs,h,r,hr=>by
  simp only [fits] at h
  cases hb:bit cl r'.i with
  |true=>
   rw [hb] at h
   rcases zT.1 hr with rfl |hr
   ·exact .inl hb
   exact fits_ok rs h r hr
  |false=>
   rw [hb] at h
   simp only at h
   split at h
   next hp=>
    rcases zT.1 hr with rfl |hr
    ·exact .inr hp
    exact fits_ok rs h r hr
   cases h
section
variable {tch Rd cl:Nat->Nat->Prop} {D:Nat->Prop} {len i x m:Nat}
theorem claimA (h2:∀j i,j < i->i < len->tch j x->Rd i x->cl i j) (h3:∀j i,j < i->i < len->Rd j x->tch i x->cl i j) (hD:∀a b,D a->cl a b->D b) (hi:¬D i) (hil:i < len) (hcl:∀b,cl i b->D b)
  (hR:Rd i x) (hm:∀t,t < len->tch t x->(t < m↔D t)):∀t,t < len->tch t x->(t < m↔t < i):=by
 intro t ht htx
 rw [hm t ht htx]
 constructor
 ·intro hd
  rcases Nat.lt_trichotomy t i with h |h |h
  ·exact h
  ·subst h;exact absurd hd hi
  exact absurd (hD t i hd (h3 i t h ht hR htx)) hi
 exact fun h=>hcl t (h2 t i h hil htx hR)
theorem claimB (h1:∀j i,j < i->i < len->tch j x->tch i x->cl i j) (hD:∀a b,D a->cl a b->D b) (hi:¬D i) (hil:i < len) (hcl:∀b,cl i b->D b) (hix:tch i x) :
  ∀t,t < len->tch t x->(t < i+1↔D t\/t=i):=by
 intro t ht htx
 constructor
 ·intro h
  rcases Nat.lt_or_ge t i with h |h
  ·exact .inl (hcl t (h1 t i h hil htx hix))
  exact .inr (by omega)
 rintro (hd |rfl)
 ·rcases Nat.lt_trichotomy t i with h |h |h
  ·omega
  ·omega
  exact absurd (hD t i hd (h1 i t h ht hix htx)) hi
 omega
theorem sameRange {α:Type} {g:Nat->α} (same:∀t,t < len->¬tch t x->g (t+1)=g t):∀(n a b:Nat),a+n=b->b<=len->(∀t,t < len->tch t x->(t < a↔t < b))->g a=g b
 |0,a,b,h,_,_=>by rw [<-h];rfl
 |n+1,a,b,h,hb,hh=>by
  have h1:¬tch a x:=fun ht=>by have:=(hh a (by omega) ht);omega
  rw [<-same a (by omega) h1]
  exact sameRange same n (a+1) b (by omega) hb fun t ht htx=>by
   have:=hh t ht htx
   have hne:t≠a:=fun e=>by subst e;exact h1 htx
   omega
theorem sameRange' {α:Type} {g:Nat->α} (same:∀t,t < len->¬tch t x->g (t+1)=g t) {a b:Nat} (ha:a<=len) (hb:b<=len) (hh:∀t,t < len->tch t x->(t < a↔t < b)):g a=g b:=by
 rcases Nat.le_total a b with h |h
 ·exact sameRange same (b - a) a b (by omega) hb hh
 exact (sameRange same (a - b) b a (by omega) ha (fun t ht htx=>(hh t ht htx).symm)).symm
end
end CX

namespace CX
open Go
def Wm (bar:Nat) (fp:Fp) (x:Nat):Prop:=
 match fp with
 |.all=>True
 |.q=>False
 |.ls F wr=>wr=true/\x∈F/\bar<=x
def Nw (g:Nat->St) (i x:Nat):Prop:=(g i).nx<=x/\x < (g (i+1)).nx
def Tm (g:Nat->St) (fp:Nat->Fp) (i x:Nat):Prop:=Wm (g i).bar (fp i) x\/Nw g i x
def Cl (ms:T Nat) (i j:Nat):Prop:=∃m,ms.get i=some m/\m.testBit j=true
def Rm (ms:T Nat) (g:Nat->St) (fp:Nat->Fp) (i x:Nat):Prop:=
 match fp i with
 |.all=>True
 |.q=>x < (g i).nx/\∀j,j < i->¬Cl ms i j->¬Nw g j x
 |.ls F _=>x∈F
def Triv (g:Nat->St) (fp:Nat->Fp) (i:Nat):Prop:=fp i=.ls [] false/\(g (i+1)).nx=(g i).nx
def barOf (fp:Fp) (bar nx:Nat):Nat:=
 match fp with
 |.all=>bar
 |.q=>nx
 |.ls _ wr=>match wr with
  |true=>bar
  |false=>nx
structure MemStep (E:Env) (ih:IH) (ms dm:T Nat) (g:Nat->St) (fp:Nat->Fp) (i cl:Nat) (o:Oper) (v:V):Prop where
 ran:∃hv h' r0,opA E ih (barOf (fp i) (g i).bar (g i).nx) (evD (g i).regs ms dm i cl) hv (g i).nx o.op retV=some r0/\(∀v' g' n',retV v' g' n'=some r0->v'=v/\g'=h'/\n'=(g (i+1)).nx)/\
  (∀x ob,hv.get x=some ob->(g i).h.get x=some ob/\((fp i=.q->x < (g i).nx)->Rm ms g fp i x))/\
  (∀x,Tm g fp i x->(g (i+1)).h.get x=h'.get x)/\(∀x,¬Tm g fp i x->(g (i+1)).h.get x=(g i).h.get x)
 bar:(g i).bar<=(g i).nx
 mono:(g i).nx<=(g (i+1)).nx
 low:∀F wr,fp i=.ls F wr->∀x∈F,x < (g i).nx
structure StepOk (E:Env) (ih:IH) (all:List Oper) (ms dm:T Nat) (g:Nat->St) (fp:Nat->Fp) (i:Nat) (o:Oper):Prop where
  nt:(g (i+1)).nt=(g i).nt
  bar:(g (i+1)).bar=(g i).bar
  df:(g (i+1)).df=(g i).df
  ex:∃cl v,ms.get i=some cl/\(g (i+1)).regs=upD (g i).regs o.dst v/\(∀d,o.dst=some d->d < (g i).nt)/\
    ((wantB (g i).regs ms dm i cl all o=some false/\v=.tup []/\(g (i+1)).h=(g i).h/\Triv g fp i)\/
     (wantB (g i).regs ms dm i cl all o = some true /\ clsOf E o.op = 0 /\ (∃ r0, opP E (evD (g i).regs ms dm i cl) o.op (fun v => retV v .e 0) = some r0 /\ ∀ v', retV v' .e 0 = some r0 -> v' = v) /\
        (g (i+1)).h=(g i).h/\Triv g fp i)\/
     (wantB (g i).regs ms dm i cl all o=some true/\MemStep E ih ms dm g fp i cl o v))
section
variable {E:Env} {ih:IH} {all:List Oper} {ms dm:T Nat} {g g':Nat->St} {fp fp':Nat->Fp}
theorem Nw.congr {i:Nat} (h:g' i=g i) (h1:g' (i+1)=g (i+1)) (x:Nat):Nw g' i x↔Nw g i x:=by unfold Nw;rw [h,h1]
theorem Tm.congr {i:Nat} (h:g' i=g i) (h1:g' (i+1)=g (i+1)) (hf:fp' i=fp i) (x:Nat):Tm g' fp' i x↔Tm g fp i x:=by unfold Tm;rw [Nw.congr h h1,h,hf]
theorem Triv.congr {i:Nat} (h:g' i=g i) (h1:g' (i+1)=g (i+1)) (hf:fp' i=fp i):Triv g' fp' i↔Triv g fp i:=by unfold Triv;rw [h,h1,hf]
theorem Rm.congr {i:Nat} (h:∀k,k<=i->g' k=g k) (hf:fp' i=fp i) (x:Nat):Rm ms g' fp' i x↔Rm ms g fp i x:=by
 unfold Rm
 rw [hf,h i (zB _)]
 split
 ·exact Iff.rfl
 ·refine and_congr_right fun _=>forall_congr' fun j=>forall_congr' fun hj=>forall_congr' fun _=>not_congr ?_
  exact Nw.congr (h j (by omega)) (h (j+1) (by omega)) x
 exact Iff.rfl
theorem MemStep.congr {i cl:Nat} {o:Oper} {v:V} (h:∀k,k<=i+1->g' k=g k) (hf:fp' i=fp i) (hm:MemStep E ih ms dm g fp i cl o v):MemStep E ih ms dm g' fp' i cl o v:=by
 have e0:=h i (by omega)
 have e1:=h (i+1) (by omega)
 obtain ⟨⟨hv,h',r0,a1,a2,a3,a4,a5⟩,b,c,d⟩:=hm
 refine ⟨⟨hv,h',r0,?_,?_,fun x ob hx=>?_,fun x hx=>?_,fun x hx=>?_⟩,?_,?_,?_⟩
 ·rw [hf,e0];exact a1
 ·rw [e1];exact a2
 ·rw [e0,Rm.congr (fun k hk=>h k (by omega)) hf,hf];exact a3 x ob hx
 ·rw [e1];exact a4 x ((Tm.congr e0 e1 hf x).1 hx)
 ·rw [e1,e0];exact a5 x (fun hn=>hx ((Tm.congr e0 e1 hf x).2 hn))
 ·rw [e0];exact b
 ·rw [e0,e1];exact c
 rw [hf,e0];exact d
theorem StepOk.congr {i:Nat} {o:Oper} (h:∀k,k<=i+1->g' k=g k) (hf:fp' i=fp i) (hs:StepOk E ih all ms dm g fp i o):StepOk E ih all ms dm g' fp' i o:=by
 have e0:=h i (by omega)
 have e1:=h (i+1) (by omega)
 obtain ⟨a,b,c,cl,v,d1,d2,d3,d4⟩:=hs
 refine ⟨by rw [e0,e1];exact a,by rw [e0,e1];exact b,by rw [e0,e1];exact c,cl,v,d1,by rw [e0,e1];exact d2,by rw [e0];exact d3,?_⟩
 rcases d4 with ⟨f1,f2,f3,f4⟩ |⟨f1,f2,f3,f4,f5⟩ |⟨f1,f2⟩
 ·exact .inl ⟨by rw [e0];exact f1,f2,by rw [e0,e1];exact f3,(Triv.congr e0 e1 hf).2 f4⟩
 ·exact .inr (.inl ⟨by rw [e0];exact f1,f2,by rw [e0];exact f3,by rw [e0,e1];exact f4,(Triv.congr e0 e1 hf).2 f5⟩)
 exact .inr (.inr ⟨by rw [e0];exact f1,f2.congr h hf⟩)
structure Tr (E:Env) (ih:IH) (all:List Oper) (ms dm:T Nat) (i:Nat) (g:Nat->St) (fp:Nat->Fp) (recs:List Rc):Prop where
 st:∀(j:Nat) o,j < i->all[j]?=some o->StepOk E ih all ms dm g fp j o
 rc:∀r∈recs,r.i < i/\r.fp=fp r.i/\r.lo=(g r.i).nx/\r.hi=(g (r.i+1)).nx
 cov:∀j,j < i->(∃r∈recs,r.i=j)\/Triv g fp j
 pr:∀a b,a < b->b < i->Cl ms b a\/Triv g fp b\/Triv g fp a\/pairOk (fp b) ⟨a,fp a,(g a).nx,(g (a+1)).nx⟩=true
theorem putO_ok {β:Type} {S:St} {dst:Option Nat} {v:V} {k:St->Option β} {r:β} (hk:putO S dst v k=some r) :
  k ⟨S.nt,S.bar,upD S.regs dst v,S.h,S.nx,S.df⟩=some r/\∀d,dst=some d->d < S.nt:=by
 obtain ⟨nt,bar,regs,h,nx,df⟩:=S
 cases dst with
 |none=>exact ⟨hk,fun d h=>by cases h⟩
 |some d=>
  simp only [putO] at hk
  split at hk
  next hd=>
   rw [T.set_eq] at hk
   exact ⟨hk,fun d' h=>by cases h;simpa [kL] using hd⟩
  cases hk
theorem Tr.snoc {i:Nat} {recs recs':List Rc} {o:Oper} (hT:Tr E ih all ms dm i g fp recs) (hg:∀k,k<=i->g' k=g k) (hf:∀k,k < i->fp' k=fp k) (ho:all[i]?=some o) (hs:StepOk E ih all ms dm g' fp' i o)
  (hr:(recs'=recs/\Triv g' fp' i)\/(recs'=⟨i,fp' i,(g' i).nx,(g' (i+1)).nx⟩ :: recs/\∃cl,ms.get i=some cl/\fits cl (fp' i) recs=true)):Tr E ih all ms dm (i+1) g' fp' recs':=by
 have rcOld:∀r∈recs,r.i < i+1/\r.fp=fp' r.i/\r.lo=(g' r.i).nx/\r.hi=(g' (r.i+1)).nx:=by
  intro r hr
  obtain ⟨h1,h2,h3,h4⟩:=hT.rc r hr
  exact ⟨by omega,by rw [hf _ h1];exact h2,by rw [hg _ (by omega)];exact h3,by rw [hg _ (by omega)];exact h4⟩
 have tv:∀j,j < i->(Triv g' fp' j↔Triv g fp j):=fun j hj=>Triv.congr (hg j (by omega)) (hg (j+1) (by omega)) (hf j hj)
 refine ⟨fun j o' hj ho'=>?_,fun r hr'=>?_,fun j hj=>?_,fun a b hab hb=>?_⟩
 ·by_cases h:j=i
  ·subst h;rw [ho] at ho';cases ho';exact hs
  exact (hT.st j o' (by omega) ho').congr (fun k hk=>hg k (by omega)) (hf j (by omega))
 ·rcases hr with ⟨rfl,_⟩ |⟨rfl,_⟩
  ·exact rcOld r hr'
  rcases zT.1 hr' with rfl |hr'
  ·exact ⟨by simp,rfl,rfl,rfl⟩
  exact rcOld r hr'
 ·by_cases h:j=i
  ·subst h
   rcases hr with ⟨_,h⟩ |⟨rfl,_⟩
   ·exact .inr h
   exact .inl ⟨⟨j,fp' j,(g' j).nx,(g' (j+1)).nx⟩,by simp,rfl⟩
  rcases hT.cov j (by omega) with ⟨r,h1,h2⟩ |h1
  ·refine .inl ⟨r,?_,h2⟩
   rcases hr with ⟨rfl,_⟩ |⟨rfl,_⟩
   ·exact h1
   simp [h1]
  exact .inr ((tv j (by omega)).2 h1)
 by_cases h:b=i
 ·subst h
  rcases hr with ⟨_,h⟩ |⟨_,cl,hcl,hfit⟩
  ·exact .inr (.inl h)
  rcases hT.cov a hab with ⟨r,h1,h2⟩ |h1
  ·subst h2
   rcases fits_ok recs hfit r h1 with h3 |h3
   ·exact .inl ⟨cl,hcl,by rw [<-bit_eq];exact h3⟩
   refine .inr (.inr (.inr ?_))
   obtain ⟨_,e1,e2,e3⟩:=rcOld r h1
   rw [<-e1,<-e2,<-e3]
   exact h3
  exact .inr (.inr (.inl ((tv a hab).2 h1)))
 have e:(⟨a,fp' a,(g' a).nx,(g' (a+1)).nx⟩:Rc)=⟨a,fp a,(g a).nx,(g (a+1)).nx⟩:=by rw [hf a (by omega),hg a (by omega),hg (a+1) (by omega)]
 rw [e,hf b (by omega),tv b (by omega),tv a (by omega)]
 exact hT.pr a b hab (by omega)
def VwP (cl:Nat) (recs:List Rc) (fp:Fp) (x:Nat):Prop:=
 match fp with
 |.all=>True
 |.q=>∀r∈recs,bit cl r.i=false->¬(r.lo<=x/\x < r.hi)
 |.ls F _=>x∈F
theorem viewX_ok {β:Type} {cl:Nat} {recs:List Rc} {fp:Fp} {h:T O} {bar nx:Nat} {k:T O->Nat->Option β} {r:β} (hk:viewX cl recs fp h bar nx k=some r) :
  ∃hv,k hv (barOf fp bar nx)=some r/\∀x ob,hv.get x=some ob->h.get x=some ob/\VwP cl recs fp x:=by
 cases fp with
 |all=>exact ⟨h,hk,fun x ob hx=>⟨hx,trivial⟩⟩
 |q=>
  simp only [viewX] at hk
  rw [without_eq] at hk
  exact ⟨_,hk,fun x ob hx=>withoutS_get _ _ _ _ _ hx⟩
 |ls F wr=>
  simp only [viewX] at hk
  rw [part_eq] at hk
  refine ⟨partS h F .e,?_,fun x ob hx=>?_⟩
  ·cases wr with
   |true=>exact hk
   |false=>exact hk
  rw [partS_get] at hx
  split at hx
  next hm=>exact ⟨hx,hm⟩
  simp [T.get] at hx
theorem mergeX_ok {β:Type} {fp:Fp} {h h':T O} {bar lo hi:Nat} (hlo:lo<=hi) {k:T O->Option β} {r:β} (hk:mergeX fp h h' bar lo hi k=some r) :
  ∃h2,k h2=some r/\(∀x,(Wm bar fp x\/(lo<=x/\x < hi))->h2.get x=h'.get x)/\∀x,¬(Wm bar fp x\/(lo<=x/\x < hi))->h2.get x=h.get x:=by
 have hs:lo+Nat.sub hi lo=hi:=by show lo+(hi - lo)=hi;omega
 cases fp with
 |all=>exact ⟨h',hk,fun x _=>rfl,fun x hx=>absurd (.inl trivial) hx⟩
 |q=>
  simp only [mergeX] at hk
  rw [copyN_eq] at hk
  refine ⟨_,hk,fun x hx=>?_,fun x hx=>?_⟩
  ·rw [copyS_get,hs,if_pos (by rcases hx with hx |hx;exact hx.elim;exact hx)]
  rw [copyS_get,hs,if_neg (fun h=>hx (.inr h))]
 |ls F wr=>
  cases wr with
  |true=>
   simp only [mergeX] at hk
   rw [part_eq,copyN_eq] at hk
   refine ⟨_,hk,fun x hx=>?_,fun x hx=>?_⟩
   ·rw [copyS_get,hs]
    split
    ·rfl
    rename_i hn
    rcases hx with hx |hx
    ·rw [partS_get,if_pos ((geL_mem F).2 hx.2)]
    exact absurd hx hn
   rw [copyS_get,hs,if_neg (fun h=>hx (.inr h)),partS_get,if_neg (fun h=>hx (.inl ⟨rfl,(geL_mem F).1 h⟩))]
  |false=>
   simp only [mergeX] at hk
   rw [copyN_eq] at hk
   refine ⟨_,hk,fun x hx=>?_,fun x hx=>?_⟩
   ·rw [copyS_get,hs,if_pos (by rcases hx with hx |hx;exact (by cases hx.1);exact hx)]
   rw [copyS_get,hs,if_neg (fun h=>hx (.inr h))]
theorem stepD_ok {r:List Oper} {o:Oper} {i:Nat} {recs recs':List Rc} {S':St} (hk:stepD E ih all ms dm r o i recs (g i)=some (S',recs')) (hT:Tr E ih all ms dm i g fp recs) (ho:all[i]?=some o) :
  ∃g' fp',Tr E ih all ms dm (i+1) g' fp' recs'/\(∀k,k<=i->g' k=g k)/\g' (i+1)=S':=by
 have mkG:∀S':St,∃g':Nat->St,(∀k,k<=i->g' k=g k)/\g' (i+1)=S':=fun S'=>⟨fun k=>if k=i+1 then S' else g k,fun k hk=>if_neg (by omega),if_pos rfl⟩
 have mkF:∀f:Fp,∃fp':Nat->Fp,(∀k,k < i->fp' k=fp k)/\fp' i=f:=fun f=>⟨fun k=>if k=i then f else fp k,fun k hk=>if_neg (by omega),if_pos rfl⟩
 unfold stepD at hk
 split at hk
 ·cases hk
 rename_i cl hcl
 split at hk
 ·cases hk
 next hw=>
  obtain ⟨h1,h2⟩:=putO_ok hk
  simp only [zA,zJ] at h1
  obtain ⟨rfl,rfl⟩:=h1
  obtain ⟨g',hg,hg1⟩:=mkG ⟨(g i).nt,(g i).bar,upD (g i).regs o.dst (.tup []),(g i).h,(g i).nx,(g i).df⟩
  obtain ⟨fp',hfp,hf1⟩:=mkF (.ls [] false)
  have tv:Triv g' fp' i:=by
   unfold Triv;rw [hf1,hg1,hg i (zB _)];exact ⟨rfl,rfl⟩
  refine ⟨g',fp',hT.snoc hg hfp ho ?_ (.inl ⟨rfl,tv⟩),hg,hg1⟩
  refine ⟨?_,?_,?_,cl,.tup [],hcl,?_,?_,.inl ⟨?_,rfl,?_,tv⟩⟩
  all_goals first |rw [hg1,hg i (zB _)] |rw [hg i (zB _)]
  ·exact h2
  exact hw
 rename_i hw
 split at hk
 next hc=>
  obtain ⟨r0,v,g0,n0,hr0,hk,hv⟩:=outV_ok hk
  obtain ⟨h1,h2⟩:=putO_ok hk
  simp only [zA,zJ] at h1
  obtain ⟨rfl,rfl⟩:=h1
  obtain ⟨g',hg,hg1⟩:=mkG ⟨(g i).nt,(g i).bar,upD (g i).regs o.dst v,(g i).h,(g i).nx,(g i).df⟩
  obtain ⟨fp',hfp,hf1⟩:=mkF (.ls [] false)
  have tv:Triv g' fp' i:=by
   unfold Triv;rw [hf1,hg1,hg i (zB _)];exact ⟨rfl,rfl⟩
  refine ⟨g',fp',hT.snoc hg hfp ho ?_ (.inl ⟨rfl,tv⟩),hg,hg1⟩
  refine ⟨?_,?_,?_,cl,v,hcl,?_,?_,.inr (.inl ⟨?_,hc,?_,?_,tv⟩)⟩
  all_goals first |rw [hg1,hg i (zB _)] |rw [hg i (zB _)]
  ·exact h2
  ·exact hw
  exact ⟨r0,hr0,fun v' h=>(hv v' _ _ h).1⟩
 split at hk
 rotate_left
 ·cases hk
 rename_i f hpick
 unfold memD at hk
 obtain ⟨hgi⟩:∃x,g i=x:=⟨_,rfl⟩
 split at hk
 rename_i nt bar regs h nx df hgi
 split at hk
 ·cases hk
 rename_i hchk
 simp only [zC,xX] at hchk
 obtain ⟨⟨hbel,hfit⟩,hbar⟩:=hchk
 obtain ⟨hv,hk,hview⟩:=viewX_ok hk
 obtain ⟨r0,v,h',nx',hr0,hk,hval⟩:=outV_ok hk
 split at hk
 ·cases hk
 rename_i hmono
 have hmono:nx<=nx':=by simpa using hmono
 obtain ⟨h2,hk,hm1,hm2⟩:=mergeX_ok hmono hk
 obtain ⟨h1,hd⟩:=putO_ok hk
 simp only [zA,zJ] at h1
 obtain ⟨rfl,rfl⟩:=h1
 obtain ⟨g',hg,hg1⟩:=mkG ⟨nt,bar,upD regs o.dst v,h2,nx',df⟩
 obtain ⟨fp',hfp,hf1⟩:=mkF f
 refine ⟨g',fp',hT.snoc hg hfp ho ?_ (.inr ⟨?_,cl,hcl,by rw [hf1];exact hfit⟩),hg,hg1⟩
 ·have e0:=hg i (zB _)
  refine ⟨?_,?_,?_,cl,v,hcl,?_,?_,.inr (.inr ⟨?_,⟨hv,h',r0,?_,?_,fun x ob hx=>?_,fun x hx=>?_,fun x hx=>?_⟩,?_,?_,?_⟩)⟩
  ·rw [hg1,e0,hgi]
  ·rw [hg1,e0,hgi]
  ·rw [hg1,e0,hgi]
  ·rw [hg1,e0,hgi]
  ·rw [e0,hgi];exact hd
  ·rw [e0];exact hw
  ·rw [hf1,e0,hgi];exact hr0
  ·rw [hg1];exact hval
  ·rw [e0,hgi]
   obtain ⟨q1,q2⟩:=hview x ob hx
   refine ⟨q1,fun hlt=>?_⟩
   unfold Rm
   rw [hf1] at hlt
   rw [hf1,e0,hgi]
   cases f with
   |all=>trivial
   |q=>
    refine ⟨hlt rfl,fun j hj hnc hnw=>?_⟩
    rw [Nw.congr (hg j (by omega)) (hg (j+1) (by omega))] at hnw
    rcases hT.cov j hj with ⟨rc,p1,p2⟩ |p
    ·subst p2
     obtain ⟨_,_,p3,p4⟩:=hT.rc rc p1
     refine q2 rc p1 ?_ ⟨by rw [p3];exact hnw.1,by rw [p4];exact hnw.2⟩
     rw [<-Bool.not_eq_true,bit_eq]
     exact fun hb=>hnc ⟨cl,hcl,hb⟩
    have:=p.2;unfold Nw at hnw;omega
   |ls F wr=>exact q2
  ·rw [hg1]
   refine hm1 x ?_
   unfold Tm Nw at hx
   rw [hf1,hg1,e0,hgi] at hx
   exact hx
  ·rw [hg1,e0,hgi]
   refine hm2 x ?_
   unfold Tm Nw at hx
   rw [hf1,hg1,e0,hgi] at hx
   exact hx
  ·rw [e0,hgi];exact hbar
  ·rw [hg1,e0,hgi];exact hmono
  intro F wr hF x hx
  rw [hf1] at hF
  rw [e0,hgi]
  subst hF
  exact below_ok F hbel x hx
 rw [hf1,hg1,hg i (zB _),hgi]
theorem drawGo_ok:∀(rest:List Oper) (i:Nat) (recs:List Rc) (g:Nat->St) (fp:Nat->Fp) {Se:St},(∀(j:Nat),rest[j]?=all[i+j]?)->drawGo E ih all ms dm rest i recs (g i)=some Se->Tr E ih all ms dm i g fp recs->
  ∃g' fp' recs',Tr E ih all ms dm (i+rest.length) g' fp' recs'/\(∀k,k<=i->g' k=g k)/\g' (i+rest.length)=Se
 |[],i,recs,g,fp,Se,hall,h,hT=>by
  simp only [drawGo,zA] at h
  exact ⟨g,fp,recs,hT,fun _ _=>rfl,h⟩
 |o :: rest,i,recs,g,fp,Se,hall,h,hT=>by
  have h0:all[i]?=some o:=by simpa using (hall 0).symm
  simp only [drawGo] at h
  split at h
  next S recs1 hst=>
   obtain ⟨g1,f1,hT1,hg1,hg2⟩:=stepD_ok hst hT h0
   obtain ⟨g',fp',recs',h1,h2,h3⟩:=drawGo_ok rest (i+1) recs1 g1 f1 (fun j=>by have:=hall (j+1);simpa [xS,Nat.add_comm 1 j] using this) (by rw [hg2];exact h) hT1
   refine ⟨g',fp',recs',by rw [zH,show i+(rest.length+1)=i+1+rest.length by omega];exact h1,fun k hk=>?_,by rw [zH,show i+(rest.length+1)=i+1+rest.length by omega];exact h3⟩
   rw [h2 k (by omega),hg1 k hk]
  cases h
end
end CX

namespace CX
open Go
section
variable {P:Program} {E:Env} {ih:IH} {all:List Oper} {ms dm:T Nat} {g:Nat->St} {fp:Nat->Fp} {recs:List Rc} {len:Nat}
theorem Tr.at (hT:Tr E ih all ms dm len g fp recs) (hl:len=all.length) {i:Nat} (hi:i < len):∃o,all[i]?=some o/\StepOk E ih all ms dm g fp i o:=by
 obtain ⟨o,ho⟩:∃o,all[i]?=some o:=⟨all[i]'(by omega),by simp [show i < all.length by omega]⟩
 exact ⟨o,ho,hT.st i o hi ho⟩
theorem StepOk.mono {i:Nat} {o:Oper} (h:StepOk E ih all ms dm g fp i o):(g i).nx<=(g (i+1)).nx:=by
 obtain ⟨_,_,_,cl,v,_,_,_,h |h |h⟩:=h
 ·exact Nat.le_of_eq h.2.2.2.2.symm
 ·exact Nat.le_of_eq h.2.2.2.2.2.symm
 exact h.2.mono
theorem StepOk.low {i:Nat} {o:Oper} (h:StepOk E ih all ms dm g fp i o):∀F wr,fp i=.ls F wr->∀x∈F,x < (g i).nx:=by
 obtain ⟨_,_,_,cl,v,_,_,_,h |h |h⟩:=h
 ·intro F wr hF x hx;rw [h.2.2.2.1] at hF;cases hF;simp at hx
 ·intro F wr hF x hx;rw [h.2.2.2.2.1] at hF;cases hF;simp at hx
 exact h.2.low
theorem Triv.not {i x:Nat} (h:Triv g fp i):¬Tm g fp i x:=by
 unfold Tm Wm Nw
 rw [h.1,h.2]
 rintro (h |h)
 ·exact absurd h.1 (by simp)
 omega
theorem StepOk.same {i:Nat} {o:Oper} (h:StepOk E ih all ms dm g fp i o) (x:Nat) (hx:¬Tm g fp i x):(g (i+1)).h.get x=(g i).h.get x:=by
 obtain ⟨_,_,_,cl,v,_,_,_,h |h |h⟩:=h
 ·rw [h.2.2.1]
 ·rw [h.2.2.2.1]
 obtain ⟨_,_,_,_,_,_,_,h⟩:=h.2.ran
 exact h x hx
def TmR (all:List Oper) (i x:Nat):Prop:=∃o,all[i]?=some o/\o.dst=some x
def RdR (ms dm:T Nat) (i x:Nat):Prop:=dm.get x=none\/∃j,dm.get x=some j/\(Cl ms i j\/Cl ms j i)
theorem StepOk.sameR {i:Nat} {o:Oper} (h:StepOk E ih all ms dm g fp i o) (ho:all[i]?=some o) (x:Nat) (hx:¬TmR all i x):(g (i+1)).regs.get x=(g i).regs.get x:=by
 obtain ⟨_,_,_,cl,v,_,h,_,_⟩:=h
 rw [h]
 unfold upD
 split
 ·rfl
 rename_i d hd
 rw [T.get_up,if_neg]
 rintro rfl
 exact hx ⟨o,ho,hd⟩
theorem Cl.lt (hp:PrepOk all ms dm) {i j:Nat} (h:Cl ms i j):j < i:=by
 obtain ⟨m,h1,h2⟩:=h
 exact hp.lt i m j h1 h2
theorem nx_mono (hT:Tr E ih all ms dm len g fp recs) (hl:len=all.length):∀(n a b:Nat),a+n=b->b<=len->(g a).nx<=(g b).nx
 |0,a,b,h,_=>by rw [<-h];exact zB _
 |n+1,a,b,h,hb=>by
  obtain ⟨o,_,hs⟩:=hT.at hl (i:=a) (by omega)
  exact zY hs.mono (nx_mono hT hl n (a+1) b (by omega) hb)
theorem nx_le (hT:Tr E ih all ms dm len g fp recs) (hl:len=all.length) {a b:Nat} (h:a<=b) (hb:b<=len):(g a).nx<=(g b).nx:=nx_mono hT hl (b - a) a b (by omega) hb
theorem regT1 (hp:PrepOk all ms dm) {i j x:Nat} (_hij:j < i) (h1:TmR all j x) (h2:TmR all i x):Cl ms i j:=by
 obtain ⟨o,ho,hd⟩:=h1
 obtain ⟨o',ho',hd'⟩:=h2
 have e1:=hp.hd j o x ho hd
 have e2:=hp.hd i o' x ho' hd'
 rw [e1] at e2
 cases e2
 omega
theorem regT2 (hp:PrepOk all ms dm) {i j x:Nat} (hij:j < i) (h1:TmR all j x) (h2:RdR ms dm i x):Cl ms i j:=by
 obtain ⟨o,ho,hd⟩:=h1
 have e1:=hp.hd j o x ho hd
 rcases h2 with h |⟨q,h,h'⟩
 ·rw [h] at e1;cases e1
 rw [h] at e1;cases e1
 rcases h' with h' |h'
 ·exact h'
 have:=Cl.lt hp h';omega
theorem regT3 (hp:PrepOk all ms dm) {i j x:Nat} (hij:j < i) (h1:RdR ms dm j x) (h2:TmR all i x):Cl ms i j:=by
 obtain ⟨o,ho,hd⟩:=h2
 have e1:=hp.hd i o x ho hd
 rcases h1 with h |⟨q,h,h'⟩
 ·rw [h] at e1;cases e1
 rw [h] at e1;cases e1
 rcases h' with h' |h'
 ·have:=Cl.lt hp h';omega
 exact h'
theorem memT (hT:Tr E ih all ms dm len g fp recs) (hl:len=all.length) {i j x:Nat} (hij:j < i) (hi:i < len) :
  (Tm g fp j x->Tm g fp i x->Cl ms i j)/\(Tm g fp j x->Rm ms g fp i x->Cl ms i j)/\(Rm ms g fp j x->Tm g fp i x->Cl ms i j):=by
 by_cases hc:Cl ms i j
 ·exact ⟨fun _ _=>hc,fun _ _=>hc,fun _ _=>hc⟩
 obtain ⟨oi,_,hsi⟩:=hT.at hl hi
 obtain ⟨oj,_,hsj⟩:=hT.at hl (i:=j) (by omega)
 have hn1:(g j).nx<=(g (j+1)).nx:=hsj.mono
 have hn2:(g (j+1)).nx<=(g i).nx:=nx_le hT hl (by omega) (by omega)
 have lowj:=hsj.low
 have tRm:∀k,Triv g fp k->¬Rm ms g fp k x:=by
  intro k hk h
  unfold Rm at h
  rw [hk.1] at h
  simp at h
 rcases hT.pr j i hij hi with h |h |h |h
 ·exact absurd h hc
 ·exact ⟨fun _ h2=>absurd h2 h.not,fun _ h2=>absurd h2 (tRm i h),fun _ h2=>absurd h2 h.not⟩
 ·exact ⟨fun h2=>absurd h2 h.not,fun h2=>absurd h2 h.not,fun h2=>absurd h2 (tRm j h)⟩
 unfold pairOk at h
 cases hfi:fp i with
 |all=>rw [hfi] at h;cases h
 |q=>
  rw [hfi] at h
  cases hfj:fp j with
  |all=>rw [hfj] at h;cases h
  |q=>
   unfold Tm Rm Wm
   rw [hfi,hfj]
   simp only [Nw,false_or]
   refine ⟨fun h1 h2=>by omega,fun h1 h2=>absurd h1 ?_,fun h1 h2=>by omega⟩
   have:=h2.2 j hij hc
   simpa [Nw] using this
  |ls F wr=>
   rw [hfj] at h
   have hw:wr=true->F=[]:=by
    intro e;subst e;exact isNil_ok h
   unfold Tm Rm Wm
   rw [hfi,hfj]
   simp only [Nw,false_or]
   refine ⟨fun h1 h2=>?_,fun h1 h2=>?_,fun h1 h2=>?_⟩
   ·rcases h1 with h1 |h1
    ·have:=lowj F wr hfj x h1.2.1;omega
    omega
   ·rcases h1 with h1 |h1
    ·rw [hw h1.1] at h1;simp at h1
    have:=h2.2 j hij hc
    exact absurd h1 (by simpa [Nw] using this)
   have:=lowj F wr hfj x h1;omega
 |ls F wr=>
  rw [hfi] at h
  cases hfj:fp j with
  |all=>rw [hfj] at h;cases h
  |q=>
   rw [hfj] at h
   have hw:wr=true->F=[]:=by
    intro e;subst e;exact isNil_ok h
   have ho:x∈F->¬((g j).nx<=x/\x < (g (j+1)).nx):=by
    intro hx
    cases wr with
    |true=>rw [hw rfl] at hx;simp at hx
    |false=>exact outs_ok F h x hx
   unfold Tm Rm Wm
   rw [hfi,hfj]
   simp only [Nw,false_or]
   refine ⟨fun h1 h2=>?_,fun h1 h2=>absurd h1 (ho h2),fun h1 h2=>?_⟩
   ·rcases h2 with h2 |h2
    ·exact absurd h1 (ho h2.2.1)
    omega
   rcases h2 with h2 |h2
   ·rw [hw h2.1] at h2;simp at h2
   omega
  |ls F' wr'=>
   rw [hfj] at h
   simp only at h
   split at h
   ·cases h
   rename_i hout
   have ho:=outs_ok F hout x
   have hd:(wr=true\/wr'=true)->x∈F->x∈F'->False:=by
    intro hw h1 h2
    cases wr<;>cases wr'<;>first |(simp at hw;done) |exact disj_ok F F' h x h1 h2
   unfold Tm Rm Wm
   rw [hfi,hfj]
   simp only [Nw]
   refine ⟨fun h1 h2=>?_,fun h1 h2=>?_,fun h1 h2=>?_⟩
   ·rcases h2 with h2 |h2
    ·rcases h1 with h1 |h1
     ·exact (hd (.inl h2.1) h2.2.1 h1.2.1).elim
     exact absurd h1 (ho h2.2.1)
    rcases h1 with h1 |h1
    ·have:=lowj F' wr' hfj x h1.2.1;omega
    omega
   ·rcases h1 with h1 |h1
    ·exact (hd (.inr h1.1) h2 h1.2.1).elim
    exact absurd h1 (ho h2)
   rcases h2 with h2 |h2
   ·exact (hd (.inl h2.1) h2.2.1 h1).elim
   have:=lowj F' wr' hfj x h1;omega
structure DInv (ρ0:Nm) (w0:World) (all:List Oper) (len:Nat) (g:Nat->St) (fp:Nat->Fp) (D:Nat->Prop) (ρ:Nm) (xh:Nat->Option O) (xr:Nat->Option V) (a:Act) (w:World):Prop where
 mem:∀x,∃m,m<=len/\xh x=(g m).h.get x/\(∀t,t < len->Tm g fp t x->(t < m↔D t))/\(m=0\/∃t,m=t+1/\t < len/\Tm g fp t x)/\∀o,xh x=some o->x < (g m).nx/\ObjOk ρ (g m).nx w x o
 reg:∀x,∃m,m<=len/\xr x=(g m).regs.get x/\(∀t,t < len->TmR all t x->(t < m↔D t))/\(m=0\/∃t,m=t+1/\t < len/\TmR all t x)/\∀v,xr x=some v->∃u,a.tmps[x]?=some u/\Rv ρ (g m).nx v u
 sep:∀x o x' o',xh x=some o->xh x'=some o'->x≠x'->∀L L',ρ x=some L->ρ x'=some L'->L.b≠L'.b
 blk:∀x L,ρ x=some L->L.b < w.heap.size
 dom:∀x L,ρ x=some L->x < (g 0).nx\/∃t,t < len/\D t/\Nw g t x
 size:a.tmps.size=(g 0).nt
 df:RvD ρ (g 0).nx (g 0).df a.defers
 ag:agree (g 0).nx ρ0 ρ
 fr:Fr (Own ρ0 (g 0).h.get (g 0).bar) w0 (Own ρ xh (g 0).bar) w
 cb:∀j,j < len->fp j=.all->D j->∀x o,(g (j+1)).h.get x=some o->x < (g (j+1)).nx
variable {ρ0 ρ:Nm} {w0 w:World} {D:Nat->Prop} {xh:Nat->Option O} {xr:Nat->Option V} {a:Act}
theorem DInv.memAt (hT:Tr E ih all ms dm len g fp recs) (hl:len=all.length) (hI:DInv ρ0 w0 all len g fp D ρ xh xr a w) (hD:∀a b,D a->Cl ms a b->D b) {i:Nat} (hi:¬D i) (hil:i < len) (hcl:∀b,Cl ms i b->D b) {x:Nat} (hR:Rm ms g fp i x) :
  xh x=(g i).h.get x/\∃m,m<=i/\∀o,xh x=some o->x < (g m).nx/\ObjOk ρ (g m).nx w x o:=by
 obtain ⟨m,h1,h2,h3,h4,h5⟩:=hI.mem x
 have hA:=claimA (fun j i hj hi=>(memT hT hl hj hi).2.1) (fun j i hj hi=>(memT hT hl hj hi).2.2) hD hi hil hcl hR h3
 have same:∀t,t < len->¬Tm g fp t x->(g (t+1)).h.get x=(g t).h.get x:=fun t ht hn=>by
  obtain ⟨o,_,hs⟩:=hT.at hl ht
  exact hs.same x hn
 have e:=sameRange' (g:=fun k=>(g k).h.get x) same h1 (qB hil) hA
 refine ⟨h2.trans e,m,?_,h5⟩
 rcases h4 with rfl |⟨t,rfl,ht,htx⟩
 ·omega
 have:=(hA t ht htx).1 (zO t);omega
theorem DInv.regAt (hp:PrepOk all ms dm) (hT:Tr E ih all ms dm len g fp recs) (hl:len=all.length) (hI:DInv ρ0 w0 all len g fp D ρ xh xr a w) (hD:∀a b,D a->Cl ms a b->D b) {i:Nat} (hi:¬D i) (hil:i < len) (hcl:∀b,Cl ms i b->D b) {x:Nat} (hR:RdR ms dm i x) {v:V}
  (hv:(g i).regs.get x=some v):∃m u,m<=i/\a.tmps[x]?=some u/\Rv ρ (g m).nx v u:=by
 obtain ⟨m,h1,h2,h3,h4,h5⟩:=hI.reg x
 have hA:=claimA (tch:=TmR all) (fun j i hj _=>regT2 hp hj) (fun j i hj _=>regT3 hp hj) hD hi hil hcl hR h3
 have same:∀t,t < len->¬TmR all t x->(g (t+1)).regs.get x=(g t).regs.get x:=fun t ht hn=>by
  obtain ⟨o,ho,hs⟩:=hT.at hl ht
  exact hs.sameR ho x hn
 have e:=sameRange' (g:=fun k=>(g k).regs.get x) same h1 (qB hil) hA
 obtain ⟨u,h6,h7⟩:=h5 v (by rw [h2,e,hv])
 refine ⟨m,u,?_,h6,h7⟩
 rcases h4 with rfl |⟨t,rfl,ht,htx⟩
 ·omega
 have:=(hA t ht htx).1 (zO t);omega
theorem getD_ok {regs:T V} {i cl t:Nat} (hcl:ms.get i=some cl) {v:V} (h:getD regs ms dm i cl t=some v):regs.get t=some v/\RdR ms dm i t:=by
 unfold getD at h
 split at h
 next hn=>exact ⟨h,.inl hn⟩
 rename_i j hj
 split at h
 next hb=>
  exact ⟨h,.inr ⟨j,hj,.inl ⟨cl,hcl,by rw [<-bit_eq];exact hb⟩⟩⟩
 split at h
 next m hm=>
  split at h
  next hb=>
   exact ⟨h,.inr ⟨j,hj,.inr ⟨m,hm,by rw [<-bit_eq];exact hb⟩⟩⟩
  cases h
 cases h
theorem DInv.regStep (hp:PrepOk all ms dm) (hI:DInv ρ0 w0 all len g fp D ρ xh xr a w) (hD:∀a b,D a->Cl ms a b->D b) {i:Nat} (hi:¬D i) (hil:i < len) (hcl:∀b,Cl ms i b->D b) {o:Oper} (ho:all[i]?=some o)
  {v:V} {u:Value} {ρ':Nm} (hr:∀x L,ρ x=some L->ρ' x=some L) (hv:Rv ρ' (g (i+1)).nx v u) (hg:(g (i+1)).regs=upD (g i).regs o.dst v) (hd:∀d,o.dst=some d->d < (g 0).nt) :
  ∀x,∃m,m<=len/\(if o.dst=some x then some v else xr x)=(g m).regs.get x/\(∀t,t < len->TmR all t x->(t < m↔(D t\/t=i)))/\(m=0\/∃t,m=t+1/\t < len/\TmR all t x)/\
   ∀v',(if o.dst=some x then some v else xr x)=some v'->∃u',(a.put o.dst u).tmps[x]?=some u'/\Rv ρ' (g m).nx v' u':=by
 intro x
 by_cases hx:o.dst=some x
 ·have ht:TmR all i x:=⟨o,ho,hx⟩
  refine ⟨i+1,by omega,?_,claimB (fun j i hj _=>regT1 hp hj) hD hi hil hcl ht,.inr ⟨i,rfl,hil,ht⟩,fun v' hv'=>?_⟩
  ·rw [if_pos hx,hg,hx,upD,T.get_up,if_pos rfl]
  rw [if_pos hx] at hv'
  cases hv'
  refine ⟨u,?_,hv⟩
  rw [hx]
  simp [Act.put,hI.size,hd x hx]
 obtain ⟨m,h1,h2,h3,h4,h5⟩:=hI.reg x
 have hn:¬TmR all i x:=fun ⟨o',ho',hd'⟩=>by rw [ho] at ho';cases ho';exact hx hd'
 refine ⟨m,h1,by rw [if_neg hx];exact h2,fun t ht htx=>?_,h4,fun v' hv'=>?_⟩
 ·rw [h3 t ht htx]
  exact ⟨.inl,fun h=>h.resolve_right (fun e=>by subst e;exact hn htx)⟩
 rw [if_neg hx] at hv'
 obtain ⟨u',h6,h7⟩:=h5 v' hv'
 refine ⟨u',?_,Rv.ext (zB _) (fun i L _ h=>hr i L h) _ _ h7⟩
 cases hdst:o.dst with
 |none=>exact h6
 |some d=>
  simp only [Act.put]
  rw [kW (fun e=>hx (by rw [hdst,e]))]
  exact h6
end
end CX

namespace CX
open Go
section
variable {P:Program} {E:Env} {ih:IH} {all:List Oper} {ms dm:T Nat} {g:Nat->St} {fp:Nat->Fp} {recs:List Rc} {len:Nat}
variable {ρ0 ρ:Nm} {w0 w:World} {D:Nat->Prop} {xh:Nat->Option O} {xr:Nat->Option V} {a:Act}
theorem const_of (hT:Tr E ih all ms dm len g fp recs) (hl:len=all.length):∀i,i<=len->(g i).bar=(g 0).bar/\(g i).nt=(g 0).nt/\(g i).df=(g 0).df
 |0,_=>⟨rfl,rfl,rfl⟩
 |i+1,h=>by
  obtain ⟨o,_,hs⟩:=hT.at hl (i:=i) (by omega)
  obtain ⟨h1,h2,h3⟩:=const_of hT hl i (by omega)
  exact ⟨hs.bar.trans h1,hs.nt.trans h2,hs.df.trans h3⟩
theorem DInv.bound (hT:Tr E ih all ms dm len g fp recs) (hl:len=all.length) (hI:DInv ρ0 w0 all len g fp D ρ xh xr a w) (h0:∀x o,(g 0).h.get x=some o->x < (g 0).nx) :
  ∀i,i<=len->(∀j,j < i->fp j=.all->D j)->∀x o,(g i).h.get x=some o->x < (g i).nx
 |0,_,_,x,o,hx=>h0 x o hx
 |i+1,hi,hj,x,o,hx=>by
  obtain ⟨oo,_,hs⟩:=hT.at hl (i:=i) (by omega)
  by_cases ht:Tm g fp i x
  ·have hmono:=hs.mono
   rcases ht with ht |ht
   ·unfold Wm at ht
    split at ht
    next hf=>
     exact hI.cb i (by omega) hf (hj i (by omega) hf) x o hx
    ·exact ht.elim
    rename_i F wr hf
    have:=hs.low F wr hf x ht.2.1
    omega
   exact ht.2
  rw [hs.same x ht] at hx
  have:=DInv.bound hT hl hI h0 i (by omega) (fun j hji=>hj j (by omega)) x o hx
  have:=hs.mono
  omega
theorem wantB_ok (hp:PrepOk all ms dm) (hT:Tr E ih all ms dm len g fp recs) (hl:len=all.length) (hI:DInv ρ0 w0 all len g fp D ρ xh xr a w) (hD:∀a b,D a->Cl ms a b->D b) {i:Nat} (hi:¬D i) (hil:i < len) (hcl:∀b,Cl ms i b->D b)
  {ops:Array Oper} (hall:all=ops.toList) {o:Oper} {cl:Nat} (hc:ms.get i=some cl) {b:Bool} (h:wantB (g i).regs ms dm i cl all o=some b):Region.wanted o (yielded ops a.tmps)=b:=by
 subst hall
 unfold wantB at h
 split at h
 next hg=>
  simp only [zA] at h
  simp [Region.wanted,hg,h]
 rename_i gd want hg
 split at h
 rotate_left
 ·cases h
 rename_i og hog
 split at h
 rotate_left
 ·cases h
 rename_i d hd
 rw [nth_eq,xG] at hog
 have hd':(ops[gd]?).bind (·.dst)=some d:=by simp [hog,hd]
 split at h
 next x hx=>
  obtain ⟨h1,h2⟩:=getD_ok hc hx
  obtain ⟨m,u,_,h3,h4⟩:=hI.regAt hp hT hl hD hi hil hcl h2 h1
  simp only [Rv] at h4
  subst h4
  have hw:Region.wanted o (yielded ops a.tmps)=(x == want):=by
   simp only [Region.wanted,hg,yielded,hd',qS,h3]
   cases x<;>cases want<;>rfl
  rw [hw]
  split at h
  ·simp only [zA] at h;subst h;rfl
  ·simp only [zA] at h;subst h;rfl
  rename_i h5 h6
  simp only [zA] at h
  subst h
  cases x<;>cases want<;>first |rfl |exact (h5 rfl rfl).elim |exact (h6 rfl rfl).elim
 next hx=>
  obtain ⟨h1,h2⟩:=getD_ok hc hx
  obtain ⟨m,u,_,h3,h4⟩:=hI.regAt hp hT hl hD hi hil hcl h2 h1
  simp only [Rv] at h4
  obtain ⟨y,hy,rfl⟩:=h4
  simp only [zA] at h
  subst h
  simp only [Region.wanted,hg,yielded,hd',qS,h3]
  cases want<;>rfl
 cases h
theorem evD_ok (hp:PrepOk all ms dm) (hT:Tr E ih all ms dm len g fp recs) (hl:len=all.length) (hI:DInv ρ0 w0 all len g fp D ρ xh xr a w) (hD:∀a b,D a->Cl ms a b->D b) {i:Nat} (hi:¬D i) (hil:i < len) (hcl:∀b,Cl ms i b->D b)
  {cl:Nat} (hc:ms.get i=some cl) (x:Operand) (v:V) (h:evD (g i).regs ms dm i cl x=some v):Rv (fun k=>if k < (g i).nx then ρ k else none) (g i).nx v (a.eval x):=by
 cases x with
 |tmp t=>
  obtain ⟨h1,h2⟩:=getD_ok hc h
  obtain ⟨m,u,hm,h3,h4⟩:=hI.regAt hp hT hl hD hi hil hcl h2 h1
  have:a.eval (.tmp t)=u:=by simp [Act.eval,xY,h3]
  rw [this]
  have hle:=nx_le hT hl hm (qB hil)
  refine Rv.ext hle (fun k L hk hL=>?_) v u h4
  rw [if_pos (by omega)];exact hL
 |const c=>exact conv_ok h
 |func f=>
  simp only [evD,zA] at h
  subst h
  simp only [Rv]
  exact ⟨[],[],by simp [RvL],by simp [RvL],rfl⟩
 |«global» g=>cases h
theorem put_tmps {dst:Option Nat} {u:Value} {n:Nat} (h:a.tmps.size=n):(a.put dst u).tmps.size=n/\(a.put dst u).defers=a.defers:=by
 cases dst with
 |none=>exact ⟨h,rfl⟩
 |some d=>exact ⟨by simp [Act.put,h],rfl⟩
theorem DInv.quiet (hp:PrepOk all ms dm) (hI:DInv ρ0 w0 all len g fp D ρ xh xr a w) (hD:∀a b,D a->Cl ms a b->D b) {i:Nat} (hi:¬D i) (hil:i < len) (hcl:∀b,Cl ms i b->D b)
  {o:Oper} (ho:all[i]?=some o) {v:V} {u:Value} (hv:Rv ρ (g (i+1)).nx v u) (hg:(g (i+1)).regs=upD (g i).regs o.dst v) (hd:∀d,o.dst=some d->d < (g 0).nt) (ht:Triv g fp i) :
  DInv ρ0 w0 all len g fp (fun t=>D t\/t=i) ρ xh (fun x=>if o.dst=some x then some v else xr x) (a.put o.dst u) w:=by
 obtain ⟨hs1,hs2⟩:=put_tmps (dst:=o.dst) (u:=u) hI.size
 refine ⟨fun x=>?_,hI.regStep hp hD hi hil hcl ho (fun _ _ h=>h) hv hg hd,hI.sep,hI.blk,fun x L hx=>(hI.dom x L hx).imp id fun ⟨t,h1,h2,h3⟩=>⟨t,h1,.inl h2,h3⟩,hs1,by rw [hs2];exact hI.df,hI.ag,hI.fr,fun j hj hf hdj=>?_⟩
 ·obtain ⟨m,h1,h2,h3,h4,h5⟩:=hI.mem x
  refine ⟨m,h1,h2,fun t htl htx=>?_,h4,h5⟩
  rw [h3 t htl htx]
  exact ⟨.inl,fun h=>h.resolve_right fun e=>by subst e;exact ht.not htx⟩
 rcases hdj with hdj |rfl
 ·exact hI.cb j hj hf hdj
 rw [ht.1] at hf;cases hf
theorem barOf_facts {bar nx:Nat} {f:Fp} (h:bar<=nx):bar<=barOf f bar nx/\barOf f bar nx<=nx:=by
 cases f with
 |all=>exact ⟨zB _,h⟩
 |q=>exact ⟨h,zB _⟩
 |ls F wr=>cases wr with
  |true=>exact ⟨zB _,h⟩
  |false=>exact ⟨h,zB _⟩
open Classical in
theorem DInv.memo (hp:PrepOk all ms dm) (hT:Tr E ih all ms dm len g fp recs) (hl:len=all.length) (hI:DInv ρ0 w0 all len g fp D ρ xh xr a w) (hD:∀a b,D a->Cl ms a b->D b) {i:Nat} (hi:¬D i) (hil:i < len) (hcl:∀b,Cl ms i b->D b)
  {o:Oper} (ho:all[i]?=some o) {v:V} {u:Value} {hv h':T O} {ρ':Nm} {w':World} (hview:∀x ob,hv.get x=some ob->xh x=some ob/\x < (g i).nx/\Rm ms g fp i x) (hm1:∀x,Tm g fp i x->(g (i+1)).h.get x=h'.get x)
  (hbar:(g 0).bar<=(g i).nx) (hmono:(g i).nx<=(g (i+1)).nx) (hg:(g (i+1)).regs=upD (g i).regs o.dst v) (hd:∀d,o.dst=some d->d < (g 0).nt) (hfb:(g i).bar=(g 0).bar)
  (hvu:Rv ρ' (g (i+1)).nx v u) (hS':HSat ρ' h'.get (g (i+1)).nx w') (hag:agree (g i).nx (fun k=>if k < (g i).nx then ρ k else none) ρ')
  (hfr:Fr (Own (fun k=>if k < (g i).nx then ρ k else none) hv.get (barOf (fp i) (g 0).bar (g i).nx)) w (Own ρ' h'.get (barOf (fp i) (g 0).bar (g i).nx)) w') :
  ∃ρ2 xh2 xr2,DInv ρ0 w0 all len g fp (fun t=>D t\/t=i) ρ2 xh2 xr2 (a.put o.dst u) w':=by
 obtain ⟨hb1,hb2⟩:=barOf_facts (f:=fp i) hbar
 have hi1:i+1<=len:=hil
 have h0i:(g 0).nx<=(g i).nx:=nx_le hT hl (xZ _) (qB hil)
 obtain ⟨ρ2,hρ2⟩:∃ρ2:Nm,∀x,ρ2 x=if x < (g i).nx then ρ x else if x < (g (i+1)).nx then ρ' x else ρ x:=⟨_,fun _=>rfl⟩
 have hr:∀x L,ρ x=some L->ρ2 x=some L:=by
  intro x L hx
  rw [hρ2]
  split
  ·exact hx
  split
  ·exfalso
   rcases hI.dom x L hx with h |⟨t,h1,h2,h3,h4⟩
   ·omega
   rcases Nat.lt_trichotomy t i with h |h |h
   ·have:=nx_le hT hl (a:=t+1) (b:=i) (by omega) (by omega);omega
   ·subst h;exact hi h2
   have:=nx_le hT hl (a:=i+1) (b:=t) (by omega) (by omega);omega
  exact hx
 have he:∀x,x < (g (i+1)).nx->ρ2 x=ρ' x:=by
  intro x hx
  rw [hρ2,if_pos hx]
  split
  next h=>
   have:=hag x h
   simp only [if_pos h] at this
   exact this.symm
  rfl
 have wm:∀x,barOf (fp i) (g 0).bar (g i).nx<=x->x < (g i).nx->Rm ms g fp i x->Tm g fp i x:=by
  intro x hx hlt hR
  refine .inl ?_
  unfold Wm
  unfold Rm at hR
  rw [hfb]
  cases hf:fp i with
  |all=>trivial
  |q=>rw [hf] at hx;simp only [barOf] at hx;omega
  |ls F wr=>
   rw [hf] at hx hR
   cases wr with
   |true=>simp only [barOf] at hx;exact ⟨rfl,hR,hx⟩
   |false=>simp only [barOf] at hx;omega
 have tb:∀x,Tm g fp i x->fp i≠.all->barOf (fp i) (g 0).bar (g i).nx<=x:=by
  intro x hx hne
  unfold Tm Wm at hx
  rw [hfb] at hx
  cases hf:fp i with
  |all=>exact absurd hf hne
  |q=>
   rw [hf] at hx
   rcases hx with hx |hx
   ·exact hx.elim
   exact hx.1
  |ls F wr=>
   rw [hf] at hx
   rcases hx with hx |hx
   ·obtain ⟨rfl,_,h3⟩:=hx
    exact h3
   have:=hx.1
   cases wr with
   |true=>simp only [barOf];omega
   |false=>exact this
 have notOwn:∀x ob L,¬Tm g fp i x->xh x=some ob->ρ x=some L->¬Own (fun k=>if k < (g i).nx then ρ k else none) hv.get (barOf (fp i) (g 0).bar (g i).nx) L.b:=by
  rintro x ob L hnt hx hL ⟨id,o',L',h1,h2,h3,h4⟩
  obtain ⟨k1,k2,k3⟩:=hview id o' h2
  simp only [if_pos k2] at h3
  have hT':=wm id h1 k2 k3
  exact hI.sep id o' x ob k1 hx (fun e=>by subst e;exact hnt hT') L' L h3 hL h4
 have keepB:∀x ob L,¬Tm g fp i x->xh x=some ob->ρ x=some L->w'.heap[L.b]?=w.heap[L.b]?:=fun x ob L h1 h2 h3=>hfr.keep _ (hI.blk x L h3) (notOwn x ob L h1 h2 h3)
 have locOf:∀x ob L,xh x=some ob->ρ2 x=some L->ρ x=some L:=by
  intro x ob L hx hL
  obtain ⟨m,_,_,_,_,h5⟩:=hI.mem x
  obtain ⟨L0,hL0⟩:=(h5 ob hx).2.loc
  have:=hr x L0 hL0
  rw [hL] at this
  cases this
  exact hL0
 have newLt:∀x ob,h'.get x=some ob->x < (g (i+1)).nx:=fun x ob hx=>(hS'.objs x ob hx).1
 have ownUp:∀b,Own (fun k=>if k < (g i).nx then ρ k else none) hv.get (barOf (fp i) (g 0).bar (g i).nx) b->Own ρ xh (g 0).bar b:=by
  rintro b ⟨id,o',L',h1,h2,h3,h4⟩
  obtain ⟨k1,k2,k3⟩:=hview id o' h2
  simp only [if_pos k2] at h3
  exact ⟨id,o',L',by omega,k1,h3,h4⟩
 have sepMix:∀x ob x' ob' L L',Tm g fp i x->¬Tm g fp i x'->h'.get x=some ob->xh x'=some ob'->ρ2 x=some L->ρ2 x'=some L'->L.b≠L'.b:=by
  intro x ob x' ob' L L' ht hnt hx hx' hL hL' e
  have hne:fp i≠.all:=fun hf=>hnt (by refine .inl ?_;unfold Wm;rw [hf];trivial)
  rw [he x (newLt x ob hx)] at hL
  have hL2:=locOf x' ob' L' hx' hL'
  rcases hfr.own L.b ⟨x,ob,L,tb x ht hne,hx,hL,rfl⟩ with h |h
  ·rw [e] at h;exact notOwn x' ob' L' hnt hx' hL2 h
  have:=hI.blk x' L' hL2;omega
 obtain ⟨hs1,hs2⟩:=put_tmps (dst:=o.dst) (u:=u) hI.size
 refine ⟨ρ2,fun x=>if Tm g fp i x then h'.get x else xh x,fun x=>if o.dst=some x then some v else xr x,fun x=>?_,hI.regStep hp hD hi hil hcl ho hr ?_ hg hd,fun x ob x' ob' hx hx' hne L L' hL hL'=>?_,fun x L hx=>?_,fun x L hx=>?_,hs1,?_,?_,?_,fun j hj hf hdj=>?_⟩
 ·by_cases ht:Tm g fp i x
  ·refine ⟨i+1,hi1,?_,claimB (fun j i hj hi=>(memT hT hl hj hi).1) hD hi hil hcl ht,.inr ⟨i,rfl,hil,ht⟩,fun ob hob=>?_⟩
   ·rw [if_pos ht,hm1 x ht]
   rw [if_pos ht] at hob
   obtain ⟨k1,k2⟩:=hS'.objs x ob hob
   exact ⟨k1,ObjOk.ext k1 (zB _) (fun k L hk hL=>by rw [he k hk];exact hL) (fun _ _=>rfl) ob k2⟩
  obtain ⟨m,h1,h2,h3,h4,h5⟩:=hI.mem x
  refine ⟨m,h1,by rw [if_neg ht];exact h2,fun t htl htx=>?_,h4,fun ob hob=>?_⟩
  ·rw [h3 t htl htx]
   exact ⟨.inl,fun h=>h.resolve_right fun e=>by subst e;exact ht htx⟩
  rw [if_neg ht] at hob
  obtain ⟨k1,k2⟩:=h5 ob hob
  exact ⟨k1,ObjOk.ext k1 (zB _) (fun k L _ hL=>hr k L hL) (fun L hL=>keepB x ob L ht hob hL) ob k2⟩
 ·exact Rv.ext (zB _) (fun k L hk hL=>by rw [he k hk];exact hL) _ _ hvu
 ·split at hx
  next ht=>
   split at hx'
   ·rw [he x (newLt x ob hx)] at hL
    rw [he x' (newLt x' ob' hx')] at hL'
    exact hS'.sep x ob x' ob' hx hx' hne L L' hL hL'
   rename_i ht'
   exact sepMix x ob x' ob' L L' ht ht' hx hx' hL hL'
  rename_i ht
  split at hx'
  next ht'=>
   exact fun e=>sepMix x' ob' x ob L' L ht' ht hx' hx hL' hL e.symm
  exact hI.sep x ob x' ob' hx hx' hne L L' (locOf x ob L hx hL) (locOf x' ob' L' hx' hL')
 ·have hsz:=hfr.size
  rw [hρ2] at hx
  split at hx
  ·have:=hI.blk x L hx;omega
  split at hx
  ·exact hS'.blk x L hx
  have:=hI.blk x L hx;omega
 ·rw [hρ2] at hx
  split at hx
  ·exact (hI.dom x L hx).imp id fun ⟨t,h1,h2,h3⟩=>⟨t,h1,.inl h2,h3⟩
  rename_i hx1
  split at hx
  next hx2=>
   exact .inr ⟨i,hil,.inr rfl,Nat.le_of_not_lt hx1,hx2⟩
  exact (hI.dom x L hx).imp id fun ⟨t,h1,h2,h3⟩=>⟨t,h1,.inl h2,h3⟩
 ·rw [hs2];exact hI.df.ext (zB _) (fun k L _ hL=>hr k L hL)
 ·intro x hx
  rw [hρ2,if_pos (by omega)]
  exact hI.ag x hx
 ·refine hI.fr.trans ⟨hfr.os,hfr.tape,hfr.output,hfr.size,fun b hb hno=>hfr.keep b hb fun h=>hno (ownUp b h),?_⟩
  rintro b ⟨x,ob,L,hbx,hx,hL,rfl⟩
  simp only at hx
  split at hx
  next ht=>
   rw [he x (newLt x ob hx)] at hL
   have hbv:barOf (fp i) (g 0).bar (g i).nx<=x:=by
    by_cases hf:fp i=.all
    ·rw [hf];exact hbx
    exact tb x ht hf
   exact (hfr.own L.b ⟨x,ob,L,hbv,hx,hL,rfl⟩).imp (ownUp _) id
  exact .inl ⟨x,ob,L,hbx,hx,locOf x ob L hx hL,rfl⟩
 rcases hdj with hdj |rfl
 ·exact hI.cb j hj hf hdj
 intro x ob hx
 rw [hm1 x (by refine .inl ?_;unfold Wm;rw [hf];trivial)] at hx
 exact newLt x ob hx
end
end CX

namespace CX
open Go
theorem bindsA_eq (e:Edge):Region.binds .any e=bindsA e:=by
 unfold Region.binds bindsA
 cases e.ground<;>rfl
def unl:List Bool->Nat
 |[]=>0
 |true :: r=>unl r
 |false :: r=>unl r+1
theorem unl_set:∀(l:List Bool) (i:Nat),l[i]?=some false->unl (l.set i true)+1=unl l
 |[],i,h=>by simp at h
 |b :: r,0,h=>by
  simp only [zL,zA] at h
  subst h
  simp [unl]
 |b :: r,i+1,h=>by
  have:=unl_set r i (by simpa using h)
  cases b<;>simp only [List.set_cons_succ,unl]<;>omega
theorem unl_zero:∀(l:List Bool),unl l=0->∀i:Nat,l[i]?≠some false
 |[],_,i,h=>by simp at h
 |true :: r,h,0,h'=>by simp at h'
 |true :: r,h,i+1,h'=>unl_zero r (by simpa [unl] using h) i (by simpa using h')
 |false :: r,h,i,h'=>by simp [unl] at h
theorem unl_rep:∀n,unl (List.replicate n false)=n
 |0=>rfl
 |n+1=>by simp [List.replicate_succ,unl,unl_rep n]
theorem getD_false_iff {l:Array Bool} {i:Nat}:l.getD i true=false↔l.toList[i]?=some false:=by
 rw [xY,<-xG]
 cases h:l.toList[i]? with
 |none=>simp
 |some b=>simp
theorem getD_true_iff {l:Array Bool} {i:Nat}:Array.getD l i false=true↔l[i]?=some true:=by
 rw [xY]
 cases h:l[i]? with
 |none=>simp
 |some b=>simp
section
variable {P:Program} {E:Env} {ih:IH} {ms dm:T Nat} {g:Nat->St} {fp:Nat->Fp} {recs:List Rc} {len:Nat} {ops:Array Oper}
variable {ρ0 ρ:Nm} {w0 w:World} {D:Nat->Prop} {xh:Nat->Option O} {xr:Nat->Option V} {a:Act}
theorem DInv.last (hRo0:RoOk E ρ0 (g 0).h.get (g 0).bar w0) (hT:Tr E ih ops.toList ms dm len g fp recs) (hl:len=ops.toList.length) (hI:DInv ρ0 w0 ops.toList len g fp D ρ xh xr a w) (hall:∀t,t < len->D t):Lands E ρ0 (g 0) w0 (g len) a w ρ:=by
 obtain ⟨hb,hn,hdf⟩:=const_of hT hl len (zB _)
 have hle:∀{m},m<=len->(g m).nx<=(g len).nx:=fun h=>nx_le hT hl h (zB _)
 have hmem:xh=(g len).h.get:=by
  funext x
  obtain ⟨m,h1,h2,h3,_⟩:=hI.mem x
  rw [h2]
  refine sameRange' (tch:=Tm g fp) (x:=x) (g:=fun k=>(g k).h.get x) (fun t ht hn=>?_) h1 (zB _) (fun t ht htx=>?_)
  ·obtain ⟨o,_,hs⟩:=hT.at hl ht
   exact hs.same x hn
  rw [h3 t ht htx];exact ⟨fun _=>ht,fun _=>hall t ht⟩
 have hreg:xr=(g len).regs.get:=by
  funext x
  obtain ⟨m,h1,h2,h3,_⟩:=hI.reg x
  rw [h2]
  refine sameRange' (tch:=TmR ops.toList) (x:=x) (g:=fun k=>(g k).regs.get x) (fun t ht hn=>?_) h1 (zB _) (fun t ht htx=>?_)
  ·obtain ⟨o,ho,hs⟩:=hT.at hl ht
   exact hs.sameR ho x hn
  rw [h3 t ht htx];exact ⟨fun _=>ht,fun _=>hall t ht⟩
 subst hmem hreg
 refine ⟨⟨⟨fun x o hx=>?_,hI.sep,fun x hx=>?_,hI.blk⟩,by rw [hn];exact hI.size,fun t v hv=>?_,?_,?_⟩,hI.ag,hle (xZ _),hn,hb,by rw [hb];exact hI.fr⟩
 ·obtain ⟨m,h1,_,_,_,h5⟩:=hI.mem x
  obtain ⟨h6,h7⟩:=h5 o hx
  have:=hle h1
  exact ⟨by omega,ObjOk.ext h6 this (fun _ _ _ h=>h) (fun _ _=>rfl) o h7⟩
 ·cases h:ρ x with
  |none=>rfl
  |some L=>
   exfalso
   rcases hI.dom x L h with h |⟨t,h1,_,_,h4⟩
   ·have:=hle (xZ len);omega
   have:=hle (m:=t+1) (by omega);omega
 ·obtain ⟨m,h1,_,_,_,h5⟩:=hI.reg t
  obtain ⟨u,h6,h7⟩:=h5 v hv
  exact ⟨u,h6,Rv.ext (hle h1) (fun _ _ _ h=>h) _ _ h7⟩
 ·rw [hdf]
  exact hI.df.ext (hle (xZ _)) (fun _ _ _ h=>h)
 rw [hb];exact hRo0.fr hI.fr
variable (hE:EnvOk E P) (hI':IhOk E P ih)
include hE hI'
theorem DInv.step (hRo0:RoOk E ρ0 (g 0).h.get (g 0).bar w0) (hp:PrepOk ops.toList ms dm) (hT:Tr E ih ops.toList ms dm len g fp recs) (hl:len=ops.toList.length) (h0:∀x o,(g 0).h.get x=some o->x < (g 0).nx) (hI:DInv ρ0 w0 ops.toList len g fp D ρ xh xr a w) (hD:∀a b,D a->Cl ms a b->D b)
  {i:Nat} (hi:¬D i) (hil:i < len) (hcl:∀b,Cl ms i b->D b) {ro:Option Nat} {K:Act->World->Prop} {Q:Exit->Act->World->Prop}
  (hK:∀ρ' xh' xr' a' w',DInv ρ0 w0 ops.toList len g fp (fun t=>D t\/t=i) ρ' xh' xr' a' w'->K a' w'):wpOpIn (Fw ro) 0 P ops Q i K a w:=by
 obtain ⟨o,ho,hs⟩:=hT.at hl hil
 have ho':ops[i]?=some o:=by simpa using ho
 obtain ⟨hfb,hfn,_⟩:=const_of hT hl i (qB hil)
 obtain ⟨_,_,_,cl,v,hc,hg,hd,hex⟩:=hs
 rw [hfn] at hd
 unfold wpOpIn
 rw [ho']
 simp only
 rcases hex with ⟨hw,rfl,_,ht⟩ |⟨hw,hcls,⟨r0,hr0,hv0⟩,_,ht⟩ |⟨hw,⟨hv,h',r0,hr0,hv0,hview,hm1,_⟩,hbar,hmono,hlow⟩
 ·rw [wantB_ok hp hT hl hI hD hi hil hcl rfl hc hw,if_neg (by simp)]
  exact ⟨fun _ _=>trivial,hK _ _ _ _ _ (hI.quiet hp hD hi hil hcl ho (u:=undef) (by simp only [Rv];exact ⟨[],by simp [RvL],rfl⟩) hg hd ht)⟩
 ·rw [wantB_ok hp hT hl hI hD hi hil hcl rfl hc hw,if_pos rfl]
  have hnd:∀c,o.op≠.defer c:=fun c h=>by rw [h] at hcls;simp [clsOf] at hcls
  obtain ⟨v',u,h1,h2,h3⟩:=opP_ok hE (ρe:=a.eval) (fun x _ v hv=>evD_ok hp hT hl hI hD hi hil hcl hc x v hv) hr0
  have:=hv0 _ h1
  subst this
  refine ⟨fun _ _=>trivial,?_⟩
  show o.uponIn (Fw ro) 0 P a K Q ((o.semAt ro a.eval).run P w)
  rw [qV _ _ _ hnd,h3 w,Oper.uponIn_value]
  refine hK _ _ _ _ _ (hI.quiet hp hD hi hil hcl ho (v:=v') ?_ hg hd ht)
  rw [ht.2]
  refine Rv.ext (zB _) (fun k L hk hL=>?_) _ _ h2
  rw [if_pos hk] at hL;exact hL
 rw [wantB_ok hp hT hl hI hD hi hil hcl rfl hc hw,if_pos rfl]
 have hvw:∀x ob,hv.get x=some ob->xh x=some ob/\x < (g i).nx/\Rm ms g fp i x/\∃m,m<=i/\x < (g m).nx/\ObjOk ρ (g m).nx w x ob:=by
  intro x ob hx
  obtain ⟨h1,h2⟩:=hview x ob hx
  have hR:Rm ms g fp i x:=by
   refine h2 fun hq=>?_
   refine hI.bound hT hl h0 i (qB hil) (fun j hj hf=>?_) x ob h1
   rcases hT.pr j i hj hil with h |h |h |h
   ·exact hcl j h
   ·rw [h.1] at hq;cases hq
   ·rw [h.1] at hf;cases hf
   unfold pairOk at h;rw [hq,hf] at h;cases h
  obtain ⟨h3,m,h4,h5⟩:=hI.memAt hT hl hD hi hil hcl hR
  rw [h1] at h3
  obtain ⟨h6,h7⟩:=h5 ob h3
  have:=nx_le hT hl h4 (qB hil)
  exact ⟨h3,by omega,hR,m,h4,h6,h7⟩
 have hS:HSat (fun k=>if k < (g i).nx then ρ k else none) hv.get (g i).nx w:=by
  refine ⟨fun x ob hx=>?_,fun x ob x' ob' hx hx' hne L L' hL hL'=>?_,fun x hx=>if_neg (by omega),fun x L hL=>?_⟩
  ·obtain ⟨_,h1,_,m,h2,h3,h4⟩:=hvw x ob hx
   have hle:=nx_le hT hl h2 (qB hil)
   exact ⟨h1,ObjOk.ext h3 hle (fun k L hk hL=>by rw [if_pos (by omega)];exact hL) (fun _ _=>rfl) ob h4⟩
  ·rw [if_pos (hvw x ob hx).2.1] at hL
   rw [if_pos (hvw x' ob' hx').2.1] at hL'
   exact hI.sep x ob x' ob' (hvw x ob hx).1 (hvw x' ob' hx').1 hne L L' hL hL'
  split at hL
  ·exact hI.blk x L hL
  cases hL
 have hRo:RoOk E (fun k=>if k < (g i).nx then ρ k else none) hv.get (barOf (fp i) (g i).bar (g i).nx) w:=by
  have hr1:=hRo0.fr hI.fr
  refine ⟨hr1.at_,fun a v ha id o L b1 b2 b3=>?_⟩
  have hid:=(hvw id o b2).2.1
  simp only [if_pos hid] at b3
  refine hr1.sep a v ha id o L ?_ (hvw id o b2).1 b3
  have:=(barOf_facts (f:=fp i) hbar).1
  rw [hfb] at this b1
  exact zY this b1
 obtain ⟨v',g',n',h1,h2⟩:=opA_ok hI' hE hRo hS (a:=a) (fun x _ v hv=>evD_ok hp hT hl hI hD hi hil hcl hc x v hv) hr0
 obtain ⟨rfl,rfl,rfl⟩:=hv0 _ _ _ h1
 refine h2 ro _ _ fun u ρ' w' e1 e2 e3 _ e5=>?_
 rw [hfb] at e5 hbar
 obtain ⟨ρ2,xh2,xr2,hI2⟩:=hI.memo hp hT hl hD hi hil hcl ho (u:=u) (fun x ob hx=>⟨(hvw x ob hx).1,(hvw x ob hx).2.1,(hvw x ob hx).2.2.1⟩) hm1 hbar hmono hg hd hfb e1 e2 e3 e5
 exact hK _ _ _ _ _ hI2
theorem DInv.walk (hRo0:RoOk E ρ0 (g 0).h.get (g 0).bar w0) (hp:PrepOk ops.toList ms dm) (hT:Tr E ih ops.toList ms dm len g fp recs) (hl:len=ops.toList.length) (h0:∀x o,(g 0).h.get x=some o->x < (g 0).nx) {ro:Option Nat} {Q:Exit->Act->World->Prop}
  (hQ:∀ρ a w,Lands E ρ0 (g 0) w0 (g len) a w ρ->Q .normal a w):∀(fuel:Nat) (listed:Array Bool) (ρ:Nm) (xh:Nat->Option O) (xr:Nat->Option V) (a:Act) (w:World),listed.size=ops.size->unl listed.toList=fuel->
  DInv ρ0 w0 ops.toList len g fp (fun t=>listed[t]?=some true) ρ xh xr a w->(∀a b,listed[a]?=some true->Cl ms a b->listed[b]?=some true)->wpAnyIn (Fw ro) 0 P .any ops Q fuel listed a w:=by
 have hlen:len=ops.size:=by simpa using hl
 have empty:∀listed:Array Bool,listed.size=ops.size->Region.ready .any ops listed=[]->∀t,t < len->listed[t]?=some true:=by
  intro listed hsz hr t
  induction t using Nat.strongRecOn with
  |_ t ihh=>
   intro ht
   have hlt:t < listed.size:=by omega
   cases hc:listed.getD t true with
   |true=>
    rw [xY] at hc
    simp only [hlt,Array.getElem?_eq_getElem,kE] at hc
    simp [hlt,hc]
   |false=>
    exfalso
    have hm:t∈Region.ready .any ops listed:=by
     rw [mem_ready]
     obtain ⟨o,ho⟩:∃o,ops[t]?=some o:=⟨ops[t]'(by omega),by simp [show t < ops.size by omega]⟩
     refine ⟨hc,o,ho,fun e he hbe=>?_⟩
     obtain ⟨m,_,_,hb⟩:=hp.hm t o (by simpa using ho)
     have hlt:=hb e (by simpa using he) (by rw [<-bindsA_eq];exact hbe)
     exact getD_true_iff.2 (ihh e.on hlt (by omega))
    rw [hr] at hm
    cases hm
 intro fuel
 induction fuel with
 |zero=>
  intro listed ρ xh xr a w hsz hu hI _
  have hr:Region.ready .any ops listed=[]:=by
   cases h:Region.ready .any ops listed with
   |nil=>rfl
   |cons x xs=>
    exfalso
    have hm:x∈Region.ready .any ops listed:=by rw [h];simp
    rw [mem_ready] at hm
    exact unl_zero _ hu x (getD_false_iff.1 hm.1)
  exact ⟨hr,hQ _ _ _ (hI.last hRo0 hT hl (empty listed hsz hr))⟩
 |succ fuel ihf=>
  intro listed ρ xh xr a w hsz hu hI hD
  refine ⟨fun hr=>hQ _ _ _ (hI.last hRo0 hT hl (empty listed hsz hr)),fun i hi=>?_⟩
  rw [mem_ready] at hi
  obtain ⟨hif,o,ho,hpre⟩:=hi
  have hil:i < len:=by rw [hlen];exact (xV.1 ho).1
  have hfl:listed.toList[i]?=some false:=getD_false_iff.1 hif
  have hni:¬(listed[i]?=some true):=fun h=>by rw [<-xG,hfl] at h;cases h
  have hcl:∀b,Cl ms i b->listed[b]?=some true:=by
   rintro b ⟨m,hm,hb⟩
   obtain ⟨m',h1,h2,_⟩:=hp.hm i o (by simpa using ho)
   rw [hm] at h1;cases h1
   obtain ⟨e,he,hbe,h⟩:=h2 b hb
   have hon:=getD_true_iff.1 (hpre e (by simpa using he) (by rw [bindsA_eq];exact hbe))
   rcases h with rfl |⟨me,hme,hb'⟩
   ·exact hon
   exact hD e.on b hon ⟨me,hme,hb'⟩
  have hset:∀t,(listed.setIfInBounds i true)[t]?=some true↔(listed[t]?=some true\/t=i):=by
   intro t
   rw [Array.getElem?_setIfInBounds]
   by_cases h:i=t
   ·subst h
    rw [if_pos rfl,if_pos (by omega)]
    simp
   rw [if_neg h]
   exact ⟨.inl,fun hh=>hh.resolve_right fun e=>h e.symm⟩
  refine hI.step hE hI' hRo0 hp hT hl h0 hD hni hil hcl fun ρ' xh' xr' a' w' hI2=>?_
  refine ihf _ ρ' xh' xr' a' w' (by simpa using hsz) ?_ ?_ ?_
  ·have:=unl_set _ _ hfl
   rw [Array.toList_setIfInBounds]
   omega
  ·have e:(fun t=>(listed.setIfInBounds i true)[t]?=some true)=(fun t=>listed[t]?=some true\/t=i):=funext fun t=>propext (hset t)
   rw [e];exact hI2
  intro x y hx hy
  rw [hset] at hx ⊢
  rcases hx with hx |rfl
  ·exact .inl (hD x y hx hy)
  exact .inl (hcl y hy)
theorem draw_ok {ρ:Nm} {S:St} {a:Act} {w:World} (hS:Sat E ρ S a w) {id:Nat} {r:Ex×St}
  (h:(match prep ops.toList 0 .e .e (fun ms dm=>some (ms,dm)) with
   |some (ms,dm)=>match drawGo E ih ops.toList ms dm ops.toList 0 [] S with
    |some S=>some (Ex.normal,S)
    |none=>none
   |none=>none)=some r) {ro:Option Nat}:∃S',r=(.normal,S')/\(Code.region id ops true).wpIn (Fw ro) 0 P (CPost E ρ S w .normal S') a w:=by
 split at h
 rotate_left
 ·cases h
 rename_i ms0 dm0 hprep
 obtain ⟨ms,dm,heq,hp⟩:=prep_ok ops.toList [] .e .e (k:=fun ms dm=>some (ms,dm)) (r:=(ms0,dm0)) (by simpa using hprep) ⟨by simp,fun i m j h=>by simp [T.get] at h,by simp,fun i m h=>by simp [T.get] at h⟩
 simp only [zA,zJ] at heq
 obtain ⟨rfl,rfl⟩:=heq
 simp only [qA] at hp
 split at h
 rotate_left
 ·cases h
 rename_i S1 hd
 simp only [zA] at h
 subst h
 refine ⟨S1,rfl,wpIn_region_any hE.mixed ?_⟩
 obtain ⟨g,fp,recs,hT,hg0,hge⟩:=drawGo_ok (E:=E) (ih:=ih) (all:=ops.toList) (ms:=ms) (dm:=dm) ops.toList 0 [] (fun _=>S) (fun _=>.all) (fun j=>by simp) hd
  ⟨fun j o hj=>by omega,fun r hr=>by simp at hr,fun j hj=>by omega,fun a b _ hb=>by omega⟩
 have e0:g 0=S:=hg0 0 (zB _)
 rw [zU] at hT hge
 have hS1:Sat E ρ S a { w with drawn:=w.drawn+1 }:=⟨hS.hs.world rfl,hS.size,hS.regs,hS.df,⟨hS.ro.at_,hS.ro.sep⟩⟩
 refine DInv.walk hE hI' (ρ0:=ρ) (w0:=w) (by rw [e0];exact hS.ro) hp hT rfl (by rw [e0];exact fun x o hx=>(hS.hs.objs x o hx).1) (fun ρ' a' w' hL=>?_) ops.size _ ρ S.h.get S.regs.get a _ (by simp) (by simp [unl_rep]) ?_ ?_
 ·rw [hge,e0] at hL
  exact ⟨rfl,ρ',hL⟩
 ·have nn:∀t:Nat,¬((Array.replicate ops.size false)[t]?=some true):=by
   intro t h
   rw [Array.getElem?_replicate] at h
   split at h<;>cases h
  refine ⟨fun x=>⟨0,xZ _,by rw [e0],fun t _ _=>⟨fun h=>by omega,fun h=>absurd h (nn t)⟩,.inl rfl,fun o ho=>by rw [e0];exact hS1.hs.objs x o ho⟩,
   fun x=>⟨0,xZ _,by rw [e0],fun t _ _=>⟨fun h=>by omega,fun h=>absurd h (nn t)⟩,.inl rfl,fun v hv=>by rw [e0];exact hS1.regs x v hv⟩,
   hS1.hs.sep,hS1.hs.blk,fun x L hx=>.inl ?_,by rw [e0];exact hS1.size,by rw [e0];exact hS1.df,by rw [e0];exact agree.refl _ _,by rw [e0];exact ⟨rfl,rfl,⟨rfl,zZ _⟩,zB _,fun _ _ _=>rfl,fun _ h=>.inl h⟩,fun j hj _ hdj=>absurd hdj (nn j)⟩
  rw [e0]
  rcases Nat.lt_or_ge x S.nx with h |h
  ·exact h
  rw [hS1.hs.dom x h] at hx;cases hx
 intro x y hx _
 rw [Array.getElem?_replicate] at hx
 split at hx<;>cases hx
end
end CX




namespace CX
open Go
theorem roundsIn_mono {F:Fence} {n:Nat} {P:Program} {c:Code} {Q Q':Exit->Act->World->Prop} (hq:∀e a w,Q e a w->Q' e a w):∀(m:Nat) (a:Act) (w:World),Code.roundsIn F n P c Q m a w->Code.roundsIn F n P c Q' m a w
 |0,_,_,h=>h
 |m+1,a,w,h=>by
  rw [roundsIn_succ] at h ⊢
  refine qP h fun e a w he=>?_
  cases e<;>first |exact roundsIn_mono hq m a w he |exact hq _ _ _ he
def IhLoop (E:Env) (P:Program) (ih:IH) (m:Nat):Prop:=∀rd c S e S',ih rd (.loop c) S=some (e,S')->∀ρ a w,Sat E ρ S a w->RdOk ρ S.nx rd->Code.roundsIn (Fw (rdB ρ rd)) 0 P c (CPost E ρ S w e S') m a w
theorem CPost.after {E:Env} {ρ ρ1:Nm} {S S1:St} {a1:Act} {w w1:World} (h:Lands E ρ S w S1 a1 w1 ρ1) {e:Ex} {S':St} {x:Exit} {a':Act} {w':World} (hp:CPost E ρ1 S1 w1 e S' x a' w'):CPost E ρ S w e S' x a' w':=by
 obtain ⟨h1,ρ2,h2⟩:=hp
 exact ⟨h1,ρ2,h.trans h2⟩
theorem run_enterLoop_inner {P:Program} {w:World} (fn:FuncId) (tmps:Array Value) (ps:Array Tmp) (assign body:Code) {l:Nat} {r:Loop} (h:w.heap[l]?=some (.loop r)) :
  (Instr.enterLoop fn tmps ps assign body (some l)).run P w=.ok (w.heap.size,[]) (w.alloc (.loop { state:=.ready,pending:=none,fn,tmps,params:=ps,assign,body,defers:=r.defers })):=by
 unfold Instr.enterLoop
 simp only [zN,run_getLoop h,run_newObj_alloc,Result.andThen,xF]
section
variable {P:Program} {E:Env} (hE:EnvOk E P) {ih:IH} (hI:IhOk E P ih)
include hE hI
theorem range_ok {ρ ρ1 : Nm} {S : St} {a : Act} {w w1 : World} {nx1 : Nat} {g1 : T O} {lid : Nat} {L : Loc} {mark : List Deferred} {df' : List Nat} {rd : Option Nat} {fnn : FuncId}
    (hro:RoOk E ρ S.h.get S.bar w) (hsize:a.tmps.size=S.nt) (hreg:RegsOk ρ S.nx S.regs a.tmps) (hS1:HSat ρ1 g1.get nx1 w1) (hag:agree S.nx ρ ρ1) (hle:S.nx<=nx1) (hlid:lid < nx1) (hL:ρ1 lid=some L) (hfr:Fr (Own ρ S.h.get S.bar) w (Own ρ1 g1.get S.bar) w1)
    (hdf:RvD ρ1 nx1 df' (mark++a.defers)) {gop:Operand} {ps:Array Tmp} {assign body:Code} {f:Nat} {ga gb:List V} (hgo:evR S.regs gop=some (.fn (.func f) ga gb)) {r:Ex×St}
    (h : callF E ih S.bar g1 nx1 f (ga ++ [.fn (.yield lid) [] []] ++ gb) (fun _ h nx => match h.get lid with
          |some (.loop .busy ..)=>none
          |some (.loop _ j ..)=>setLoop S.bar h lid .exhausted j fun h=>exitOf j ⟨S.nt,S.bar,S.regs,h,nx,df'⟩
          |_=>none)=some r) (henter:(Instr.enterLoop fnn a.tmps ps assign body (rdB ρ rd)).run P w=.ok (L.b,mark) w1) :
    ∃(l:Nat) (mark:List Deferred) (w₁:World) (d:Deferred) (w₁':World) (f:FuncId) (args:Array Value) (w₂:World),
      (Instr.enterLoop fnn a.tmps ps assign body (Fw (rdB ρ rd)).round).run P w=.ok (l,mark) w₁/\
      (resolve a.eval (rangeCall gop l) 0).run P w₁=.ok d w₁'/\
      (∀f',Target.leads P w₁' d.target d.args=some f'->(Fw (rdB ρ rd)).fn f')/\
      (invoke d.target d.args).run P w₁'=.ok (.enter f args) w₂/\
      ((Fw (rdB ρ rd)).depth.isSome=true->1<=0)/\
      CallsIn (Fw (rdB ρ rd)) (0 - 1) P f args w₂ (rangePost (Fw (rdB ρ rd)) 0 P l (CPost E ρ S w r.1 r.2) { a with defers:=mark++a.defers }):=by
  have hgv:=evR_ok hreg gop _ hgo
  simp only [Rv] at hgv
  obtain ⟨xa,xb,g1',g2',g3'⟩:=hgv
  have ext:∀{l x},RvL ρ S.nx l x->RvL ρ1 nx1 l x:=fun h=>RvL.ag hle hag h
  obtain ⟨v,g',n',fn,hk,e2,e3,e4⟩:=callF_ok hE hI (hro.fr hfr) hS1 (RvL.append (RvL.append (ext g1') (x':=[Value.func (.yield L.b) #[] #[]]) (by simp only [RvL,Rv];exact ⟨⟨hlid,L,[],[],hL,trivial,trivial,rfl⟩,trivial⟩)) (ext g2')) h
  obtain ⟨hfn,hname⟩:=hE.fn _ _ e2
  have hname':¬fn.name = "runtime.NumGoroutine":=hname
  have hev:∀x,a.eval (.const x)=x:=fun _=>rfl
  refine ⟨L.b,mark,w1,{ target:=.fn (.func f) xb.toArray,args:=xa.toArray++#[Value.func (.yield L.b) #[] #[]] },w1,f,(xa++[Value.func (.yield L.b) #[] #[]]++xb).toArray,w1,henter,?_,fun _ _=>trivial,?_,by simp [Fw,Fence.wide],?_⟩
  · simp [resolve,Deferred.ofValue,g3',hev]
  · simp [invoke,callFunc,hfn,hname',Option.isNone_iff_eq_none,Option.isSome_iff_ne_none.1 e3]
  · refine CallsIn.mono (e4 _) fun e w3 he=>?_
    obtain ⟨u,ρ3,rfl,d1,d2,d3,d4,d5⟩:=he
    have fin : ∀ {st : LoopState} {j : Option Code} {nt : Nat} {regs : T V} {ps' : List Nat} {a' b' : Code} {dfi : Nat}, g'.get lid = some (.loop st j nt regs ps' a' b' dfi) -> st ≠ .busy ->
        (setLoop S.bar g' lid .exhausted j fun h=>exitOf j ⟨S.nt,S.bar,S.regs,h,n',df'⟩)=some r->
        rangePost (Fw (rdB ρ rd)) 0 P L.b (CPost E ρ S w r.1 r.2) { a with defers:=mark++a.defers } (.returned u) w3:=by
      intro st j nt regs ps' a' b' dfi hg hst hk
      obtain ⟨st0,j0,nt0,regs0,ps0,a0,b0,df0,hg0,hbar,hk⟩:=setLoop_ok hk
      rw [hg] at hg0
      cases hg0
      obtain ⟨L',D',fn',tm',k1,k2,k3,k4,k5,k6,k7,k8⟩:=loopObj d2 hg
      have hLe:L'=L:=by rw [d3 lid hlid] at k2;rw [hL] at k2;exact (qX k2).symm
      subst hLe
      obtain ⟨hS4,hF4⟩:=putLoop_ok (bar:=S.bar) d2 hg hbar k2 k3 k4 k5 k6 (fn:=fn') .exhausted j
      refine ⟨j,_,run_endLoop k7 hst,?_⟩
      have hLand:Lands E ρ S w ⟨S.nt,S.bar,S.regs,g'.up lid (some (.loop .exhausted j nt regs ps' a' b' dfi)),n',df'⟩ { a with defers:=mark++a.defers } _ ρ3:=
        ⟨⟨hS4,hsize,hreg.ext (zY hle d4) (fun i L hi hl=>by rw [d3 i (by omega),hag i hi];exact hl),hdf.ext d4 (fun i L hi hl=>by rw [d3 i hi];exact hl),hro.fr ((hfr.trans d5).trans hF4)⟩,hag.trans (d3.mono hle),zY hle d4,rfl,rfl,(hfr.trans d5).trans hF4⟩
      unfold exitOf at hk
      split at hk
      · simp only [zA] at hk
        subst hk
        exact ⟨rfl,ρ3,hLand⟩
      · simp only [zA] at hk
        subst hk
        exact wpIn_ret ⟨rfl,ρ3,hLand⟩
      · simp only [zA] at hk
        subst hk
        exact wpIn_exit ⟨rfl,ρ3,hLand⟩
      · cases hk
    split at hk
    · cases hk
    · rename_i hnb hg
      exact fin hg (fun e=>hnb e) hk
    · cases hk
theorem rangeX_ok {rd:Option Nat} {gop:Operand} {ps:Array Tmp} {assign body:Code} {S:St} {r:Ex×St} (h:rangeX E ih rd gop ps assign body S=some r) {ρ:Nm} {a:Act} {w:World} (hS:Sat E ρ S a w) (hrd:RdOk ρ S.nx rd) :
  (Code.rangeFunc gop ps assign body).wpIn (Fw (rdB ρ rd)) 0 P (CPost E ρ S w r.1 r.2) a w:=by
 unfold rangeX at h
 split at h
 rotate_left
 ·cases h
 rename_i f ga gb hgo
 split at h
 next l=>
  split at h
  next q1 q2 q3 q4 q5 q6 q7 df hg=>
   rw [CX.new,T.set_eq] at h
   obtain ⟨L0,D,fn0,tm0,k1,k2,k3,k4,k5,k6,k7,k8⟩:=loopObj hS.hs hg
   have hrb:rdB ρ (some l)=some L0.b:=by simp [rdB,k2]
   refine wpIn_rangeFunc fun fnn _=>?_
   obtain ⟨hS1,hF1⟩:=hS.hs.new (bar:=S.bar) (g':=(S.h.up S.nx (some (.loop .ready none S.nt S.regs ps.toList assign body df))).get) (w':=w.alloc (.loop { state:=.ready,pending:=none,fn:=fnn,tmps:=a.tmps,params:=ps,assign:=assign,body:=body,defers:=D.b })) (bs:=0) rfl ⟨rfl,rfl,rfl,zB _⟩
    (o:=.loop .ready none S.nt S.regs ps.toList assign body df) (by
     simp only [ObjOk]
     refine ⟨⟨w.heap.size,0,0⟩,fnn,a.tmps,D,put_same _ _ _,by omega,?_,hS.size,hS.regs.ext (zZ _) (fun i L hi hl=>?_),?_⟩
     ·rw [Nm.put,if_neg (Nat.ne_of_lt k3)];exact k4
     ·rw [Nm.put,if_neg (Nat.ne_of_lt hi)];exact hl
     simpa using alloc_get w _) (fun id=>T.get_up _ _ _ _)
   have hag:=agree_put ρ S.nx ⟨w.heap.size,0,0⟩
   exact range_ok hE hI (mark:=[]) hS.ro hS.size hS.regs hS1 hag (zZ _) (zO _) (put_same _ _ _) hF1 (hS.df.ext (zZ _) (fun i L hi hl=>by rw [hag i hi];exact hl)) hgo h (by rw [hrb];exact run_enterLoop_inner _ _ _ _ _ k7)
  cases h
 rw [CX.new,T.set_eq,CX.new,T.set_eq] at h
 refine wpIn_rangeFunc fun fnn _=>?_
 obtain ⟨hS1,hF1⟩:=hS.hs.new (bar:=S.bar) (g':=(S.h.up S.nx (some (.dfr true))).get) (w':=w.alloc (.deferred (some []))) (bs:=0) rfl ⟨rfl,rfl,rfl,zB _⟩ (o:=.dfr true) (by
   simp only [ObjOk]
   exact ⟨⟨w.heap.size,0,0⟩,put_same _ _ _,by simpa using alloc_get w _⟩) (fun id=>T.get_up _ _ _ _)
 have hag:=agree_put ρ S.nx ⟨w.heap.size,0,0⟩
 obtain ⟨hS2,hF2⟩:=hS1.new (bar:=S.bar) (g':=((S.h.up S.nx (some (.dfr true))).up (S.nx+1) (some (.loop .ready none S.nt S.regs ps.toList assign body S.nx))).get)
  (w':=(w.alloc (.deferred (some []))).alloc (.loop { state:=.ready,pending:=none,fn:=fnn,tmps:=a.tmps,params:=ps,assign:=assign,body:=body,defers:=w.heap.size })) (bs:=0) rfl ⟨rfl,rfl,rfl,zB _⟩
   (o:=.loop .ready none S.nt S.regs ps.toList assign body S.nx) (by
    simp only [ObjOk]
    refine ⟨⟨(w.alloc (.deferred (some []))).heap.size,0,0⟩,fnn,a.tmps,⟨w.heap.size,0,0⟩,put_same _ _ _,by omega,?_,hS.size,hS.regs.ext (by omega) (fun i L hi hl=>?_),?_⟩
    ·rw [Nm.put,if_neg (by omega)];exact put_same _ _ _
    ·rw [Nm.put,if_neg (by omega),Nm.put,if_neg (by omega)];exact hl
    simpa using alloc_get (w.alloc (.deferred (some []))) _) (fun id=>T.get_up _ _ _ _)
 have hag2:=agree_put (ρ.put S.nx ⟨w.heap.size,0,0⟩) (S.nx+1) ⟨(w.alloc (.deferred (some []))).heap.size,0,0⟩
 have hagA:=hag.trans (hag2.mono (zZ _))
 refine range_ok hE hI (mark:=[{ target:=.collected w.heap.size,args:=#[] }]) hS.ro hS.size hS.regs hS2 hagA (by omega) (zO _) (put_same _ _ _) (hF1.trans hF2) ?_ hgo h ?_
 ·simp only [List.singleton_append,RvD]
  refine ⟨by omega,⟨⟨w.heap.size,0,0⟩,?_,rfl⟩,hS.df.ext (by omega) (fun i L hi hl=>by rw [hagA i hi];exact hl)⟩
  rw [Nm.put,if_neg (by omega)];exact put_same _ _ _
 have:=run_enterLoop_outer (P:=P) (w:=w) fnn a.tmps ps assign body
 simpa [rdB] using this
omit hE in
theorem cxLoop_ok {m:Nat} (hLp:IhLoop E P ih m):IhLoop E P (cxBody E ih) (m+1):=by
 intro rd c S e S' h ρ a w hS hrd
 rw [roundsIn_succ]
 simp only [cxBody] at h
 split at h
 next S1 h1=>
  refine qP (hI rd c _ _ _ h1 ρ a w hS hrd) ?_
  rintro x a1 w1 ⟨rfl,ρ1,hL⟩
  have:=hLp rd c _ _ _ h ρ1 a1 w1 hL.sat (hrd.ag hL.ag hL.le)
  rw [rdB_ag hrd hL.ag] at this
  exact roundsIn_mono (fun x a2 w2 hp=>hp.after hL) m a1 w1 this
 rename_i hne
 refine qP (hI rd c _ _ _ h ρ a w hS hrd) ?_
 rintro x a1 w1 ⟨rfl,hp⟩
 cases e with
 |normal=>exact (hne _ h).elim
 |ret=>exact ⟨rfl,hp⟩
 |exit id=>exact ⟨rfl,hp⟩
theorem cxBody_ok {m:Nat} (hLp:IhLoop E P ih m):IhOk E P (cxBody E ih):=by
 intro rd c S e S' h ρ a w hS hrd
 cases c with
 |skip=>simp only [cxBody,zA,zJ] at h;obtain ⟨rfl,rfl⟩:=h;exact wpIn_skip ⟨rfl,ρ,hS.lands⟩
 |label l=>simp only [cxBody,zA,zJ] at h;obtain ⟨rfl,rfl⟩:=h;exact wpIn_label ⟨rfl,ρ,hS.lands⟩
 |ret=>simp only [cxBody,zA,zJ] at h;obtain ⟨rfl,rfl⟩:=h;exact wpIn_ret ⟨rfl,ρ,hS.lands⟩
 |exit id=>simp only [cxBody,zA,zJ] at h;obtain ⟨rfl,rfl⟩:=h;exact wpIn_exit ⟨rfl,ρ,hS.lands⟩
 |seq c1 c2=>
  simp only [cxBody] at h
  split at h
  next S1 h1=>
   refine wpIn_seq (qP (hI rd c1 _ _ _ h1 ρ a w hS hrd) ?_)
   rintro x a1 w1 ⟨rfl,ρ1,hL⟩
   have:=hI rd c2 _ _ _ h ρ1 a1 w1 hL.sat (hrd.ag hL.ag hL.le)
   rw [rdB_ag hrd hL.ag] at this
   exact qP this fun x a2 w2 hp=>hp.after hL
  next r1 hne h1=>
   simp only [zA] at h
   subst h
   refine wpIn_seq (qP (hI rd c1 _ _ _ h1 ρ a w hS hrd) ?_)
   rintro x a1 w1 ⟨rfl,hp⟩
   cases e with
   |normal=>exact (hne _ rfl).elim
   |ret=>exact ⟨rfl,hp⟩
   |exit id=>exact ⟨rfl,hp⟩
  cases h
 |block id c1=>
  simp only [cxBody] at h
  split at h
  next i S1 h1=>
   refine wpIn_block (qP (hI rd c1 _ _ _ h1 ρ a w hS hrd) ?_)
   rintro x a1 w1 ⟨rfl,hp⟩
   simp only [exO,Exit.inBlock]
   split at h
   next hb=>
    simp only [zA,zJ] at h
    obtain ⟨rfl,rfl⟩:=h
    rw [if_pos (zS hb)]
    exact ⟨rfl,hp⟩
   rename_i hb
   simp only [zA,zJ] at h
   obtain ⟨rfl,rfl⟩:=h
   rw [if_neg (fun e=>by subst e;simp at hb)]
   exact ⟨rfl,hp⟩
  rename_i hne
  refine wpIn_block (qP (hI rd c1 _ _ _ h ρ a w hS hrd) ?_)
  rintro x a1 w1 ⟨rfl,hp⟩
  cases e with
  |normal=>exact ⟨rfl,hp⟩
  |ret=>exact ⟨rfl,hp⟩
  |exit id=>exact (hne _ _ h).elim
 |cond x c1 c2=>
  simp only [cxBody] at h
  split at h
  next hx=>
   have hv:=evR_ok hS.regs x _ hx
   simp only [Rv] at hv
   exact wpIn_cond_true hv (hI rd c1 _ _ _ h ρ a w hS hrd)
  next hx=>
   have hv:=evR_ok hS.regs x _ hx
   simp only [Rv] at hv
   exact wpIn_cond_false hv (hI rd c2 _ _ _ h ρ a w hS hrd)
  cases h
 |loop c1=>
  exact wpIn_loop_rounds (m+1) (cxLoop_ok hI hLp rd c1 S e S' h ρ a w hS hrd)
 |region id ops draw=>
  cases draw with
  |true=>
   obtain ⟨S1,h1,h2⟩:=draw_ok (id:=id) (ro:=rdB ρ rd) hE hI hS h
   simp only [zJ] at h1
   obtain ⟨rfl,rfl⟩:=h1
   exact h2
  |false=>
   simp only [cxBody] at h
   refine wpIn_region ?_
   rw [List.range_eq_range']
   have:=seqOps_ok hE hI (ro:=rdB ρ rd) ops (ρ0:=ρ) (S0:=S) (w0:=w) ops.toList 0 S (fun j=>by simp) h hS.lands (Q:=CPost E ρ S w e S') (fun S1 ρ1 a1 w1 h1 hL=>by
    simp only [zA,zJ] at h1
    obtain ⟨rfl,rfl⟩:=h1
    exact ⟨rfl,ρ1,hL⟩)
   simpa using this
 |rangeFunc gop ps assign body=>
  have:=rangeX_ok hE hI (rd:=rd) (r:=(e,S')) h hS hrd
  exact this
 |_=>cases h
omit hI in
theorem cx_ok:∀n,IhOk E P (cx E n)/\IhLoop E P (cx E n) n
 |0=>⟨fun rd c S e S' h=>absurd (show (none:R)=some (e,S') from h) (by simp),fun rd c S e S' h=>absurd (show (none:R)=some (e,S') from h) (by simp)⟩
 |n+1=>⟨cxBody_ok hE (cx_ok n).1 (cx_ok n).2,cxLoop_ok (cx_ok n).1 (cx_ok n).2⟩
def Kept (w w':World):Prop:=w'.os=w.os/\w'.tape=w.tape/\Io w w'/\w.heap.size<=w'.heap.size/\∀b,b < w.heap.size->w'.heap[b]?=w.heap[b]?
omit hI in
theorem cx_call {f:FuncId} {n:Nat} {v:V} {args:List V} {xs:List Value} (hro:∀a,E.ro a=none) (ha:RvL (fun _=>none) 0 args xs) (h:callF E (cx E n) 0 .e 0 f args (fun v _ _=>retV v .e 0)=some (.normal,⟨0,0,.n .e (some v) .e,.e,0,[]⟩)) (w:World) :
  Calls P f xs.toArray w fun e w'=>∃u ρ n,e=.returned u/\Rv ρ n v u/\Kept w w':=by
 obtain ⟨v',g',n',fn,h1,_,_,h2⟩:=callF_ok hE (cx_ok hE n).1 (ρ:=fun _=>none) (n:=0) (bar:=0) (g:=.e) (w:=w) (xs:=xs) ⟨fun a v h=>by (rw [hro] at h;cases h),fun a v h=>by (rw [hro] at h;cases h)⟩ ⟨fun id o h=>by simp [T.get] at h,fun id o id' o' h=>by simp [T.get] at h,fun _ _=>rfl,fun _ _ h=>by cases h⟩ ha h
 have e:v'=v:=by
  simp only [retV,zA,zJ,St.mk.injEq,T.n.injEq,true_and,and_true] at h1
  exact h1
 subst e
 refine (callsIn_wide.1 (h2 none)).mono fun e w' he=>?_
 obtain ⟨u,ρ',rfl,d1,_,_,_,d5⟩:=he
 refine ⟨u,ρ',n',rfl,d1,d5.os,d5.tape,d5.output,d5.size,fun b hb=>d5.keep b hb ?_⟩
 rintro ⟨id,o,L,_,h,_⟩
 simp [T.get] at h
end
end CX
