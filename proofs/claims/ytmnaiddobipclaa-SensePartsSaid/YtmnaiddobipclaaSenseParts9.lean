/-
  Texts of the executors: V29, PkR, PkU, PkT, PkV, PkX, PkY, PkW, SpD, V31, SpE, V33, SpF, V9, PkZ, HxMapL.
-/
import Derived.Test.YtmnaiddobipclaaSenseParts8
set_option linter.all false
namespace HX
open Go Go.Proofs CX
end HX

namespace HX
open Go Go.Proofs CX
def tkN (d:Rows):Nat→Int→Nat→Int
 |0,v,_=>v
 |n+1,v,p=>tkN d n (2 * v+bAt d p) (p+1)
structure TI (d:Rows) (N:Nat) (p:Nat) (v t at_:Int):Prop where
 t0:0≤t
 t1:t≤N
 pl:at_=p+t
 v0:0≤v
 v1:v < 2 ^ t.toNat
 to:tkN d (N - t.toNat) v at_.toNat=tkN d N 0 p
theorem TI.start (d:Rows) (N p:Nat):TI d N p 0 0 p:=⟨by omega,by omega,by omega,by omega,by decide,rfl⟩
theorem TI.step {d:Rows} {N p:Nat} {v t at_:Int} (h:TI d N p v t at_) (ht:t < N):TI d N p (2 * v+bAt d at_.toNat) (t+1) (at_+1):=by
 obtain ⟨h1,h2,h3,h4,h5,h6⟩:=h
 have hb:=bAt_rng d at_.toNat
 refine ⟨by omega,by omega,by omega,by omega,?_,?_⟩
 ·rw [show (t+1).toNat=t.toNat+1 by omega,Int.pow_succ];omega
 ·rw [←h6,show N - t.toNat=(N - (t+1).toNat)+1 by omega,tkN,show (at_+1).toNat=at_.toNat+1 by omega]
theorem TI.stop {d:Rows} {N p:Nat} {v t at_:Int} (h:TI d N p v t at_) (ht:¬t < N):v=tkN d N 0 p∧at_=p+N:=by
 obtain ⟨h1,h2,h3,h4,h5,h6⟩:=h
 rw [show N - t.toNat=0 by omega] at h6
 exact ⟨h6,by omega⟩
theorem TI.bd {d:Rows} {N p:Nat} {v t at_:Int} (h:TI d N p v t at_) (hN:N≤31):v≤2147483647:=by
 have h5:=h.v1
 have:(2:Nat) ^ t.toNat≤2 ^ 31:=Nat.pow_le_pow_right (by omega) (by have:=h.t1;omega)
 have e:(2:Int) ^ t.toNat=((2 ^ t.toNat:Nat):Int):=by rw [Int.natCast_pow];rfl
 omega
theorem bit_eq {d:Rows} (hb:byL d) {p:Int} (h0:0≤p) (h1:p < 8 * d.length) :
  (0≤Int.tdiv p 8∧Int.tdiv p 8 < d.length)∧(0≤7 - Int.tmod p 8∧7 - Int.tmod p 8≤7)∧
  Ar.std.bit .and .u8 (Ar.std.shr .u8 (gt d (Int.tdiv p 8).toNat 0).int (7 - Int.tmod p 8)) 1=bAt d p.toNat:=by
 rw [Int.tdiv_eq_ediv_of_nonneg h0,Int.tmod_eq_emod_of_nonneg h0]
 have hx:=hb (p.toNat / 8) (by omega)
 refine ⟨by omega,by omega,?_⟩
 rw [show (p / 8).toNat=p.toNat / 8 by omega]
 show _=(gt d (p.toNat / 8) 0).int / 2 ^ (7 - p.toNat % 8) % 2
 generalize (gt d (p.toNat / 8) 0).int=x at hx
 have e:(7 - p % 8:Int)=((7 - p.toNat % 8:Nat):Int):=by omega
 rw [e,shr_u8 (by omega)]
 have h2:0≤x / 2 ^ (7 - p.toNat % 8)∧x / 2 ^ (7 - p.toNat % 8)≤x:=
  ⟨Int.ediv_nonneg hx.1 (Int.le_of_lt (Int.pow_pos (by omega))),Int.ediv_le_self _ hx.1⟩
 rw [and1_u8 h2.1 (by omega)]
end HX

namespace HX
open Go Go.Proofs CX
theorem folE_0 {l:Rows} {t i:Int} (h:folE l t i=0):(0≤t∧t≤1073741824)∧(0≤i∧i≤65535)∧(0 < l.length→eT l (l.length - 1) < t∨(eT l (l.length - 1)=t∧eI l (l.length - 1) < i)):=by
 unfold folE at h
 split at h
 ·omega
 ·rename_i h1
  have h1:inB t 0 1073741824=true∧inB i 0 65535=true:=Classical.not_not.1 h1
  have a:=of_decide_eq_true h1.1
  have b:=of_decide_eq_true h1.2
  split at h
  ·omega
  ·rename_i h2
   refine ⟨a,b,fun hl=>?_⟩
   have h3:¬0≤cmpE (eT l (l.length - 1)) (eI l (l.length - 1)) t i:=fun h=>h2 ⟨hl,h⟩
   simp only [cmpE,cmpI] at h3
   split at h3<;>(split at h3<;>(try split at h3))<;>(try omega)
   all_goals (repeat' (split at h3))<;>omega
theorem folE_of {l:Rows} {t i:Int} (h1:0≤t∧t≤1073741824) (h2:0≤i∧i≤65535) (h3:0 < l.length→eT l (l.length - 1) < t∨(eT l (l.length - 1)=t∧eI l (l.length - 1) < i)):folE l t i=0:=by
 have a:inB t 0 1073741824=true:=decide_eq_true h1
 have b:inB i 0 65535=true:=decide_eq_true h2
 rw [folE,if_neg fun h=>h ⟨a,b⟩,if_neg]
 intro ⟨hl,h⟩
 have h3:=h3 hl
 simp only [cmpE,cmpI] at h
 repeat' (split at h)
 all_goals omega
theorem ev_nil:EvOk' []:=⟨fun i h=>by simp at h,fun i h=>by simp at h,fun i h=>by simp at h⟩
theorem gt_eq (l:Rows) (i c:Nat):gt l i c=((l[i]?).getD []).getD c .nil:=by
 show (l.getD i []).getD c .nil=_
 rw [List.getD_eq_getElem?_getD (l:=l)]
theorem gtA {l:Rows} {x:List D} {i c:Nat} (h:i < l.length):gt (l++[x]) i c=gt l i c:=by
 rw [gt_eq,gt_eq,List.getElem?_append_left h]
theorem gtN {l:Rows} {x:List D} {c:Nat}:gt (l++[x]) l.length c=x.getD c .nil:=by
 rw [gt_eq,List.getElem?_append_right (Nat.le_refl _),Nat.sub_self]
 rfl
theorem gt_take {l:Rows} {n i c:Nat} (h:i < n):gt (l.take n) i c=gt l i c:=by
 rw [gt_eq,gt_eq,List.getElem?_take,if_pos h]
theorem EvOk'.push {l:Rows} (h:EvOk' l) {t i:Int} (e:folE l t i=0):EvOk' (l++[[.i t,.i i]]):=by
 obtain ⟨e1,e2,e3⟩:=folE_0 e
 have oldT:∀j,j < l.length→eT (l++[[D.i t,D.i i]]) j=eT l j:=fun j hj=>by unfold eT;rw [gtA hj]
 have oldI:∀j,j < l.length→eI (l++[[D.i t,D.i i]]) j=eI l j:=fun j hj=>by unfold eI;rw [gtA hj]
 have newT:eT (l++[[D.i t,D.i i]]) l.length=t:=by unfold eT;rw [gtN];rfl
 have newI:eI (l++[[D.i t,D.i i]]) l.length=i:=by unfold eI;rw [gtN];rfl
 have len:(l++[[D.i t,D.i i]]).length=l.length+1:=by simp
 refine ⟨fun j hj=>?_,fun j hj=>?_,fun j hj=>?_⟩<;>rw [len] at hj
 ·by_cases e:j=l.length
  ·rw [e,newT];exact e1
  ·rw [oldT j (by omega)];exact h.rt j (by omega)
 ·by_cases e:j=l.length
  ·rw [e,newI];exact e2
  ·rw [oldI j (by omega)];exact h.ri j (by omega)
 ·by_cases e:j+1=l.length
  ·rw [e,newT,newI,oldT j (by omega),oldI j (by omega),show j=l.length - 1 by omega]
   exact e3 (by omega)
  ·rw [oldT j (by omega),oldI j (by omega),oldT (j+1) (by omega),oldI (j+1) (by omega)]
   exact h.up j (by omega)
end HX

namespace HX
open Go Go.Proofs CX
end HX

namespace HX
open Go Go.Proofs CX
structure Sb (s s':Rows×Int):Prop where
 le:bitsN s≤bitsN s'
 bit:∀p:Nat,(p:Int) < bitsN s→bAt s'.1 p=bAt s.1 p
 hd:40≤bitsN s→∀i,i < 5→gt s'.1 i 0=gt s.1 i 0
theorem Sb.refl (s:Rows×Int):Sb s s:=⟨Int.le_refl _,fun _ _=>rfl,fun _ _ _=>rfl⟩
theorem Sb.trans {a b c:Rows×Int} (h:Sb a b) (g:Sb b c):Sb a c:=
 ⟨Int.le_trans h.le g.le,fun p hp=>by rw [g.bit p (Int.lt_of_lt_of_le hp h.le),h.bit p hp],fun hb i hi=>by rw [g.hd (Int.le_trans hb h.le) i hi,h.hd hb i hi]⟩
structure Rd (d:Rows) (s:Rows×Int):Prop where
 len:bitsN s≤40+8 * d.length
 bit:∀p:Nat,40≤p→(p:Int) < bitsN s→bAt d (p - 40)=bAt s.1 p
theorem Rd.less {d:Rows} {s s':Rows×Int} (h:Rd d s') (g:Sb s s'):Rd d s:=
 ⟨Int.le_trans g.le h.len,fun p h1 h2=>by rw [h.bit p h1 (Int.lt_of_lt_of_le h2 g.le),g.bit p h2]⟩
end HX

namespace HX
open Go Go.Proofs CX
def Can (l:Rows):Prop:=∀i,(h:i < l.length)→l[i]=[.i (eT l i),.i (eI l i)]
end HX

namespace HX
open Go Go.Proofs CX
theorem chk_of:∀{l:Rows},chkE l=0→l.length≤65536:=by
 intro l h
 rw [chkE] at h
 split at h<;>omega
section
variable {l:Rows} (h:EvOk' l) (hc:Can l) (hl:l.length≤255)
include h hc hl
end
end HX

namespace HX
open Go Go.Proofs CX
theorem chkG_all {l:Rows}:∀f,f≤l.length→chkG l f=0→∀j,l.length - f≤j→j < l.length→folE (l.take j) (eT l j) (eI l j)=0
 |0,_,_,j,h1,h2=>by omega
 |f+1,hf,h,j,h1,h2=>by
  rw [chkG] at h
  split at h
  ·rename_i h3
   by_cases e:j=l.length - (f+1)
   ·rw [e];exact h3
   ·exact chkG_all f (by omega) h j (by omega) h2
  ·rename_i h3;exact absurd h h3
theorem chk_ev {l:Rows} (h:chkE l=0):l.length≤65536∧EvOk' l:=by
 have hl:=chk_of h
 rw [chkE,if_neg (by omega)] at h
 have all:=fun j hj=>folE_0 (chkG_all l.length (Nat.le_refl _) h j (by omega) hj)
 refine ⟨hl,fun i hi=>(all i hi).1,fun i hi=>(all i hi).2.1,fun i hi=>?_⟩
 have:=(all (i+1) hi).2.2
 have lt:(l.take (i+1)).length=i+1:=by rw [List.length_take];omega
 rw [lt,Nat.add_sub_cancel] at this
 have:=this (by omega)
 unfold eT eI at this ⊢
 rw [gt_take (by omega),gt_take (by omega)] at this
 exact this
end HX

namespace HX
open Go Go.Proofs CX
def ddt (S:List (Int×Int)):Nat→List (Int×Int)
 |0=>[]
 |m+1=>if 0 < m∧S.getD m (0,0)=S.getD (m - 1) (0,0) then ddt S m else ddt S m++[S.getD m (0,0)]
theorem ddt_eq {S:List (Int×Int)} {m:Nat} (h0:0 < m) (h:S.getD m (0,0)=S.getD (m - 1) (0,0)):ddt S (m+1)=ddt S m:=by rw [ddt,if_pos ⟨h0,h⟩]
theorem ddt_ne {S:List (Int×Int)} {m:Nat} (h:¬S.getD m (0,0)=S.getD (m - 1) (0,0)):ddt S (m+1)=ddt S m++[S.getD m (0,0)]:=by rw [ddt,if_neg fun h2=>h h2.2]
theorem ddt_len (S:List (Int×Int)):∀m,(ddt S m).length≤m
 |0=>Nat.le_refl _
 |m+1=>by
  rw [ddt]
  have:=ddt_len S m
  split
  ·omega
  ·simp only [List.length_append,List.length_cons,List.length_nil];omega
theorem un_len (S:List (Int×Int)):(unprs S).length=S.length:=by simp [unprs]
theorem prs_len (l:Rows):(prs l).length=l.length:=by simp [prs]
theorem un_app (S T:List (Int×Int)):unprs (S++T)=unprs S++unprs T:=by simp [unprs]
theorem prs_app (l m:Rows):prs (l++m)=prs l++prs m:=by simp [prs]
theorem prs_un (S:List (Int×Int)):prs (unprs S)=S:=by
 simp only [prs,unprs,List.map_map]
 conv=>rhs;rw [←List.map_id S]
 rfl
theorem un_take (S:List (Int×Int)) (m:Nat):unprs (S.take m)=(unprs S).take m:=by simp [unprs,List.map_take]
theorem un_get {S:List (Int×Int)} {i:Nat} (h:i < S.length):(unprs S)[i]?=some [.i (S.getD i (0,0)).1,.i (S.getD i (0,0)).2]:=by
 simp only [unprs,List.getElem?_map,List.getD_eq_getElem?_getD,List.getElem?_eq_getElem h,Option.map_some,Option.getD_some]
theorem gt_of {l:Rows} {i:Nat} {x y:D} (h:l[i]?=some [x,y]):gt l i 0=x∧gt l i 1=y:=by
 simp only [gt,List.getD_eq_getElem?_getD,h,Option.getD_some]
 exact ⟨rfl,rfl⟩
theorem un_gt {S:List (Int×Int)} {i:Nat} (h:i < S.length):gt (unprs S) i 0=.i (S.getD i (0,0)).1∧gt (unprs S) i 1=.i (S.getD i (0,0)).2:=gt_of (un_get h)
theorem pair_eq {a b:Int×Int}:a=b↔a.1=b.1∧a.2=b.2:=Prod.ext_iff
def Plt (x y:Int×Int):Prop:=x.1 < y.1∨(x.1=y.1∧x.2 < y.2)
theorem ltP_iff {x y:Int×Int}:ltP x y=true↔Plt x y:=by unfold ltP;exact decide_eq_true_iff
theorem Plt.trans {x y z:Int×Int} (h:Plt x y) (k:Plt y z):Plt x z:=by unfold Plt at *;omega
theorem Plt.irr {x:Int×Int} (h:Plt x x):False:=by unfold Plt at h;omega
theorem Plt.tot {x y:Int×Int} (h:¬Plt y x) (k:¬x=y):Plt x y:=by
 rw [pair_eq] at k
 unfold Plt at *
 omega
theorem psort_perm (l:List (Int×Int)):(psort l).Perm l:=List.mergeSort_perm _ _
theorem psort_sorted (l:List (Int×Int)):(psort l).Pairwise fun x y=>¬Plt y x:=by
 have h:=List.pairwise_mergeSort (le:=fun x y:Int×Int=>!ltP y x) (fun a b c h1 h2=>by
  simp only [Bool.not_eq_true',Bool.eq_false_iff,ne_eq,ltP_iff] at *
  unfold Plt at *
  omega) (fun a b=>by
  rw [Bool.or_eq_true]
  simp only [Bool.not_eq_true',Bool.eq_false_iff,ne_eq,ltP_iff]
  unfold Plt
  omega) l
 refine h.imp fun h=>?_
 simpa only [Bool.not_eq_true',Bool.eq_false_iff,ne_eq,ltP_iff] using h
theorem getD_mem {S:List (Int×Int)} {i:Nat} (h:i < S.length):S.getD i (0,0)∈S:=by
 rw [List.getD_eq_getElem?_getD,List.getElem?_eq_getElem h]
 exact List.getElem_mem h
theorem take_snoc {S:List (Int×Int)} {m:Nat} (h:m < S.length):S.take (m+1)=S.take m++[S.getD m (0,0)]:=by
 rw [List.take_succ,List.getD_eq_getElem?_getD,List.getElem?_eq_getElem h]
 rfl
theorem ddt_ok {S:List (Int×Int)} (hS:S.Pairwise fun x y=>¬Plt y x):∀m,m≤S.length→(ddt S m).Pairwise Plt∧(∀x,x∈ddt S m↔x∈S.take m)∧∀x,x∈ddt S m→0 < m→x=S.getD (m - 1) (0,0)∨Plt x (S.getD (m - 1) (0,0))
 |0,_=>⟨.nil,fun x=>by simp [ddt],fun _ _ h=>by omega⟩
 |m+1,hm=>by
  obtain ⟨h1,h2,h3⟩:=ddt_ok hS m (by omega)
  have le:0 < m→¬Plt (S.getD m (0,0)) (S.getD (m - 1) (0,0)):=fun h0=>by
   have:=List.pairwise_iff_getElem.1 hS (m - 1) m (by omega) (by omega) (by omega)
   rw [List.getD_eq_getElem?_getD,List.getElem?_eq_getElem (by omega),List.getD_eq_getElem?_getD,List.getElem?_eq_getElem (by omega)]
   exact this
  by_cases hc:0 < m∧S.getD m (0,0)=S.getD (m - 1) (0,0)
  ·rw [ddt_eq hc.1 hc.2,take_snoc (by omega)]
   refine ⟨h1,fun x=>?_,fun x hx _=>?_⟩
   ·rw [List.mem_append,h2 x,hc.2]
    refine ⟨.inl,fun h=>?_⟩
    rcases h with h |h
    ·exact h
    ·rw [List.mem_singleton] at h
     rw [h]
     have e:=take_snoc (S:=S) (m:=m - 1) (by omega)
     rw [show m - 1+1=m by omega] at e
     rw [e]
     exact List.mem_append_right _ (.head _)
   ·rw [show m+1 - 1=m by omega,hc.2]
    exact h3 x hx hc.1
  ·have hne:0 < m→Plt (S.getD (m - 1) (0,0)) (S.getD m (0,0)):=fun h0=>Plt.tot (le h0) fun e=>hc ⟨h0,e.symm⟩
   have e:ddt S (m+1)=ddt S m++[S.getD m (0,0)]:=by rw [ddt,if_neg hc]
   have all:∀x,x∈ddt S m→Plt x (S.getD m (0,0)):=fun x hx=>by
    by_cases h0:0 < m
    ·rcases h3 x hx h0 with h |h
     ·rw [h];exact hne h0
     ·exact h.trans (hne h0)
    ·have:m=0:=by omega
     subst this
     simp [ddt] at hx
   rw [e,take_snoc (by omega)]
   refine ⟨List.pairwise_append.2 ⟨h1,List.pairwise_singleton _ _,fun x hx y hy=>?_⟩,fun x=>?_,fun x hx _=>?_⟩
   ·rw [List.mem_singleton] at hy
    rw [hy];exact all x hx
   ·rw [List.mem_append,List.mem_append,h2 x]
   ·rw [show m+1 - 1=m by omega]
    rcases List.mem_append.1 hx with h |h
    ·exact .inr (all x h)
    ·exact .inl (List.mem_singleton.1 h)
theorem srt_uniq:∀l m:List (Int×Int),l.Pairwise Plt→m.Pairwise Plt→(∀x,x∈l↔x∈m)→l=m
 |[],[],_,_,_=>rfl
 |[],y :: m,_,_,h=>by have:=(h y).2 (.head _);cases this
 |x :: l,[],_,_,h=>by have:=(h x).1 (.head _);cases this
 |x :: l,y :: m,hl,hm,h=>by
  rw [List.pairwise_cons] at hl hm
  have e:x=y:=by
   rcases List.mem_cons.1 ((h x).1 (.head _)) with e |h1
   ·exact e
   ·rcases List.mem_cons.1 ((h y).2 (.head _)) with e |h2
    ·exact e.symm
    ·exact absurd ((hl.1 y h2).trans (hm.1 x h1)) Plt.irr
  subst e
  refine congrArg (x :: ·) (srt_uniq l m hl.2 hm.2 fun z=>?_)
  constructor
  ·intro hz
   rcases List.mem_cons.1 ((h z).1 (.tail _ hz)) with e |h1
   ·subst e;exact absurd (hl.1 z hz) Plt.irr
   ·exact h1
  ·intro hz
   rcases List.mem_cons.1 ((h z).2 (.tail _ hz)) with e |h1
   ·subst e;exact absurd (hm.1 z hz) Plt.irr
   ·exact h1
def mg (p q:List (Int×Int)):List (Int×Int):=ddt (psort (p++q)) (psort (p++q)).length
theorem mg_ok (p q:List (Int×Int)):(mg p q).Pairwise Plt∧∀x,x∈mg p q↔x∈p∨x∈q:=by
 obtain ⟨h1,h2,_⟩:=ddt_ok (psort_sorted (p++q)) _ (Nat.le_refl _)
 refine ⟨h1,fun x=>?_⟩
 rw [mg,h2 x,List.take_length,(psort_perm (p++q)).mem_iff,List.mem_append]
theorem mg_len (p q:List (Int×Int)):(mg p q).length≤p.length+q.length:=by
 refine Nat.le_trans (ddt_len _ _) ?_
 rw [(psort_perm (p++q)).length_eq,List.length_append]
 exact Nat.le_refl _
theorem mg_comm (p q:List (Int×Int)):mg p q=mg q p:=
 srt_uniq _ _ (mg_ok p q).1 (mg_ok q p).1 fun x=>by rw [(mg_ok p q).2,(mg_ok q p).2];exact or_comm
structure Ok2 (s:List (Int×Int)):Prop where
 up:s.Pairwise Plt
 rg:∀x∈s,(0≤x.1∧x.1≤1073741824)∧0≤x.2∧x.2≤65535
theorem eT_un {s:List (Int×Int)} {i:Nat} (h:i < s.length):eT (unprs s) i=(s.getD i (0,0)).1∧eI (unprs s) i=(s.getD i (0,0)).2:=by
 unfold eT eI
 rw [(un_gt h).1,(un_gt h).2]
 exact ⟨rfl,rfl⟩
theorem Ok2.lt {s:List (Int×Int)} (h:s.Pairwise Plt) {i j:Nat} (hij:i < j) (hj:j < s.length):Plt (s.getD i (0,0)) (s.getD j (0,0)):=by
 have:=List.pairwise_iff_getElem.1 h i j (by omega) hj hij
 rw [List.getD_eq_getElem?_getD,List.getElem?_eq_getElem (by omega),List.getD_eq_getElem?_getD,List.getElem?_eq_getElem hj]
 exact this
theorem Ok2.ev {s:List (Int×Int)} (h:Ok2 s):EvOk' (unprs s):=by
 refine ⟨fun i hi=>?_,fun i hi=>?_,fun i hi=>?_⟩<;>rw [un_len] at hi
 ·rw [(eT_un hi).1];exact (h.rg _ (getD_mem hi)).1
 ·rw [(eT_un hi).2];exact (h.rg _ (getD_mem hi)).2
 ·rw [(eT_un (show i < s.length by omega)).1,(eT_un (show i < s.length by omega)).2,(eT_un hi).1,(eT_un hi).2]
  exact Ok2.lt h.up (Nat.lt_succ_self i) hi
theorem prs_get {l:Rows} {i:Nat} (h:i < l.length):(prs l)[i]?=some (eT l i,eI l i):=by
 simp only [prs,List.getElem?_map,List.getElem?_eq_getElem h,Option.map_some,eT,eI,gt,List.getD_eq_getElem?_getD (l:=l),Option.getD_some]
theorem ev_lt {l:Rows} (h:EvOk' l) {i:Nat}:∀j,i < j→j < l.length→Plt (eT l i,eI l i) (eT l j,eI l j)
 |0,hi,_=>by omega
 |j+1,hi,hj=>by
  have hu:Plt (eT l j,eI l j) (eT l (j+1),eI l (j+1)):=h.up j hj
  by_cases e:i=j
  ·subst e;exact hu
  ·exact (ev_lt h j (by omega) (by omega)).trans hu
theorem ev_ok2 {l:Rows} (h:EvOk' l):Ok2 (prs l):=by
 refine ⟨List.pairwise_iff_getElem.2 fun i j hi hj hij=>?_,fun x hx=>?_⟩
 ·rw [prs_len] at hi hj
  have a:=List.getElem?_eq_getElem (l:=prs l) (i:=i) (by rw [prs_len];omega)
  have b:=List.getElem?_eq_getElem (l:=prs l) (i:=j) (by rw [prs_len];omega)
  rw [prs_get hi] at a
  rw [prs_get hj] at b
  rw [←Option.some.inj a,←Option.some.inj b]
  exact ev_lt h j hij hj
 ·obtain ⟨i,hi,rfl⟩:=List.getElem_of_mem hx
  rw [prs_len] at hi
  have a:=List.getElem?_eq_getElem (l:=prs l) (i:=i) (by rw [prs_len];omega)
  rw [prs_get hi] at a
  rw [←Option.some.inj a]
  exact ⟨h.rt i hi,h.ri i hi⟩
theorem can_un {l:Rows} (h:Can l):unprs (prs l)=l:=by
 refine List.ext_getElem? fun i=>?_
 by_cases hi:i < l.length
 ·rw [un_get (by rw [prs_len];exact hi),List.getD_eq_getElem?_getD,prs_get hi,List.getElem?_eq_getElem hi,h i hi]
  rfl
 ·rw [List.getElem?_eq_none (by rw [un_len,prs_len];omega),List.getElem?_eq_none (by omega)]
theorem shr_can {l:Rows} (h:ShR [.int .i64,.int .i64] l):Can l:=fun i hi=>by
 have:=h.1 l[i] (List.getElem_mem hi)
 have e:l[i]?=some l[i]:=List.getElem?_eq_getElem hi
 match hr:l[i],this with
 |[a,b],h2=>
  simp only [ShL,ShK] at h2
  obtain ⟨⟨n,rfl⟩,⟨m,rfl⟩,_⟩:=h2
  rw [hr] at e
  unfold eT eI
  rw [(gt_of e).1,(gt_of e).2]
  rfl
 |[],h2=>simp [ShL] at h2
 |[_],h2=>simp [ShL] at h2
 |_ :: _ :: _ :: _,h2=>simp [ShL] at h2
end HX

namespace HX
open Go Go.Proofs CX
abbrev vZ31 (x:Int):=-9223372036854775808≤x∧x≤9223372036854775807
abbrev v31a (j2:Rows) (f0:Int) (j1:Int):=((¬(D.int (gt j2 (f0.toNat+j1.toNat) 0))=(D.int (gt j2 (f0.toNat+(Int.toNat (j1 - 1))) 0)))∨(¬(D.int (gt j2 (f0.toNat+j1.toNat) 1))=(D.int (gt j2 (f0.toNat+(Int.toNat (j1 - 1))) 1))))
abbrev v31b (a0:Rows) (a1:Rows):=(([[D.l a0],[D.l a1]]).length:Int)
abbrev v31c (e0:Rows):=(((srtR e0)).length:Int)
abbrev v31d (d0:Int) (a0:Rows) (a1:Rows) (d1:Int):=(d0+((((D.rows (gt [[D.l a0],[D.l a1]] d1.toNat 0))).length:Int)))
structure V31c4 (R:Nat→Nat→D) (e0:Rows) (f0:Int) (j0:Int) (j1:Int) (j2:Rows) (I4:Int→Int→Rows→Prop) (m4:Int→Int→Rows→Nat):Prop where
 g52:(j1 < ((((List.length ((srtR e0):Rows)) - f0.toNat:Nat):Int)))→(f0.toNat+((List.length ((srtR e0):Rows)) - f0.toNat))≤j2.length
 g53:(j1 < ((((List.length ((srtR e0):Rows)) - f0.toNat:Nat):Int)))→0≤j1
 g54:(j1 < ((((List.length ((srtR e0):Rows)) - f0.toNat:Nat):Int)))→j1 < ((((List.length ((srtR e0):Rows)) - f0.toNat:Nat):Int))
 g55:(j1 < ((((List.length ((srtR e0):Rows)) - f0.toNat:Nat):Int)))→(((f0.toNat+j1.toNat:Nat):Int)) < (j2.length:Int)
 g57:(j1 < ((((List.length ((srtR e0):Rows)) - f0.toNat:Nat):Int)))→vZ31 ((j1 - 1))
 g59:(j1 < ((((List.length ((srtR e0):Rows)) - f0.toNat:Nat):Int)))→0≤(j1 - 1)
 g60:(j1 < ((((List.length ((srtR e0):Rows)) - f0.toNat:Nat):Int)))→(j1 - 1) < ((((List.length ((srtR e0):Rows)) - f0.toNat:Nat):Int))
 g61:(j1 < ((((List.length ((srtR e0):Rows)) - f0.toNat:Nat):Int)))→(((f0.toNat+(Int.toNat (j1 - 1)):Nat):Int)) < (j2.length:Int)
 g63:(j1 < ((((List.length ((srtR e0):Rows)) - f0.toNat:Nat):Int)))→(v31a j2 f0 j1)→(f0.toNat+((List.length ((srtR e0):Rows)) - f0.toNat))≤j2.length
 g64:(j1 < ((((List.length ((srtR e0):Rows)) - f0.toNat:Nat):Int)))→(v31a j2 f0 j1)→0≤j1
 g65:(j1 < ((((List.length ((srtR e0):Rows)) - f0.toNat:Nat):Int)))→(v31a j2 f0 j1)→j1 < ((((List.length ((srtR e0):Rows)) - f0.toNat:Nat):Int))
 g66:(j1 < ((((List.length ((srtR e0):Rows)) - f0.toNat:Nat):Int)))→(v31a j2 f0 j1)→(((f0.toNat+j1.toNat:Nat):Int)) < (j2.length:Int)
 g67:(j1 < ((((List.length ((srtR e0):Rows)) - f0.toNat:Nat):Int)))→(v31a j2 f0 j1)→0≤j0
 g68:(j1 < ((((List.length ((srtR e0):Rows)) - f0.toNat:Nat):Int)))→(v31a j2 f0 j1)→j0 < (j2.length:Int)
 g69:(j1 < ((((List.length ((srtR e0):Rows)) - f0.toNat:Nat):Int)))→(v31a j2 f0 j1)→(((Int.toNat j0:Nat):Int)) < (j2.length:Int)
 g70:(j1 < ((((List.length ((srtR e0):Rows)) - f0.toNat:Nat):Int)))→(v31a j2 f0 j1)→vZ31 ((j0+1))
 g71:(j1 < ((((List.length ((srtR e0):Rows)) - f0.toNat:Nat):Int)))→(v31a j2 f0 j1)→vZ31 ((j1+1))
 n72:(j1 < ((((List.length ((srtR e0):Rows)) - f0.toNat:Nat):Int)))→(v31a j2 f0 j1)→I4 (j0+1) (j1+1) (List.set j2 j0.toNat [D.i (D.int (gt j2 (f0.toNat+j1.toNat) 0)),D.i (D.int (gt j2 (f0.toNat+j1.toNat) 1))])∧m4 (j0+1) (j1+1) (List.set j2 j0.toNat [D.i (D.int (gt j2 (f0.toNat+j1.toNat) 0)),D.i (D.int (gt j2 (f0.toNat+j1.toNat) 1))]) < m4 j0 j1 j2
 g73:(j1 < ((((List.length ((srtR e0):Rows)) - f0.toNat:Nat):Int)))→((D.int (gt j2 (f0.toNat+j1.toNat) 0))=(D.int (gt j2 (f0.toNat+(Int.toNat (j1 - 1))) 0))∧(D.int (gt j2 (f0.toNat+j1.toNat) 1))=(D.int (gt j2 (f0.toNat+(Int.toNat (j1 - 1))) 1)))→vZ31 ((j1+1))
 n74:(j1 < ((((List.length ((srtR e0):Rows)) - f0.toNat:Nat):Int)))→((D.int (gt j2 (f0.toNat+j1.toNat) 0))=(D.int (gt j2 (f0.toNat+(Int.toNat (j1 - 1))) 0))∧(D.int (gt j2 (f0.toNat+j1.toNat) 1))=(D.int (gt j2 (f0.toNat+(Int.toNat (j1 - 1))) 1)))→I4 j0 (j1+1) j2∧m4 j0 (j1+1) j2 < m4 j0 j1 j2
 g75:(¬j1 < ((((List.length ((srtR e0):Rows)) - f0.toNat:Nat):Int)))→0≤j0
 g76:(¬j1 < ((((List.length ((srtR e0):Rows)) - f0.toNat:Nat):Int)))→j0≤(j2.length:Int)
 g77:(¬j1 < ((((List.length ((srtR e0):Rows)) - f0.toNat:Nat):Int)))→(j0.toNat+(j2.length - j0.toNat))≤j2.length
 g79:(¬j1 < ((((List.length ((srtR e0):Rows)) - f0.toNat:Nat):Int)))→j0≤(((((List.take j0.toNat (List.drop 0 j2))++((List.replicate (j2.length - j0.toNat) [D.i 0,D.i 0])++(List.take (j2.length - (j0.toNat+(j2.length - j0.toNat))) (List.drop (j0.toNat+(j2.length - j0.toNat)) j2))))).length:Int))
 g80:(¬j1 < ((((List.length ((srtR e0):Rows)) - f0.toNat:Nat):Int)))→(65536 < (((Int.toNat j0:Nat):Int)))→R 0 0=D.l []
 g81:(¬j1 < ((((List.length ((srtR e0):Rows)) - f0.toNat:Nat):Int)))→(65536 < (((Int.toNat j0:Nat):Int)))→R 1 0=D.i 9
 g82:(¬j1 < ((((List.length ((srtR e0):Rows)) - f0.toNat:Nat):Int)))→(¬65536 < (((Int.toNat j0:Nat):Int)))→R 0 0=D.l (List.take j0.toNat (List.drop 0 ((List.take j0.toNat (List.drop 0 j2))++((List.replicate (j2.length - j0.toNat) [D.i 0,D.i 0])++(List.take (j2.length - (j0.toNat+(j2.length - j0.toNat))) (List.drop (j0.toNat+(j2.length - j0.toNat)) j2))))))
 g83:(¬j1 < ((((List.length ((srtR e0):Rows)) - f0.toNat:Nat):Int)))→(¬65536 < (((Int.toNat j0:Nat):Int)))→R 1 0=D.i 0
abbrev V31l4 (R:Nat→Nat→D) (e0:Rows) (f0:Int):Prop:=∃(I4:Int→Int→Rows→Prop) (m4:Int→Int→Rows→Nat),I4 f0 1 (srtR e0)∧∀j0 j1 j2,I4 j0 j1 j2→V31c4 R e0 f0 j0 j1 j2 I4 m4
structure V31c3 (R:Nat→Nat→D) (e0:Rows) (f0:Int) (I3:Int→Prop) (m3:Int→Nat):Prop where
 g40:(f0 < (v31c e0))→0≤f0
 g41:(f0 < (v31c e0))→f0 < (v31c e0)
 g42:(f0 < (v31c e0))→(((Int.toNat f0:Nat):Int)) < (v31c e0)
 g44:(f0 < (v31c e0))→vZ31 ((f0 - 1))
 g45:(f0 < (v31c e0))→0≤(f0 - 1)
 g46:(f0 < (v31c e0))→(f0 - 1) < (v31c e0)
 g47:(f0 < (v31c e0))→(((Int.toNat (f0 - 1):Nat):Int)) < (v31c e0)
 g49:(f0 < (v31c e0))→((D.int (gt (srtR e0) f0.toNat 0))=(D.int (gt (srtR e0) (Int.toNat (f0 - 1)) 0))∧(D.int (gt (srtR e0) f0.toNat 1))=(D.int (gt (srtR e0) (Int.toNat (f0 - 1)) 1)))→0≤f0
 g50:(f0 < (v31c e0))→((D.int (gt (srtR e0) f0.toNat 0))=(D.int (gt (srtR e0) (Int.toNat (f0 - 1)) 0))∧(D.int (gt (srtR e0) f0.toNat 1))=(D.int (gt (srtR e0) (Int.toNat (f0 - 1)) 1)))→f0≤(v31c e0)
 g84:(f0 < (v31c e0))→((¬(D.int (gt (srtR e0) f0.toNat 0))=(D.int (gt (srtR e0) (Int.toNat (f0 - 1)) 0)))∨(¬(D.int (gt (srtR e0) f0.toNat 1))=(D.int (gt (srtR e0) (Int.toNat (f0 - 1)) 1))))→vZ31 ((f0+1))
 n85:(f0 < (v31c e0))→((¬(D.int (gt (srtR e0) f0.toNat 0))=(D.int (gt (srtR e0) (Int.toNat (f0 - 1)) 0)))∨(¬(D.int (gt (srtR e0) f0.toNat 1))=(D.int (gt (srtR e0) (Int.toNat (f0 - 1)) 1))))→I3 (f0+1)∧m3 (f0+1) < m3 f0
 g86:(¬f0 < (v31c e0))→(65536 < (v31c e0))→R 0 0=D.l []
 g87:(¬f0 < (v31c e0))→(65536 < (v31c e0))→R 1 0=D.i 9
 g88:(¬f0 < (v31c e0))→(¬65536 < (v31c e0))→R 0 0=D.l (srtR e0)
 g89:(¬f0 < (v31c e0))→(¬65536 < (v31c e0))→R 1 0=D.i 0
 l4:(f0 < (v31c e0))→((D.int (gt (srtR e0) f0.toNat 0))=(D.int (gt (srtR e0) (Int.toNat (f0 - 1)) 0))∧(D.int (gt (srtR e0) f0.toNat 1))=(D.int (gt (srtR e0) (Int.toNat (f0 - 1)) 1)))→V31l4 R e0 f0
abbrev V31l3 (R:Nat→Nat→D) (e0:Rows):Prop:=∃(I3:Int→Prop) (m3:Int→Nat),I3 1∧∀f0,I3 f0→V31c3 R e0 f0 I3 m3
structure V31c2 (a0:Rows) (a1:Rows) (R:Nat→Nat→D) (e0:Rows) (e1:Int) (I2:Rows→Int→Prop) (m2:Rows→Int→Nat):Prop where
 g28:(e1 < (v31b a0 a1))→0≤e1
 g29:(e1 < (v31b a0 a1))→e1 < (v31b a0 a1)
 g30:(e1 < (v31b a0 a1))→(((Int.toNat e1:Nat):Int)) < (v31b a0 a1)
 g31:(e1 < (v31b a0 a1))→(e0.length+(List.length ((D.rows (gt [[D.l a0],[D.l a1]] e1.toNat 0)):Rows))) * 16≤4294967296∧(e0.length+(List.length ((D.rows (gt [[D.l a0],[D.l a1]] e1.toNat 0)):Rows)))≤4294967296
 g32:(e1 < (v31b a0 a1))→vZ31 ((e1+1))
 n33:(e1 < (v31b a0 a1))→I2 (e0++(D.rows (gt [[D.l a0],[D.l a1]] e1.toNat 0))) (e1+1)∧m2 (e0++(D.rows (gt [[D.l a0],[D.l a1]] e1.toNat 0))) (e1+1) < m2 e0 e1
 g34:(¬e1 < (v31b a0 a1))→(e0.length+1)≤4611686018427387904
 g35:(¬e1 < (v31b a0 a1))→((v31c e0) < 2)→(65536 < (v31c e0))→R 0 0=D.l []
 g36:(¬e1 < (v31b a0 a1))→((v31c e0) < 2)→(65536 < (v31c e0))→R 1 0=D.i 9
 g37:(¬e1 < (v31b a0 a1))→((v31c e0) < 2)→(¬65536 < (v31c e0))→R 0 0=D.l (srtR e0)
 g38:(¬e1 < (v31b a0 a1))→((v31c e0) < 2)→(¬65536 < (v31c e0))→R 1 0=D.i 0
 l3:(¬e1 < (v31b a0 a1))→(¬(v31c e0) < 2)→V31l3 R e0
abbrev V31l2 (a0:Rows) (a1:Rows) (R:Nat→Nat→D) (d0:Int):Prop:=∃(I2:Rows→Int→Prop) (m2:Rows→Int→Nat),I2 (List.take (Int.toNat 0) (List.drop 0 (List.replicate (Int.toNat (d0 - (0 - 0))) [D.i 0,D.i 0]))) 0∧∀e0 e1,I2 e0 e1→V31c2 a0 a1 R e0 e1 I2 m2
abbrev V31l5 (a0:Rows) (a1:Rows) (R:Nat→Nat→D):Prop:=∃(I5:Rows→Int→Prop) (m5:Rows→Int→Nat),I5 [] 0∧∀k0 k1,I5 k0 k1→V31c2 a0 a1 R k0 k1 I5 m5
structure V31c1 (a0:Rows) (a1:Rows) (R:Nat→Nat→D) (d0:Int) (d1:Int) (I1:Int→Int→Prop) (m1:Int→Int→Nat):Prop where
 g10:(d1 < (v31b a0 a1))→0≤d1
 g11:(d1 < (v31b a0 a1))→d1 < (v31b a0 a1)
 g12:(d1 < (v31b a0 a1))→(((Int.toNat d1:Nat):Int)) < (v31b a0 a1)
 g13:(d1 < (v31b a0 a1))→vZ31 ((v31d d0 a0 a1 d1))
 g14:(d1 < (v31b a0 a1))→((v31d d0 a0 a1 d1) < 0)→False
 g15:(d1 < (v31b a0 a1))→(¬(v31d d0 a0 a1 d1) < 0)→vZ31 ((d1+1))
 n16:(d1 < (v31b a0 a1))→(¬(v31d d0 a0 a1 d1) < 0)→I1 (v31d d0 a0 a1 d1) (d1+1)∧m1 (v31d d0 a0 a1 d1) (d1+1) < m1 d0 d1
 g17:(¬d1 < (v31b a0 a1))→(d0 < 0)→False
 g18:(¬d1 < (v31b a0 a1))→(¬d0 < 0)→vZ31 (((0 - 0):Int))
 g19:(¬d1 < (v31b a0 a1))→(¬d0 < 0)→vZ31 ((d0 - (0 - 0)))
 g20:(¬d1 < (v31b a0 a1))→(¬d0 < 0)→(0 < (d0 - (0 - 0)))→(0:Int)≤0
 g21:(¬d1 < (v31b a0 a1))→(¬d0 < 0)→(0 < (d0 - (0 - 0)))→0≤(((0:Nat):Int))
 g22:(¬d1 < (v31b a0 a1))→(¬d0 < 0)→(0 < (d0 - (0 - 0)))→0≤(d0 - (0 - 0))
 g23:(¬d1 < (v31b a0 a1))→(¬d0 < 0)→(0 < (d0 - (0 - 0)))→((d0 - (0 - 0)) * (Int.ofNat 2))≤4096
 g24:(¬d1 < (v31b a0 a1))→(¬d0 < 0)→(0 < (d0 - (0 - 0)))→(Int.toNat (d0 - (0 - 0))) * 16≤4294967296∧(Int.toNat (d0 - (0 - 0)))≤4294967296
 g26:(¬d1 < (v31b a0 a1))→(¬d0 < 0)→(0 < (d0 - (0 - 0)))→0≤((((List.replicate (Int.toNat (d0 - (0 - 0))) [D.i 0,D.i 0])).length:Int))
 l2:(¬d1 < (v31b a0 a1))→(¬d0 < 0)→(0 < (d0 - (0 - 0)))→V31l2 a0 a1 R d0
 l5:(¬d1 < (v31b a0 a1))→(¬d0 < 0)→(¬0 < (d0 - (0 - 0)))→V31l5 a0 a1 R
abbrev V31l1 (a0:Rows) (a1:Rows) (R:Nat→Nat→D):Prop:=∃(I1:Int→Int→Prop) (m1:Int→Int→Nat),I1 0 0∧∀d0 d1,I1 d0 d1→V31c1 a0 a1 R d0 d1 I1 m1
structure V31c0 (pre:Nat→List (List D)→Prop) (fn:Nat→List (List D)→Nat→Nat→D) (a0:Rows) (a1:Rows) (R:Nat→Nat→D) (b0:Rows) (b1:Int) (b2:Int) (I0:Rows→Int→Int→Prop) (m0:Rows→Int→Int→Nat):Prop where
 g1:(b2 < (v31b a0 a1))→0≤b2
 g2:(b2 < (v31b a0 a1))→b2 < (v31b a0 a1)
 g3:(b2 < (v31b a0 a1))→(((Int.toNat b2:Nat):Int)) < (v31b a0 a1)
 g4:(b2 < (v31b a0 a1))→pre 51 [[D.l (D.rows (gt [[D.l a0],[D.l a1]] b2.toNat 0))]]
 g5:(b2 < (v31b a0 a1))→(¬(D.int (fn 51 [[D.l (D.rows (gt [[D.l a0],[D.l a1]] b2.toNat 0))]] 0 0))=0)→R 0 0=D.l []
 g6:(b2 < (v31b a0 a1))→(¬(D.int (fn 51 [[D.l (D.rows (gt [[D.l a0],[D.l a1]] b2.toNat 0))]] 0 0))=0)→R 1 0=D.i (D.int (fn 51 [[D.l (D.rows (gt [[D.l a0],[D.l a1]] b2.toNat 0))]] 0 0))
 g7:(b2 < (v31b a0 a1))→((D.int (fn 51 [[D.l (D.rows (gt [[D.l a0],[D.l a1]] b2.toNat 0))]] 0 0))=0)→vZ31 ((b2+1))
 n8:(b2 < (v31b a0 a1))→((D.int (fn 51 [[D.l (D.rows (gt [[D.l a0],[D.l a1]] b2.toNat 0))]] 0 0))=0)→I0 b0 b1 (b2+1)∧m0 b0 b1 (b2+1) < m0 b0 b1 b2
 l1:(¬b2 < (v31b a0 a1))→V31l1 a0 a1 R
abbrev V31l0 (pre:Nat→List (List D)→Prop) (fn:Nat→List (List D)→Nat→Nat→D) (a0:Rows) (a1:Rows) (R:Nat→Nat→D):Prop:=∃(I0:Rows→Int→Int→Prop) (m0:Rows→Int→Int→Nat),I0 [] 0 0∧∀b0 b1 b2,I0 b0 b1 b2→V31c0 pre fn a0 a1 R b0 b1 b2 I0 m0
structure V31 (pre:Nat→List (List D)→Prop) (fn:Nat→List (List D)→Nat→Nat→D) (a0:Rows) (a1:Rows) (R:Nat→Nat→D):Prop where
 l0:V31l0 pre fn a0 a1 R
end HX

namespace HX
open Go Go.Proofs CX
def mrgE (a b:Rows):Int:=if chkE a=0 then chkE b else chkE a
def mrgL (a b:Rows):Rows:=if chkE a=0∧chkE b=0 then unprs (mg (prs a) (prs b)) else []
theorem set_take {l:Rows} {q:Nat} (h:q < l.length) (x:List D):(l.set q x).take (q+1)=l.take q++[x]:=by
 rw [List.take_succ,List.take_set_of_le (Nat.le_refl _),List.getElem?_set_self h]
 rfl
section
variable {R:Nat→Nat→D} {e0:Rows} (hn:e0.length≤2048) (h0:R 0 0=.l (unprs (ddt (psort (prs e0)) (psort (prs e0)).length))) (h1:R 1 0=.i 0)
include hn h0 h1
theorem srt_len0:(srtR e0).length=e0.length:=by
 clear hn h0 h1
 rw [srtR,un_len,(psort_perm _).length_eq,prs_len]
theorem law31d {F:Nat} (hF:1≤F) (hFn:F < e0.length) (hp:ddt (psort (prs e0)) F=(psort (prs e0)).take F) (hq:(psort (prs e0)).getD F (0,0)=(psort (prs e0)).getD (F - 1) (0,0)):V31l4 R e0 F:=by
 have sl:(srtR e0).length=e0.length:=srt_len0 hn h0 h1
 have hS:srtR e0=unprs (psort (prs e0)):=rfl
 have pl:(psort (prs e0)).length=e0.length:=by rw [(psort_perm _).length_eq,prs_len]
 generalize psort (prs e0)=S at *
 refine ⟨fun j0 j1 j2=>∃q p:Nat,j0=q∧j1=p∧1≤p∧F+p≤S.length∧q+1≤F+p∧j2.length=S.length∧(∀i,F+p≤i+1→j2[i]?=(unprs S)[i]?)∧j2.take q=unprs (ddt S (F+p)),fun _ j1 _=>(e0.length - (F+j1)).toNat,⟨F,1,rfl,rfl,Nat.le_refl _,by omega,Nat.le_refl _,by rw [hS,un_len],fun i _=>by rw [hS],?_⟩,?_⟩
 ·rw [ddt_eq (by omega) hq,hp,un_take,hS]
 rintro j0 j1 j2 ⟨q,p,rfl,rfl,i1,i2,i3,i4,i5,i6⟩
 have tn:((p:Int) - 1).toNat=p - 1:=by omega
 have get:∀i,F+p≤i+1→i < S.length→gt j2 i 0=.i (S.getD i (0,0)).1∧gt j2 i 1=.i (S.getD i (0,0)).2:=fun i h k=>gt_of ((i5 i h).trans (un_get k))
 have key:p < e0.length - F→(gt j2 (F+p) 0=.i (S.getD (F+p) (0,0)).1∧gt j2 (F+p) 1=.i (S.getD (F+p) (0,0)).2)∧gt j2 (F+(p - 1)) 0=.i (S.getD (F+p - 1) (0,0)).1∧gt j2 (F+(p - 1)) 1=.i (S.getD (F+p - 1) (0,0)).2:=fun h=>by
  have e:F+(p - 1)=F+p - 1:=by omega
  rw [e]
  exact ⟨get _ (by omega) (by omega),get _ (by omega) (by omega)⟩
 have fin:¬p < e0.length - F→F+p=S.length:=fun h=>by omega
 have hi:∀n:Int,(D.i n).int=n:=fun _=>rfl
 constructor
 all_goals (simp only [Int.toNat_natCast,sl,tn])
 case n72=>
  intro hx hc
  have hx':p < e0.length - F:=by omega
  obtain ⟨⟨k1,k2⟩,k3,k4⟩:=key hx'
  have hc:(¬D.int (gt j2 (F+p) 0)=D.int (gt j2 (F+(p - 1)) 0))∨(¬D.int (gt j2 (F+p) 1)=D.int (gt j2 (F+(p - 1)) 1)):=by
   simpa only [v31a,Int.toNat_natCast,tn] using hc
  rw [k1,k2,k3,k4] at hc
  simp only [hi] at hc
  have hne:¬S.getD (F+p) (0,0)=S.getD (F+p - 1) (0,0):=fun e=>by rw [pair_eq] at e;omega
  rw [k1,k2]
  refine ⟨⟨q+1,p+1,by omega,by omega,by omega,by omega,by omega,by rw [List.length_set];exact i4,fun i hi'=>?_,?_⟩,by omega⟩
  ·rw [List.getElem?_set_ne (by omega)]
   exact i5 i (by omega)
  ·rw [set_take (by omega),i6,show F+(p+1)=F+p+1 by omega,ddt_ne hne,un_app]
   rfl
 case n74=>
  intro hx hc
  have hx':p < e0.length - F:=by omega
  obtain ⟨⟨k1,k2⟩,k3,k4⟩:=key hx'
  rw [k1,k2,k3,k4] at hc
  simp only [hi] at hc
  refine ⟨⟨q,p+1,rfl,by omega,by omega,by omega,by omega,i4,fun i hi'=>i5 i (by omega),?_⟩,by omega⟩
  rw [show F+(p+1)=F+p+1 by omega,ddt_eq (by omega) (pair_eq.2 hc)]
  exact i6
 case g82=>
  intro hx _
  have hx':F+p=S.length:=fin (by omega)
  have e:∀T:Rows,List.take q (List.drop 0 (List.take q (List.drop 0 j2)++T))=j2.take q:=fun T=>by
   rw [List.drop_zero,List.drop_zero,List.take_append_of_le_length (by rw [List.length_take];omega),List.take_take,Nat.min_self]
  rw [h0,e,i6,hx']
 case g83=>intro _ _;exact h1
 case g79=>
  intro hx
  simp only [List.length_append,List.length_take,List.length_drop,List.length_replicate]
  omega
 all_goals (intros;(try unfold vZ31);(try omega))
theorem law31c:¬(e0.length:Int) < 2→V31l3 R e0:=by
 intro h2
 have sl:(srtR e0).length=e0.length:=srt_len0 hn h0 h1
 have pl:(psort (prs e0)).length=e0.length:=by rw [(psort_perm _).length_eq,prs_len]
 have hi:∀n:Int,(D.i n).int=n:=fun _=>rfl
 refine ⟨fun f0=>∃F:Nat,f0=F∧1≤F∧F≤e0.length∧ddt (psort (prs e0)) F=(psort (prs e0)).take F,fun f0=>(e0.length - f0).toNat,⟨1,rfl,Nat.le_refl _,by omega,?_⟩,?_⟩
 ·rw [show (1:Nat)=0+1 from rfl,take_snoc (by omega)]
  rfl
 rintro f0 ⟨F,rfl,j1,j2,j3⟩
 have tn:((F:Int) - 1).toNat=F - 1:=by omega
 have key:F < e0.length→(gt (srtR e0) F 0=.i ((psort (prs e0)).getD F (0,0)).1∧gt (srtR e0) F 1=.i ((psort (prs e0)).getD F (0,0)).2)∧gt (srtR e0) (F - 1) 0=.i ((psort (prs e0)).getD (F - 1) (0,0)).1∧gt (srtR e0) (F - 1) 1=.i ((psort (prs e0)).getD (F - 1) (0,0)).2:=fun h=>
  ⟨un_gt (by omega),un_gt (by omega)⟩
 constructor
 all_goals (simp only [v31c,Int.toNat_natCast,sl,tn])
 case n85=>
  intro hx hc
  obtain ⟨⟨k1,k2⟩,k3,k4⟩:=key (by omega)
  rw [k1,k2,k3,k4] at hc
  simp only [hi] at hc
  have hne:¬(psort (prs e0)).getD F (0,0)=(psort (prs e0)).getD (F - 1) (0,0):=fun e=>by rw [pair_eq] at e;omega
  refine ⟨⟨F+1,by omega,by omega,by omega,?_⟩,by omega⟩
  rw [ddt_ne hne,take_snoc (by omega),j3]
 case l4=>
  intro hx hc
  obtain ⟨⟨k1,k2⟩,k3,k4⟩:=key (by omega)
  rw [k1,k2,k3,k4] at hc
  simp only [hi] at hc
  exact law31d hn h0 h1 j1 (by omega) j3 (pair_eq.2 hc)
 case g88=>
  intro hx _
  have e:F=(psort (prs e0)).length:=by omega
  rw [e] at j3
  rw [h0,j3,List.take_length]
  rfl
 case g89=>intro _ _;exact h1
 all_goals (intros;(try unfold vZ31);(try omega))
theorem law31b:(¬(e0.length:Int) < 2→V31l3 R e0)∧((e0.length:Int) < 2→R 0 0=.l (srtR e0)):=by
 refine ⟨law31c hn h0 h1,fun h=>?_⟩
 have pl:(psort (prs e0)).length=e0.length:=by rw [(psort_perm _).length_eq,prs_len]
 rw [h0,srtR]
 generalize psort (prs e0)=S at *
 match S,pl with
 |[],_=>rfl
 |[x],_=>rfl
 |_ :: _ :: _,pl=>simp only [List.length_cons] at pl;omega
end
theorem law31 {pre:Nat→List (List D)→Prop} {fn:Nat→List (List D)→Nat→Nat→D} (hp51:∀x,pre 51 x) (hf51:∀l,fn 51 [[.l l]] 0 0=.i (chkE l)) {a0 a1:Rows} (hl:a0.length+a1.length≤2048) {R:Nat→Nat→D} (h0:R 0 0=.l (mrgL a0 a1)) (h1:R 1 0=.i (mrgE a0 a1)) :
  V31 pre fn a0 a1 R:=by
 have hi:∀n:Int,(D.i n).int=n:=fun _=>rfl
 have g0:(gt [[D.l a0],[D.l a1]] 0 0).rows=a0:=rfl
 have g1:(gt [[D.l a0],[D.l a1]] 1 0).rows=a1:=rfl
 -- what is appended
 have app:chkE a0=0→chkE a1=0→∃(I2:Rows→Int→Prop) (m2:Rows→Int→Nat),I2 [] 0∧∀e0 e1,I2 e0 e1→V31c2 a0 a1 R e0 e1 I2 m2:=fun c0 c1=>by
  refine ⟨fun e0 e1=>(e1=0∧e0=[])∨(e1=1∧e0=a0)∨(e1=2∧e0=a0++a1),fun _ e1=>(2 - e1).toNat,.inl ⟨rfl,rfl⟩,fun e0 e1 hI=>?_⟩
  have r0:e1=2→e0.length≤2048∧R 0 0=.l (unprs (ddt (psort (prs e0)) (psort (prs e0)).length))∧R 1 0=.i 0:=fun h=>by
   rcases hI with ⟨e,_⟩ |⟨e,_⟩ |⟨_,e⟩
   ·omega
   ·omega
   ·rw [e]
    refine ⟨by rw [List.length_append];exact hl,?_,?_⟩
    ·rw [h0,mrgL,if_pos ⟨c0,c1⟩,mg,prs_app]
    ·rw [h1,mrgE,if_pos c0,c1]
  have sl:(srtR e0).length=e0.length:=by rw [srtR,un_len,(psort_perm _).length_eq,prs_len]
  have hb:e0.length≤2048:=by rcases hI with ⟨_,rfl⟩ |⟨_,rfl⟩ |⟨_,rfl⟩<;>(try simp only [List.length_nil,List.length_append])<;>omega
  have he:e1=0∨e1=1∨e1=2:=by rcases hI with ⟨h,_⟩ |⟨h,_⟩ |⟨h,_⟩<;>omega
  constructor
  all_goals (simp only [v31b,v31c,sl,List.length_cons,List.length_nil])
  case g31=>
   intro hx
   rcases hI with ⟨rfl,rfl⟩ |⟨rfl,rfl⟩ |⟨rfl,rfl⟩
   ·simp only [Int.toNat_zero,g0,List.length_nil];omega
   ·show (e0.length+a1.length) * 16≤_∧e0.length+a1.length≤_
    omega
   ·omega
  case n33=>
   intro hx
   rcases hI with ⟨rfl,rfl⟩ |⟨rfl,rfl⟩ |⟨rfl,rfl⟩
   ·exact ⟨.inr (.inl ⟨rfl,by simp only [Int.toNat_zero,g0,List.nil_append]⟩),by omega⟩
   ·exact ⟨.inr (.inr ⟨rfl,rfl⟩),by omega⟩
   ·omega
  case g37=>
   intro hx h2 _
   obtain ⟨a,b,c⟩:=r0 (by omega)
   exact (law31b a b c).2 h2
  case g38=>intro hx _ _;exact (r0 (by omega)).2.2
  case l3=>
   intro hx h2
   obtain ⟨a,b,c⟩:=r0 (by omega)
   exact (law31b a b c).1 h2
  all_goals (intros;(try unfold vZ31);(try omega))
 constructor
 refine ⟨fun _ _ b2=>b2=0∨(b2=1∧chkE a0=0)∨(b2=2∧chkE a0=0∧chkE a1=0),fun _ _ b2=>(2 - b2).toNat,.inl rfl,fun b0 b1 b2 hI=>?_⟩
 have hb:b2=0∨b2=1∨b2=2:=by omega
 constructor
 all_goals (simp only [v31b,List.length_cons,List.length_nil,hf51,hi])
 case g4=>intro _;exact hp51 _
 case g5=>
  intro hx hc
  rw [h0,mrgL,if_neg]
  rintro ⟨c0,c1⟩
  rcases hI with rfl |⟨rfl,e⟩ |⟨rfl,_⟩
  ·exact hc c0
  ·exact hc c1
  ·omega
 case g6=>
  intro hx hc
  rw [h1,mrgE]
  rcases hI with rfl |⟨rfl,e⟩ |⟨rfl,_⟩
  ·have hc:¬chkE a0=0:=hc
   rw [if_neg hc];rfl
  ·rw [if_pos e];rfl
  ·omega
 case n8=>
  intro hx hc
  rcases hI with rfl |⟨rfl,e⟩ |⟨rfl,_⟩
  ·exact ⟨.inr (.inl ⟨rfl,hc⟩),by omega⟩
  ·exact ⟨.inr (.inr ⟨rfl,e,hc⟩),by omega⟩
  ·omega
 case l1=>
  intro hx
  have cc:chkE a0=0∧chkE a1=0:=by
   rcases hI with rfl |⟨rfl,e⟩ |⟨rfl,e⟩
   ·omega
   ·omega
   ·exact e
  obtain ⟨I2,m2,s2,r2⟩:=app cc.1 cc.2
  refine ⟨fun d0 d1=>(d1=0∧d0=0)∨(d1=1∧d0=a0.length)∨(d1=2∧d0=a0.length+a1.length),fun _ d1=>(2 - d1).toNat,.inl ⟨rfl,rfl⟩,fun d0 d1 hJ=>?_⟩
  have hd:d1=0∨d1=1∨d1=2:=by omega
  have stp:d1 < 2→(d1=0∧d0=0∧v31d d0 a0 a1 d1=a0.length)∨(d1=1∧v31d d0 a0 a1 d1=a0.length+a1.length):=fun h=>by
   rcases hJ with ⟨rfl,rfl⟩ |⟨rfl,rfl⟩ |⟨rfl,rfl⟩
   ·refine .inl ⟨rfl,rfl,?_⟩
    simp only [v31d,Int.toNat_zero,g0];omega
   ·exact .inr ⟨rfl,rfl⟩
   ·omega
  have e2:List.take (Int.toNat 0) (List.drop 0 (List.replicate (Int.toNat (d0 - (0 - 0))) [D.i 0,D.i 0]))=[]:=by simp
  constructor
  all_goals (simp only [v31b,List.length_cons,List.length_nil])
  case n16=>
   intro hx _
   rcases stp (by omega) with ⟨rfl,rfl,e⟩ |⟨rfl,e⟩
   ·exact ⟨.inr (.inl ⟨rfl,e⟩),by omega⟩
   ·exact ⟨.inr (.inr ⟨rfl,e⟩),by omega⟩
  case l2=>
   intro _ _ _
   exact ⟨I2,m2,by rw [e2];exact s2,r2⟩
  case l5=>
   intro _ _ _
   exact ⟨I2,m2,s2,r2⟩
  case g13=>intro hx;unfold vZ31;rcases stp (by omega) with ⟨_,_,e⟩ |⟨_,e⟩<;>rw [e]<;>omega
  case g14=>intro hx;rcases stp (by omega) with ⟨_,_,e⟩ |⟨_,e⟩<;>rw [e]<;>omega
  case g23=>intro _ _ _;show _ * (2:Int)≤_;omega
  case g26=>intro _ _ _;exact Int.natCast_nonneg _
  all_goals (intros;(try unfold vZ31);(try omega))
 all_goals (intros;(try unfold vZ31);(try omega))
end HX

namespace HX
open Go Go.Proofs CX
abbrev vZ33 (x:Int):=-9223372036854775808≤x∧x≤9223372036854775807
abbrev v33a (a0:Rows) (d1:Int):=(D.int (gt ([]++a0) d1.toNat 0))
abbrev v33b (a0:Rows):=((([]++a0)).length:Int)
abbrev v33c (e2:Rows) (e1:Int):=(D.int (gt e2 e1.toNat 0))
structure V33c0 (R:Nat→Nat→D) (b1:Int):Prop where
 g6:(b1 < 0)→False
 g7:(¬b1 < 0)→R 0 0=D.l []
 g8:(¬b1 < 0)→R 1 0=D.i 0
abbrev V33l0 (R:Nat→Nat→D):Prop:=∃(I0:Int→Int→Prop) (m0:Int→Int→Nat),I0 0 0∧∀b0 b1,I0 b0 b1→V33c0 R b1
structure V33c2 (a1:Int) (a2:Int) (R:Nat→Nat→D) (e0:Int) (e1:Int) (e2:Rows) (I2:Int→Int→Rows→Prop) (m2:Int→Int→Rows→Nat):Prop where
 g20:(e1 < (e2.length:Int))→0≤e1
 g21:(e1 < (e2.length:Int))→e1 < (e2.length:Int)
 g22:(e1 < (e2.length:Int))→(((Int.toNat e1:Nat):Int)) < (e2.length:Int)
 g23:(e1 < (e2.length:Int))→((v33c e2 e1) < a1)→vZ33 ((e1+1))
 n24:(e1 < (e2.length:Int))→((v33c e2 e1) < a1)→I2 e0 (e1+1) e2∧m2 e0 (e1+1) e2 < m2 e0 e1 e2
 g25:(e1 < (e2.length:Int))→(¬(v33c e2 e1) < a1)→(¬a2≤(v33c e2 e1))→0≤e0
 g26:(e1 < (e2.length:Int))→(¬(v33c e2 e1) < a1)→(¬a2≤(v33c e2 e1))→e0 < (e2.length:Int)
 g27:(e1 < (e2.length:Int))→(¬(v33c e2 e1) < a1)→(¬a2≤(v33c e2 e1))→(((Int.toNat e0:Nat):Int)) < (e2.length:Int)
 g28:(e1 < (e2.length:Int))→(¬(v33c e2 e1) < a1)→(¬a2≤(v33c e2 e1))→vZ33 ((e0+1))
 g29:(e1 < (e2.length:Int))→(¬(v33c e2 e1) < a1)→(¬a2≤(v33c e2 e1))→vZ33 ((e1+1))
 n30:(e1 < (e2.length:Int))→(¬(v33c e2 e1) < a1)→(¬a2≤(v33c e2 e1))→I2 (e0+1) (e1+1) (List.set e2 e0.toNat [D.i (v33c e2 e1),D.i (D.int (gt e2 e1.toNat 1))])∧m2 (e0+1) (e1+1) (List.set e2 e0.toNat [D.i (v33c e2 e1),D.i (D.int (gt e2 e1.toNat 1))]) < m2 e0 e1 e2
 g31:(e1 < (e2.length:Int))→(¬(v33c e2 e1) < a1)→(a2≤(v33c e2 e1))→vZ33 ((e1+1))
 n32:(e1 < (e2.length:Int))→(¬(v33c e2 e1) < a1)→(a2≤(v33c e2 e1))→I2 e0 (e1+1) e2∧m2 e0 (e1+1) e2 < m2 e0 e1 e2
 g33:(¬e1 < (e2.length:Int))→0≤e0
 g34:(¬e1 < (e2.length:Int))→e0≤(e2.length:Int)
 g35:(¬e1 < (e2.length:Int))→(e0.toNat+(e2.length - e0.toNat))≤e2.length
 g37:(¬e1 < (e2.length:Int))→e0≤(((((List.take e0.toNat (List.drop 0 e2))++((List.replicate (e2.length - e0.toNat) [D.i 0,D.i 0])++(List.take (e2.length - (e0.toNat+(e2.length - e0.toNat))) (List.drop (e0.toNat+(e2.length - e0.toNat)) e2))))).length:Int))
 g38:(¬e1 < (e2.length:Int))→R 0 0=D.l (List.take e0.toNat (List.drop 0 ((List.take e0.toNat (List.drop 0 e2))++((List.replicate (e2.length - e0.toNat) [D.i 0,D.i 0])++(List.take (e2.length - (e0.toNat+(e2.length - e0.toNat))) (List.drop (e0.toNat+(e2.length - e0.toNat)) e2))))))
 g39:(¬e1 < (e2.length:Int))→R 1 0=D.i 0
abbrev V33l2 (a0:Rows) (a1:Int) (a2:Int) (R:Nat→Nat→D) (d1:Int):Prop:=∃(I2:Int→Int→Rows→Prop) (m2:Int→Int→Rows→Nat),I2 d1 (d1+1) ([]++a0)∧∀e0 e1 e2,I2 e0 e1 e2→V33c2 a1 a2 R e0 e1 e2 I2 m2
structure V33c1 (a0:Rows) (a1:Int) (a2:Int) (R:Nat→Nat→D) (d0:Int) (d1:Int) (I1:Int→Int→Prop) (m1:Int→Int→Nat):Prop where
 g13:(d1 < (v33b a0))→0≤d1
 g14:(d1 < (v33b a0))→d1 < (v33b a0)
 g15:(d1 < (v33b a0))→(((Int.toNat d1:Nat):Int)) < (v33b a0)
 g16:(d1 < (v33b a0))→((v33a a0 d1) < a1)→(d1=(-1))→R 0 0=D.l ([]++a0)
 g17:(d1 < (v33b a0))→((v33a a0 d1) < a1)→(d1=(-1))→R 1 0=D.i 0
 g18:(d1 < (v33b a0))→((v33a a0 d1) < a1)→(¬d1=(-1))→vZ33 ((d1+1))
 g40:(d1 < (v33b a0))→(¬(v33a a0 d1) < a1)→(a2≤(v33a a0 d1))→(d1=(-1))→R 0 0=D.l ([]++a0)
 g41:(d1 < (v33b a0))→(¬(v33a a0 d1) < a1)→(a2≤(v33a a0 d1))→(d1=(-1))→R 1 0=D.i 0
 g42:(d1 < (v33b a0))→(¬(v33a a0 d1) < a1)→(a2≤(v33a a0 d1))→(¬d1=(-1))→vZ33 ((d1+1))
 g64:(d1 < (v33b a0))→(¬(v33a a0 d1) < a1)→(¬a2≤(v33a a0 d1))→vZ33 ((d1+1))
 n65:(d1 < (v33b a0))→(¬(v33a a0 d1) < a1)→(¬a2≤(v33a a0 d1))→I1 d0 (d1+1)∧m1 d0 (d1+1) < m1 d0 d1
 g66:(¬d1 < (v33b a0))→R 0 0=D.l ([]++a0)
 g67:(¬d1 < (v33b a0))→R 1 0=D.i 0
 l2:(d1 < (v33b a0))→((v33a a0 d1) < a1)→(¬d1=(-1))→V33l2 a0 a1 a2 R d1
 l3:(d1 < (v33b a0))→(¬(v33a a0 d1) < a1)→(a2≤(v33a a0 d1))→(¬d1=(-1))→V33l2 a0 a1 a2 R d1
abbrev V33l1 (a0:Rows) (a1:Int) (a2:Int) (R:Nat→Nat→D):Prop:=∃(I1:Int→Int→Prop) (m1:Int→Int→Nat),I1 0 0∧∀d0 d1,I1 d0 d1→V33c1 a0 a1 a2 R d0 d1 I1 m1
structure V33 (pre:Nat→List (List D)→Prop) (fn:Nat→List (List D)→Nat→Nat→D) (a0:Rows) (a1:Int) (a2:Int) (R:Nat→Nat→D):Prop where
 g0:pre 51 [[D.l a0]]
 g1:(¬(D.int (fn 51 [[D.l a0]] 0 0))=0)→R 0 0=D.l []
 g2:(¬(D.int (fn 51 [[D.l a0]] 0 0))=0)→R 1 0=D.i (D.int (fn 51 [[D.l a0]] 0 0))
 g3:((D.int (fn 51 [[D.l a0]] 0 0))=0)→(a2 < a1)→R 0 0=D.l []
 g4:((D.int (fn 51 [[D.l a0]] 0 0))=0)→(a2 < a1)→R 1 0=D.i 3
 g11:((D.int (fn 51 [[D.l a0]] 0 0))=0)→(¬a2 < a1)→((List.length ([]:Rows))+a0.length) * 16≤4294967296∧((List.length ([]:Rows))+a0.length)≤4294967296
 l0:((D.int (fn 51 [[D.l a0]] 0 0))=0)→(¬a2 < a1)→(a0.length≤0)→V33l0 R
 l1:((D.int (fn 51 [[D.l a0]] 0 0))=0)→(¬a2 < a1)→V33l1 a0 a1 a2 R
end HX

namespace HX
open Go Go.Proofs CX
def cutP (s:List (Int×Int)) (f t:Int):List (Int×Int):=s.filter fun x=>decide (f≤x.1∧x.1 < t)
def cutE (a:Rows) (f t:Int):Int:=if chkE a=0 then (if t < f then 3 else 0) else chkE a
def cutL (a:Rows) (f t:Int):Rows:=if chkE a=0∧¬t < f then unprs (cutP (prs a) f t) else []
theorem cut_snoc {s:List (Int×Int)} {m:Nat} (h:m < s.length) (f t:Int):cutP (s.take (m+1)) f t=cutP (s.take m) f t++(if f≤(s.getD m (0,0)).1∧(s.getD m (0,0)).1 < t then [s.getD m (0,0)] else []):=by
 rw [take_snoc h,cutP,List.filter_append]
 congr 1
 simp only [List.filter_cons,List.filter_nil,decide_eq_true_eq]
theorem law33b {s:List (Int×Int)} {f t:Int} {R:Nat→Nat→D} (hn:s.length≤65536) (h0:R 0 0=.l (unprs (cutP s f t))) (h1:R 1 0=.i 0) {F:Nat} (hF:F < s.length) (hp:cutP (s.take F) f t=s.take F) (hk:¬(f≤(s.getD F (0,0)).1∧(s.getD F (0,0)).1 < t)):V33l2 (unprs s) f t R F:=by
 refine ⟨fun e0 e1 e2=>∃q p:Nat,e0=q∧e1=p∧q+1≤p∧p≤s.length∧e2.length=s.length∧(∀i,p≤i→e2[i]?=(unprs s)[i]?)∧e2.take q=unprs (cutP (s.take p) f t),fun _ e1 e2=>(e2.length - e1).toNat,⟨F,F+1,rfl,rfl,by omega,by omega,by rw [List.nil_append,un_len],fun i _=>rfl,?_⟩,?_⟩
 ·rw [List.nil_append,cut_snoc hF,if_neg hk,List.append_nil,hp,un_take]
 rintro e0 e1 e2 ⟨q,p,rfl,rfl,i1,i2,i3,i4,i5⟩
 have hi:∀n:Int,(D.i n).int=n:=fun _=>rfl
 have key:p < s.length→gt e2 p 0=.i (s.getD p (0,0)).1∧gt e2 p 1=.i (s.getD p (0,0)).2:=fun h=>gt_of ((i4 p (Nat.le_refl _)).trans (un_get h))
 constructor
 all_goals (try simp only [v33c,Int.toNat_natCast])
 case n24=>
  intro hx hc
  rw [(key (by omega)).1,hi] at hc
  refine ⟨⟨q,p+1,rfl,by omega,by omega,by omega,i3,fun i h=>i4 i (by omega),?_⟩,by omega⟩
  rw [cut_snoc (by omega),if_neg (by omega),List.append_nil];exact i5
 case n32=>
  intro hx _ hc
  rw [(key (by omega)).1,hi] at hc
  refine ⟨⟨q,p+1,rfl,by omega,by omega,by omega,i3,fun i h=>i4 i (by omega),?_⟩,by omega⟩
  rw [cut_snoc (by omega),if_neg (by omega),List.append_nil];exact i5
 case n30=>
  intro hx hc hc2
  rw [(key (by omega)).1,hi] at hc hc2
  rw [(key (by omega)).1,(key (by omega)).2]
  refine ⟨⟨q+1,p+1,by omega,by omega,by omega,by omega,by rw [List.length_set];exact i3,fun i h=>?_,?_⟩,by rw [List.length_set];omega⟩
  ·rw [List.getElem?_set_ne (by omega)]
   exact i4 i (by omega)
  ·rw [set_take (by omega),i5,cut_snoc (by omega),if_pos (by omega),un_app]
   rfl
 case g38=>
  intro hx
  have e:∀T:Rows,List.take q (List.drop 0 (List.take q (List.drop 0 e2)++T))=e2.take q:=fun T=>by
   rw [List.drop_zero,List.drop_zero,List.take_append_of_le_length (by rw [List.length_take];omega),List.take_take,Nat.min_self]
  rw [h0,e,i5,show p=s.length by omega,List.take_length]
 case g39=>intro _;exact h1
 case g37=>
  intro hx
  simp only [List.length_append,List.length_take,List.length_drop,List.length_replicate]
  omega
 all_goals (intros;(try unfold vZ33);(try omega))
theorem law33 {pre:Nat→List (List D)→Prop} {fn:Nat→List (List D)→Nat→Nat→D} (hp51:∀x,pre 51 x) (hf51:∀l,fn 51 [[.l l]] 0 0=.i (chkE l)) {a0:Rows} (hcan:Can a0) {f t:Int} {R:Nat→Nat→D} (h0:R 0 0=.l (cutL a0 f t)) (h1:R 1 0=.i (cutE a0 f t)) :
  V33 pre fn a0 f t R:=by
 have hi:∀n:Int,(D.i n).int=n:=fun _=>rfl
 obtain ⟨s,rfl⟩:∃s,a0=unprs s:=⟨prs a0,(can_un hcan).symm⟩
 have ok:chkE (unprs s)=0→¬t < f→s.length≤65536∧R 0 0=.l (unprs (cutP s f t))∧R 1 0=.i 0:=fun c h=>by
  refine ⟨?_,?_,?_⟩
  ·have:=(chk_ev c).1
   rw [un_len] at this;exact this
  ·rw [h0,cutL,if_pos ⟨c,h⟩,prs_un]
  ·rw [h1,cutE,if_pos c,if_neg h]
 constructor
 all_goals (try simp only [hf51,hi])
 case g0=>exact hp51 _
 case g1=>intro h;rw [h0,cutL,if_neg fun x=>h x.1]
 case g2=>intro h;rw [h1,cutE,if_neg h]
 case g3=>intro _ h;rw [h0,cutL,if_neg fun x=>x.2 h]
 case g4=>intro c h;rw [h1,cutE,if_pos c,if_pos h]
 case g11=>
  intro c h
  have:=(ok c h).1
  rw [un_len,List.length_nil]
  omega
 case l0=>
  intro c h hl
  obtain ⟨k1,k2,k3⟩:=ok c h
  rw [un_len] at hl
  have:s=[]:=List.length_eq_zero_iff.1 (by omega)
  subst this
  refine ⟨fun _ b1=>b1=0,fun _ _=>0,rfl,?_⟩
  rintro b0 b1 rfl
  exact ⟨fun h=>by omega,fun _=>k2,fun _=>k3⟩
 case l1=>
  intro c h
  obtain ⟨k1,k2,k3⟩:=ok c h
  refine ⟨fun _ d1=>∃F:Nat,d1=F∧F≤s.length∧cutP (s.take F) f t=s.take F,fun _ d1=>(s.length - d1).toNat,⟨0,rfl,Nat.zero_le _,by rw [List.take_zero];rfl⟩,?_⟩
  rintro d0 d1 ⟨F,rfl,j1,j2⟩
  have key:F < s.length→gt ([]++unprs s) F 0=.i (s.getD F (0,0)).1:=fun h=>by rw [List.nil_append];exact (un_gt h).1
  have vl:([]++unprs s).length=s.length:=by rw [List.nil_append,un_len]
  constructor
  all_goals (try simp only [v33a,v33b,Int.toNat_natCast,vl])
  case n65=>
   intro hx hc hc2
   rw [key (by omega),hi] at hc hc2
   refine ⟨⟨F+1,by omega,by omega,?_⟩,by omega⟩
   rw [cut_snoc (by omega),if_pos (by omega),j2,take_snoc (by omega)]
  case l2=>
   intro hx hc _
   rw [key (by omega),hi] at hc
   exact law33b k1 k2 k3 (by omega) j2 (by omega)
  case l3=>
   intro hx _ hc _
   rw [key (by omega),hi] at hc
   exact law33b k1 k2 k3 (by omega) j2 (by omega)
  case g66=>
   intro hx
   have e:F=s.length:=by omega
   rw [e,List.take_length] at j2
   rw [k2,j2,List.nil_append]
  case g67=>intro _;exact k3
  all_goals (intros;(try unfold vZ33);(try omega))
theorem chkG_of {l:Rows} (h:EvOk' l):∀f,f≤l.length→chkG l f=0
 |0,_=>rfl
 |f+1,hf=>by
  have e:folE (l.take (l.length - (f+1))) (eT l (l.length - (f+1))) (eI l (l.length - (f+1)))=0:=by
   refine folE_of (h.rt _ (by omega)) (h.ri _ (by omega)) fun hp=>?_
   have lt:(l.take (l.length - (f+1))).length=l.length - (f+1):=by rw [List.length_take];omega
   rw [lt] at hp ⊢
   unfold eT eI
   rw [gt_take (by omega),gt_take (by omega)]
   exact ev_lt h _ (by omega) (by omega)
  rw [chkG,if_pos e]
  exact chkG_of h f (by omega)
theorem chk0_of {l:Rows} (h:EvOk' l) (hl:l.length≤65536):chkE l=0:=by rw [chkE,if_neg (by omega),chkG_of h _ (Nat.le_refl _)]
theorem Ok2.chk {s:List (Int×Int)} (h:Ok2 s) (hl:s.length≤65536):chkE (unprs s)=0:=chk0_of h.ev (by rw [un_len];exact hl)
theorem mrg_un {p q:List (Int×Int)} (hp:Ok2 p) (hq:Ok2 q) (h1:p.length≤65536) (h2:q.length≤65536):mrgL (unprs p) (unprs q)=unprs (mg p q)∧mrgE (unprs p) (unprs q)=0:=by
 have c1:=hp.chk h1
 have c2:=hq.chk h2
 exact ⟨by rw [mrgL,if_pos ⟨c1,c2⟩,prs_un,prs_un],by rw [mrgE,if_pos c1,c2]⟩
theorem cut_un {p:List (Int×Int)} (hp:Ok2 p) (h1:p.length≤65536) {f t:Int} (h:f≤t):cutL (unprs p) f t=unprs (cutP p f t)∧cutE (unprs p) f t=0:=by
 have c1:=hp.chk h1
 exact ⟨by rw [cutL,if_pos ⟨c1,by omega⟩,prs_un],by rw [cutE,if_pos c1,if_neg (by omega)]⟩
theorem cut_ok {p:List (Int×Int)} (hp:Ok2 p) (f t:Int):Ok2 (cutP p f t):=⟨hp.up.filter _,fun x hx=>hp.rg x (List.mem_filter.1 hx).1⟩
theorem cut_len (p:List (Int×Int)) (f t:Int):(cutP p f t).length≤p.length:=List.length_filter_le _ _
theorem cut_mem {p:List (Int×Int)} {f t:Int} {x:Int×Int}:x∈cutP p f t↔x∈p∧f≤x.1∧x.1 < t:=by
 rw [cutP,List.mem_filter,decide_eq_true_iff]
theorem mg_ok2 {p q:List (Int×Int)} (hp:Ok2 p) (hq:Ok2 q):Ok2 (mg p q):=⟨(mg_ok p q).1,fun x hx=>(((mg_ok p q).2 x).1 hx).elim (hp.rg x) (hq.rg x)⟩
theorem parts {p:List (Int×Int)} (hp:Ok2 p) {lo hi:Int} (_:0≤lo) (h1:lo≤hi):mg (mg (cutP p lo hi) (cutP p hi 1073741825)) (cutP p 0 lo)=p:=by
 refine srt_uniq _ _ (mg_ok _ _).1 hp.up fun x=>?_
 rw [(mg_ok _ _).2,(mg_ok _ _).2,cut_mem,cut_mem,cut_mem]
 constructor
 ·rintro ((h |h) |h)<;>exact h.1
 ·intro h
  have:=(hp.rg x h).1
  by_cases a:x.1 < lo
  ·exact .inr ⟨h,by omega,a⟩
  ·by_cases b:x.1 < hi
   ·exact .inl (.inl ⟨h,by omega,b⟩)
   ·exact .inl (.inr ⟨h,by omega,by omega⟩)
end HX

namespace HX
open Go Go.Proofs CX
end HX

namespace HX
open Go Go.Proofs CX
noncomputable def stmG (l:Rows) (M:Int):Nat→Int→Int→Rows→Rows
 |0,_,_,out=>out
 |f+1,id,t,out=>
  let g:=Int.tmod (gt l (l.length - (f+1)) 0).int M
  let c:=(gt l (l.length - (f+1)) 1).int
  if g=0∧(id+1)+Int.tmod c 100≤65535 then
   (if 1073741824 < t then out else stmG l M f (id+(1+Int.tmod c 100)) t (out++[[.i t,.i (id+(1+Int.tmod c 100))]]))
  else (if 1073741824 < t+mxI 1 g then out else stmG l M f (Int.tmod c 65536) (t+mxI 1 g) (out++[[.i (t+mxI 1 g),.i (Int.tmod c 65536)]]))
noncomputable def strm (l:Rows) (m:Int):Rows:=stmG l (Ar.std.wrap .u32 (m+1)) l.length (-1) 0 []
def u32L (l:Rows):Prop:=∀i,i < l.length→(0≤(gt l i 0).int∧(gt l i 0).int≤4294967295)∧0≤(gt l i 1).int∧(gt l i 1).int≤4294967295
theorem wrapU32 {n:Int} (h1:0≤n) (h2:n≤4294967295):Ar.std.wrap .u32 n=n:=by
 show IntKind.wrap .u32 n=n
 simp [IntKind.wrap,IntKind.bits,IntKind.signed];omega
theorem tmod_bd {x M:Int} (h:0≤x) (hM:0 < M):0≤Int.tmod x M∧Int.tmod x M < M:=by
 rw [Int.tmod_eq_emod_of_nonneg h]
 exact ⟨Int.emod_nonneg _ (by omega),Int.emod_lt_of_pos _ hM⟩
theorem mx1 (g:Int):1≤mxI 1 g∧g≤mxI 1 g∧(mxI 1 g=1∨mxI 1 g=g):=by
 have:mxI 1 g=if 1 < g then g else 1:=rfl
 rw [this];split<;>omega
theorem law38 {l:Rows} {m:Int} (hu:u32L l) (hl:l.length≤1000) (h0:0≤m) (h1:m≤4000000000) {R:Nat→Nat→D} (hR:R 0 0=.l (strm l m)) :
  V38 l m R (fun id t out i=>∃f:Nat,f≤l.length∧i=(l.length - f:Nat)∧stmG l (Ar.std.wrap .u32 (m+1)) f id t out=strm l m∧(-1≤id∧id≤65535)∧(0≤t∧t≤1073741824)∧out.length+f≤l.length) (fun _ _ _ i=>(l.length - i).toNat):=by
 obtain ⟨M,hM⟩:∃M,Ar.std.wrap .u32 (m+1)=M:=⟨_,rfl⟩
 have hM':M=m+1:=by rw [←hM];exact wrapU32 (by omega) (by omega)
 constructor
 all_goals (try simp only [hM])
 case i0=>exact ⟨l.length,Nat.le_refl _,by omega,by rw [strm,hM],by omega,by omega,by simp⟩
 all_goals (intro id t out i hI;obtain ⟨f,hf,hq,hs,hid,ht,ho⟩:=hI;subst hq;(try simp only [Int.toNat_natCast]);intro hx)
 case g32=>
  obtain rfl:f=0:=by omega
  rw [hR,←hs,stmG]
 all_goals (obtain ⟨g,rfl⟩:∃g,f=g+1:=⟨f - 1,by omega⟩)
 all_goals (have hr:=hu (l.length - (g+1)) (by omega))
 all_goals (rw [stmG] at hs;(try simp only [] at hs))
 all_goals (generalize (gt l (l.length - (g+1)) 0).int=x at hr hs ⊢;generalize (gt l (l.length - (g+1)) 1).int=c at hr hs ⊢)
 all_goals (have bx:=tmod_bd hr.1.1 (show 0 < M by omega);have bc:=tmod_bd hr.2.1 (show (0:Int) < 100 by omega);have bd:=tmod_bd hr.2.1 (show (0:Int) < 65536 by omega);have mx:=mx1 (Int.tmod x M))
 all_goals (generalize Int.tmod x M=G at bx mx hs ⊢;generalize mxI 1 G=X at mx hs ⊢;generalize Int.tmod c 100=C at bc hs ⊢;generalize Int.tmod c 65536=E at bd hs ⊢)
 all_goals (try simp only [List.length_cons,List.length_nil])
 case g14=>intro h1 h2 h3;rw [if_pos ⟨h1,h2⟩,if_pos h3] at hs;rw [hR,hs]
 case n17=>intro h1 h2 h3;rw [if_pos ⟨h1,h2⟩,if_neg h3] at hs;exact ⟨⟨g,by omega,by omega,hs,by omega,ht,by simp only [List.length_append,List.length_cons,List.length_nil];omega⟩,by omega⟩
 case g21=>intro h1 h2 h3;rw [if_neg fun h=>h2 h.2,if_pos h3] at hs;rw [hR,hs]
 case n24=>intro h1 h2 h3;rw [if_neg fun h=>h2 h.2,if_neg h3] at hs;exact ⟨⟨g,by omega,by omega,hs,by omega,by omega,by simp only [List.length_append,List.length_cons,List.length_nil];omega⟩,by omega⟩
 case g28=>intro h1 h3;rw [if_neg fun h=>h1 h.1,if_pos h3] at hs;rw [hR,hs]
 case n31=>intro h1 h3;rw [if_neg fun h=>h1 h.1,if_neg h3] at hs;exact ⟨⟨g,by omega,by omega,hs,by omega,by omega,by simp only [List.length_append,List.length_cons,List.length_nil];omega⟩,by omega⟩
 all_goals (intros;omega)
structure Sm (out:Rows) (id t:Int):Prop where
 ev:EvOk' out
 can:Can out
 last:0 < out.length→eT out (out.length - 1)=t∧eI out (out.length - 1)=id
 none:out.length=0→id=-1∧t=0
 t0:0≤t
 i0:-1≤id
theorem Sm.push {out:Rows} {id t:Int} (h:Sm out id t) {t2 i2:Int} (ht:t2≤1073741824) (hi:0≤i2∧i2≤65535) (hn:t < t2∨(t=t2∧id < i2)):Sm (out++[[.i t2,.i i2]]) i2 t2:=by
 have:=h.t0
 have e:folE out t2 i2=0:=folE_of (by omega) hi fun hp=>by
  obtain ⟨a,b⟩:=h.last hp
  rw [a,b];exact hn
 have newT:eT (out++[[D.i t2,D.i i2]]) out.length=t2:=by unfold eT;rw [gtN];rfl
 have newI:eI (out++[[D.i t2,D.i i2]]) out.length=i2:=by unfold eI;rw [gtN];rfl
 have len:(out++[[D.i t2,D.i i2]]).length - 1=out.length:=by simp
 refine ⟨h.ev.push e,fun i hi=>?_,fun _=>by rw [len,newT,newI];exact ⟨rfl,rfl⟩,fun h=>by simp at h,by omega,by omega⟩
 by_cases c:i < out.length
 ·have a:=h.can i c
  rw [List.getElem_append_left c,a]
  unfold eT eI
  rw [gtA c,gtA c]
 ·have c:i=out.length:=by simp at hi;omega
  subst c
  rw [newT,newI]
  simp
theorem stm_ok {l:Rows} {M:Int} (hu:u32L l) (hM:0 < M):∀f id t out,f≤l.length→Sm out id t→out.length+f≤l.length→EvOk' (stmG l M f id t out)∧Can (stmG l M f id t out)∧(stmG l M f id t out).length≤l.length
 |0,_,_,out,_,h,ho=>⟨h.ev,h.can,ho⟩
 |f+1,id,t,out,hf,h,ho=>by
  have hr:=hu (l.length - (f+1)) (by omega)
  have i0:=h.i0
  rw [stmG]
  generalize (gt l (l.length - (f+1)) 0).int=x at hr ⊢
  generalize (gt l (l.length - (f+1)) 1).int=c at hr ⊢
  have bx:=tmod_bd hr.1.1 hM
  have bc:=tmod_bd hr.2.1 (show (0:Int) < 100 by omega)
  have bd:=tmod_bd hr.2.1 (show (0:Int) < 65536 by omega)
  have mx:=mx1 (Int.tmod x M)
  have same:EvOk' out∧Can out∧out.length≤l.length:=⟨h.ev,h.can,by omega⟩
  split
  ·rename_i h1
   split
   ·exact same
   ·exact stm_ok hu hM f _ _ _ (by omega) (h.push (by omega) (by omega) (by omega)) (by simp only [List.length_append,List.length_cons,List.length_nil];omega)
  ·split
   ·exact same
   ·exact stm_ok hu hM f _ _ _ (by omega) (h.push (by omega) (by omega) (by omega)) (by simp only [List.length_append,List.length_cons,List.length_nil];omega)
theorem strm_ok {l:Rows} (hu:u32L l) {m:Int} (h0:0≤m) (h1:m≤4000000000):EvOk' (strm l m)∧Can (strm l m)∧(strm l m).length≤l.length:=by
 rw [strm,wrapU32 (by omega) (by omega)]
 exact stm_ok hu (by omega) _ _ _ _ (Nat.le_refl _) ⟨ev_nil,fun i h=>by simp at h,fun h=>by simp at h,fun _=>⟨rfl,rfl⟩,by omega,by omega⟩ (by simp)
end HX

namespace HX
open Go CX
theorem dEq_true {a b:D} (h:dEq a b=true):a=b:=by
 cases a<;>cases b<;>simp_all [dEq]
theorem kEqF_iff:∀(ks:List D) (f:Nat→D) (c:Nat),kEqF ks f c=true↔∀j,j < ks.length→dEq (f (c+j)) (ks.getD j .nil)=true
 |[],f,c=>⟨fun _ j hj=>by simp at hj,fun _=>rfl⟩
 |k :: ks,f,c=>by
  simp only [kEqF,Bool.and_eq_true,kEqF_iff ks f (c+1)]
  constructor
  ·rintro ⟨h1,h2⟩ j hj
   cases j with
   |zero=>simpa using h1
   |succ j=>have:=h2 j (by simpa using hj);rw [show c+1+j=c+(j+1) by omega] at this;simpa using this
  ·intro h
   refine ⟨by simpa using h 0 (by simp),fun j hj=>?_⟩
   have:=h (j+1) (by simpa using hj)
   rw [show c+(j+1)=c+1+j by omega] at this
   simpa using this
def gk (k:List D):Prop:=∀j,j < k.length→dEq (k.getD j .nil) (k.getD j .nil)=true
theorem kEq_same {k k' v r:List D} (h:kEq k r=true) (hl:k'.length=k.length):kEq k' r=kEq k' (k++v):=by
 have h:=(kEqF_iff _ _ _).1 h
 rw [Bool.eq_iff_iff]
 refine (kEqF_iff _ _ _).trans (Iff.trans ?_ (kEqF_iff _ _ _).symm)
 have e:∀j,j < k'.length→r.getD (0+j) .nil=(k++v).getD (0+j) .nil:=fun j hj=>by
  have:r.getD (0+j) .nil=k.getD j .nil:=dEq_true (h j (by omega))
  rw [this,Nat.zero_add,List.getD_eq_getElem?_getD,List.getD_eq_getElem?_getD,List.getElem?_append_left (by omega)]
 constructor
 ·intro q j hj;have:=q j hj;rwa [e j hj] at this
 ·intro q j hj;have:=q j hj;rwa [←e j hj] at this
theorem kEq_both {k k' r:List D} (h:kEq k' r=true) (hl:k'.length=k.length) (hk:gk k) {v:List D} (h2:kEq k' (k++v)=true):kEq k r=true:=by
 have a:=(kEqF_iff _ _ _).1 h
 have b:=(kEqF_iff _ _ _).1 h2
 refine (kEqF_iff _ _ _).2 fun j hj=>?_
 have a:r.getD (0+j) .nil=k'.getD j .nil:=dEq_true (a j (by omega))
 have b:(k++v).getD (0+j) .nil=k'.getD j .nil:=dEq_true (b j (by omega))
 show dEq (r.getD (0+j) .nil) _=true
 have e:(k++v).getD (0+j) .nil=k.getD j .nil:=by rw [Nat.zero_add,List.getD_eq_getElem?_getD,List.getD_eq_getElem?_getD,List.getElem?_append_left hj]
 rw [a,←b,e]
 exact hk j hj
theorem mfnd_set {k k' v:List D} (hk:gk k) (hl:k'.length=k.length):∀l:Rows,mfnd k' (msetR k v l)=if kEq k' (k++v) then some (k++v) else mfnd k' l
 |[]=>rfl
 |r :: l=>by
  simp only [msetR]
  by_cases c:kEq k r=true
  ·rw [if_pos c]
   simp only [mfnd]
   by_cases d:kEq k' (k++v)=true
   ·rw [if_pos d,if_pos d]
   ·rw [if_neg d,if_neg d,if_neg]
    rwa [kEq_same (v:=v) c hl]
  ·rw [if_neg c]
   simp only [mfnd]
   rw [mfnd_set hk hl l]
   by_cases d:kEq k' r=true
   ·rw [if_pos d,if_neg,if_pos d]
    exact fun e=>c (kEq_both d hl hk e)
   ·rw [if_neg d,if_neg d]
theorem mset_len {k v:List D}:∀l:Rows,(msetR k v l).length=if mhasR l k then l.length else l.length+1
 |[]=>rfl
 |r :: l=>by
  have e:mhasR (r :: l) k=if kEq k r=true then true else mhasR l k:=by
   unfold mhasR;simp only [mfnd];split<;>rfl
  rw [e]
  simp only [msetR]
  by_cases c:kEq k r=true
  ·simp only [c,if_true,List.length_cons]
  ·simp only [c,Bool.false_eq_true,if_false,List.length_cons,mset_len (k:=k) (v:=v) l]
   split<;>rfl
theorem gk2 (a b:Int):gk [.i a,.i b]:=fun j hj=>by
 have:j=0∨j=1:=by simp at hj;omega
 rcases this with rfl |rfl<;>simp [dEq]
theorem kEq2 (a b c d:Int) (v:List D):kEq [.i c,.i d] ([.i a,.i b]++v)=decide (a=c∧b=d):=by
 simp [kEq,kEqF,dEq]
theorem has2 (a b c d:Int) (v:List D) (l:Rows):mhasR (msetR [.i a,.i b] v l) [.i c,.i d]=true↔(a=c∧b=d)∨mhasR l [.i c,.i d]=true:=by
 unfold mhasR
 rw [mfnd_set (k':=[.i c,.i d]) (gk2 a b) rfl,kEq2]
 by_cases h:a=c∧b=d<;>simp [h]
theorem get2 (a b c d:Int) (v z:D) (l:Rows):mgetR (msetR [.i a,.i b] [v] l) [.i c,.i d] 0 z=if a=c∧b=d then v else mgetR l [.i c,.i d] 0 z:=by
 unfold mgetR
 rw [mfnd_set (k':=[.i c,.i d]) (gk2 a b) rfl,kEq2]
 by_cases h:a=c∧b=d
 ·simp [h]
 ·simp [h]
theorem has_nil (k:List D):mhasR [] k=false:=rfl
end HX
