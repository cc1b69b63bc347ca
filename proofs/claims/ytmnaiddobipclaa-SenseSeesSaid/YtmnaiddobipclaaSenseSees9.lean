/-
  Texts of the executors: PkX, PkY, PkW, HxMapL, V36, SaD, V21, SaC, SaE, SaF, V52, SaG, V46, V14, SlD, SlE, V48, V49, V59, V20, V55, SvD, V18, SlF, V35, SlG, SlH, V16.
-/
import Derived.Test.YtmnaiddobipclaaSenseSees8
set_option linter.all false
namespace HX
open Go Go.Proofs CX
def Can (l:Rows):Prop:=∀i,(h:i < l.length)→l[i]=[.i (eT l i),.i (eI l i)]
end HX

namespace HX
open Go Go.Proofs CX
theorem chk_of:∀{l:Rows},chkE l=0→l.length≤65536:=by
 intro l h
 rw [chkE] at h
 split at h<;>omega
section
variable {l:Rows} (h:EvOk' l) (hc:Can l) (hl:l.length≤255)
include h hc hl
end
end HX

namespace HX
open Go Go.Proofs CX
theorem chkG_all {l:Rows}:∀f,f≤l.length→chkG l f=0→∀j,l.length - f≤j→j < l.length→folE (l.take j) (eT l j) (eI l j)=0
 |0,_,_,j,h1,h2=>by omega
 |f+1,hf,h,j,h1,h2=>by
  rw [chkG] at h
  split at h
  ·rename_i h3
   by_cases e:j=l.length - (f+1)
   ·rw [e];exact h3
   ·exact chkG_all f (by omega) h j (by omega) h2
  ·rename_i h3;exact absurd h h3
theorem chk_ev {l:Rows} (h:chkE l=0):l.length≤65536∧EvOk' l:=by
 have hl:=chk_of h
 rw [chkE,if_neg (by omega)] at h
 have all:=fun j hj=>folE_0 (chkG_all l.length (Nat.le_refl _) h j (by omega) hj)
 refine ⟨hl,fun i hi=>(all i hi).1,fun i hi=>(all i hi).2.1,fun i hi=>?_⟩
 have:=(all (i+1) hi).2.2
 have lt:(l.take (i+1)).length=i+1:=by rw [List.length_take];omega
 rw [lt,Nat.add_sub_cancel] at this
 have:=this (by omega)
 unfold eT eI at this ⊢
 rw [gt_take (by omega),gt_take (by omega)] at this
 exact this
end HX

namespace HX
open Go CX
theorem dEq_true {a b:D} (h:dEq a b=true):a=b:=by
 cases a<;>cases b<;>simp_all [dEq]
theorem kEqF_iff:∀(ks:List D) (f:Nat→D) (c:Nat),kEqF ks f c=true↔∀j,j < ks.length→dEq (f (c+j)) (ks.getD j .nil)=true
 |[],f,c=>⟨fun _ j hj=>by simp at hj,fun _=>rfl⟩
 |k :: ks,f,c=>by
  simp only [kEqF,Bool.and_eq_true,kEqF_iff ks f (c+1)]
  constructor
  ·rintro ⟨h1,h2⟩ j hj
   cases j with
   |zero=>simpa using h1
   |succ j=>have:=h2 j (by simpa using hj);rw [show c+1+j=c+(j+1) by omega] at this;simpa using this
  ·intro h
   refine ⟨by simpa using h 0 (by simp),fun j hj=>?_⟩
   have:=h (j+1) (by simpa using hj)
   rw [show c+(j+1)=c+1+j by omega] at this
   simpa using this
def gk (k:List D):Prop:=∀j,j < k.length→dEq (k.getD j .nil) (k.getD j .nil)=true
theorem kEq_same {k k' v r:List D} (h:kEq k r=true) (hl:k'.length=k.length):kEq k' r=kEq k' (k++v):=by
 have h:=(kEqF_iff _ _ _).1 h
 rw [Bool.eq_iff_iff]
 refine (kEqF_iff _ _ _).trans (Iff.trans ?_ (kEqF_iff _ _ _).symm)
 have e:∀j,j < k'.length→r.getD (0+j) .nil=(k++v).getD (0+j) .nil:=fun j hj=>by
  have:r.getD (0+j) .nil=k.getD j .nil:=dEq_true (h j (by omega))
  rw [this,Nat.zero_add,List.getD_eq_getElem?_getD,List.getD_eq_getElem?_getD,List.getElem?_append_left (by omega)]
 constructor
 ·intro q j hj;have:=q j hj;rwa [e j hj] at this
 ·intro q j hj;have:=q j hj;rwa [←e j hj] at this
theorem kEq_both {k k' r:List D} (h:kEq k' r=true) (hl:k'.length=k.length) (hk:gk k) {v:List D} (h2:kEq k' (k++v)=true):kEq k r=true:=by
 have a:=(kEqF_iff _ _ _).1 h
 have b:=(kEqF_iff _ _ _).1 h2
 refine (kEqF_iff _ _ _).2 fun j hj=>?_
 have a:r.getD (0+j) .nil=k'.getD j .nil:=dEq_true (a j (by omega))
 have b:(k++v).getD (0+j) .nil=k'.getD j .nil:=dEq_true (b j (by omega))
 show dEq (r.getD (0+j) .nil) _=true
 have e:(k++v).getD (0+j) .nil=k.getD j .nil:=by rw [Nat.zero_add,List.getD_eq_getElem?_getD,List.getD_eq_getElem?_getD,List.getElem?_append_left hj]
 rw [a,←b,e]
 exact hk j hj
theorem mfnd_set {k k' v:List D} (hk:gk k) (hl:k'.length=k.length):∀l:Rows,mfnd k' (msetR k v l)=if kEq k' (k++v) then some (k++v) else mfnd k' l
 |[]=>rfl
 |r :: l=>by
  simp only [msetR]
  by_cases c:kEq k r=true
  ·rw [if_pos c]
   simp only [mfnd]
   by_cases d:kEq k' (k++v)=true
   ·rw [if_pos d,if_pos d]
   ·rw [if_neg d,if_neg d,if_neg]
    rwa [kEq_same (v:=v) c hl]
  ·rw [if_neg c]
   simp only [mfnd]
   rw [mfnd_set hk hl l]
   by_cases d:kEq k' r=true
   ·rw [if_pos d,if_neg,if_pos d]
    exact fun e=>c (kEq_both d hl hk e)
   ·rw [if_neg d,if_neg d]
theorem gk1 (a:Int):gk [.i a]:=fun j hj=>by
 have:j=0:=by simpa using hj
 subst this;simp [dEq]
theorem kEq1 (a b:Int) (v:List D):kEq [.i b] ([.i a]++v)=decide (a=b):=by
 simp [kEq,kEqF,dEq]
theorem has1 (a b:Int) (v:List D) (l:Rows):mhasR (msetR [.i a] v l) [.i b]=true↔a=b∨mhasR l [.i b]=true:=by
 unfold mhasR
 rw [mfnd_set (k':=[.i b]) (gk1 a) rfl,kEq1]
 by_cases h:a=b<;>simp [h]
theorem get1 (a b:Int) (v z:D) (l:Rows):mgetR (msetR [.i a] [v] l) [.i b] 0 z=if a=b then v else mgetR l [.i b] 0 z:=by
 unfold mgetR
 rw [mfnd_set (k':=[.i b]) (gk1 a) rfl,kEq1]
 by_cases h:a=b
 ·simp [h]
 ·simp [h]
theorem has_nil (k:List D):mhasR [] k=false:=rfl
end HX

namespace HX
open Go Go.Proofs CX
end HX

namespace HX
open Go Go.Proofs CX
structure Ord (n:Int) (out:Rows) (t i:Int):Prop where
 ev:EvOk' out
 bd:∀j,j < out.length→(eT out j < t∨(eT out j=t∧eI out j < i))∧eI out j < n
theorem eA {out:Rows} {r:List D} {j:Nat} (h:j < out.length):eT (out++[r]) j=eT out j∧eI (out++[r]) j=eI out j:=by
 unfold eT eI;rw [gtA h,gtA h];exact ⟨rfl,rfl⟩
theorem eN {out:Rows} {t i:Int}:eT (out++[[.i t,.i i]]) out.length=t∧eI (out++[[.i t,.i i]]) out.length=i:=by
 unfold eT eI;rw [gtN,gtN];exact ⟨rfl,rfl⟩
theorem Ord.push {n:Int} {out:Rows} {t i:Int} (h:Ord n out t i) (ht:0≤t∧t≤1073741824) (hi:0≤i∧i≤65535) (hn:i < n):Ord n (out++[[.i t,.i i]]) t (i+1):=by
 refine ⟨h.ev.push (folE_of ht hi fun hp=>(h.bd _ (by omega)).1),fun j hj=>?_⟩
 by_cases c:j < out.length
 ·rw [(eA c).1,(eA c).2]
  have:=h.bd j c
  omega
 ·have:j=out.length:=by simp at hj;omega
  subst this
  rw [eN.1,eN.2]
  omega
theorem Ord.next {n:Int} {out:Rows} {t i:Int} (h:Ord n out t i):Ord n out t (i+1):=⟨h.ev,fun j hj=>by have:=h.bd j hj;omega⟩
theorem twoWH {w h:Int} (hw:1≤w∧w≤32) (hh:1≤h∧h≤32):1≤w * h∧w * h≤1024∧2 * w * h=2 * (w * h):=by
 have a:=Int.mul_le_mul hw.2 hh.2 (by omega) (by omega)
 have b:=Int.mul_le_mul hw.1 hh.1 (by omega) (by omega)
 exact ⟨by omega,by omega,Int.mul_assoc _ _ _⟩
end HX

namespace HX
open Go Go.Proofs CX
abbrev vZ21 (x:Int):=-9223372036854775808≤x∧x≤9223372036854775807
abbrev v21a (f0:Int) (e1:Int) (a1:Rows) (k1:Int):=(Int.tdiv (D.int (gt (List.take (f0.toNat - e1.toNat) (List.drop e1.toNat a1)) k1.toNat 1)) 2)
abbrev v21b (f0:Int) (e1:Int) (a1:Rows):=(List.take (f0.toNat - e1.toNat) (List.drop e1.toNat a1))
abbrev v21c (a0_0:Int) (f0:Int) (e1:Int) (a1:Rows) (k1:Int):=(mnI (a0_0 - 1) ((Int.tmod (v21a f0 e1 a1 k1) a0_0)+1))
abbrev v21d (fn:Nat→List (List D)→Nat→Nat→D) (a0_0:Int):=(D.boo (fn 50 [[D.i a0_0],[D.i 1],[D.i 32]] 0 0)=true)
abbrev v21e (fn:Nat→List (List D)→Nat→Nat→D) (a0_1:Int):=(D.boo (fn 50 [[D.i a0_1],[D.i 1],[D.i 32]] 0 0)=true)
structure V21c1 (pre:Nat→List (List D)→Prop) (fn:Nat→List (List D)→Nat→Nat→D) (a0_0:Int) (a0_1:Int) (a0_2:Int) (a1:Rows) (a2:Int) (d0:Int) (d1:Int) (I0:Bool→Prop) (I1:Int→Int→Prop) (m1:Int→Int→Nat):Prop where
 g28:(d1 < (a1.length:Int))→0≤d1
 g29:(d1 < (a1.length:Int))→d1 < (a1.length:Int)
 g30:(d1 < (a1.length:Int))→(((Int.toNat d1:Nat):Int)) < (a1.length:Int)
 g31:(d1 < (a1.length:Int))→pre 52 [[D.i a0_0,D.i a0_1,D.i a0_2]]
 g32:(d1 < (a1.length:Int))→vZ21 ((2 * (D.int (fn 52 [[D.i a0_0,D.i a0_1,D.i a0_2]] 0 0))))
 n33:(d1 < (a1.length:Int))→((2 * (D.int (fn 52 [[D.i a0_0,D.i a0_1,D.i a0_2]] 0 0)))≤(D.int (gt a1 d1.toNat 1)))→(0≤d1)→I0 true
 g34:(d1 < (a1.length:Int))→((2 * (D.int (fn 52 [[D.i a0_0,D.i a0_1,D.i a0_2]] 0 0)))≤(D.int (gt a1 d1.toNat 1)))→(¬0≤d1)→pre 50 [[D.i a2],[D.i 0],[D.i 100]]
 n35:(d1 < (a1.length:Int))→((2 * (D.int (fn 52 [[D.i a0_0,D.i a0_1,D.i a0_2]] 0 0)))≤(D.int (gt a1 d1.toNat 1)))→(¬0≤d1)→I0 (!(D.boo (fn 50 [[D.i a2],[D.i 0],[D.i 100]] 0 0)))
 g36:(d1 < (a1.length:Int))→(¬(2 * (D.int (fn 52 [[D.i a0_0,D.i a0_1,D.i a0_2]] 0 0)))≤(D.int (gt a1 d1.toNat 1)))→vZ21 ((d1+1))
 n37:(d1 < (a1.length:Int))→(¬(2 * (D.int (fn 52 [[D.i a0_0,D.i a0_1,D.i a0_2]] 0 0)))≤(D.int (gt a1 d1.toNat 1)))→I1 d0 (d1+1)∧m1 d0 (d1+1) < m1 d0 d1
 g39:(¬d1 < (a1.length:Int))→pre 50 [[D.i a2],[D.i 0],[D.i 100]]
 n40:(¬d1 < (a1.length:Int))→I0 (!(D.boo (fn 50 [[D.i a2],[D.i 0],[D.i 100]] 0 0)))
abbrev V21l1 (pre:Nat→List (List D)→Prop) (fn:Nat→List (List D)→Nat→Nat→D) (a0_0:Int) (a0_1:Int) (a0_2:Int) (a1:Rows) (a2:Int) (I0:Bool→Prop):Prop:=∃(I1:Int→Int→Prop) (m1:Int→Int→Nat),I1 0 0∧∀d0 d1,I1 d0 d1→V21c1 pre fn a0_0 a0_1 a0_2 a1 a2 d0 d1 I0 I1 m1
structure V21r0 (pre:Nat→List (List D)→Prop) (fn:Nat→List (List D)→Nat→Nat→D) (a0_0:Int) (a0_1:Int) (a0_2:Int) (a1:Rows) (a2:Int) (I0:Bool→Prop):Prop where
 l1:V21l1 pre fn a0_0 a0_1 a0_2 a1 a2 I0
structure V21r4 (a1:Rows) (e1:Int) (f0:Int) (I4:Bool→Prop):Prop where
 g46:(f0 < (a1.length:Int))→0≤f0
 g47:(f0 < (a1.length:Int))→f0 < (a1.length:Int)
 g48:(f0 < (a1.length:Int))→(((Int.toNat f0:Nat):Int)) < (a1.length:Int)
 g49:(f0 < (a1.length:Int))→0≤e1
 g50:(f0 < (a1.length:Int))→e1 < (a1.length:Int)
 g51:(f0 < (a1.length:Int))→(((Int.toNat e1:Nat):Int)) < (a1.length:Int)
 n52:(f0 < (a1.length:Int))→I4 (decide ((D.int (gt a1 f0.toNat 0))=(D.int (gt a1 e1.toNat 0))))
 n53:(¬f0 < (a1.length:Int))→I4 false
structure V21c7 (a0_0:Int) (a1:Rows) (a2:Int) (e1:Int) (f0:Int) (f1:Rows) (k1:Int) (o0:Int) (o1:Bool) (q0:Int) (q1:Bool) (I6:Int→Bool→Prop) (m6:Int→Bool→Nat) (I7:Int→Bool→Prop) (m7:Int→Bool→Nat):Prop where
 g82:vZ21 ((a0_0 - 1))
 g83:vZ21 (((Int.tmod (v21a f0 e1 a1 k1) a0_0)+1))
 g84:(q0≤(v21c a0_0 f0 e1 a1 k1))→vZ21 ((o0 * a0_0))
 g85:(q0≤(v21c a0_0 f0 e1 a1 k1))→vZ21 (((o0 * a0_0)+q0))
 g86:(q0≤(v21c a0_0 f0 e1 a1 k1))→(¬((o0 * a0_0)+q0)=(v21a f0 e1 a1 k1))→(q1=true)→vZ21 ((q0+1))
 n87:(q0≤(v21c a0_0 f0 e1 a1 k1))→(¬((o0 * a0_0)+q0)=(v21a f0 e1 a1 k1))→(q1=true)→I7 (q0+1) true∧m7 (q0+1) true < m7 q0 q1
 g88:(q0≤(v21c a0_0 f0 e1 a1 k1))→(¬((o0 * a0_0)+q0)=(v21a f0 e1 a1 k1))→(q1=false)→(mhasR f1 [D.i ((o0 * a0_0)+q0)]=true)→vZ21 (((D.int (gt (v21b f0 e1 a1) k1.toNat 0)) - (D.int (mgetR f1 [D.i ((o0 * a0_0)+q0)] 0 (D.i 0)))))
 g89:(q0≤(v21c a0_0 f0 e1 a1 k1))→(¬((o0 * a0_0)+q0)=(v21a f0 e1 a1 k1))→(q1=false)→(mhasR f1 [D.i ((o0 * a0_0)+q0)]=true)→vZ21 ((q0+1))
 n90:(q0≤(v21c a0_0 f0 e1 a1 k1))→(¬((o0 * a0_0)+q0)=(v21a f0 e1 a1 k1))→(q1=false)→(mhasR f1 [D.i ((o0 * a0_0)+q0)]=true)→I7 (q0+1) (decide (((D.int (gt (v21b f0 e1 a1) k1.toNat 0)) - (D.int (mgetR f1 [D.i ((o0 * a0_0)+q0)] 0 (D.i 0))))≤a2))∧m7 (q0+1) (decide (((D.int (gt (v21b f0 e1 a1) k1.toNat 0)) - (D.int (mgetR f1 [D.i ((o0 * a0_0)+q0)] 0 (D.i 0))))≤a2)) < m7 q0 q1
 g91:(q0≤(v21c a0_0 f0 e1 a1 k1))→(¬((o0 * a0_0)+q0)=(v21a f0 e1 a1 k1))→(q1=false)→(mhasR f1 [D.i ((o0 * a0_0)+q0)]=false)→vZ21 ((q0+1))
 n92:(q0≤(v21c a0_0 f0 e1 a1 k1))→(¬((o0 * a0_0)+q0)=(v21a f0 e1 a1 k1))→(q1=false)→(mhasR f1 [D.i ((o0 * a0_0)+q0)]=false)→I7 (q0+1) false∧m7 (q0+1) false < m7 q0 q1
 g93:(q0≤(v21c a0_0 f0 e1 a1 k1))→(((o0 * a0_0)+q0)=(v21a f0 e1 a1 k1))→vZ21 ((q0+1))
 n94:(q0≤(v21c a0_0 f0 e1 a1 k1))→(((o0 * a0_0)+q0)=(v21a f0 e1 a1 k1))→I7 (q0+1) q1∧m7 (q0+1) q1 < m7 q0 q1
 g95:(¬q0≤(v21c a0_0 f0 e1 a1 k1))→vZ21 ((o0+1))
 n96:(¬q0≤(v21c a0_0 f0 e1 a1 k1))→I6 (o0+1) q1∧m6 (o0+1) q1 < m6 o0 o1
abbrev V21l7 (a0_0:Int) (a1:Rows) (a2:Int) (e1:Int) (f0:Int) (f1:Rows) (k1:Int) (o0:Int) (o1:Bool) (I6:Int→Bool→Prop) (m6:Int→Bool→Nat):Prop:=∃(I7:Int→Bool→Prop) (m7:Int→Bool→Nat),I7 (mxI 0 ((Int.tmod (v21a f0 e1 a1 k1) a0_0) - 1)) o1∧∀q0 q1,I7 q0 q1→V21c7 a0_0 a1 a2 e1 f0 f1 k1 o0 o1 q0 q1 I6 m6 I7 m7
structure V21c6 (a0_0:Int) (a0_1:Int) (a1:Rows) (a2:Int) (e1:Int) (f0:Int) (f1:Rows) (k0:Rows) (k1:Int) (o0:Int) (o1:Bool) (I5:Rows→Int→Prop) (m5:Rows→Int→Nat) (I6:Int→Bool→Prop) (m6:Int→Bool→Nat):Prop where
 g78:vZ21 ((a0_1 - 1))
 g79:vZ21 (((Int.tdiv (v21a f0 e1 a1 k1) a0_0)+1))
 g80:(o0≤(mnI (a0_1 - 1) ((Int.tdiv (v21a f0 e1 a1 k1) a0_0)+1)))→vZ21 (((Int.tmod (v21a f0 e1 a1 k1) a0_0) - 1))
 g97:(¬o0≤(mnI (a0_1 - 1) ((Int.tdiv (v21a f0 e1 a1 k1) a0_0)+1)))→(o1=true)→(k0.length+(List.length ([[D.i (D.int (gt (v21b f0 e1 a1) k1.toNat 0)),D.i (D.int (gt (v21b f0 e1 a1) k1.toNat 1))]]:Rows))) * 16≤4294967296∧(k0.length+(List.length ([[D.i (D.int (gt (v21b f0 e1 a1) k1.toNat 0)),D.i (D.int (gt (v21b f0 e1 a1) k1.toNat 1))]]:Rows)))≤4294967296
 g98:(¬o0≤(mnI (a0_1 - 1) ((Int.tdiv (v21a f0 e1 a1 k1) a0_0)+1)))→(o1=true)→vZ21 ((k1+1))
 n99:(¬o0≤(mnI (a0_1 - 1) ((Int.tdiv (v21a f0 e1 a1 k1) a0_0)+1)))→(o1=true)→I5 (k0++[[D.i (D.int (gt (v21b f0 e1 a1) k1.toNat 0)),D.i (D.int (gt (v21b f0 e1 a1) k1.toNat 1))]]) (k1+1)∧m5 (k0++[[D.i (D.int (gt (v21b f0 e1 a1) k1.toNat 0)),D.i (D.int (gt (v21b f0 e1 a1) k1.toNat 1))]]) (k1+1) < m5 k0 k1
 g100:(¬o0≤(mnI (a0_1 - 1) ((Int.tdiv (v21a f0 e1 a1 k1) a0_0)+1)))→(o1=false)→vZ21 ((k1+1))
 n101:(¬o0≤(mnI (a0_1 - 1) ((Int.tdiv (v21a f0 e1 a1 k1) a0_0)+1)))→(o1=false)→I5 k0 (k1+1)∧m5 k0 (k1+1) < m5 k0 k1
 l7:(o0≤(mnI (a0_1 - 1) ((Int.tdiv (v21a f0 e1 a1 k1) a0_0)+1)))→V21l7 a0_0 a1 a2 e1 f0 f1 k1 o0 o1 I6 m6
abbrev V21l6 (a0_0:Int) (a0_1:Int) (a1:Rows) (a2:Int) (e1:Int) (f0:Int) (f1:Rows) (k0:Rows) (k1:Int) (I5:Rows→Int→Prop) (m5:Rows→Int→Nat):Prop:=∃(I6:Int→Bool→Prop) (m6:Int→Bool→Nat),I6 (mxI 0 ((Int.tdiv (v21a f0 e1 a1 k1) a0_0) - 1)) false∧∀o0 o1,I6 o0 o1→V21c6 a0_0 a0_1 a1 a2 e1 f0 f1 k0 k1 o0 o1 I5 m5 I6 m6
structure V21c5 (a0_0:Int) (a0_1:Int) (a1:Rows) (a2:Int) (e0:Rows) (e1:Int) (e2:Rows) (f0:Int) (f1:Rows) (k0:Rows) (k1:Int) (I2:Rows→Int→Rows→Prop) (m2:Rows→Int→Rows→Nat) (I5:Rows→Int→Prop) (m5:Rows→Int→Nat):Prop where
 g68:(k1 < ((((v21b f0 e1 a1)).length:Int)))→0≤k1
 g69:(k1 < ((((v21b f0 e1 a1)).length:Int)))→k1 < ((((v21b f0 e1 a1)).length:Int))
 g70:(k1 < ((((v21b f0 e1 a1)).length:Int)))→(((Int.toNat k1:Nat):Int)) < ((((v21b f0 e1 a1)).length:Int))
 g71:(k1 < ((((v21b f0 e1 a1)).length:Int)))→(2:Int)≠0
 g72:(k1 < ((((v21b f0 e1 a1)).length:Int)))→vZ21 ((v21a f0 e1 a1 k1))
 g73:(k1 < ((((v21b f0 e1 a1)).length:Int)))→a0_0≠0
 g75:(k1 < ((((v21b f0 e1 a1)).length:Int)))→vZ21 ((Int.tdiv (v21a f0 e1 a1 k1) a0_0))
 g76:(k1 < ((((v21b f0 e1 a1)).length:Int)))→vZ21 (((Int.tdiv (v21a f0 e1 a1 k1) a0_0) - 1))
 n102:(¬k1 < ((((v21b f0 e1 a1)).length:Int)))→I2 k0 f0 f1∧m2 k0 f0 f1 < m2 e0 e1 e2
 l6:(k1 < ((((v21b f0 e1 a1)).length:Int)))→V21l6 a0_0 a0_1 a1 a2 e1 f0 f1 k0 k1 I5 m5
abbrev V21l5 (a0_0:Int) (a0_1:Int) (a1:Rows) (a2:Int) (e0:Rows) (e1:Int) (e2:Rows) (f0:Int) (f1:Rows) (I2:Rows→Int→Rows→Prop) (m2:Rows→Int→Rows→Nat):Prop:=∃(I5:Rows→Int→Prop) (m5:Rows→Int→Nat),I5 e0 0∧∀k0 k1,I5 k0 k1→V21c5 a0_0 a0_1 a1 a2 e0 e1 e2 f0 f1 k0 k1 I2 m2 I5 m5
structure V21c4 (a0_0:Int) (a0_1:Int) (a1:Rows) (a2:Int) (e0:Rows) (e1:Int) (e2:Rows) (f0:Int) (f1:Rows) (j0:Bool) (I2:Rows→Int→Rows→Prop) (m2:Rows→Int→Rows→Nat) (I3:Int→Rows→Prop) (m3:Int→Rows→Nat):Prop where
 g54:(j0=true)→0≤f0
 g55:(j0=true)→f0 < (a1.length:Int)
 g56:(j0=true)→(((Int.toNat f0:Nat):Int)) < (a1.length:Int)
 g57:(j0=true)→(2:Int)≠0
 g58:(j0=true)→vZ21 ((Int.tdiv (D.int (gt a1 f0.toNat 1)) 2))
 g62:(j0=true)→vZ21 ((f0+1))
 n63:(j0=true)→I3 (f0+1) (msetR [D.i (Int.tdiv (D.int (gt a1 f0.toNat 1)) 2)] [D.i (D.int (gt a1 f0.toNat 0))] f1)∧m3 (f0+1) (msetR [D.i (Int.tdiv (D.int (gt a1 f0.toNat 1)) 2)] [D.i (D.int (gt a1 f0.toNat 0))] f1) < m3 f0 f1
 g64:(j0=false)→0≤e1
 g65:(j0=false)→e1≤f0
 g66:(j0=false)→f0≤(a1.length:Int)
 l5:(j0=false)→V21l5 a0_0 a0_1 a1 a2 e0 e1 e2 f0 f1 I2 m2
abbrev V21j4 (a0_0:Int) (a0_1:Int) (a1:Rows) (a2:Int) (e0:Rows) (e1:Int) (e2:Rows) (f0:Int) (f1:Rows) (I2:Rows→Int→Rows→Prop) (m2:Rows→Int→Rows→Nat) (I3:Int→Rows→Prop) (m3:Int→Rows→Nat):Prop:=∃(I4:Bool→Prop),V21r4 a1 e1 f0 I4∧∀j0,I4 j0→V21c4 a0_0 a0_1 a1 a2 e0 e1 e2 f0 f1 j0 I2 m2 I3 m3
structure V21c3 (a0_0:Int) (a0_1:Int) (a1:Rows) (a2:Int) (e0:Rows) (e1:Int) (e2:Rows) (f0:Int) (f1:Rows) (I2:Rows→Int→Rows→Prop) (m2:Rows→Int→Rows→Nat) (I3:Int→Rows→Prop) (m3:Int→Rows→Nat):Prop where
 l4:V21j4 a0_0 a0_1 a1 a2 e0 e1 e2 f0 f1 I2 m2 I3 m3
abbrev V21l3 (a0_0:Int) (a0_1:Int) (a1:Rows) (a2:Int) (e0:Rows) (e1:Int) (e2:Rows) (I2:Rows→Int→Rows→Prop) (m2:Rows→Int→Rows→Nat):Prop:=∃(I3:Int→Rows→Prop) (m3:Int→Rows→Nat),I3 e1 e2∧∀f0 f1,I3 f0 f1→V21c3 a0_0 a0_1 a1 a2 e0 e1 e2 f0 f1 I2 m2 I3 m3
structure V21c2 (a0_0:Int) (a0_1:Int) (a1:Rows) (a2:Int) (R:Nat→Nat→D) (e0:Rows) (e1:Int) (e2:Rows) (I2:Rows→Int→Rows→Prop) (m2:Rows→Int→Rows→Nat):Prop where
 g103:(¬e1 < (a1.length:Int))→R 0 0=D.l e0
 g104:(¬e1 < (a1.length:Int))→R 1 0=D.i 0
 l3:(e1 < (a1.length:Int))→V21l3 a0_0 a0_1 a1 a2 e0 e1 e2 I2 m2
abbrev V21l2 (a0_0:Int) (a0_1:Int) (a1:Rows) (a2:Int) (R:Nat→Nat→D):Prop:=∃(I2:Rows→Int→Rows→Prop) (m2:Rows→Int→Rows→Nat),I2 [] 0 []∧∀e0 e1 e2,I2 e0 e1 e2→V21c2 a0_0 a0_1 a1 a2 R e0 e1 e2 I2 m2
structure V21c0 (a0_0:Int) (a0_1:Int) (a1:Rows) (a2:Int) (R:Nat→Nat→D) (b0:Bool):Prop where
 g41:(b0=true)→R 0 0=D.l []
 g42:(b0=true)→R 1 0=D.i 3
 l2:(b0=false)→V21l2 a0_0 a0_1 a1 a2 R
abbrev V21j0 (pre:Nat→List (List D)→Prop) (fn:Nat→List (List D)→Nat→Nat→D) (a0_0:Int) (a0_1:Int) (a0_2:Int) (a1:Rows) (a2:Int) (R:Nat→Nat→D):Prop:=∃(I0:Bool→Prop),V21r0 pre fn a0_0 a0_1 a0_2 a1 a2 I0∧∀b0,I0 b0→V21c0 a0_0 a0_1 a1 a2 R b0
structure V21 (pre:Nat→List (List D)→Prop) (fn:Nat→List (List D)→Nat→Nat→D) (a0_0:Int) (a0_1:Int) (a0_2:Int) (a1:Rows) (a2:Int) (R:Nat→Nat→D):Prop where
 g0:pre 50 [[D.i a0_0],[D.i 1],[D.i 32]]
 g1:(D.boo (fn 50 [[D.i a0_0],[D.i 1],[D.i 32]] 0 0)=false)→R 0 0=D.l []
 g2:(D.boo (fn 50 [[D.i a0_0],[D.i 1],[D.i 32]] 0 0)=false)→R 1 0=D.i 3
 g7:(v21d fn a0_0)→pre 50 [[D.i a0_1],[D.i 1],[D.i 32]]
 g8:(v21d fn a0_0)→(D.boo (fn 50 [[D.i a0_1],[D.i 1],[D.i 32]] 0 0)=false)→R 0 0=D.l []
 g9:(v21d fn a0_0)→(D.boo (fn 50 [[D.i a0_1],[D.i 1],[D.i 32]] 0 0)=false)→R 1 0=D.i 3
 g14:(v21d fn a0_0)→(v21e fn a0_1)→pre 50 [[D.i a0_2],[D.i 1],[D.i 128]]
 g15:(v21d fn a0_0)→(v21e fn a0_1)→(D.boo (fn 50 [[D.i a0_2],[D.i 1],[D.i 128]] 0 0)=false)→R 0 0=D.l []
 g16:(v21d fn a0_0)→(v21e fn a0_1)→(D.boo (fn 50 [[D.i a0_2],[D.i 1],[D.i 128]] 0 0)=false)→R 1 0=D.i 3
 g23:(v21d fn a0_0)→(v21e fn a0_1)→(D.boo (fn 50 [[D.i a0_2],[D.i 1],[D.i 128]] 0 0)=true)→pre 51 [[D.l a1]]
 g24:(v21d fn a0_0)→(v21e fn a0_1)→(D.boo (fn 50 [[D.i a0_2],[D.i 1],[D.i 128]] 0 0)=true)→(¬(D.int (fn 51 [[D.l a1]] 0 0))=0)→R 0 0=D.l []
 g25:(v21d fn a0_0)→(v21e fn a0_1)→(D.boo (fn 50 [[D.i a0_2],[D.i 1],[D.i 128]] 0 0)=true)→(¬(D.int (fn 51 [[D.l a1]] 0 0))=0)→R 1 0=D.i (D.int (fn 51 [[D.l a1]] 0 0))
 l0:(v21d fn a0_0)→(v21e fn a0_1)→(D.boo (fn 50 [[D.i a0_2],[D.i 1],[D.i 128]] 0 0)=true)→((D.int (fn 51 [[D.l a1]] 0 0))=0)→V21j0 pre fn a0_0 a0_1 a0_2 a1 a2 R
end HX

namespace HX
open Go Go.Proofs CX
def nearP (W p q:Int):Prop:=p≠q∧-1≤p % W - q % W∧p % W - q % W≤1∧-1≤p / W - q / W∧p / W - q / W≤1
def px (l:Rows) (k:Nat):Int:=eI l k / 2
def supP (W:Int) (l:Rows) (win:Int) (i:Nat):Prop:=∃k,k < l.length∧nearP W (px l i) (px l k)∧0≤eT l i - eT l k∧eT l i - eT l k≤win
open Classical in
noncomputable def clnN (W:Int) (l:Rows) (win:Int):Nat→Rows
 |0=>[]
 |i+1=>if supP W l win i then clnN W l win i++[[.i (eT l i),.i (eI l i)]] else clnN W l win i
open Classical in
noncomputable def clnE (w h s:Int) (l:Rows) (win:Int):Int:=
 if ¬(inB w 1 32=true∧inB h 1 32=true∧inB s 1 128=true) then 3 else if ¬chkE l=0 then chkE l else if (∃j,j < l.length∧2 * (w * h)≤eI l j)∨inB win 0 100=false then 3 else 0
open Classical in
noncomputable def clnR (w h s:Int) (l:Rows) (win:Int):Rows:=if clnE w h s l win=0 then clnN w l win l.length else []
theorem ev_mono {l:Rows} (h:EvOk' l) {a:Nat}:∀{b:Nat},a≤b→b < l.length→eT l a≤eT l b:=by
 intro b
 induction b with
 |zero=>intro h1 _;rw [show a=0 by omega];exact Int.le_refl _
 |succ b ih=>
  intro h1 h2
  by_cases c:a=b+1
  ·rw [c];exact Int.le_refl _
  ·have:=ih (by omega) (by omega)
   have:=h.up b h2
   omega
structure MapOk (l m:Rows) (F:Nat):Prop where
 has:∀q,mhasR m [.i q]=true↔∃k,k < F∧px l k=q
 top:∀k,k < F→eT l k≤(mgetR m [.i (px l k)] 0 (.i 0)).int
 one:∀q,mhasR m [.i q]=true→∃k,k < F∧px l k=q∧(mgetR m [.i q] 0 (.i 0)).int=eT l k
theorem MapOk.nil (l:Rows):MapOk l [] 0:=⟨fun q=>by simp [has_nil],fun k h=>by omega,fun q h=>by simp [has_nil] at h⟩
theorem MapOk.push {l m:Rows} {F:Nat} (h:MapOk l m F) (he:EvOk' l) (hF:F < l.length):MapOk l (msetR [.i (px l F)] [.i (eT l F)] m) (F+1):=by
 refine ⟨fun q=>?_,fun k hk=>?_,fun q hq=>?_⟩
 ·rw [has1,h.has]
  constructor
  ·rintro (rfl |⟨k,hk,rfl⟩)
   ·exact ⟨F,by omega,rfl⟩
   ·exact ⟨k,by omega,rfl⟩
  ·rintro ⟨k,hk,rfl⟩
   by_cases c:k=F
   ·subst c;exact .inl rfl
   ·exact .inr ⟨k,by omega,rfl⟩
 ·rw [get1]
  split
  ·exact ev_mono he (by omega) hF
  ·rename_i c
   exact h.top k (by have:k≠F:=fun e=>c (by rw [e]);omega)
 ·rw [has1] at hq
  rw [get1]
  split
  ·rename_i c;exact ⟨F,by omega,c,rfl⟩
  ·rename_i c
   obtain ⟨k,h1,h2,h3⟩:=h.one q (hq.resolve_left c)
   exact ⟨k,by omega,h2,h3⟩
end HX

namespace HX
open Go Go.Proofs CX
theorem dmod {w u v:Int} (h0:0≤u) (h1:u < w):(v * w+u) / w=v∧(v * w+u) % w=u:=by
 rw [Int.add_comm]
 refine ⟨?_,?_⟩
 ·rw [Int.add_mul_ediv_right _ _ (by omega),Int.ediv_eq_zero_of_lt h0 h1,Int.zero_add]
 ·rw [Int.add_mul_emod_self_right,Int.emod_eq_of_lt h0 h1]
def hitP (l m:Rows) (win:Int) (i:Nat) (q:Int):Prop:=mhasR m [.i q]=true∧eT l i - (mgetR m [.i q] 0 (.i 0)).int≤win
structure ClC (w h win:Int) (l m:Rows) (F G:Nat):Prop where
 hw:1≤w∧w≤32
 hh:1≤h∧h≤32
 hn:0≤win∧win≤100
 ev:EvOk' l
 len:l.length≤65536
 id:∀j,j < l.length→eI l j < 2 * (w * h)
 FG:F≤G∧G≤l.length∧F < l.length
 map:MapOk l m G
 eq:∀b,F≤b→b < G→eT l b=eT l F
 gt:∀b,G≤b→b < l.length→eT l F < eT l b
theorem px_bd {w h win:Int} {l m:Rows} {F G:Nat} (c:ClC w h win l m F G) {k:Nat} (hk:k < l.length):0≤px l k∧px l k < w * h∧px l k / w < h∧0≤px l k / w∧0≤px l k % w∧px l k % w < w:=by
 have a:=c.ev.ri k hk
 have b:=c.id k hk
 have hw:=c.hw
 have p0:0≤px l k:=by unfold px;omega
 have p1:px l k < w * h:=by unfold px;omega
 refine ⟨p0,p1,Int.ediv_lt_of_lt_mul (by omega) (by rw [Int.mul_comm h w];exact p1),Int.ediv_nonneg p0 (by omega),Int.emod_nonneg _ (by omega),Int.emod_lt_of_pos _ (by omega)⟩
def bxP (l m:Rows) (win:Int) (i:Nat) (w p v0 v u0 u1:Int):Prop:=∃v' u',v0≤v'∧v' < v∧u0≤u'∧u'≤u1∧v' * w+u'≠p∧hitP l m win i (v' * w+u')
def rwP (l m:Rows) (win:Int) (i:Nat) (w p v u0 u:Int):Prop:=∃u',u0≤u'∧u' < u∧v * w+u'≠p∧hitP l m win i (v * w+u')
section
variable {l m:Rows} {win:Int} {i:Nat} {w p v0 v u0 u1 u:Int}
theorem bxP_0 (h:v≤v0):¬bxP l m win i w p v0 v u0 u1:=fun ⟨v',u',h1,h2,_⟩=>by omega
theorem rwP_0 (h:u≤u0):¬rwP l m win i w p v u0 u:=fun ⟨u',h1,h2,_⟩=>by omega
theorem rwP_s (h:u0≤u):rwP l m win i w p v u0 (u+1)↔rwP l m win i w p v u0 u∨(v * w+u≠p∧hitP l m win i (v * w+u)):=by
 constructor
 ·rintro ⟨u',h1,h2,h3⟩
  by_cases e:u'=u
  ·subst e;exact .inr h3
  ·exact .inl ⟨u',h1,by omega,h3⟩
 ·rintro (⟨u',h1,h2,h3⟩ |h')
  ·exact ⟨u',h1,by omega,h3⟩
  ·exact ⟨u,h,by omega,h'⟩
theorem bxP_s (h:v0≤v):bxP l m win i w p v0 (v+1) u0 u1↔bxP l m win i w p v0 v u0 u1∨rwP l m win i w p v u0 (u1+1):=by
 constructor
 ·rintro ⟨v',u',q1,q2,q3,q4,q5⟩
  by_cases e:v'=v
  ·subst e;exact .inr ⟨u',q3,by omega,q5⟩
  ·exact .inl ⟨v',u',q1,by omega,q3,q4,q5⟩
 ·rintro (⟨v',u',q1,q2,q3⟩ |⟨u',q1,q2,q3⟩)
  ·exact ⟨v',u',q1,by omega,q3⟩
  ·exact ⟨v,u',h,by omega,q1,by omega,q3⟩
end
theorem box_iff {w h win:Int} {l m:Rows} {F G K:Nat} (c:ClC w h win l m F G) (hK:F+K < G) {v1 u0 u1 v0:Int} (e0:v0=max 0 (px l (F+K) / w - 1)) (e1:v1=min (h - 1) (px l (F+K) / w+1)) (e2:u0=max 0 (px l (F+K) % w - 1)) (e3:u1=min (w - 1) (px l (F+K) % w+1)) :
  bxP l m win (F+K) w (px l (F+K)) v0 (v1+1) u0 u1↔supP w l win (F+K):=by
 have cF:=c.FG
 have tF:=c.eq (F+K) (by omega) hK
 obtain ⟨p0,p1,p2,p3,p4,p5⟩:=px_bd c (k:=F+K) (by omega)
 constructor
 ·rintro ⟨v,u,h1,h2,h3,h4,h5,h6,h7⟩
  obtain ⟨k,k1,k2,k3⟩:=c.map.one _ h6
  obtain ⟨d1,d2⟩:=dmod (w:=w) (u:=u) (v:=v) (by omega) (by omega)
  have kt:eT l k≤eT l (F+K):=by
   by_cases hk:k < F
   ·rw [tF];exact ev_mono c.ev (by omega) (by omega)
   ·rw [tF,c.eq k (by omega) k1];exact Int.le_refl _
  refine ⟨k,by omega,⟨by rw [k2];exact Ne.symm h5,?_⟩,by omega,by omega⟩
  rw [k2,d1,d2]
  omega
 ·rintro ⟨k,k1,⟨n0,n1,n2,n3,n4⟩,k2,k3⟩
  have kG:k < G:=by
   by_cases hk:k < G
   ·exact hk
   ·have:=c.gt k (by omega) k1
    omega
  obtain ⟨q0,q1,q2,q3,q4,q5⟩:=px_bd c k1
  have e:px l k / w * w+px l k % w=px l k:=by rw [Int.mul_comm];exact Int.mul_ediv_add_emod _ _
  refine ⟨px l k / w,px l k % w,by omega,by omega,by omega,by omega,?_⟩
  rw [e]
  refine ⟨Ne.symm n0,(c.map.has _).2 ⟨k,kG,rfl⟩,?_⟩
  have:=c.map.top k kG
  omega
theorem l6_ok {w h win:Int} {l m:Rows} {F G K:Nat} (c:ClC w h win l m F G) (hK:F+K < G) {out:Rows} (ho:out.length≤65536) {I5:Rows→Int→Prop} {m5:Rows→Int→Nat}
  (ht:supP w l win (F+K)→I5 (out++[[.i (eT l (F+K)),.i (eI l (F+K))]]) ((K:Int)+1)∧m5 (out++[[.i (eT l (F+K)),.i (eI l (F+K))]]) ((K:Int)+1) < m5 out K)
  (hf:¬supP w l win (F+K)→I5 out ((K:Int)+1)∧m5 out ((K:Int)+1) < m5 out K):V21l6 w h l win (F:Int) (G:Int) m out (K:Int) I5 m5:=by
 have cF:=c.FG
 have hl:=c.len
 have hw:=c.hw
 have hh:=c.hh
 have hn:=c.hn
 obtain ⟨p0,p1,p2,p3,p4,p5⟩:=px_bd c (k:=F+K) (by omega)
 have bx:=@box_iff w h win l m F G K c hK
 have ti:=c.ev.rt (F+K) (by omega)
 have g0:∀j:Nat,gt (v21b (G:Int) (F:Int) l) (K:Int).toNat j=gt l (F+K) j:=fun j=>by
  simp only [v21b,Int.toNat_natCast]
  rw [gt_take (by omega),gt_drop]
 have gT:D.int (gt (v21b (G:Int) (F:Int) l) (K:Int).toNat 0)=eT l (F+K):=by rw [g0];rfl
 have gI:D.int (gt (v21b (G:Int) (F:Int) l) (K:Int).toNat 1)=eI l (F+K):=by rw [g0];rfl
 have ri:=c.ev.ri (F+K) (by omega)
 have ep:v21a (G:Int) (F:Int) l (K:Int)=px l (F+K):=by
  show Int.tdiv (D.int (gt (v21b (G:Int) (F:Int) l) (K:Int).toNat 1)) 2=_
  rw [gI,px]
  exact Int.tdiv_eq_ediv_of_nonneg ri.1
 have em:Int.tmod (px l (F+K)) w=px l (F+K) % w:=Int.tmod_eq_emod_of_nonneg p0
 have ed:Int.tdiv (px l (F+K)) w=px l (F+K) / w:=Int.tdiv_eq_ediv_of_nonneg p0
 have ec:v21c w (G:Int) (F:Int) l (K:Int)=min (w - 1) (px l (F+K) % w+1):=by
  show mnI (w - 1) (Int.tmod (v21a (G:Int) (F:Int) l (K:Int)) w+1)=_
  rw [ep,em,mnI_eq]
 have mb:∀q,mhasR m [.i q]=true→0≤(mgetR m [.i q] 0 (.i 0)).int∧(mgetR m [.i q] 0 (.i 0)).int≤1073741824:=fun q hq=>by
  obtain ⟨k,k1,_,k3⟩:=c.map.one q hq
  rw [k3]
  exact c.ev.rt k (by omega)
 unfold V21l6
 generalize hx:px l (F+K) % w=x at *
 generalize hy:px l (F+K) / w=y at *
 obtain ⟨v0,e0⟩:∃v0,v0=max 0 (y - 1):=⟨_,rfl⟩
 obtain ⟨v1,e1⟩:∃v1,v1=min (h - 1) (y+1):=⟨_,rfl⟩
 obtain ⟨u0,e2⟩:∃u0,u0=max 0 (x - 1):=⟨_,rfl⟩
 obtain ⟨u1,e3⟩:∃u1,u1=min (w - 1) (x+1):=⟨_,rfl⟩
 have bx:=bx e0 e1 e2 e3
 generalize hp:px l (F+K)=p at *
 refine ⟨fun v s=>v0≤v∧v≤v1+1∧(s=true↔bxP l m win (F+K) w p v0 v u0 u1),fun v _=>(v1+1 - v).toNat,⟨?_,?_,?_⟩,?_⟩
 ·rw [ep,ed,mxI_eq,e0];exact Int.le_refl _
 ·rw [ep,ed,mxI_eq,e1];omega
 ·rw [ep,ed,mxI_eq]
  rw [←e0]
  exact ⟨fun h=>(by cases h),fun h=>absurd h (bxP_0 (Int.le_refl _))⟩
 ·rintro v s ⟨hv0,hv1,hs⟩
  have dn:¬v≤v1→(s=true↔supP w l win (F+K)):=fun hv=>by
   rw [hs,←bx,show v=v1+1 by omega]
  constructor
  all_goals (try simp only [vZ21,ep,ed,em,mnI_eq,gT,gI,←e1,hx,hy])
  case g97=>intro _ _;simp only [List.length_cons,List.length_nil];omega
  case n99=>
   intro h1 h2
   exact ht ((dn h1).1 h2)
  case n101=>
   intro h1 h2
   exact hf fun h3=>by rw [(dn h1).2 h3] at h2;cases h2
  case l7=>
   intro hv
   have hB:=Int.mul_le_mul (show v≤31 by omega) hw.2 (by omega) (by omega)
   have hB0:=Int.mul_nonneg (show 0≤v by omega) (show 0≤w by omega)
   refine ⟨fun u s=>u0≤u∧u≤u1+1∧(s=true↔bxP l m win (F+K) w p v0 v u0 u1∨rwP l m win (F+K) w p v u0 u),fun u _=>(u1+1 - u).toNat,⟨?_,?_,?_⟩,?_⟩
   ·rw [ep,em,mxI_eq,e2];exact Int.le_refl _
   ·rw [ep,em,mxI_eq];omega
   ·rw [ep,em,mxI_eq,hs,←e2]
    exact ⟨.inl,fun h=>h.elim id fun h=>absurd h (rwP_0 (Int.le_refl _))⟩
   ·rintro u b ⟨hu0,hu1,hb⟩
    have step:u≤u1→∀b':Bool,(b'=true↔b=true∨(v * w+u≠p∧hitP l m win (F+K) (v * w+u)))→(u0≤u+1∧u+1≤u1+1∧(b'=true↔bxP l m win (F+K) w p v0 v u0 u1∨rwP l m win (F+K) w p v u0 (u+1)))∧(u1+1 - (u+1)).toNat < (u1+1 - u).toNat:=fun hu b' hb'=>by
     refine ⟨⟨by omega,by omega,?_⟩,by omega⟩
     rw [hb',hb,or_assoc,rwP_s hu0]
    constructor
    all_goals (try simp only [vZ21,ec,ep,ed,em,mnI_eq,gT,gI,←e3])
    case n87=>
     intro h1 h2 h3
     have:=step h1 true ⟨fun _=>.inl h3,fun _=>rfl⟩
     simpa only [] using this
    case n90=>
     intro h1 h2 h3 h4
     refine step h1 _ ?_
     rw [decide_eq_true_iff,h3]
     exact ⟨fun h=>.inr ⟨h2,h4,h⟩,fun h=>h.elim (fun h=>by cases h) fun h=>h.2.2⟩
    case n92=>
     intro h1 h2 h3 h4
     refine step h1 _ ⟨fun h=>(by cases h),fun h=>h.elim (fun h=>by rw [h3] at h;cases h) fun h=>by rw [h.2.1] at h4;cases h4⟩
    case n94=>
     intro h1 h2
     refine step h1 _ ⟨.inl,fun h=>h.elim id fun h=>absurd h2 h.1⟩
    case n96=>
     intro h1
     refine ⟨⟨by omega,by omega,?_⟩,by omega⟩
     rw [hb,bxP_s hv0,show u=u1+1 by omega]
    case g88=>intro h1 h2 h3 h4;have:=mb _ h4;omega
    all_goals (intros;omega)
  all_goals (intros;omega)
end HX

namespace HX
open Go Go.Proofs CX
theorem cln_len (W:Int) (l:Rows) (win:Int):∀i,(clnN W l win i).length≤i
 |0=>Nat.le_refl _
 |i+1=>by
  have:=cln_len W l win i
  rw [clnN]
  split
  ·simp;omega
  ·omega
theorem l2_ok {w h win:Int} {l:Rows} (hw:1≤w∧w≤32) (hh:1≤h∧h≤32) (hn:0≤win∧win≤100) (ev:EvOk' l) (hl:l.length≤65536) (id:∀j,j < l.length→eI l j < 2 * (w * h)) {R:Nat→Nat→D} (h0:R 0 0=.l (clnN w l win l.length)) (h1:R 1 0=.i 0):V21l2 w h l win R:=by
 refine ⟨fun out i m=>∃F:Nat,i=F∧F≤l.length∧out=clnN w l win F∧MapOk l m F∧∀a b,a < F→F≤b→b < l.length→eT l a < eT l b,fun _ i _=>(l.length - i).toNat,⟨0,rfl,Nat.zero_le _,rfl,MapOk.nil l,fun a b h=>by omega⟩,?_⟩
 rintro out i m ⟨F,rfl,hF,rfl,hm,hb⟩
 constructor
 case g103=>intro h;rw [h0,show F=l.length by omega]
 case g104=>intro h;exact h1
 case l3=>
  intro hlt
  refine ⟨fun g m'=>∃G:Nat,g=G∧F≤G∧G≤l.length∧MapOk l m' G∧∀b,F≤b→b < G→eT l b=eT l F,fun g _=>(l.length - g).toNat,⟨F,rfl,Nat.le_refl _,hF,hm,fun b h1 h2=>by omega⟩,?_⟩
  rintro g m' ⟨G,rfl,hFG,hG,hm',heq⟩
  constructor
  refine ⟨fun b=>b=true↔G < l.length∧eT l G=eT l F,?_,?_⟩
  ·constructor
   case n52=>
    intro h
    rw [decide_eq_true_iff]
    simp only [Int.toNat_natCast]
    exact ⟨fun e=>⟨by omega,e⟩,fun e=>e.2⟩
   case n53=>intro h;exact ⟨fun e=>(by cases e),fun e=>by omega⟩
   all_goals (intros;omega)
  ·intro b hbq
   constructor
   all_goals (try simp only [vZ21,Int.toNat_natCast])
   case n63=>
    intro hb1
    obtain ⟨q1,q2⟩:=hbq.1 hb1
    refine ⟨⟨G+1,by omega,by omega,by omega,?_,fun b' h1 h2=>?_⟩,by omega⟩
    ·have:=hm'.push ev q1
     have e:Int.tdiv (gt l G 1).int 2=px l G:=Int.tdiv_eq_ediv_of_nonneg (ev.ri G q1).1
     rw [←e] at this
     exact this
    ·by_cases e:b'=G
     ·subst e;exact q2
     ·exact heq b' h1 (by omega)
   case g58=>
    intro hb1
    obtain ⟨q1,q2⟩:=hbq.1 hb1
    have e:Int.tdiv (D.int (gt l G 1)) 2=px l G:=Int.tdiv_eq_ediv_of_nonneg (ev.ri G q1).1
    have:=ev.ri G q1
    rw [e,px]
    omega
   case g54 |g55 |g56 |g62=>intro hb1;obtain ⟨q1,q2⟩:=hbq.1 hb1;omega
   case l5=>
    intro hb1
    have hne:¬(G < l.length∧eT l G=eT l F):=fun h=>by rw [hbq.2 h] at hb1;cases hb1
    have hFG':F < G:=by
     by_cases c:F=G
     ·exact absurd ⟨by omega,by rw [c]⟩ hne
     ·omega
    have hgt:∀b,G≤b→b < l.length→eT l F < eT l b:=fun b' h1 h2=>by
     have a:=ev_mono ev hFG (show G < l.length by omega)
     have c:=ev_mono ev h1 h2
     have:eT l G≠eT l F:=fun e=>hne ⟨by omega,e⟩
     omega
    have C:ClC w h win l m' F G:=⟨hw,hh,hn,ev,hl,id,⟨hFG,hG,by omega⟩,hm',heq,hgt⟩
    have hlen:((v21b (G:Int) (F:Int) l).length:Int)=G - F:=by
     simp only [v21b,Int.toNat_natCast,List.length_take,List.length_drop]
     omega
    refine ⟨fun o k=>∃K:Nat,k=K∧F+K≤G∧o=clnN w l win (F+K),fun _ k=>(G - F - k).toNat,⟨0,rfl,by omega,rfl⟩,?_⟩
    rintro o k ⟨K,rfl,hK,rfl⟩
    constructor
    all_goals (try simp only [vZ21,hlen])
    case n102=>
     intro h
     obtain rfl:G=F+K:=by omega
     refine ⟨⟨F+K,rfl,hG,rfl,hm',fun a b h1 h2 h3=>?_⟩,by omega⟩
     by_cases c:a < F
     ·have:=hb a F c (Nat.le_refl _) (by omega)
      have:=hgt b h2 h3
      omega
     ·rw [heq a (by omega) h1];exact hgt b h2 h3
    case l6=>
     intro h
     have:=cln_len w l win (F+K)
     refine l6_ok C (by omega) (by omega) (fun hs=>⟨⟨K+1,by omega,by omega,?_⟩,by omega⟩) (fun hs=>⟨⟨K+1,by omega,by omega,?_⟩,by omega⟩)
     ·rw [←Nat.add_assoc,clnN,if_pos hs]
     ·rw [←Nat.add_assoc,clnN,if_neg hs]
    all_goals (intro h)
    case g72=>
     have e:v21a (G:Int) (F:Int) l (K:Int)=px l (F+K):=by
      simp only [v21a,Int.toNat_natCast]
      rw [gt_take (by omega),gt_drop]
      exact Int.tdiv_eq_ediv_of_nonneg (ev.ri (F+K) (by omega)).1
     obtain ⟨p0,p1,p2,p3,p4,p5⟩:=px_bd C (k:=F+K) (by omega)
     have:=ev.ri (F+K) (by omega)
     rw [e,px];omega
    case g75 |g76=>
     have e:v21a (G:Int) (F:Int) l (K:Int)=px l (F+K):=by
      simp only [v21a,Int.toNat_natCast]
      rw [gt_take (by omega),gt_drop]
      exact Int.tdiv_eq_ediv_of_nonneg (ev.ri (F+K) (by omega)).1
     obtain ⟨p0,p1,p2,p3,p4,p5⟩:=px_bd C (k:=F+K) (by omega)
     rw [e,Int.tdiv_eq_ediv_of_nonneg p0]
     omega
    all_goals omega
   all_goals (intros;omega)
end HX

namespace HX
open Go Go.Proofs CX
structure V52 (a0_0:Int) (a0_1:Int) (a0_2:Int) (R:Nat→Nat→D)  : Prop where
 g0:-9223372036854775808≤(a0_0 * a0_1)∧(a0_0 * a0_1)≤9223372036854775807
 g1:R 0 0=D.i (a0_0 * a0_1)
end HX

namespace HX
open Go Go.Proofs CX
theorem law52 {w h s:Int} (hw:1≤w∧w≤32) (hh:1≤h∧h≤32) {R:Nat→Nat→D} (hR:R 0 0=.i (w * h)):V52 w h s R:=by
 obtain ⟨a,b,_⟩:=twoWH hw hh
 exact ⟨by omega,hR⟩
theorem inB_t {a b c:Int}:inB a b c=true↔b≤a∧a≤c:=by unfold inB;exact decide_eq_true_iff
theorem inB_f {a b c:Int}:inB a b c=false↔¬(b≤a∧a≤c):=by unfold inB;exact decide_eq_false_iff_not
theorem law21 {pre:Nat→List (List D)→Prop} {fn:Nat→List (List D)→Nat→Nat→D} (hp50:∀x,pre 50 x) (hf50:∀a b c,fn 50 [[.i a],[.i b],[.i c]] 0 0=.b (inB a b c))
  (hp51:∀x,pre 51 x) (hf51:∀l,fn 51 [[.l l]] 0 0=.i (chkE l)) (hp52:∀w h s:Int,1≤w∧w≤32→1≤h∧h≤32→pre 52 [[.i w,.i h,.i s]]) (hf52:∀w h s:Int,fn 52 [[.i w,.i h,.i s]] 0 0=.i (w * h))
  {w h s win:Int} {l:Rows} {R:Nat→Nat→D} (h0:R 0 0=.l (clnR w h s l win)) (h1:R 1 0=.i (clnE w h s l win)):V21 pre fn w h s l win R:=by
 have hi:∀n:Int,(D.i n).int=n:=fun _=>rfl
 have hb:∀n:Bool,(D.b n).boo=n:=fun _=>rfl
 have err:∀e:Int,¬e=0→clnE w h s l win=e→R 0 0=.l []:=fun e he h=>by rw [h0,clnR,h,if_neg he]
 constructor
 all_goals (try simp only [v21d,v21e,hf50,hf51,hi,hb])
 case g0 |g7 |g14=>intros;exact hp50 _
 case g23=>intros;exact hp51 _
 case g1=>intro a;exact err 3 (by decide) (by rw [clnE,if_pos fun b=>by rw [a] at b;cases b.1])
 case g2=>intro a;rw [h1,clnE,if_pos fun b=>by rw [a] at b;cases b.1]
 case g8=>intro _ a;exact err 3 (by decide) (by rw [clnE,if_pos fun b=>by rw [a] at b;cases b.2.1])
 case g9=>intro _ a;rw [h1,clnE,if_pos fun b=>by rw [a] at b;cases b.2.1]
 case g15=>intro _ _ a;exact err 3 (by decide) (by rw [clnE,if_pos fun b=>by rw [a] at b;cases b.2.2])
 case g16=>intro _ _ a;rw [h1,clnE,if_pos fun b=>by rw [a] at b;cases b.2.2]
 case g24=>intro a b c d;exact err _ d (by rw [clnE,if_neg fun h=>h ⟨a,b,c⟩,if_pos d])
 case g25=>intro a b c d;rw [h1,clnE,if_neg fun h=>h ⟨a,b,c⟩,if_pos d]
 case l0=>
  intro a b c d
  have hw:=inB_t.1 a
  have hh:=inB_t.1 b
  obtain ⟨hl,ev⟩:=chk_ev d
  obtain ⟨n1,n2,_⟩:=twoWH hw hh
  refine ⟨fun x=>x=true↔(∃j,j < l.length∧2 * (w * h)≤eI l j)∨inB win 0 100=false,⟨⟨fun _ i=>∃q:Nat,i=q∧q≤l.length∧∀j,j < q→¬2 * (w * h)≤eI l j,fun _ i=>(l.length - i).toNat,⟨0,rfl,Nat.zero_le _,fun j h=>by omega⟩,?_⟩⟩,?_⟩
  ·rintro _ i ⟨q,rfl,hq,hj⟩
   constructor
   all_goals (try simp only [vZ21,hf50,hf52,hi,hb,Int.toNat_natCast])
   case g31=>intro _;exact hp52 _ _ _ hw hh
   case g34 |g39=>intros;exact hp50 _
   case n33=>intro a1 a2 _;exact ⟨fun _=>.inl ⟨q,by omega,a2⟩,fun _=>trivial⟩
   case n35=>intro _ _ a3;omega
   case n37=>
    intro a1 a2
    refine ⟨⟨q+1,by omega,by omega,fun j hjq=>?_⟩,by omega⟩
    by_cases e:j=q
    ·subst e;exact a2
    ·exact hj j (by omega)
   case n40=>
    intro a1
    rw [Bool.not_eq_true']
    exact ⟨.inr,fun h=>h.elim (fun ⟨j,h2,h3⟩=>absurd h3 (hj j (by omega))) id⟩
   case g32=>intro _;omega
   all_goals (intros;omega)
  ·intro x hx
   have e0:clnE w h s l win=if (∃j,j < l.length∧2 * (w * h)≤eI l j)∨inB win 0 100=false then 3 else 0:=by
    rw [clnE,if_neg fun h=>h ⟨a,b,c⟩,if_neg fun h=>h d]
   constructor
   case g41=>intro hx1;exact err 3 (by decide) (by rw [e0,if_pos (hx.1 hx1)])
   case g42=>intro hx1;rw [h1,e0,if_pos (hx.1 hx1)]
   case l2=>
    intro hx1
    have hn:¬((∃j,j < l.length∧2 * (w * h)≤eI l j)∨inB win 0 100=false):=fun h=>by rw [hx.2 h] at hx1;cases hx1
    rw [if_neg hn] at e0
    have hwin:0≤win∧win≤100:=by
     refine inB_t.1 ?_
     cases hc:inB win 0 100 with
     |true=>rfl
     |false=>exact absurd (.inr hc) hn
    refine l2_ok hw hh hwin ev hl (fun j hj=>?_) (by rw [h0,clnR,if_pos e0]) (by rw [h1,e0])
    exact Int.not_le.1 fun h=>hn (.inl ⟨j,hj,h⟩)
end HX

namespace HX
open Go Go.Proofs CX
structure V46 (pre:Nat→List (List D)→Prop) (fn:Nat→List (List D)→Nat→Nat→D) (a0_0:Int) (a0_1:Int) (a0_2:Int) (a1:Rows) (R:Nat→Nat→D) (I0:Int→Int→Prop) (m0:Int→Int→Nat):Prop where
 g0:pre 52 [[D.i a0_0,D.i a0_1,D.i a0_2]]
 g1:(¬(a1.length:Int)=(D.int (fn 52 [[D.i a0_0,D.i a0_1,D.i a0_2]] 0 0)))→R 0 0=D.i 13
 i0:((a1.length:Int)=(D.int (fn 52 [[D.i a0_0,D.i a0_1,D.i a0_2]] 0 0)))→I0 0 0
 g3:∀x0_0 x0_1,I0 x0_0 x0_1→((a1.length:Int)=(D.int (fn 52 [[D.i a0_0,D.i a0_1,D.i a0_2]] 0 0)))→(x0_1 < (a1.length:Int))→0≤x0_1
 g4:∀x0_0 x0_1,I0 x0_0 x0_1→((a1.length:Int)=(D.int (fn 52 [[D.i a0_0,D.i a0_1,D.i a0_2]] 0 0)))→(x0_1 < (a1.length:Int))→x0_1 < (a1.length:Int)
 g5:∀x0_0 x0_1,I0 x0_0 x0_1→((a1.length:Int)=(D.int (fn 52 [[D.i a0_0,D.i a0_1,D.i a0_2]] 0 0)))→(x0_1 < (a1.length:Int))→(((Int.toNat x0_1:Nat):Int)) < (a1.length:Int)
 g6:∀x0_0 x0_1,I0 x0_0 x0_1→((a1.length:Int)=(D.int (fn 52 [[D.i a0_0,D.i a0_1,D.i a0_2]] 0 0)))→(x0_1 < (a1.length:Int))→pre 50 [[D.i (D.int (gt a1 x0_1.toNat 0))],[D.i 0],[D.i 255]]
 g7:∀x0_0 x0_1,I0 x0_0 x0_1→((a1.length:Int)=(D.int (fn 52 [[D.i a0_0,D.i a0_1,D.i a0_2]] 0 0)))→(x0_1 < (a1.length:Int))→(D.boo (fn 50 [[D.i (D.int (gt a1 x0_1.toNat 0))],[D.i 0],[D.i 255]] 0 0)=false)→(0≤x0_1)→R 0 0=D.i 3
 g8:∀x0_0 x0_1,I0 x0_0 x0_1→((a1.length:Int)=(D.int (fn 52 [[D.i a0_0,D.i a0_1,D.i a0_2]] 0 0)))→(x0_1 < (a1.length:Int))→(D.boo (fn 50 [[D.i (D.int (gt a1 x0_1.toNat 0))],[D.i 0],[D.i 255]] 0 0)=false)→(¬0≤x0_1)→R 0 0=D.i 0
 g9:∀x0_0 x0_1,I0 x0_0 x0_1→((a1.length:Int)=(D.int (fn 52 [[D.i a0_0,D.i a0_1,D.i a0_2]] 0 0)))→(x0_1 < (a1.length:Int))→(D.boo (fn 50 [[D.i (D.int (gt a1 x0_1.toNat 0))],[D.i 0],[D.i 255]] 0 0)=true)→-9223372036854775808≤(x0_1+1)∧(x0_1+1)≤9223372036854775807
 n10:∀x0_0 x0_1,I0 x0_0 x0_1→((a1.length:Int)=(D.int (fn 52 [[D.i a0_0,D.i a0_1,D.i a0_2]] 0 0)))→(x0_1 < (a1.length:Int))→(D.boo (fn 50 [[D.i (D.int (gt a1 x0_1.toNat 0))],[D.i 0],[D.i 255]] 0 0)=true)→I0 x0_0 (x0_1+1)∧m0 x0_0 (x0_1+1) < m0 x0_0 x0_1
 g12:∀x0_0 x0_1,I0 x0_0 x0_1→((a1.length:Int)=(D.int (fn 52 [[D.i a0_0,D.i a0_1,D.i a0_2]] 0 0)))→(¬x0_1 < (a1.length:Int))→R 0 0=D.i 0
end HX

namespace HX
open Go Go.Proofs CX
abbrev vZ14 (x:Int):=-9223372036854775808≤x∧x≤9223372036854775807
abbrev v14a (a1:Rows) (f1:Int) (j1:Int) (j2:Rows):=((D.int (gt (D.rows (gt a1 f1.toNat 0)) j1.toNat 0)) - (D.int (gt j2 j1.toNat 0)))
abbrev v14b (a1:Rows) (f1:Int):=((((D.rows (gt a1 f1.toNat 0))).length:Int))
abbrev v14c (j2:Rows) (j1:Int) (a1:Rows) (f1:Int):=((D.int (gt j2 j1.toNat 0)) - (D.int (gt (D.rows (gt a1 f1.toNat 0)) j1.toNat 0)))
abbrev v14d (fn:Nat→List (List D)→Nat→Nat→D) (a0_0:Int):=(D.boo (fn 50 [[D.i a0_0],[D.i 1],[D.i 32]] 0 0)=true)
abbrev v14e (a1:Rows) (d1:Int):=((((D.rows (gt a1 d1.toNat 0))).length:Int))
structure V14c2 (a1:Rows) (d0:Rows) (d1:Int) (e0:Rows) (e1:Int) (I1:Rows→Int→Prop) (m1:Rows→Int→Nat):Prop where
 g41:(e1 < (v14e a1 d1))→0≤e1
 g42:(e1 < (v14e a1 d1))→e1 < (v14e a1 d1)
 g43:(e1 < (v14e a1 d1))→(((Int.toNat e1:Nat):Int)) < (v14e a1 d1)
 g44:(e1 < (v14e a1 d1))→False
 g45:(¬e1 < (v14e a1 d1))→vZ14 ((d1+1))
 n46:(¬e1 < (v14e a1 d1))→I1 e0 (d1+1)∧m1 e0 (d1+1) < m1 d0 d1
abbrev V14l2 (a1:Rows) (d0:Rows) (d1:Int) (I1:Rows→Int→Prop) (m1:Rows→Int→Nat):Prop:=∃(I2:Rows→Int→Prop) (m2:Rows→Int→Nat),I2 d0 0∧∀e0 e1,I2 e0 e1→V14c2 a1 d0 d1 e0 e1 I1 m1
structure V14c1 (a1:Rows) (R:Nat→Nat→D) (d0:Rows) (d1:Int) (I1:Rows→Int→Prop) (m1:Rows→Int→Nat):Prop where
 g37:(d1 < (a1.length:Int))→0≤d1
 g38:(d1 < (a1.length:Int))→d1 < (a1.length:Int)
 g39:(d1 < (a1.length:Int))→(((Int.toNat d1:Nat):Int)) < (a1.length:Int)
 g47:(¬d1 < (a1.length:Int))→(65536 < (d0.length:Int))→R 0 0=D.l []
 g48:(¬d1 < (a1.length:Int))→(65536 < (d0.length:Int))→R 1 0=D.i 9
 g49:(¬d1 < (a1.length:Int))→(¬65536 < (d0.length:Int))→R 0 0=D.l d0
 g50:(¬d1 < (a1.length:Int))→(¬65536 < (d0.length:Int))→R 1 0=D.i 0
 l2:(d1 < (a1.length:Int))→V14l2 a1 d0 d1 I1 m1
abbrev V14l1 (a1:Rows) (R:Nat→Nat→D):Prop:=∃(I1:Rows→Int→Prop) (m1:Rows→Int→Nat),I1 [] 0∧∀d0 d1,I1 d0 d1→V14c1 a1 R d0 d1 I1 m1
structure V14c4 (a0_2:Int) (a1:Rows) (f0:Rows) (f1:Int) (f2:Rows) (j0:Rows) (j1:Int) (j2:Rows) (I3:Rows→Int→Rows→Prop) (m3:Rows→Int→Rows→Nat) (I4:Rows→Int→Rows→Prop) (m4:Rows→Int→Rows→Nat):Prop where
 g57:(j1 < (v14b a1 f1))→0≤j1
 g58:(j1 < (v14b a1 f1))→j1 < (v14b a1 f1)
 g59:(j1 < (v14b a1 f1))→(((Int.toNat j1:Nat):Int)) < (v14b a1 f1)
 g61:(j1 < (v14b a1 f1))→j1 < (j2.length:Int)
 g62:(j1 < (v14b a1 f1))→(((Int.toNat j1:Nat):Int)) < (j2.length:Int)
 g64:(j1 < (v14b a1 f1))→vZ14 ((v14a a1 f1 j1 j2))
 g65:(j1 < (v14b a1 f1))→(a0_2≤(v14a a1 f1 j1 j2))→vZ14 ((2 * j1))
 g66:(j1 < (v14b a1 f1))→(a0_2≤(v14a a1 f1 j1 j2))→vZ14 (((2 * j1)+1))
 g67:(j1 < (v14b a1 f1))→(a0_2≤(v14a a1 f1 j1 j2))→(j0.length+(List.length ([[D.i f1,D.i ((2 * j1)+1)]]:Rows))) * 16≤4294967296∧(j0.length+(List.length ([[D.i f1,D.i ((2 * j1)+1)]]:Rows)))≤4294967296
 g68:(j1 < (v14b a1 f1))→(a0_2≤(v14a a1 f1 j1 j2))→0≤j1
 g69:(j1 < (v14b a1 f1))→(a0_2≤(v14a a1 f1 j1 j2))→j1 < (j2.length:Int)
 g70:(j1 < (v14b a1 f1))→(a0_2≤(v14a a1 f1 j1 j2))→(((Int.toNat j1:Nat):Int)) < (j2.length:Int)
 g72:(j1 < (v14b a1 f1))→(a0_2≤(v14a a1 f1 j1 j2))→vZ14 (((D.int (gt j2 j1.toNat 0))+a0_2))
 g76:(j1 < (v14b a1 f1))→(a0_2≤(v14a a1 f1 j1 j2))→vZ14 ((j1+1))
 n77:(j1 < (v14b a1 f1))→(a0_2≤(v14a a1 f1 j1 j2))→I4 (j0++[[D.i f1,D.i ((2 * j1)+1)]]) (j1+1) (List.set j2 j1.toNat [D.i ((D.int (gt j2 j1.toNat 0))+a0_2)])∧m4 (j0++[[D.i f1,D.i ((2 * j1)+1)]]) (j1+1) (List.set j2 j1.toNat [D.i ((D.int (gt j2 j1.toNat 0))+a0_2)]) < m4 j0 j1 j2
 g78:(j1 < (v14b a1 f1))→(¬a0_2≤(v14a a1 f1 j1 j2))→0≤j1
 g79:(j1 < (v14b a1 f1))→(¬a0_2≤(v14a a1 f1 j1 j2))→j1 < (j2.length:Int)
 g80:(j1 < (v14b a1 f1))→(¬a0_2≤(v14a a1 f1 j1 j2))→(((Int.toNat j1:Nat):Int)) < (j2.length:Int)
 g82:(j1 < (v14b a1 f1))→(¬a0_2≤(v14a a1 f1 j1 j2))→vZ14 ((v14c j2 j1 a1 f1))
 g83:(j1 < (v14b a1 f1))→(¬a0_2≤(v14a a1 f1 j1 j2))→(a0_2≤(v14c j2 j1 a1 f1))→vZ14 ((2 * j1))
 g84:(j1 < (v14b a1 f1))→(¬a0_2≤(v14a a1 f1 j1 j2))→(a0_2≤(v14c j2 j1 a1 f1))→(j0.length+(List.length ([[D.i f1,D.i (2 * j1)]]:Rows))) * 16≤4294967296∧(j0.length+(List.length ([[D.i f1,D.i (2 * j1)]]:Rows)))≤4294967296
 g85:(j1 < (v14b a1 f1))→(¬a0_2≤(v14a a1 f1 j1 j2))→(a0_2≤(v14c j2 j1 a1 f1))→0≤j1
 g86:(j1 < (v14b a1 f1))→(¬a0_2≤(v14a a1 f1 j1 j2))→(a0_2≤(v14c j2 j1 a1 f1))→j1 < (j2.length:Int)
 g87:(j1 < (v14b a1 f1))→(¬a0_2≤(v14a a1 f1 j1 j2))→(a0_2≤(v14c j2 j1 a1 f1))→(((Int.toNat j1:Nat):Int)) < (j2.length:Int)
 g89:(j1 < (v14b a1 f1))→(¬a0_2≤(v14a a1 f1 j1 j2))→(a0_2≤(v14c j2 j1 a1 f1))→vZ14 (((D.int (gt j2 j1.toNat 0)) - a0_2))
 g93:(j1 < (v14b a1 f1))→(¬a0_2≤(v14a a1 f1 j1 j2))→(a0_2≤(v14c j2 j1 a1 f1))→vZ14 ((j1+1))
 n94:(j1 < (v14b a1 f1))→(¬a0_2≤(v14a a1 f1 j1 j2))→(a0_2≤(v14c j2 j1 a1 f1))→I4 (j0++[[D.i f1,D.i (2 * j1)]]) (j1+1) (List.set j2 j1.toNat [D.i ((D.int (gt j2 j1.toNat 0)) - a0_2)])∧m4 (j0++[[D.i f1,D.i (2 * j1)]]) (j1+1) (List.set j2 j1.toNat [D.i ((D.int (gt j2 j1.toNat 0)) - a0_2)]) < m4 j0 j1 j2
 g95:(j1 < (v14b a1 f1))→(¬a0_2≤(v14a a1 f1 j1 j2))→(¬a0_2≤(v14c j2 j1 a1 f1))→vZ14 ((j1+1))
 n96:(j1 < (v14b a1 f1))→(¬a0_2≤(v14a a1 f1 j1 j2))→(¬a0_2≤(v14c j2 j1 a1 f1))→I4 j0 (j1+1) j2∧m4 j0 (j1+1) j2 < m4 j0 j1 j2
 g97:(¬j1 < (v14b a1 f1))→vZ14 ((f1+1))
 n98:(¬j1 < (v14b a1 f1))→I3 j0 (f1+1) j2∧m3 j0 (f1+1) j2 < m3 f0 f1 f2
abbrev V14l4 (a0_2:Int) (a1:Rows) (f0:Rows) (f1:Int) (f2:Rows) (I3:Rows→Int→Rows→Prop) (m3:Rows→Int→Rows→Nat):Prop:=∃(I4:Rows→Int→Rows→Prop) (m4:Rows→Int→Rows→Nat),I4 f0 0 f2∧∀j0 j1 j2,I4 j0 j1 j2→V14c4 a0_2 a1 f0 f1 f2 j0 j1 j2 I3 m3 I4 m4
structure V14c3 (a0_2:Int) (a1:Rows) (R:Nat→Nat→D) (f0:Rows) (f1:Int) (f2:Rows) (I3:Rows→Int→Rows→Prop) (m3:Rows→Int→Rows→Nat):Prop where
 g53:(f1 < (a1.length:Int))→0≤f1
 g54:(f1 < (a1.length:Int))→f1 < (a1.length:Int)
 g55:(f1 < (a1.length:Int))→(((Int.toNat f1:Nat):Int)) < (a1.length:Int)
 g99:(¬f1 < (a1.length:Int))→(65536 < (f0.length:Int))→R 0 0=D.l []
 g100:(¬f1 < (a1.length:Int))→(65536 < (f0.length:Int))→R 1 0=D.i 9
 g101:(¬f1 < (a1.length:Int))→(¬65536 < (f0.length:Int))→R 0 0=D.l f0
 g102:(¬f1 < (a1.length:Int))→(¬65536 < (f0.length:Int))→R 1 0=D.i 0
 l4:(f1 < (a1.length:Int))→V14l4 a0_2 a1 f0 f1 f2 I3 m3
abbrev V14l3 (a0_2:Int) (a1:Rows) (R:Nat→Nat→D):Prop:=∃(I3:Rows→Int→Rows→Prop) (m3:Rows→Int→Rows→Nat),I3 [] 0 ([]++(D.rows (gt a1 (Int.toNat 0) 0)))∧∀f0 f1 f2,I3 f0 f1 f2→V14c3 a0_2 a1 R f0 f1 f2 I3 m3
structure V14c0 (pre:Nat→List (List D)→Prop) (fn:Nat→List (List D)→Nat→Nat→D) (a0_0:Int) (a0_1:Int) (a0_2:Int) (a1:Rows) (R:Nat→Nat→D) (b0:Rows) (b1:Int) (b2:Int) (I0:Rows→Int→Int→Prop) (m0:Rows→Int→Int→Nat):Prop where
 g23:(b2 < (a1.length:Int))→0≤b2
 g24:(b2 < (a1.length:Int))→b2 < (a1.length:Int)
 g25:(b2 < (a1.length:Int))→(((Int.toNat b2:Nat):Int)) < (a1.length:Int)
 g26:(b2 < (a1.length:Int))→pre 46 [[D.i a0_0,D.i a0_1,D.i a0_2],[D.l (D.rows (gt a1 b2.toNat 0))]]
 g27:(b2 < (a1.length:Int))→(¬(D.int (fn 46 [[D.i a0_0,D.i a0_1,D.i a0_2],[D.l (D.rows (gt a1 b2.toNat 0))]] 0 0))=0)→R 0 0=D.l []
 g28:(b2 < (a1.length:Int))→(¬(D.int (fn 46 [[D.i a0_0,D.i a0_1,D.i a0_2],[D.l (D.rows (gt a1 b2.toNat 0))]] 0 0))=0)→R 1 0=D.i (D.int (fn 46 [[D.i a0_0,D.i a0_1,D.i a0_2],[D.l (D.rows (gt a1 b2.toNat 0))]] 0 0))
 g29:(b2 < (a1.length:Int))→((D.int (fn 46 [[D.i a0_0,D.i a0_1,D.i a0_2],[D.l (D.rows (gt a1 b2.toNat 0))]] 0 0))=0)→vZ14 ((b2+1))
 n30:(b2 < (a1.length:Int))→((D.int (fn 46 [[D.i a0_0,D.i a0_1,D.i a0_2],[D.l (D.rows (gt a1 b2.toNat 0))]] 0 0))=0)→I0 b0 b1 (b2+1)∧m0 b0 b1 (b2+1) < m0 b0 b1 b2
 g31:(¬b2 < (a1.length:Int))→((a1.length:Int)=0)→R 0 0=D.l []
 g32:(¬b2 < (a1.length:Int))→((a1.length:Int)=0)→R 1 0=D.i 0
 g33:(¬b2 < (a1.length:Int))→(¬(a1.length:Int)=0)→(0:Int)≤0
 g34:(¬b2 < (a1.length:Int))→(¬(a1.length:Int)=0)→0 < (a1.length:Int)
 g35:(¬b2 < (a1.length:Int))→(¬(a1.length:Int)=0)→(((Int.toNat 0:Nat):Int)) < (a1.length:Int)
 g51:(¬b2 < (a1.length:Int))→(¬(a1.length:Int)=0)→((List.length ([]:Rows))+(List.length ((D.rows (gt a1 (Int.toNat 0) 0)):Rows))) * 8≤4294967296∧((List.length ([]:Rows))+(List.length ((D.rows (gt a1 (Int.toNat 0) 0)):Rows)))≤4294967296
 l1:(¬b2 < (a1.length:Int))→(¬(a1.length:Int)=0)→((List.length ((D.rows (gt a1 (Int.toNat 0) 0)):Rows))≤0)→V14l1 a1 R
 l3:(¬b2 < (a1.length:Int))→(¬(a1.length:Int)=0)→V14l3 a0_2 a1 R
abbrev V14l0 (pre:Nat→List (List D)→Prop) (fn:Nat→List (List D)→Nat→Nat→D) (a0_0:Int) (a0_1:Int) (a0_2:Int) (a1:Rows) (R:Nat→Nat→D):Prop:=∃(I0:Rows→Int→Int→Prop) (m0:Rows→Int→Int→Nat),I0 [] 0 0∧∀b0 b1 b2,I0 b0 b1 b2→V14c0 pre fn a0_0 a0_1 a0_2 a1 R b0 b1 b2 I0 m0
structure V14 (pre:Nat→List (List D)→Prop) (fn:Nat→List (List D)→Nat→Nat→D) (a0_0:Int) (a0_1:Int) (a0_2:Int) (a1:Rows) (R:Nat→Nat→D):Prop where
 g0:pre 50 [[D.i a0_0],[D.i 1],[D.i 32]]
 g1:(D.boo (fn 50 [[D.i a0_0],[D.i 1],[D.i 32]] 0 0)=false)→R 0 0=D.l []
 g2:(D.boo (fn 50 [[D.i a0_0],[D.i 1],[D.i 32]] 0 0)=false)→R 1 0=D.i 3
 g6:(v14d fn a0_0)→pre 50 [[D.i a0_1],[D.i 1],[D.i 32]]
 g7:(v14d fn a0_0)→(D.boo (fn 50 [[D.i a0_1],[D.i 1],[D.i 32]] 0 0)=false)→R 0 0=D.l []
 g8:(v14d fn a0_0)→(D.boo (fn 50 [[D.i a0_1],[D.i 1],[D.i 32]] 0 0)=false)→R 1 0=D.i 3
 g12:(v14d fn a0_0)→(D.boo (fn 50 [[D.i a0_1],[D.i 1],[D.i 32]] 0 0)=true)→pre 50 [[D.i a0_2],[D.i 1],[D.i 128]]
 g13:(v14d fn a0_0)→(D.boo (fn 50 [[D.i a0_1],[D.i 1],[D.i 32]] 0 0)=true)→(D.boo (fn 50 [[D.i a0_2],[D.i 1],[D.i 128]] 0 0)=false)→R 0 0=D.l []
 g14:(v14d fn a0_0)→(D.boo (fn 50 [[D.i a0_1],[D.i 1],[D.i 32]] 0 0)=true)→(D.boo (fn 50 [[D.i a0_2],[D.i 1],[D.i 128]] 0 0)=false)→R 1 0=D.i 3
 g20:(v14d fn a0_0)→(D.boo (fn 50 [[D.i a0_1],[D.i 1],[D.i 32]] 0 0)=true)→(D.boo (fn 50 [[D.i a0_2],[D.i 1],[D.i 128]] 0 0)=true)→(256 < (a1.length:Int))→R 0 0=D.l []
 g21:(v14d fn a0_0)→(D.boo (fn 50 [[D.i a0_1],[D.i 1],[D.i 32]] 0 0)=true)→(D.boo (fn 50 [[D.i a0_2],[D.i 1],[D.i 128]] 0 0)=true)→(256 < (a1.length:Int))→R 1 0=D.i 9
 l0:(v14d fn a0_0)→(D.boo (fn 50 [[D.i a0_1],[D.i 1],[D.i 32]] 0 0)=true)→(D.boo (fn 50 [[D.i a0_2],[D.i 1],[D.i 128]] 0 0)=true)→(¬256 < (a1.length:Int))→V14l0 pre fn a0_0 a0_1 a0_2 a1 R
end HX

namespace HX
open Go Go.Proofs CX
def lv (f:Rows) (p:Nat):Int:=(gt f p 0).int
def frm (F:Rows) (t:Nat):Rows:=(gt F t 0).rows
open Classical in
noncomputable def frE (w h:Int) (f:Rows):Int:=if (f.length:Int)=w * h then (if ∃j,j < f.length∧inB (lv f j) 0 255=false then 3 else 0) else 13
theorem frE_0 {w h:Int} {f:Rows} (h0:frE w h f=0):(f.length:Int)=w * h∧∀j,j < f.length→0≤lv f j∧lv f j≤255:=by
 unfold frE at h0
 split at h0
 ·rename_i c
  split at h0
  ·cases h0
  ·rename_i d
   refine ⟨c,fun j hj=>inB_t.1 ?_⟩
   cases e:inB (lv f j) 0 255 with
   |true=>rfl
   |false=>exact absurd ⟨j,hj,e⟩ d
 ·cases h0
theorem law46 {pre:Nat→List (List D)→Prop} {fn:Nat→List (List D)→Nat→Nat→D} (hp50:∀x,pre 50 x) (hf50:∀a b c,fn 50 [[.i a],[.i b],[.i c]] 0 0=.b (inB a b c))
  (hp52:∀w h s:Int,1≤w∧w≤32→1≤h∧h≤32→pre 52 [[.i w,.i h,.i s]]) (hf52:∀w h s:Int,fn 52 [[.i w,.i h,.i s]] 0 0=.i (w * h))
  {w h s:Int} {f:Rows} (hw:1≤w∧w≤32) (hh:1≤h∧h≤32) {R:Nat→Nat→D} (hR:R 0 0=.i (frE w h f)) :
  V46 pre fn w h s f R (fun _ i=>∃q:Nat,i=q∧q≤f.length∧∀j,j < q→inB (lv f j) 0 255=true) (fun _ i=>(f.length - i).toNat):=by
 have hi:∀n:Int,(D.i n).int=n:=fun _=>rfl
 have hb:∀n:Bool,(D.b n).boo=n:=fun _=>rfl
 obtain ⟨n1,n2,_⟩:=twoWH hw hh
 constructor
 all_goals (try simp only [hf50,hf52,hi,hb])
 case g0=>exact hp52 _ _ _ hw hh
 case g1=>intro c;rw [hR,frE,if_neg c]
 case i0=>exact fun _=>⟨0,rfl,Nat.zero_le _,fun j h=>by omega⟩
 all_goals (rintro a i ⟨q,rfl,hq,hj⟩ c;(try simp only [Int.toNat_natCast]))
 case g6=>intro _;exact hp50 _
 case g7=>intro h1 h2 _;rw [hR,frE,if_pos c,if_pos ⟨q,by omega,h2⟩]
 case n10=>
  intro h1 h2
  refine ⟨⟨q+1,by omega,by omega,fun j hjq=>?_⟩,by omega⟩
  by_cases e:j=q
  ·subst e;exact h2
  ·exact hj j (by omega)
 case g12=>
  intro h1
  rw [hR,frE,if_pos c,if_neg]
  rintro ⟨j,h2,h3⟩
  rw [hj j (by omega)] at h3;cases h3
 all_goals (intros;omega)
noncomputable def wP (s t:Int) (f k o:Rows):Nat→Rows×Rows
 |0=>(k,o)
 |p+1=>
  let x:=wP s t f k o p
  if s≤lv f p - lv x.1 p then (x.1.set p [.i (lv x.1 p+s)],x.2++[[.i t,.i (2 * p+1)]])
  else if s≤lv x.1 p - lv f p then (x.1.set p [.i (lv x.1 p - s)],x.2++[[.i t,.i (2 * p)]])
  else x
noncomputable def wT (s:Int) (F:Rows):Nat→Rows×Rows
 |0=>(frm F 0,[])
 |t+1=>wP s t (frm F t) (wT s F t).1 (wT s F t).2 (frm F t).length
noncomputable def fE (w h:Int) (F:Rows):Nat→Int
 |0=>0
 |t+1=>if fE w h F t=0 then frE w h (frm F t) else fE w h F t
open Classical in
noncomputable def wtE (w h s:Int) (F:Rows):Int:=
 if ¬(inB w 1 32=true∧inB h 1 32=true∧inB s 1 128=true) then 3 else if 256 < F.length then 9 else if ¬fE w h F F.length=0 then fE w h F F.length else if 65536 < (wT s F F.length).2.length∧¬F.length=0 then 9 else 0
open Classical in
noncomputable def wtR (w h s:Int) (F:Rows):Rows:=if wtE w h s F=0∧¬F.length=0 then (wT s F F.length).2 else []
theorem lv_set {k:Rows} {p q:Nat} {x:Int} (hp:p < k.length):lv (k.set p [.i x]) q=if q=p then x else lv k q:=by
 unfold lv
 simp only [gt,List.getD_eq_getElem?_getD,List.getElem?_set]
 by_cases c:p=q
 ·subst c;simp [hp,D.int]
 ·rw [if_neg c,if_neg (Ne.symm c)]
theorem fE_0 {w h:Int} {F:Rows}:∀n,fE w h F n=0↔∀t,t < n→frE w h (frm F t)=0
 |0=>⟨fun _ t h=>by omega,fun _=>rfl⟩
 |n+1=>by
  rw [fE]
  split
  ·rename_i c
   have ih:=(fE_0 n).1 c
   constructor
   ·intro e t ht
    by_cases d:t=n
    ·subst d;exact e
    ·exact ih t (by omega)
   ·intro e;exact e n (by omega)
  ·rename_i c
   exact ⟨fun e=>absurd e c,fun e=>absurd ((fE_0 n).2 fun t ht=>e t (by omega)) c⟩
structure KOk (n:Nat) (k:Rows):Prop where
 len:k.length=n
 rng:∀p,p < n→0≤lv k p∧lv k p≤255
theorem wP_ok {s t:Int} {f k o:Rows} {n:Nat} (hs:1≤s) (hf:KOk n f) (hk:KOk n k):∀p,p≤n→KOk n (wP s t f k o p).1∧(wP s t f k o p).2.length≤o.length+p∧∀q,p≤q→lv (wP s t f k o p).1 q=lv k q
 |0,_=>⟨hk,Nat.le_refl _,fun _ _=>rfl⟩
 |p+1,hp=>by
  obtain ⟨h1,h2,h3⟩:=wP_ok (t:=t) (o:=o) hs hf hk p (by omega)
  have a:=h1.rng p (by omega)
  have b:=hf.rng p (by omega)
  have l:=h1.len
  rw [wP]
  split
  ·refine ⟨⟨by rw [List.length_set];exact l,fun q hq=>?_⟩,by simp;omega,fun q hq=>?_⟩
   ·rw [lv_set (by omega)]
    split
    ·omega
    ·exact h1.rng q hq
   ·rw [lv_set (by omega),if_neg (by omega)];exact h3 q (by omega)
  ·split
   ·refine ⟨⟨by rw [List.length_set];exact l,fun q hq=>?_⟩,by simp;omega,fun q hq=>?_⟩
    ·rw [lv_set (by omega)]
     split
     ·omega
     ·exact h1.rng q hq
    ·rw [lv_set (by omega),if_neg (by omega)];exact h3 q (by omega)
   ·exact ⟨h1,by omega,fun q hq=>h3 q (by omega)⟩
theorem wT_ok {s:Int} {F:Rows} {n:Nat} (hs:1≤s) (hF:∀t,t < F.length→KOk n (frm F t)) (h0:0 < F.length):∀t,t≤F.length→KOk n (wT s F t).1∧(wT s F t).2.length≤t * n
 |0,_=>⟨hF 0 h0,Nat.zero_le _⟩
 |t+1,ht=>by
  obtain ⟨h1,h2⟩:=wT_ok hs hF h0 t (by omega)
  have hf:=hF t (by omega)
  obtain ⟨h3,h4,_⟩:=wP_ok (t:=t) (o:=(wT s F t).2) hs hf h1 n (Nat.le_refl _)
  rw [wT,hf.len]
  refine ⟨h3,?_⟩
  rw [Nat.add_mul]
  omega
theorem fE_k {w h:Int} {F:Rows} {n:Nat} (hn:(n:Int)=w * h) (h0:fE w h F F.length=0):∀t,t < F.length→KOk n (frm F t):=fun t ht=>by
 obtain ⟨a,b⟩:=frE_0 ((fE_0 _).1 h0 t ht)
 exact ⟨by omega,fun p hp=>b p (by omega)⟩
end HX

namespace HX
open Go Go.Proofs CX
theorem law14 {pre:Nat→List (List D)→Prop} {fn:Nat→List (List D)→Nat→Nat→D} (hp50:∀x,pre 50 x) (hf50:∀a b c,fn 50 [[.i a],[.i b],[.i c]] 0 0=.b (inB a b c))
  (hp46:∀(w h s:Int) (f:Rows),1≤w∧w≤32→1≤h∧h≤32→pre 46 [[.i w,.i h,.i s],[.l f]]) (hf46:∀(w h s:Int) (f:Rows),fn 46 [[.i w,.i h,.i s],[.l f]] 0 0=.i (frE w h f))
  {w h s:Int} {F:Rows} {R:Nat→Nat→D} (h0:R 0 0=.l (wtR w h s F)) (h1:R 1 0=.i (wtE w h s F)):V14 pre fn w h s F R:=by
 have hi:∀n:Int,(D.i n).int=n:=fun _=>rfl
 have hb:∀n:Bool,(D.b n).boo=n:=fun _=>rfl
 have err:∀e:Int,¬e=0→wtE w h s F=e→R 0 0=.l []:=fun e he h=>by rw [h0,wtR,h,if_neg fun c=>he c.1]
 constructor
 all_goals (try simp only [v14d,hf50,hi,hb])
 case g0 |g6 |g12=>intros;exact hp50 _
 case g1=>intro a;exact err 3 (by decide) (by rw [wtE,if_pos fun b=>by rw [a] at b;cases b.1])
 case g2=>intro a;rw [h1,wtE,if_pos fun b=>by rw [a] at b;cases b.1]
 case g7=>intro _ a;exact err 3 (by decide) (by rw [wtE,if_pos fun b=>by rw [a] at b;cases b.2.1])
 case g8=>intro _ a;rw [h1,wtE,if_pos fun b=>by rw [a] at b;cases b.2.1]
 case g13=>intro _ _ a;exact err 3 (by decide) (by rw [wtE,if_pos fun b=>by rw [a] at b;cases b.2.2])
 case g14=>intro _ _ a;rw [h1,wtE,if_pos fun b=>by rw [a] at b;cases b.2.2]
 case g20=>intro a b c d;exact err 9 (by decide) (by rw [wtE,if_neg fun h=>h ⟨a,b,c⟩,if_pos (by omega)])
 case g21=>intro a b c d;rw [h1,wtE,if_neg fun h=>h ⟨a,b,c⟩,if_pos (by omega)]
 intro a b c d
 have hw:=inB_t.1 a
 have hh:=inB_t.1 b
 have hs:=inB_t.1 c
 obtain ⟨n1,n2,_⟩:=twoWH hw hh
 have e1:wtE w h s F=if ¬fE w h F F.length=0 then fE w h F F.length else if 65536 < (wT s F F.length).2.length∧¬F.length=0 then 9 else 0:=by
  rw [wtE,if_neg fun h=>h ⟨a,b,c⟩,if_neg (by omega)]
 refine ⟨fun b0 b1 i=>∃q:Nat,i=q∧q≤F.length∧fE w h F q=0,fun _ _ i=>(F.length - i).toNat,⟨0,rfl,Nat.zero_le _,rfl⟩,?_⟩
 rintro _ _ i ⟨q,rfl,hq,hz⟩
 constructor
 all_goals (try simp only [hf46,hi,Int.toNat_natCast,Int.toNat_zero])
 case g26=>intros;exact hp46 _ _ _ _ hw hh
 case g27 |g28=>
  intro c1 c2
  have c2:¬frE w h (frm F q)=0:=c2
  have e2:∀n,q+1≤n→fE w h F n=frE w h (frm F q):=by
   intro n hn
   induction n with
   |zero=>omega
   |succ m ih=>
    rw [fE]
    by_cases cc:q+1≤m
    ·rw [ih cc,if_neg c2]
    ·have:m=q:=by omega
     subst this
     rw [if_pos hz]
  have e3:=e2 F.length (by omega)
  have e4:wtE w h s F=frE w h (frm F q):=by rw [e1,e3,if_pos c2]
  first
   |exact err _ c2 e4
   |rw [h1,e4];rfl
 case n30=>
  intro c1 c2
  exact ⟨⟨q+1,by omega,by omega,by rw [fE,if_pos hz];exact c2⟩,by omega⟩
 case g31=>
  intro c1 c2;rw [h0,wtR,if_neg fun h=>h.2 (by omega)]
 case g32=>
  intro c1 c2
  have:F.length=0:=by omega
  have e:fE w h F F.length=0:=by rw [this];rfl
  rw [h1,e1,if_neg fun h=>h e,if_neg fun h=>h.2 this]
 case g51 |l1=>
  intro c1 c2
  have eq:q=F.length:=by omega
  have l0':(D.rows (gt F 0 0)).length=(w * h).toNat:=(fE_k (n:=(w * h).toNat) (by omega) (eq ▸ hz) 0 (by omega)).len
  first
   |(rw [l0',List.length_nil];omega)
   |(intro c3;omega)
 case l3=>
  intro c1 c2
  have eq:q=F.length:=by omega
  have hF:=fE_k (n:=(w * h).toNat) (by omega) (eq ▸ hz)
  have hK:=wT_ok hs.1 hF (by omega)
  refine ⟨fun f0 i f2=>∃t:Nat,i=t∧t≤F.length∧f0=(wT s F t).2∧f2=(wT s F t).1,fun _ i _=>(F.length - i).toNat,⟨0,rfl,Nat.zero_le _,rfl,rfl⟩,?_⟩
  rintro _ i _ ⟨t,rfl,ht,rfl,rfl⟩
  have e5:¬(t:Int) < F.length→wtE w h s F=if 65536 < (wT s F t).2.length then 9 else 0:=by
   intro c4
   have:t=F.length:=by omega
   subst this
   rw [e1,←eq,if_neg fun h=>h hz,eq]
   split
   ·rename_i c5;rw [if_pos c5.1]
   ·rename_i c5;rw [if_neg fun c6=>c5 ⟨c6,by omega⟩]
  constructor
  case g99=>intro c4 c5;exact err 9 (by decide) (by rw [e5 c4,if_pos (by omega)])
  case g100=>intro c4 c5;rw [h1,e5 c4,if_pos (by omega)]
  case g101=>intro c4 c5;rw [h0,wtR,if_pos ⟨by rw [e5 c4,if_neg (by omega)],by omega⟩];congr 1;congr 2;omega
  case g102=>intro c4 c5;rw [h1,e5 c4,if_neg (by omega)]
  case l4=>
   intro c4
   have hft:=hF t (by omega)
   obtain ⟨k1,k2⟩:=hK t ht
   have hP:=wP_ok (t:=t) (o:=(wT s F t).2) hs.1 hft k1
   have k3:(wT s F t).2.length≤256 * 1024:=Nat.le_trans k2 (Nat.mul_le_mul (by omega) (by omega))
   refine ⟨fun j0 i j2=>∃p:Nat,i=p∧p≤(w * h).toNat∧j0=(wP s t (frm F t) (wT s F t).1 (wT s F t).2 p).2∧j2=(wP s t (frm F t) (wT s F t).1 (wT s F t).2 p).1,fun _ i _=>(w * h - i).toNat,⟨0,rfl,Nat.zero_le _,rfl,rfl⟩,?_⟩
   rintro _ i _ ⟨p,rfl,hp,rfl,rfl⟩
   obtain ⟨p1,p2,p3⟩:=hP p hp
   have lf:=hft.len
   have lk:=p1.len
   have ra:=fun hp=>p1.rng p hp
   have rb:=fun hp=>hft.rng p hp
   have ef:(D.rows (gt F t 0))=frm F t:=rfl
   have el:∀k:Rows,(gt k p 0).int=lv k p:=fun _=>rfl
   generalize hx:wP s t (frm F t) (wT s F t).1 (wT s F t).2 p=x at *
   constructor
   all_goals (try simp only [vZ14,v14a,v14b,v14c,Int.toNat_natCast,ef,el,lf,List.length_cons,List.length_nil])
   case n77=>intro c5 c6;exact ⟨⟨p+1,by omega,by omega,by rw [wP,hx];simp only [if_pos c6],by rw [wP,hx];simp only [if_pos c6]⟩,by omega⟩
   case n94=>intro c5 c6 c7;exact ⟨⟨p+1,by omega,by omega,by rw [wP,hx];simp only [if_neg c6,if_pos c7],by rw [wP,hx];simp only [if_neg c6,if_pos c7]⟩,by omega⟩
   case n96=>intro c5 c6 c7;exact ⟨⟨p+1,by omega,by omega,by rw [wP,hx];simp only [if_neg c6,if_neg c7],by rw [wP,hx];simp only [if_neg c6,if_neg c7]⟩,by omega⟩
   case n98=>
    intro c5
    have:p=(w * h).toNat:=by omega
    subst this
    refine ⟨⟨t+1,by omega,by omega,?_,?_⟩,by omega⟩<;>rw [wT,lf,hx]
   all_goals (intros;first |omega |(have:=ra (by omega);have:=rb (by omega);omega))
  all_goals (intros;(try simp only [vZ14,Int.toNat_natCast]);omega)
 all_goals (intros;(try simp only [vZ14]);omega)
end HX

namespace HX
open Go Go.Proofs CX
structure V48 (pre:Nat→List (List D)→Prop) (fn:Nat→List (List D)→Nat→Nat→D) (a0_0:Int) (a0_1:Int) (a0_2:Int) (R:Nat→Nat→D)  : Prop where
 g0:pre 53 [[D.i a0_0],[D.i 1],[D.i 32]]
 g1:(D.boo (fn 53 [[D.i a0_0],[D.i 1],[D.i 32]] 0 0)=false)→R 0 0=D.i 3
 g2:(D.boo (fn 53 [[D.i a0_0],[D.i 1],[D.i 32]] 0 0)=true)→pre 53 [[D.i a0_1],[D.i 1],[D.i 32]]
 g3:(D.boo (fn 53 [[D.i a0_0],[D.i 1],[D.i 32]] 0 0)=true)→(D.boo (fn 53 [[D.i a0_1],[D.i 1],[D.i 32]] 0 0)=false)→R 0 0=D.i 3
 g4:(D.boo (fn 53 [[D.i a0_0],[D.i 1],[D.i 32]] 0 0)=true)→(D.boo (fn 53 [[D.i a0_1],[D.i 1],[D.i 32]] 0 0)=true)→pre 53 [[D.i a0_2],[D.i 1],[D.i 128]]
 g5:(D.boo (fn 53 [[D.i a0_0],[D.i 1],[D.i 32]] 0 0)=true)→(D.boo (fn 53 [[D.i a0_1],[D.i 1],[D.i 32]] 0 0)=true)→(D.boo (fn 53 [[D.i a0_2],[D.i 1],[D.i 128]] 0 0)=false)→R 0 0=D.i 3
 g6:(D.boo (fn 53 [[D.i a0_0],[D.i 1],[D.i 32]] 0 0)=true)→(D.boo (fn 53 [[D.i a0_1],[D.i 1],[D.i 32]] 0 0)=true)→(D.boo (fn 53 [[D.i a0_2],[D.i 1],[D.i 128]] 0 0)=true)→R 0 0=D.i 0
end HX

namespace HX
open Go Go.Proofs CX
structure V49 (pre:Nat→List (List D)→Prop) (fn:Nat→List (List D)→Nat→Nat→D) (a0_0:Int) (a0_1:Int) (a0_2:Int) (a1:Rows) (R:Nat→Nat→D) (I0:Int→Int→Prop) (m0:Int→Int→Nat):Prop where
 g0:-9223372036854775808≤(a0_0 * a0_1)∧(a0_0 * a0_1)≤9223372036854775807
 g1:(¬(a1.length:Int)=(a0_0 * a0_1))→R 0 0=D.i 13
 i0:((a1.length:Int)=(a0_0 * a0_1))→I0 0 0
 g3:∀x0_0 x0_1,I0 x0_0 x0_1→((a1.length:Int)=(a0_0 * a0_1))→(x0_1 < (a1.length:Int))→0≤x0_1
 g4:∀x0_0 x0_1,I0 x0_0 x0_1→((a1.length:Int)=(a0_0 * a0_1))→(x0_1 < (a1.length:Int))→x0_1 < (a1.length:Int)
 g5:∀x0_0 x0_1,I0 x0_0 x0_1→((a1.length:Int)=(a0_0 * a0_1))→(x0_1 < (a1.length:Int))→(((Int.toNat x0_1:Nat):Int)) < (a1.length:Int)
 g6:∀x0_0 x0_1,I0 x0_0 x0_1→((a1.length:Int)=(a0_0 * a0_1))→(x0_1 < (a1.length:Int))→pre 53 [[D.i (D.int (gt a1 x0_1.toNat 0))],[D.i 0],[D.i 255]]
 g7:∀x0_0 x0_1,I0 x0_0 x0_1→((a1.length:Int)=(a0_0 * a0_1))→(x0_1 < (a1.length:Int))→(D.boo (fn 53 [[D.i (D.int (gt a1 x0_1.toNat 0))],[D.i 0],[D.i 255]] 0 0)=false)→R 0 0=D.i 3
 g8:∀x0_0 x0_1,I0 x0_0 x0_1→((a1.length:Int)=(a0_0 * a0_1))→(x0_1 < (a1.length:Int))→(D.boo (fn 53 [[D.i (D.int (gt a1 x0_1.toNat 0))],[D.i 0],[D.i 255]] 0 0)=true)→-9223372036854775808≤(x0_1+1)∧(x0_1+1)≤9223372036854775807
 n9:∀x0_0 x0_1,I0 x0_0 x0_1→((a1.length:Int)=(a0_0 * a0_1))→(x0_1 < (a1.length:Int))→(D.boo (fn 53 [[D.i (D.int (gt a1 x0_1.toNat 0))],[D.i 0],[D.i 255]] 0 0)=true)→I0 x0_0 (x0_1+1)∧m0 x0_0 (x0_1+1) < m0 x0_0 x0_1
 g10:∀x0_0 x0_1,I0 x0_0 x0_1→((a1.length:Int)=(a0_0 * a0_1))→(¬x0_1 < (a1.length:Int))→R 0 0=D.i 0
end HX

namespace HX
open Go Go.Proofs CX
structure V59 (pre:Nat→List (List D)→Prop) (fn:Nat→List (List D)→Nat→Nat→D) (a0_0:Int) (a0_1:Int) (a0_2:Int) (a1:Int) (a2:Int) (R:Nat→Nat→D)  : Prop where
 g0:a0_0≠0
 g2:-9223372036854775808≤((Int.tmod a1 a0_0) - (Int.tmod a2 a0_0))∧((Int.tmod a1 a0_0) - (Int.tmod a2 a0_0))≤9223372036854775807
 g4:-9223372036854775808≤(Int.tdiv a1 a0_0)∧(Int.tdiv a1 a0_0)≤9223372036854775807
 g6:-9223372036854775808≤(Int.tdiv a2 a0_0)∧(Int.tdiv a2 a0_0)≤9223372036854775807
 g7:-9223372036854775808≤((Int.tdiv a1 a0_0) - (Int.tdiv a2 a0_0))∧((Int.tdiv a1 a0_0) - (Int.tdiv a2 a0_0))≤9223372036854775807
 g8:(¬a1=a2)→pre 53 [[D.i ((Int.tmod a1 a0_0) - (Int.tmod a2 a0_0))],[D.i (-1)],[D.i 1]]
 g9:(¬a1=a2)→(D.boo (fn 53 [[D.i ((Int.tmod a1 a0_0) - (Int.tmod a2 a0_0))],[D.i (-1)],[D.i 1]] 0 0)=true)→pre 53 [[D.i ((Int.tdiv a1 a0_0) - (Int.tdiv a2 a0_0))],[D.i (-1)],[D.i 1]]
 g10:(¬a1=a2)→(D.boo (fn 53 [[D.i ((Int.tmod a1 a0_0) - (Int.tmod a2 a0_0))],[D.i (-1)],[D.i 1]] 0 0)=true)→R 0 0=D.b (D.boo (fn 53 [[D.i ((Int.tdiv a1 a0_0) - (Int.tdiv a2 a0_0))],[D.i (-1)],[D.i 1]] 0 0))
 g11:(¬a1=a2)→(D.boo (fn 53 [[D.i ((Int.tmod a1 a0_0) - (Int.tmod a2 a0_0))],[D.i (-1)],[D.i 1]] 0 0)=false)→R 0 0=D.b false
 g12:(a1=a2)→R 0 0=D.b false
end HX

namespace HX
open Go Go.Proofs CX
structure V20 (pre:Nat→List (List D)→Prop) (fn:Nat→List (List D)→Nat→Nat→D) (a0:Rows) (a1:Rows) (R:Nat→Nat→D) (I0:Bool→Int→Prop) (m0:Bool→Int→Nat):Prop where
 g0:(¬(a0.length:Int)=(a1.length:Int))→R 0 0=D.b false
 i0:((a0.length:Int)=(a1.length:Int))→I0 false 0
 g2:∀x0_0 x0_1,I0 x0_0 x0_1→((a0.length:Int)=(a1.length:Int))→(x0_1 < (a0.length:Int))→0≤x0_1
 g3:∀x0_0 x0_1,I0 x0_0 x0_1→((a0.length:Int)=(a1.length:Int))→(x0_1 < (a0.length:Int))→x0_1 < (a0.length:Int)
 g4:∀x0_0 x0_1,I0 x0_0 x0_1→((a0.length:Int)=(a1.length:Int))→(x0_1 < (a0.length:Int))→(((Int.toNat x0_1:Nat):Int)) < (a0.length:Int)
 g6:∀x0_0 x0_1,I0 x0_0 x0_1→((a0.length:Int)=(a1.length:Int))→(x0_1 < (a0.length:Int))→x0_1 < (a1.length:Int)
 g7:∀x0_0 x0_1,I0 x0_0 x0_1→((a0.length:Int)=(a1.length:Int))→(x0_1 < (a0.length:Int))→(((Int.toNat x0_1:Nat):Int)) < (a1.length:Int)
 g8:∀x0_0 x0_1,I0 x0_0 x0_1→((a0.length:Int)=(a1.length:Int))→(x0_1 < (a0.length:Int))→pre 55 [[D.l (D.rows (gt a0 x0_1.toNat 0))],[D.l (D.rows (gt a1 x0_1.toNat 0))]]
 g9:∀x0_0 x0_1,I0 x0_0 x0_1→((a0.length:Int)=(a1.length:Int))→(x0_1 < (a0.length:Int))→(D.boo (fn 55 [[D.l (D.rows (gt a0 x0_1.toNat 0))],[D.l (D.rows (gt a1 x0_1.toNat 0))]] 0 0)=false)→R 0 0=D.b false
 g10:∀x0_0 x0_1,I0 x0_0 x0_1→((a0.length:Int)=(a1.length:Int))→(x0_1 < (a0.length:Int))→(D.boo (fn 55 [[D.l (D.rows (gt a0 x0_1.toNat 0))],[D.l (D.rows (gt a1 x0_1.toNat 0))]] 0 0)=true)→-9223372036854775808≤(x0_1+1)∧(x0_1+1)≤9223372036854775807
 n11:∀x0_0 x0_1,I0 x0_0 x0_1→((a0.length:Int)=(a1.length:Int))→(x0_1 < (a0.length:Int))→(D.boo (fn 55 [[D.l (D.rows (gt a0 x0_1.toNat 0))],[D.l (D.rows (gt a1 x0_1.toNat 0))]] 0 0)=true)→I0 x0_0 (x0_1+1)∧m0 x0_0 (x0_1+1) < m0 x0_0 x0_1
 g12:∀x0_0 x0_1,I0 x0_0 x0_1→((a0.length:Int)=(a1.length:Int))→(¬x0_1 < (a0.length:Int))→R 0 0=D.b true
end HX

namespace HX
open Go Go.Proofs CX
structure V55 (a0:Rows) (a1:Rows) (R:Nat→Nat→D) (I0:Bool→Int→Prop) (m0:Bool→Int→Nat):Prop where
 g0:(¬(a0.length:Int)=(a1.length:Int))→R 0 0=D.b false
 i0:((a0.length:Int)=(a1.length:Int))→I0 false 0
 g2:∀x0_0 x0_1,I0 x0_0 x0_1→((a0.length:Int)=(a1.length:Int))→(x0_1 < (a0.length:Int))→0≤x0_1
 g3:∀x0_0 x0_1,I0 x0_0 x0_1→((a0.length:Int)=(a1.length:Int))→(x0_1 < (a0.length:Int))→x0_1 < (a0.length:Int)
 g4:∀x0_0 x0_1,I0 x0_0 x0_1→((a0.length:Int)=(a1.length:Int))→(x0_1 < (a0.length:Int))→(((Int.toNat x0_1:Nat):Int)) < (a0.length:Int)
 g6:∀x0_0 x0_1,I0 x0_0 x0_1→((a0.length:Int)=(a1.length:Int))→(x0_1 < (a0.length:Int))→x0_1 < (a1.length:Int)
 g7:∀x0_0 x0_1,I0 x0_0 x0_1→((a0.length:Int)=(a1.length:Int))→(x0_1 < (a0.length:Int))→(((Int.toNat x0_1:Nat):Int)) < (a1.length:Int)
 g8:∀x0_0 x0_1,I0 x0_0 x0_1→((a0.length:Int)=(a1.length:Int))→(x0_1 < (a0.length:Int))→(¬(D.int (gt a0 x0_1.toNat 0))=(D.int (gt a1 x0_1.toNat 0)))→R 0 0=D.b false
 g9:∀x0_0 x0_1,I0 x0_0 x0_1→((a0.length:Int)=(a1.length:Int))→(x0_1 < (a0.length:Int))→((D.int (gt a0 x0_1.toNat 0))=(D.int (gt a1 x0_1.toNat 0)))→-9223372036854775808≤(x0_1+1)∧(x0_1+1)≤9223372036854775807
 n10:∀x0_0 x0_1,I0 x0_0 x0_1→((a0.length:Int)=(a1.length:Int))→(x0_1 < (a0.length:Int))→((D.int (gt a0 x0_1.toNat 0))=(D.int (gt a1 x0_1.toNat 0)))→I0 x0_0 (x0_1+1)∧m0 x0_0 (x0_1+1) < m0 x0_0 x0_1
 g11:∀x0_0 x0_1,I0 x0_0 x0_1→((a0.length:Int)=(a1.length:Int))→(¬x0_1 < (a0.length:Int))→R 0 0=D.b true
end HX

namespace HX
open Go Go.Proofs CX
open Classical in
noncomputable def camE (w h s:Int):Int:=if inB w 1 32=true∧inB h 1 32=true∧inB s 1 128=true then 0 else 3
theorem cam_0 {w h s:Int} (e:camE w h s=0):inB w 1 32=true∧inB h 1 32=true∧inB s 1 128=true:=by
 unfold camE at e
 split at e
 ·rename_i c;exact c
 ·cases e
theorem cam_3 {w h s:Int} (e:¬camE w h s=0):¬(inB w 1 32=true∧inB h 1 32=true∧inB s 1 128=true)∧camE w h s=3:=by
 unfold camE at e ⊢
 split at e
 ·exact absurd rfl e
 ·rename_i c;exact ⟨c,if_neg c⟩
section
variable {pre:Nat→List (List D)→Prop} {fn:Nat→List (List D)→Nat→Nat→D} (hp53:∀x,pre 53 x) (hf53:∀a b c,fn 53 [[.i a],[.i b],[.i c]] 0 0=.b (inB a b c))
include hp53 hf53
theorem law48 {w h s:Int} {R:Nat→Nat→D} (hR:R 0 0=.i (camE w h s)):V48 pre fn w h s R:=by
 have hb:∀n:Bool,(D.b n).boo=n:=fun _=>rfl
 constructor
 all_goals (try simp only [hf53,hb])
 case g0 |g2 |g4=>intros;exact hp53 _
 case g1=>intro a;rw [hR,camE,if_neg fun b=>by rw [a] at b;cases b.1]
 case g3=>intro _ a;rw [hR,camE,if_neg fun b=>by rw [a] at b;cases b.2.1]
 case g5=>intro _ _ a;rw [hR,camE,if_neg fun b=>by rw [a] at b;cases b.2.2]
 case g6=>intro a b c;rw [hR,camE,if_pos ⟨a,b,c⟩]
theorem law49 {w h s:Int} {f:Rows} (hw:1≤w∧w≤32) (hh:1≤h∧h≤32) {R:Nat→Nat→D} (hR:R 0 0=.i (frE w h f)) :
  V49 pre fn w h s f R (fun _ i=>∃q:Nat,i=q∧q≤f.length∧∀j,j < q→inB (lv f j) 0 255=true) (fun _ i=>(f.length - i).toNat):=by
 have hb:∀n:Bool,(D.b n).boo=n:=fun _=>rfl
 obtain ⟨n1,n2,_⟩:=twoWH hw hh
 constructor
 all_goals (try simp only [hf53,hb])
 case g1=>intro c;rw [hR,frE,if_neg c]
 case i0=>exact fun _=>⟨0,rfl,Nat.zero_le _,fun j h=>by omega⟩
 case g0=>omega
 all_goals (rintro a i ⟨q,rfl,hq,hj⟩ c;(try simp only [Int.toNat_natCast]))
 case g6=>intro _;exact hp53 _
 case g7=>intro h1 h2;rw [hR,frE,if_pos c,if_pos ⟨q,by omega,h2⟩]
 case n9=>
  intro h1 h2
  refine ⟨⟨q+1,by omega,by omega,fun j hjq=>?_⟩,by omega⟩
  by_cases e:j=q
  ·subst e;exact h2
  ·exact hj j (by omega)
 case g10=>
  intro h1
  rw [hR,frE,if_pos c,if_neg]
  rintro ⟨j,h2,h3⟩
  rw [hj j (by omega)] at h3;cases h3
 all_goals (intros;omega)
open Classical in
theorem law59 {w h s p q:Int} (hw:1≤w∧w≤32) (h1:0≤p∧p≤65536) (h2:0≤q∧q≤65536) {R:Nat→Nat→D} (hR:R 0 0=.b (decide (nearP w p q))):V59 pre fn w h s p q R:=by
 have hb:∀n:Bool,(D.b n).boo=n:=fun _=>rfl
 have a1:Int.tmod p w=p % w:=Int.tmod_eq_emod_of_nonneg h1.1
 have a2:Int.tmod q w=q % w:=Int.tmod_eq_emod_of_nonneg h2.1
 have a3:Int.tdiv p w=p / w:=Int.tdiv_eq_ediv_of_nonneg h1.1
 have a4:Int.tdiv q w=q / w:=Int.tdiv_eq_ediv_of_nonneg h2.1
 have b1:=Int.emod_nonneg p (show w≠0 by omega)
 have b2:=Int.emod_nonneg q (show w≠0 by omega)
 have b3:=Int.emod_lt_of_pos p (show 0 < w by omega)
 have b4:=Int.emod_lt_of_pos q (show 0 < w by omega)
 have b5:=Int.ediv_nonneg h1.1 (show 0≤w by omega)
 have b6:=Int.ediv_nonneg h2.1 (show 0≤w by omega)
 have b7:p / w≤p:=Int.ediv_le_self _ h1.1
 have b8:q / w≤q:=Int.ediv_le_self _ h2.1
 constructor
 all_goals (try simp only [hf53,hb,a1,a2,a3,a4])
 case g8 |g9=>intros;exact hp53 _
 case g10=>
  intro c d
  have d:=inB_t.1 d
  rw [hR]
  congr 1
  cases e:inB (p / w - q / w) (-1) 1 with
  |true=>have e:=inB_t.1 e;exact decide_eq_true ⟨c,d.1,d.2,e.1,e.2⟩
  |false=>have e:=inB_f.1 e;exact decide_eq_false fun n=>e ⟨n.2.2.2.1,n.2.2.2.2⟩
 case g11=>
  intro c d
  have d:=inB_f.1 d
  rw [hR,decide_eq_false fun n:nearP w p q=>d ⟨n.2.1,n.2.2.1⟩]
 case g12=>intro c;rw [hR,decide_eq_false fun n:nearP w p q=>n.1 c]
 all_goals omega
end
theorem law55 {a0 a1:Rows} (h:a1=a0) (hl:(a0.length:Int)≤9223372036854775807) {R:Nat→Nat→D} (hR:R 0 0=.b true) :
  V55 a0 a1 R (fun _ i=>∃q:Nat,i=q∧q≤a0.length) (fun _ i=>(a0.length - i).toNat):=by
 subst h
 constructor
 case g0=>intro c;exact absurd rfl c
 case i0=>exact fun _=>⟨0,rfl,Nat.zero_le _⟩
 all_goals (rintro _ i ⟨q,rfl,hq⟩ _)
 case g11=>intro _;exact hR
 case g8=>intro _ c;exact absurd rfl c
 case n10=>intro c _;exact ⟨⟨q+1,by omega,by omega⟩,by omega⟩
 all_goals (intros;omega)
theorem law20 {pre:Nat→List (List D)→Prop} {fn:Nat→List (List D)→Nat→Nat→D} (hp55:∀a,pre 55 [[.l a],[.l a]]) (hf55:∀a,fn 55 [[.l a],[.l a]] 0 0=.b true)
  {a0 a1:Rows} (h:a1=a0) (hl:(a0.length:Int)≤9223372036854775807) {R:Nat→Nat→D} (hR:R 0 0=.b true) :
  V20 pre fn a0 a1 R (fun _ i=>∃q:Nat,i=q∧q≤a0.length) (fun _ i=>(a0.length - i).toNat):=by
 subst h
 constructor
 case g0=>intro c;exact absurd rfl c
 case i0=>exact fun _=>⟨0,rfl,Nat.zero_le _⟩
 all_goals (rintro _ i ⟨q,rfl,hq⟩ _;(try simp only [hf55]))
 case g12=>intro _;exact hR
 case g8=>intro _;exact hp55 _
 case g9=>intro _ c;cases c
 case n11=>intro c _;exact ⟨⟨q+1,by omega,by omega⟩,by omega⟩
 all_goals (intros;omega)
end HX

namespace HX
open Go Go.Proofs CX
abbrev vZ18 (x:Int):=-9223372036854775808≤x∧x≤9223372036854775807
abbrev v18a (fn:Nat→List (List D)→Nat→Nat→D) (a0_0:Int):=(D.boo (fn 50 [[D.i a0_0],[D.i 1],[D.i 32]] 0 0)=true)
abbrev v18b (b3:Rows) (f1:Int):=((((D.rows (gt b3 f1.toNat 0))).length:Int))
abbrev v18c (fn:Nat→List (List D)→Nat→Nat→D) (a0_1:Int):=(D.boo (fn 50 [[D.i a0_1],[D.i 1],[D.i 32]] 0 0)=true)
abbrev v18d (fn:Nat→List (List D)→Nat→Nat→D) (a0_2:Int):=(D.boo (fn 50 [[D.i a0_2],[D.i 1],[D.i 128]] 0 0)=true)
abbrev v18e (fn:Nat→List (List D)→Nat→Nat→D) (a0_0:Int) (a0_1:Int) (a0_2:Int) (a2:Rows) (b2:Int):=(¬(2 * (D.int (fn 52 [[D.i a0_0,D.i a0_1,D.i a0_2]] 0 0)))≤(D.int (gt a2 b2.toNat 1)))
abbrev v18f (b3:Rows) (f1:Int) (j0:Int):=(D.int (gt (D.rows (gt b3 f1.toNat 0)) j0.toNat 0))
abbrev v18g (fn:Nat→List (List D)→Nat→Nat→D) (a3:Int):=(D.boo (fn 50 [[D.i a3],[D.i 0],[D.i 256]] 0 0)=true)
abbrev v18h (fn:Nat→List (List D)→Nat→Nat→D) (a2:Rows) (b2:Int) (a3:Int):=(fn 50 [[D.i (D.int (gt a2 b2.toNat 0))],[D.i 1],[D.i (a3 - 1)]] 0 0)
abbrev v18i (b3:Rows) (d1:Int):=((((D.rows (gt b3 d1.toNat 0))).length:Int))
abbrev v18j (fn:Nat→List (List D)→Nat→Nat→D) (a0_0:Int) (a0_1:Int) (a0_2:Int) (a1:Rows):=(D.int (fn 46 [[D.i a0_0,D.i a0_1,D.i a0_2],[D.l a1]] 0 0))
structure V18c2 (b3:Rows) (d0:Rows) (d1:Int) (e0:Int) (I1:Rows→Int→Prop) (m1:Rows→Int→Nat):Prop where
 g96:(e0 < (v18i b3 d1))→0≤e0
 g97:(e0 < (v18i b3 d1))→e0 < (v18i b3 d1)
 g98:(e0 < (v18i b3 d1))→(((Int.toNat e0:Nat):Int)) < (v18i b3 d1)
 g99:(e0 < (v18i b3 d1))→(2:Int)≠0
 g100:(e0 < (v18i b3 d1))→vZ18 ((Int.tdiv (D.int (gt (D.rows (gt b3 d1.toNat 0)) e0.toNat 0)) 2))
 g101:(e0 < (v18i b3 d1))→False
 g102:(¬e0 < (v18i b3 d1))→(true=true)→(d0.length+(List.length ([[D.l []]]:Rows))) * 24≤4294967296∧(d0.length+(List.length ([[D.l []]]:Rows)))≤4294967296
 g103:(¬e0 < (v18i b3 d1))→(true=true)→vZ18 ((d1+1))
 n104:(¬e0 < (v18i b3 d1))→(true=true)→I1 (d0++[[D.l []]]) (d1+1)∧m1 (d0++[[D.l []]]) (d1+1) < m1 d0 d1
abbrev V18l2 (b3:Rows) (d0:Rows) (d1:Int) (I1:Rows→Int→Prop) (m1:Rows→Int→Nat):Prop:=∃(I2:Int→Prop) (m2:Int→Nat),I2 0∧∀e0,I2 e0→V18c2 b3 d0 d1 e0 I1 m1
structure V18c1 (R:Nat→Nat→D) (b3:Rows) (d0:Rows) (d1:Int) (I1:Rows→Int→Prop) (m1:Rows→Int→Nat):Prop where
 g92:(d1 < (b3.length:Int))→0≤d1
 g93:(d1 < (b3.length:Int))→d1 < (b3.length:Int)
 g94:(d1 < (b3.length:Int))→(((Int.toNat d1:Nat):Int)) < (b3.length:Int)
 g109:(¬d1 < (b3.length:Int))→R 0 0=D.l d0
 g110:(¬d1 < (b3.length:Int))→R 1 0=D.i 0
 l2:(d1 < (b3.length:Int))→V18l2 b3 d0 d1 I1 m1
abbrev V18l1 (R:Nat→Nat→D) (b3:Rows):Prop:=∃(I1:Rows→Int→Prop) (m1:Rows→Int→Nat),I1 [] 0∧∀d0 d1,I1 d0 d1→V18c1 R b3 d0 d1 I1 m1
structure V18c4 (a0_2:Int) (b3:Rows) (f0:Rows) (f1:Int) (f2:Rows) (j0:Int) (j1:Rows) (I3:Rows→Int→Rows→Prop) (m3:Rows→Int→Rows→Nat) (I4:Int→Rows→Prop) (m4:Int→Rows→Nat):Prop where
 g117:(j0 < (v18b b3 f1))→0≤j0
 g118:(j0 < (v18b b3 f1))→j0 < (v18b b3 f1)
 g119:(j0 < (v18b b3 f1))→(((Int.toNat j0:Nat):Int)) < (v18b b3 f1)
 g120:(j0 < (v18b b3 f1))→(2:Int)≠0
 g121:(j0 < (v18b b3 f1))→vZ18 ((Int.tdiv (v18f b3 f1 j0) 2))
 g122:(j0 < (v18b b3 f1))→0≤(Int.tdiv (v18f b3 f1 j0) 2)
 g123:(j0 < (v18b b3 f1))→(Int.tdiv (v18f b3 f1 j0) 2) < (j1.length:Int)
 g124:(j0 < (v18b b3 f1))→(((Int.toNat (Int.tdiv (v18f b3 f1 j0) 2):Nat):Int)) < (j1.length:Int)
 g127:(j0 < (v18b b3 f1))→vZ18 ((2 * (Int.tmod (v18f b3 f1 j0) 2)))
 g128:(j0 < (v18b b3 f1))→vZ18 (((2 * (Int.tmod (v18f b3 f1 j0) 2)) - 1))
 g129:(j0 < (v18b b3 f1))→vZ18 ((a0_2 * ((2 * (Int.tmod (v18f b3 f1 j0) 2)) - 1)))
 g130:(j0 < (v18b b3 f1))→vZ18 (((D.int (gt j1 (Int.toNat (Int.tdiv (v18f b3 f1 j0) 2)) 0))+(a0_2 * ((2 * (Int.tmod (v18f b3 f1 j0) 2)) - 1))))
 g134:(j0 < (v18b b3 f1))→vZ18 ((j0+1))
 n135:(j0 < (v18b b3 f1))→I4 (j0+1) (List.set j1 (Int.toNat (Int.tdiv (v18f b3 f1 j0) 2)) [D.i ((D.int (gt j1 (Int.toNat (Int.tdiv (v18f b3 f1 j0) 2)) 0))+(a0_2 * ((2 * (Int.tmod (v18f b3 f1 j0) 2)) - 1)))])∧m4 (j0+1) (List.set j1 (Int.toNat (Int.tdiv (v18f b3 f1 j0) 2)) [D.i ((D.int (gt j1 (Int.toNat (Int.tdiv (v18f b3 f1 j0) 2)) 0))+(a0_2 * ((2 * (Int.tmod (v18f b3 f1 j0) 2)) - 1)))]) < m4 j0 j1
 g136:(¬j0 < (v18b b3 f1))→1≤j1.length
 g140:(¬j0 < (v18b b3 f1))→(false=false)→((List.length ([]:Rows))+j1.length) * 8≤4294967296∧((List.length ([]:Rows))+j1.length)≤4294967296
 g141:(¬j0 < (v18b b3 f1))→(false=false)→(f0.length+(List.length ([[D.l ([]++j1)]]:Rows))) * 24≤4294967296∧(f0.length+(List.length ([[D.l ([]++j1)]]:Rows)))≤4294967296
 g142:(¬j0 < (v18b b3 f1))→(false=false)→vZ18 ((f1+1))
 n143:(¬j0 < (v18b b3 f1))→(false=false)→I3 (f0++[[D.l ([]++j1)]]) (f1+1) j1∧m3 (f0++[[D.l ([]++j1)]]) (f1+1) j1 < m3 f0 f1 f2
abbrev V18l4 (a0_2:Int) (b3:Rows) (f0:Rows) (f1:Int) (f2:Rows) (I3:Rows→Int→Rows→Prop) (m3:Rows→Int→Rows→Nat):Prop:=∃(I4:Int→Rows→Prop) (m4:Int→Rows→Nat),I4 0 f2∧∀j0 j1,I4 j0 j1→V18c4 a0_2 b3 f0 f1 f2 j0 j1 I3 m3 I4 m4
structure V18c3 (a0_2:Int) (R:Nat→Nat→D) (b3:Rows) (f0:Rows) (f1:Int) (f2:Rows) (I3:Rows→Int→Rows→Prop) (m3:Rows→Int→Rows→Nat):Prop where
 g113:(f1 < (b3.length:Int))→0≤f1
 g114:(f1 < (b3.length:Int))→f1 < (b3.length:Int)
 g115:(f1 < (b3.length:Int))→(((Int.toNat f1:Nat):Int)) < (b3.length:Int)
 g144:(¬f1 < (b3.length:Int))→R 0 0=D.l f0
 g145:(¬f1 < (b3.length:Int))→R 1 0=D.i 0
 l4:(f1 < (b3.length:Int))→V18l4 a0_2 b3 f0 f1 f2 I3 m3
abbrev V18l3 (a0_2:Int) (a1:Rows) (R:Nat→Nat→D) (b3:Rows):Prop:=∃(I3:Rows→Int→Rows→Prop) (m3:Rows→Int→Rows→Nat),I3 [] 0 ([]++a1)∧∀f0 f1 f2,I3 f0 f1 f2→V18c3 a0_2 R b3 f0 f1 f2 I3 m3
structure V18c0 (pre:Nat→List (List D)→Prop) (fn:Nat→List (List D)→Nat→Nat→D) (a0_0:Int) (a0_1:Int) (a0_2:Int) (a1:Rows) (a2:Rows) (a3:Int) (R:Nat→Nat→D) (b0:Rows) (b1:Int) (b2:Int) (b3:Rows) (I0:Rows→Int→Int→Rows→Prop) (m0:Rows→Int→Int→Rows→Nat):Prop where
 g67:(b2 < (a2.length:Int))→0≤b2
 g68:(b2 < (a2.length:Int))→b2 < (a2.length:Int)
 g69:(b2 < (a2.length:Int))→(((Int.toNat b2:Nat):Int)) < (a2.length:Int)
 g70:(b2 < (a2.length:Int))→pre 52 [[D.i a0_0,D.i a0_1,D.i a0_2]]
 g71:(b2 < (a2.length:Int))→vZ18 ((2 * (D.int (fn 52 [[D.i a0_0,D.i a0_1,D.i a0_2]] 0 0))))
 g72:(b2 < (a2.length:Int))→((2 * (D.int (fn 52 [[D.i a0_0,D.i a0_1,D.i a0_2]] 0 0)))≤(D.int (gt a2 b2.toNat 1)))→R 0 0=D.l []
 g73:(b2 < (a2.length:Int))→((2 * (D.int (fn 52 [[D.i a0_0,D.i a0_1,D.i a0_2]] 0 0)))≤(D.int (gt a2 b2.toNat 1)))→R 1 0=D.i 3
 g74:(b2 < (a2.length:Int))→(v18e fn a0_0 a0_1 a0_2 a2 b2)→vZ18 ((a3 - 1))
 g75:(b2 < (a2.length:Int))→(v18e fn a0_0 a0_1 a0_2 a2 b2)→pre 50 [[D.i (D.int (gt a2 b2.toNat 0))],[D.i 1],[D.i (a3 - 1)]]
 g76:(b2 < (a2.length:Int))→(v18e fn a0_0 a0_1 a0_2 a2 b2)→(D.boo (v18h fn a2 b2 a3)=false)→R 0 0=D.l []
 g77:(b2 < (a2.length:Int))→(v18e fn a0_0 a0_1 a0_2 a2 b2)→(D.boo (v18h fn a2 b2 a3)=false)→R 1 0=D.i 3
 g78:(b2 < (a2.length:Int))→(v18e fn a0_0 a0_1 a0_2 a2 b2)→(D.boo (v18h fn a2 b2 a3)=true)→0≤(D.int (gt a2 b2.toNat 0))
 g79:(b2 < (a2.length:Int))→(v18e fn a0_0 a0_1 a0_2 a2 b2)→(D.boo (v18h fn a2 b2 a3)=true)→(D.int (gt a2 b2.toNat 0)) < (b3.length:Int)
 g80:(b2 < (a2.length:Int))→(v18e fn a0_0 a0_1 a0_2 a2 b2)→(D.boo (v18h fn a2 b2 a3)=true)→(((Int.toNat (D.int (gt a2 b2.toNat 0)):Nat):Int)) < (b3.length:Int)
 g83:(b2 < (a2.length:Int))→(v18e fn a0_0 a0_1 a0_2 a2 b2)→(D.boo (v18h fn a2 b2 a3)=true)→((List.length ((D.rows (gt b3 (Int.toNat (D.int (gt a2 b2.toNat 0))) 0)):Rows))+(List.length ([[D.i (D.int (gt a2 b2.toNat 1))]]:Rows))) * 8≤4294967296∧((List.length ((D.rows (gt b3 (Int.toNat (D.int (gt a2 b2.toNat 0))) 0)):Rows))+(List.length ([[D.i (D.int (gt a2 b2.toNat 1))]]:Rows)))≤4294967296
 g86:(b2 < (a2.length:Int))→(v18e fn a0_0 a0_1 a0_2 a2 b2)→(D.boo (v18h fn a2 b2 a3)=true)→(Int.toNat (D.int (gt a2 b2.toNat 0)))≤(Int.toNat (D.int (gt a2 b2.toNat 0)))
 g89:(b2 < (a2.length:Int))→(v18e fn a0_0 a0_1 a0_2 a2 b2)→(D.boo (v18h fn a2 b2 a3)=true)→vZ18 ((b2+1))
 n90:(b2 < (a2.length:Int))→(v18e fn a0_0 a0_1 a0_2 a2 b2)→(D.boo (v18h fn a2 b2 a3)=true)→I0 b0 b1 (b2+1) (List.set b3 (Int.toNat (D.int (gt a2 b2.toNat 0))) [D.l ((D.rows (gt b3 (Int.toNat (D.int (gt a2 b2.toNat 0))) 0))++[[D.i (D.int (gt a2 b2.toNat 1))]])])∧m0 b0 b1 (b2+1) (List.set b3 (Int.toNat (D.int (gt a2 b2.toNat 0))) [D.l ((D.rows (gt b3 (Int.toNat (D.int (gt a2 b2.toNat 0))) 0))++[[D.i (D.int (gt a2 b2.toNat 1))]])]) < m0 b0 b1 b2 b3
 g111:(¬b2 < (a2.length:Int))→((List.length ([]:Rows))+a1.length) * 8≤4294967296∧((List.length ([]:Rows))+a1.length)≤4294967296
 l1:(¬b2 < (a2.length:Int))→(a1.length≤0)→V18l1 R b3
 l3:(¬b2 < (a2.length:Int))→V18l3 a0_2 a1 R b3
abbrev V18l0 (pre:Nat→List (List D)→Prop) (fn:Nat→List (List D)→Nat→Nat→D) (a0_0:Int) (a0_1:Int) (a0_2:Int) (a1:Rows) (a2:Rows) (a3:Int) (R:Nat→Nat→D):Prop:=∃(I0:Rows→Int→Int→Rows→Prop) (m0:Rows→Int→Int→Rows→Nat),I0 [] 0 0 (List.replicate a3.toNat [D.l []])∧∀b0 b1 b2 b3,I0 b0 b1 b2 b3→V18c0 pre fn a0_0 a0_1 a0_2 a1 a2 a3 R b0 b1 b2 b3 I0 m0
structure V18 (pre:Nat→List (List D)→Prop) (fn:Nat→List (List D)→Nat→Nat→D) (a0_0:Int) (a0_1:Int) (a0_2:Int) (a1:Rows) (a2:Rows) (a3:Int) (R:Nat→Nat→D):Prop where
 g0:pre 50 [[D.i a0_0],[D.i 1],[D.i 32]]
 g1:(D.boo (fn 50 [[D.i a0_0],[D.i 1],[D.i 32]] 0 0)=false)→R 0 0=D.l []
 g2:(D.boo (fn 50 [[D.i a0_0],[D.i 1],[D.i 32]] 0 0)=false)→R 1 0=D.i 3
 g17:(v18a fn a0_0)→pre 50 [[D.i a0_1],[D.i 1],[D.i 32]]
 g18:(v18a fn a0_0)→(D.boo (fn 50 [[D.i a0_1],[D.i 1],[D.i 32]] 0 0)=false)→R 0 0=D.l []
 g19:(v18a fn a0_0)→(D.boo (fn 50 [[D.i a0_1],[D.i 1],[D.i 32]] 0 0)=false)→R 1 0=D.i 3
 g34:(v18a fn a0_0)→(v18c fn a0_1)→pre 50 [[D.i a0_2],[D.i 1],[D.i 128]]
 g35:(v18a fn a0_0)→(v18c fn a0_1)→(D.boo (fn 50 [[D.i a0_2],[D.i 1],[D.i 128]] 0 0)=false)→R 0 0=D.l []
 g36:(v18a fn a0_0)→(v18c fn a0_1)→(D.boo (fn 50 [[D.i a0_2],[D.i 1],[D.i 128]] 0 0)=false)→R 1 0=D.i 3
 g53:(v18a fn a0_0)→(v18c fn a0_1)→(v18d fn a0_2)→pre 50 [[D.i a3],[D.i 0],[D.i 256]]
 g54:(v18a fn a0_0)→(v18c fn a0_1)→(v18d fn a0_2)→(D.boo (fn 50 [[D.i a3],[D.i 0],[D.i 256]] 0 0)=false)→R 0 0=D.l []
 g55:(v18a fn a0_0)→(v18c fn a0_1)→(v18d fn a0_2)→(D.boo (fn 50 [[D.i a3],[D.i 0],[D.i 256]] 0 0)=false)→R 1 0=D.i 3
 g56:(v18a fn a0_0)→(v18c fn a0_1)→(v18d fn a0_2)→(v18g fn a3)→pre 46 [[D.i a0_0,D.i a0_1,D.i a0_2],[D.l a1]]
 g57:(v18a fn a0_0)→(v18c fn a0_1)→(v18d fn a0_2)→(v18g fn a3)→(¬(v18j fn a0_0 a0_1 a0_2 a1)=0)→R 0 0=D.l []
 g58:(v18a fn a0_0)→(v18c fn a0_1)→(v18d fn a0_2)→(v18g fn a3)→(¬(v18j fn a0_0 a0_1 a0_2 a1)=0)→R 1 0=D.i (v18j fn a0_0 a0_1 a0_2 a1)
 g59:(v18a fn a0_0)→(v18c fn a0_1)→(v18d fn a0_2)→(v18g fn a3)→((v18j fn a0_0 a0_1 a0_2 a1)=0)→pre 51 [[D.l a2]]
 g60:(v18a fn a0_0)→(v18c fn a0_1)→(v18d fn a0_2)→(v18g fn a3)→((v18j fn a0_0 a0_1 a0_2 a1)=0)→(¬(D.int (fn 51 [[D.l a2]] 0 0))=0)→R 0 0=D.l []
 g61:(v18a fn a0_0)→(v18c fn a0_1)→(v18d fn a0_2)→(v18g fn a3)→((v18j fn a0_0 a0_1 a0_2 a1)=0)→(¬(D.int (fn 51 [[D.l a2]] 0 0))=0)→R 1 0=D.i (D.int (fn 51 [[D.l a2]] 0 0))
 g62:(v18a fn a0_0)→(v18c fn a0_1)→(v18d fn a0_2)→(v18g fn a3)→((v18j fn a0_0 a0_1 a0_2 a1)=0)→((D.int (fn 51 [[D.l a2]] 0 0))=0)→0≤a3
 g63:(v18a fn a0_0)→(v18c fn a0_1)→(v18d fn a0_2)→(v18g fn a3)→((v18j fn a0_0 a0_1 a0_2 a1)=0)→((D.int (fn 51 [[D.l a2]] 0 0))=0)→a3≤a3
 g64:(v18a fn a0_0)→(v18c fn a0_1)→(v18d fn a0_2)→(v18g fn a3)→((v18j fn a0_0 a0_1 a0_2 a1)=0)→((D.int (fn 51 [[D.l a2]] 0 0))=0)→(a3 * (Int.ofNat 1))≤4096
 g65:(v18a fn a0_0)→(v18c fn a0_1)→(v18d fn a0_2)→(v18g fn a3)→((v18j fn a0_0 a0_1 a0_2 a1)=0)→((D.int (fn 51 [[D.l a2]] 0 0))=0)→(a3 * (Int.ofNat 24))≤140737488355328
 l0:(v18a fn a0_0)→(v18c fn a0_1)→(v18d fn a0_2)→(v18g fn a3)→((v18j fn a0_0 a0_1 a0_2 a1)=0)→((D.int (fn 51 [[D.l a2]] 0 0))=0)→V18l0 pre fn a0_0 a0_1 a0_2 a1 a2 a3 R
end HX

namespace HX
open Go Go.Proofs CX
noncomputable def chg (l:Rows) (t:Int):Nat→Rows
 |0=>[]
 |q+1=>if eT l q=t then chg l t q++[[.i (eI l q)]] else chg l t q
noncomputable def chgs (l:Rows) (t:Int):Rows:=chg l t l.length
def dlt (s i:Int):Int:=s * (2 * Int.tmod i 2 - 1)
def apR (s:Int) (c k:Rows):Nat→Rows
 |0=>k
 |q+1=>(apR s c k q).set (Int.tdiv (lv c q) 2).toNat [.i (lv (apR s c k q) (Int.tdiv (lv c q) 2).toNat+dlt s (lv c q))]
noncomputable def rb (s:Int) (l f:Rows):Nat→Rows
 |0=>f
 |t+1=>apR s (chgs l t) (rb s l f t) (chgs l t).length
noncomputable def rbO (s:Int) (l f:Rows):Nat→Rows
 |0=>[]
 |t+1=>rbO s l f t++[[.l (rb s l f (t+1))]]
def BadE (n:Int) (l:Rows) (T:Int):Prop:=∃j,j < l.length∧¬(eI l j < 2 * n∧inB (eT l j) 1 (T - 1)=true)
open Classical in
noncomputable def rbE (w h s:Int) (f l:Rows) (T:Int):Int:=
 if ¬(inB w 1 32=true∧inB h 1 32=true∧inB s 1 128=true) then 3 else if inB T 0 256=false then 3 else if ¬frE w h f=0 then frE w h f else if ¬chkE l=0 then chkE l
 else if BadE (w * h) l T then 3 else 0
noncomputable def rbR (w h s:Int) (f l:Rows) (T:Int):Rows:=if rbE w h s f l T=0 then rbO s l f T.toNat else []
theorem rbO_len {s:Int} {l f:Rows}:∀t,(rbO s l f t).length=t
 |0=>rfl
 |t+1=>by rw [rbO,List.length_append,rbO_len t];rfl
theorem chg_len {l:Rows} {t:Int}:∀q,(chg l t q).length≤q
 |0=>Nat.le_refl _
 |q+1=>by
  have:=chg_len (l:=l) (t:=t) q
  rw [chg];split
  ·simp;omega
  ·omega
theorem chg_in {l:Rows} {t n:Int}:∀q,(∀j,j < q→0≤eI l j∧eI l j < n)→∀i,i < (chg l t q).length→0≤lv (chg l t q) i∧lv (chg l t q) i < n
 |0,_,i,hi=>by simp [chg] at hi
 |q+1,h,i,hi=>by
  have ih:=chg_in (t:=t) q (fun j hj=>h j (by omega))
  rw [chg] at hi ⊢
  split at hi
  ·rename_i c
   rw [if_pos c]
   by_cases d:i < (chg l t q).length
   ·unfold lv;rw [gtA d];exact ih i d
   ·have:i=(chg l t q).length:=by simp at hi;omega
    subst this
    unfold lv;rw [gtN];exact h q (by omega)
  ·rename_i c
   rw [if_neg c];exact ih i hi
theorem dlt_b {s i:Int} (hs:1≤s∧s≤128) (hi:0≤i):-128≤dlt s i∧dlt s i≤128∧(dlt s i=s∨dlt s i=-s):=by
 have:Int.tmod i 2=0∨Int.tmod i 2=1:=by
  rw [Int.tmod_eq_emod_of_nonneg hi];omega
 unfold dlt
 rcases this with e |e<;>rw [e]<;>omega
structure BOk (n:Nat) (b:Int) (k:Rows):Prop where
 len:k.length=n
 rng:∀p,-b≤lv k p∧lv k p≤b
theorem ap_ok {s b:Int} {n:Nat} {c k:Rows} (hs:1≤s∧s≤128) (hb:0≤b) (hc:∀i,i < c.length→0≤lv c i∧lv c i < 2 * n) (hk:BOk n b k):∀q,q≤c.length→BOk n (b+128 * q) (apR s c k q)
 |0,_=>by simpa [apR] using hk
 |q+1,hq=>by
  have ih:=ap_ok hs hb hc hk q (by omega)
  have h1:=hc q (by omega)
  have h2:=dlt_b hs h1.1
  have h3:(Int.tdiv (lv c q) 2).toNat < n:=by
   rw [Int.tdiv_eq_ediv_of_nonneg h1.1];omega
  refine ⟨by rw [apR,List.length_set];exact ih.len,fun p=>?_⟩
  rw [apR,lv_set (by rw [ih.len];exact h3)]
  have h4:=ih.rng p
  have h5:=ih.rng (Int.tdiv (lv c q) 2).toNat
  split<;>omega
theorem rb_ok {s:Int} {n:Nat} {l f:Rows} (hs:1≤s∧s≤128) (hl:l.length≤65536) (hi:∀j,j < l.length→0≤eI l j∧eI l j < 2 * n) (hf:BOk n 255 f):∀t:Nat,BOk n (255+8388608 * t) (rb s l f t)
 |0=>by simpa [rb] using hf
 |t+1=>by
  have ih:=rb_ok hs hl hi hf t
  have h1:=ap_ok (s:=s) (c:=chgs l t) hs (by omega) (chg_in _ hi) ih _ (Nat.le_refl _)
  have h2:=chg_len (l:=l) (t:=t) l.length
  refine ⟨h1.len,fun p=>?_⟩
  have h3:=h1.rng p
  have e:rb s l f (t+1)=apR s (chgs l t) (rb s l f t) (chgs l t).length:=rfl
  rw [e]
  have h4:(chgs l t).length≤65536:=Nat.le_trans h2 hl
  omega
theorem frE_b {w h:Int} {n:Nat} {f:Rows} (hn:(n:Int)=w * h) (h0:frE w h f=0):BOk n 255 f:=by
 obtain ⟨a,b⟩:=frE_0 h0
 refine ⟨by omega,fun p=>?_⟩
 by_cases c:p < f.length
 ·have:=b p c;omega
 ·have:lv f p=0:=by simp [lv,gt,List.getD_eq_getElem?_getD,List.getElem?_eq_none (Nat.le_of_not_lt c),D.int]
  omega
open Classical in
theorem law18 {pre:Nat→List (List D)→Prop} {fn:Nat→List (List D)→Nat→Nat→D} (hp50:∀x,pre 50 x) (hf50:∀a b c,fn 50 [[.i a],[.i b],[.i c]] 0 0=.b (inB a b c))
  (hp46:∀(w h s:Int) (f:Rows),1≤w∧w≤32→1≤h∧h≤32→pre 46 [[.i w,.i h,.i s],[.l f]]) (hf46:∀(w h s:Int) (f:Rows),fn 46 [[.i w,.i h,.i s],[.l f]] 0 0=.i (frE w h f))
  (hp51:∀x,pre 51 x) (hf51:∀l,fn 51 [[.l l]] 0 0=.i (chkE l)) (hp52:∀w h s:Int,1≤w∧w≤32→1≤h∧h≤32→pre 52 [[.i w,.i h,.i s]]) (hf52:∀w h s:Int,fn 52 [[.i w,.i h,.i s]] 0 0=.i (w * h))
  {w h s T:Int} {f l:Rows} {R:Nat→Nat→D} (h0:R 0 0=.l (rbR w h s f l T)) (h1:R 1 0=.i (rbE w h s f l T)):V18 pre fn w h s f l T R:=by
 have hi:∀n:Int,(D.i n).int=n:=fun _=>rfl
 have hb:∀n:Bool,(D.b n).boo=n:=fun _=>rfl
 have hr:∀n:Rows,(D.l n).rows=n:=fun _=>rfl
 have err:∀e:Int,¬e=0→rbE w h s f l T=e→R 0 0=.l []:=fun e he h=>by rw [h0,rbR,h,if_neg he]
 constructor
 all_goals (try simp only [v18a,v18c,v18d,v18g,v18j,hf50,hf46,hf51,hi,hb])
 case g0 |g17 |g34 |g53=>intros;exact hp50 _
 case g59=>intros;exact hp51 _
 case g1=>intro a;exact err 3 (by decide) (by rw [rbE,if_pos fun b=>by rw [a] at b;cases b.1])
 case g2=>intro a;rw [h1,rbE,if_pos fun b=>by rw [a] at b;cases b.1]
 case g18=>intro _ a;exact err 3 (by decide) (by rw [rbE,if_pos fun b=>by rw [a] at b;cases b.2.1])
 case g19=>intro _ a;rw [h1,rbE,if_pos fun b=>by rw [a] at b;cases b.2.1]
 case g35=>intro _ _ a;exact err 3 (by decide) (by rw [rbE,if_pos fun b=>by rw [a] at b;cases b.2.2])
 case g36=>intro _ _ a;rw [h1,rbE,if_pos fun b=>by rw [a] at b;cases b.2.2]
 case g54=>intro a b c d;exact err 3 (by decide) (by rw [rbE,if_neg fun h=>h ⟨a,b,c⟩,if_pos d])
 case g55=>intro a b c d;rw [h1,rbE,if_neg fun h=>h ⟨a,b,c⟩,if_pos d]
 case g56=>intro a b _ _;exact hp46 _ _ _ _ (inB_t.1 a) (inB_t.1 b)
 case g57=>intro a b c d e;exact err _ e (by rw [rbE,if_neg fun h=>h ⟨a,b,c⟩,if_neg (by simp [d]),if_pos e])
 case g58=>intro a b c d e;rw [h1,rbE,if_neg fun h=>h ⟨a,b,c⟩,if_neg (by simp [d]),if_pos e]
 case g60=>intro a b c d e g;exact err _ g (by rw [rbE,if_neg fun h=>h ⟨a,b,c⟩,if_neg (by simp [d]),if_neg fun h=>h e,if_pos g])
 case g61=>intro a b c d e g;rw [h1,rbE,if_neg fun h=>h ⟨a,b,c⟩,if_neg (by simp [d]),if_neg fun h=>h e,if_pos g]
 case g62 |g63 |g64 |g65=>intro _ _ _ d _ _;have:=inB_t.1 d;(try show _ * 1≤_);(try show _ * 24≤_);omega
 intro a b c d e g
 have hw:=inB_t.1 a
 have hh:=inB_t.1 b
 have hs:=inB_t.1 c
 have hT:=inB_t.1 d
 obtain ⟨n1,n2,_⟩:=twoWH hw hh
 obtain ⟨hl,ev⟩:=chk_ev g
 have hf:=frE_b (n:=(w * h).toNat) (by omega) e
 have fl:=hf.len
 have e1:rbE w h s f l T=if BadE (w * h) l T then 3 else 0:=by
  rw [rbE,if_neg fun h=>h ⟨a,b,c⟩,if_neg (by simp [d]),if_neg fun h=>h e,if_neg fun h=>h g]
 refine ⟨fun _ _ i b3=>∃q:Nat,i=q∧q≤l.length∧b3.length=T.toNat∧(∀t:Nat,t < T.toNat→(gt b3 t 0).rows=chg l t q)∧∀j,j < q→eI l j < 2 * (w * h)∧inB (eT l j) 1 (T - 1)=true,fun _ _ i _=>(l.length - i).toNat,
  ⟨0,rfl,Nat.zero_le _,List.length_replicate,fun t ht=>by simp [gt,List.getD_eq_getElem?_getD,List.getElem?_replicate,ht,D.rows,chg],fun j h=>by omega⟩,?_⟩
 rintro _ _ i b3 ⟨q,rfl,hq,hbl,hch,hj⟩
 constructor
 all_goals (try simp only [vZ18,v18e,v18h,hf50,hf52,hi,hb,Int.toNat_natCast])
 case g70=>intro _;exact hp52 _ _ _ hw hh
 case g75=>intros;exact hp50 _
 case g72=>intro a1 a2;exact err 3 (by decide) (by rw [e1,if_pos (show BadE _ _ _ from ⟨q,by omega,fun h=>absurd h.1 (Int.not_lt.2 a2)⟩)])
 case g73=>intro a1 a2;rw [h1,e1,if_pos (show BadE _ _ _ from ⟨q,by omega,fun h=>absurd h.1 (Int.not_lt.2 a2)⟩)]
 case g76=>intro a1 _ a2;exact err 3 (by decide) (by rw [e1,if_pos (show BadE _ _ _ from ⟨q,by omega,fun h=>by have h:=h.2;unfold eT at h;rw [a2] at h;cases h⟩)])
 case g77=>intro a1 _ a2;rw [h1,e1,if_pos (show BadE _ _ _ from ⟨q,by omega,fun h=>by have h:=h.2;unfold eT at h;rw [a2] at h;cases h⟩)]
 case g78 |g79 |g80=>intro a1 a2 a3;have:=inB_t.1 a3;omega
 case g83=>
  intro a1 a2 a3
  have h2:=inB_t.1 a3
  have h3:=hch (gt l q 0).int.toNat (by omega)
  have h4:=chg_len (l:=l) (t:=(gt l q 0).int.toNat) q
  rw [h3]
  show _ * 8≤4294967296∧_
  simp only [List.length_cons,List.length_nil]
  omega
 case n90=>
  intro a1 a2 a3
  have h2:=inB_t.1 a3
  refine ⟨⟨q+1,by omega,by omega,by rw [List.length_set];exact hbl,fun t ht=>?_,fun j hjq=>?_⟩,by omega⟩
  ·have h3:=hch t ht
   have h5:((gt l q 0).int.toNat:Int)=(gt l q 0).int:=by omega
   rw [chg]
   show _=if (gt l q 0).int=_ then _ else _
   by_cases e2:(gt l q 0).int=t
   ·have h4:(gt l q 0).int.toNat=t:=by omega
    rw [if_pos e2,h4]
    simp only [gt,List.getD_eq_getElem?_getD,List.getElem?_set,hbl]
    rw [if_pos trivial,if_pos ht]
    show _++_=_++_
    rw [←h3];rfl
   ·rw [if_neg e2,←h3]
    simp only [gt,List.getD_eq_getElem?_getD,List.getElem?_set]
    rw [if_neg (fun h=>e2 (by have h:(gt l q 0).int.toNat=t:=h;omega))]
  ·by_cases e2:j=q
   ·subst e2;exact ⟨by unfold eI;omega,a3⟩
   ·exact hj j (by omega)
 case g111=>intro _;rw [List.length_nil];omega
 case l1=>intro _ a1;omega
 case l3=>
  intro a1
  have:q=l.length:=by omega
  subst this
  have e2:rbE w h s f l T=0:=by rw [e1,if_neg (fun ⟨j,h2,h3⟩=>h3 (hj j h2))]
  have hI:∀j,j < l.length→0≤eI l j∧eI l j < 2 * ((w * h).toNat:Int):=fun j h=>⟨(ev.ri j h).1,by have:=(hj j h).1;omega⟩
  have hR:=rb_ok (s:=s) (l:=l) (f:=f) hs hl hI hf
  refine ⟨fun f0 i f2=>∃t:Nat,i=t∧t≤T.toNat∧f0=rbO s l f t∧f2=rb s l f t,fun _ i _=>(T - i).toNat,⟨0,rfl,Nat.zero_le _,rfl,rfl⟩,?_⟩
  rintro _ i _ ⟨t,rfl,ht,rfl,rfl⟩
  have ol:=rbO_len (s:=s) (l:=l) (f:=f) t
  constructor
  all_goals (try simp only [vZ18,Int.toNat_natCast])
  case g144=>intro a2;rw [h0,rbR,if_pos e2];congr 2;omega
  case g145=>intro a2;rw [h1,e2]
  case l4=>
   intro a2
   have hc:=hch t (by omega)
   have hk:=hR t
   have cl:=chg_len (l:=l) (t:=t) l.length
   have hA:=ap_ok (s:=s) (c:=chgs l t) hs (by omega) (chg_in _ hI) hk
   have hD:=fun i hi=>chg_in (t:=(t:Int)) l.length hI i hi
   refine ⟨fun i j1=>∃p:Nat,i=p∧p≤(chgs l t).length∧j1=apR s (chgs l t) (rb s l f t) p,fun i _=>((chgs l t).length - i).toNat,⟨0,rfl,Nat.zero_le _,rfl⟩,?_⟩
   rintro i _ ⟨p,rfl,hp,rfl⟩
   have hc:(gt b3 t 0).rows=chgs l t:=hc
   have cl:(chgs l t).length≤l.length:=cl
   have hD:∀i,i < (chgs l t).length→0≤lv (chgs l t) i∧lv (chgs l t) i < 2 * ((w * h).toNat:Int):=hD
   have hp':=hA p hp
   have el:∀(k:Rows) (p:Nat),(gt k p 0).int=lv k p:=fun _ _=>rfl
   have pl:=hp'.len
   constructor
   all_goals (try simp only [vZ18,v18b,v18f,Int.toNat_natCast,hc,el,List.length_cons,List.length_nil,List.nil_append,pl])
   case n135=>intro a3;exact ⟨⟨p+1,by omega,by omega,rfl⟩,by omega⟩
   case n143=>
    intro a3 _
    have:p=(chgs l t).length:=by omega
    subst this
    exact ⟨⟨t+1,by omega,by omega,rfl,rfl⟩,by omega⟩
   case g121 |g122 |g123 |g124 |g127 |g128 |g129 |g130=>
    intro a3
    have b1:=hD p (by omega)
    have b2:=dlt_b hs b1.1
    have b3:=hp'.rng (Int.tdiv (lv (chgs l t) p) 2).toNat
    have b4:Int.tdiv (lv (chgs l t) p) 2=lv (chgs l t) p / 2:=Int.tdiv_eq_ediv_of_nonneg b1.1
    have b5:Int.tmod (lv (chgs l t) p) 2=lv (chgs l t) p % 2:=Int.tmod_eq_emod_of_nonneg b1.1
    unfold dlt at b2
    first |omega |(rw [b4] at *;omega) |(rw [b5] at *;omega)
   all_goals (intros;omega)
  all_goals (intros;omega)
 all_goals (intros;omega)
end HX

namespace HX
open Go Go.Proofs CX
end HX

namespace HX
open Go Go.Proofs CX
def f1S (N:Nat) (a:Rows):Nat→Rows
 |0=>List.replicate N [.i 0]
 |p+1=>if 0 < a.length then (f1S N a p).set p [.i (lv a (Int.tmod p a.length).toNat)] else f1S N a p
def mv (s N:Int) (m:Rows) (t p:Nat):Int:=if 0 < t∧0 < m.length then Int.tmod (lv m (Int.tmod (t * N+p) m.length).toNat) (2 * s+1) - s else 0
def nxv (s N:Int) (m:Rows) (t:Nat) (k:Rows) (p:Nat):Int:=mnI (mxI (lv k p+mv s N m t p) 0) 255
def flP (s N:Int) (m:Rows) (t:Nat) (k:Rows):Nat→Rows
 |0=>List.replicate N.toNat [.i 0]
 |p+1=>(flP s N m t k p).set p [.i (nxv s N m t k p)]
def fl (s N:Int) (a m:Rows):Nat→Rows×Rows
 |0=>(f1S N.toNat a N.toNat,[])
 |t+1=>(flP s N m t (fl s N a m t).1 N.toNat,(fl s N a m t).2++[[.l (flP s N m t (fl s N a m t).1 N.toNat)]])
end HX

namespace HX
open Go Go.Proofs CX
theorem ap_pre {s:Int} {c k:Rows} {r:List D}:∀q,q≤c.length→apR s (c++[r]) k q=apR s c k q
 |0,_=>rfl
 |q+1,h=>by
  have e:lv (c++[r]) q=lv c q:=by unfold lv;rw [gtA (by omega)]
  rw [apR,apR,ap_pre q (by omega),e]
def apA (s:Int) (c k:Rows):Rows:=apR s c k c.length
theorem apA_A {s i:Int} {c k:Rows}:apA s (c++[[.i i]]) k=(apA s c k).set (Int.tdiv i 2).toNat [.i (lv (apA s c k) (Int.tdiv i 2).toNat+dlt s i)]:=by
 unfold apA
 have e:lv (c++[[.i i]]) c.length=i:=by unfold lv;rw [gtN];rfl
 rw [List.length_append]
 show apR _ _ _ (c.length+1)=_
 rw [apR,ap_pre _ (Nat.le_refl _),e]
def upd (s f k:Int):Int:=if s≤f - k then k+s else if s≤k - f then k - s else k
end HX

namespace HX
open Go Go.Proofs CX
abbrev vZ16 (x:Int):=-9223372036854775808≤x∧x≤9223372036854775807
abbrev v16a (a1:Rows) (d2:Int) (f1:Int) (f2:Rows):=((D.int (gt (D.rows (gt a1 d2.toNat 0)) f1.toNat 0)) - (D.int (gt f2 f1.toNat 0)))
structure V16r2 (a1:Rows) (d0:Rows) (d2:Int) (I2:Rows→Prop):Prop where
 g16:(d2=0)→(0:Int)≤0
 g17:(d2=0)→0 < (a1.length:Int)
 g18:(d2=0)→(((Int.toNat 0:Nat):Int)) < (a1.length:Int)
 g19:(d2=0)→(d0.length+(List.length ((D.rows (gt a1 (Int.toNat 0) 0)):Rows))) * 8≤4294967296∧(d0.length+(List.length ((D.rows (gt a1 (Int.toNat 0) 0)):Rows)))≤4294967296
 n20:(d2=0)→I2 (d0++(D.rows (gt a1 (Int.toNat 0) 0)))
 n21:(¬d2=0)→I2 d0
structure V16c3 (a0_2:Int) (a1:Rows) (d0:Rows) (d1:Rows) (d2:Int) (f0:Rows) (f1:Int) (f2:Rows) (I1:Rows→Rows→Int→Prop) (m1:Rows→Rows→Int→Nat) (I3:Rows→Int→Rows→Prop) (m3:Rows→Int→Rows→Nat):Prop where
 g23:(f1 < (f2.length:Int))→0≤d2
 g24:(f1 < (f2.length:Int))→d2 < (a1.length:Int)
 g25:(f1 < (f2.length:Int))→(((Int.toNat d2:Nat):Int)) < (a1.length:Int)
 g26:(f1 < (f2.length:Int))→0≤f1
 g27:(f1 < (f2.length:Int))→f1 < ((((D.rows (gt a1 d2.toNat 0))).length:Int))
 g28:(f1 < (f2.length:Int))→(((Int.toNat f1:Nat):Int)) < ((((D.rows (gt a1 d2.toNat 0))).length:Int))
 g30:(f1 < (f2.length:Int))→f1 < (f2.length:Int)
 g31:(f1 < (f2.length:Int))→(((Int.toNat f1:Nat):Int)) < (f2.length:Int)
 g33:(f1 < (f2.length:Int))→vZ16 ((v16a a1 d2 f1 f2))
 g34:(f1 < (f2.length:Int))→(a0_2≤(v16a a1 d2 f1 f2))→vZ16 ((2 * f1))
 g35:(f1 < (f2.length:Int))→(a0_2≤(v16a a1 d2 f1 f2))→vZ16 (((2 * f1)+1))
 g36:(f1 < (f2.length:Int))→(a0_2≤(v16a a1 d2 f1 f2))→(f0.length+(List.length ([[D.i d2,D.i ((2 * f1)+1)]]:Rows))) * 16≤4294967296∧(f0.length+(List.length ([[D.i d2,D.i ((2 * f1)+1)]]:Rows)))≤4294967296
 g37:(f1 < (f2.length:Int))→(a0_2≤(v16a a1 d2 f1 f2))→0≤f1
 g38:(f1 < (f2.length:Int))→(a0_2≤(v16a a1 d2 f1 f2))→f1 < (f2.length:Int)
 g39:(f1 < (f2.length:Int))→(a0_2≤(v16a a1 d2 f1 f2))→(((Int.toNat f1:Nat):Int)) < (f2.length:Int)
 g41:(f1 < (f2.length:Int))→(a0_2≤(v16a a1 d2 f1 f2))→vZ16 (((D.int (gt f2 f1.toNat 0))+a0_2))
 g45:(f1 < (f2.length:Int))→(a0_2≤(v16a a1 d2 f1 f2))→vZ16 ((f1+1))
 n46:(f1 < (f2.length:Int))→(a0_2≤(v16a a1 d2 f1 f2))→I3 (f0++[[D.i d2,D.i ((2 * f1)+1)]]) (f1+1) (List.set f2 f1.toNat [D.i ((D.int (gt f2 f1.toNat 0))+a0_2)])∧m3 (f0++[[D.i d2,D.i ((2 * f1)+1)]]) (f1+1) (List.set f2 f1.toNat [D.i ((D.int (gt f2 f1.toNat 0))+a0_2)]) < m3 f0 f1 f2
 g47:(f1 < (f2.length:Int))→(¬a0_2≤(v16a a1 d2 f1 f2))→vZ16 ((0 - (v16a a1 d2 f1 f2)))
 g48:(f1 < (f2.length:Int))→(¬a0_2≤(v16a a1 d2 f1 f2))→(a0_2≤(0 - (v16a a1 d2 f1 f2)))→vZ16 ((2 * f1))
 g49:(f1 < (f2.length:Int))→(¬a0_2≤(v16a a1 d2 f1 f2))→(a0_2≤(0 - (v16a a1 d2 f1 f2)))→(f0.length+(List.length ([[D.i d2,D.i (2 * f1)]]:Rows))) * 16≤4294967296∧(f0.length+(List.length ([[D.i d2,D.i (2 * f1)]]:Rows)))≤4294967296
 g50:(f1 < (f2.length:Int))→(¬a0_2≤(v16a a1 d2 f1 f2))→(a0_2≤(0 - (v16a a1 d2 f1 f2)))→0≤f1
 g51:(f1 < (f2.length:Int))→(¬a0_2≤(v16a a1 d2 f1 f2))→(a0_2≤(0 - (v16a a1 d2 f1 f2)))→f1 < (f2.length:Int)
 g52:(f1 < (f2.length:Int))→(¬a0_2≤(v16a a1 d2 f1 f2))→(a0_2≤(0 - (v16a a1 d2 f1 f2)))→(((Int.toNat f1:Nat):Int)) < (f2.length:Int)
 g54:(f1 < (f2.length:Int))→(¬a0_2≤(v16a a1 d2 f1 f2))→(a0_2≤(0 - (v16a a1 d2 f1 f2)))→vZ16 (((D.int (gt f2 f1.toNat 0)) - a0_2))
 g58:(f1 < (f2.length:Int))→(¬a0_2≤(v16a a1 d2 f1 f2))→(a0_2≤(0 - (v16a a1 d2 f1 f2)))→vZ16 ((f1+1))
 n59:(f1 < (f2.length:Int))→(¬a0_2≤(v16a a1 d2 f1 f2))→(a0_2≤(0 - (v16a a1 d2 f1 f2)))→I3 (f0++[[D.i d2,D.i (2 * f1)]]) (f1+1) (List.set f2 f1.toNat [D.i ((D.int (gt f2 f1.toNat 0)) - a0_2)])∧m3 (f0++[[D.i d2,D.i (2 * f1)]]) (f1+1) (List.set f2 f1.toNat [D.i ((D.int (gt f2 f1.toNat 0)) - a0_2)]) < m3 f0 f1 f2
 g60:(f1 < (f2.length:Int))→(¬a0_2≤(v16a a1 d2 f1 f2))→(¬a0_2≤(0 - (v16a a1 d2 f1 f2)))→vZ16 ((f1+1))
 n61:(f1 < (f2.length:Int))→(¬a0_2≤(v16a a1 d2 f1 f2))→(¬a0_2≤(0 - (v16a a1 d2 f1 f2)))→I3 f0 (f1+1) f2∧m3 f0 (f1+1) f2 < m3 f0 f1 f2
 g62:(¬f1 < (f2.length:Int))→vZ16 ((d2+1))
 n63:(¬f1 < (f2.length:Int))→I1 f2 f0 (d2+1)∧m1 f2 f0 (d2+1) < m1 d0 d1 d2
abbrev V16l3 (a0_2:Int) (a1:Rows) (d0:Rows) (d1:Rows) (d2:Int) (e0:Rows) (I1:Rows→Rows→Int→Prop) (m1:Rows→Rows→Int→Nat):Prop:=∃(I3:Rows→Int→Rows→Prop) (m3:Rows→Int→Rows→Nat),I3 d1 0 e0∧∀f0 f1 f2,I3 f0 f1 f2→V16c3 a0_2 a1 d0 d1 d2 f0 f1 f2 I1 m1 I3 m3
structure V16c2 (a0_2:Int) (a1:Rows) (d0:Rows) (d1:Rows) (d2:Int) (e0:Rows) (I1:Rows→Rows→Int→Prop) (m1:Rows→Rows→Int→Nat):Prop where
 l3:V16l3 a0_2 a1 d0 d1 d2 e0 I1 m1
abbrev V16j2 (a0_2:Int) (a1:Rows) (d0:Rows) (d1:Rows) (d2:Int) (I1:Rows→Rows→Int→Prop) (m1:Rows→Rows→Int→Nat):Prop:=∃(I2:Rows→Prop),V16r2 a1 d0 d2 I2∧∀e0,I2 e0→V16c2 a0_2 a1 d0 d1 d2 e0 I1 m1
structure V16c1 (a0_2:Int) (a1:Rows) (R:Nat→Nat→D) (d0:Rows) (d1:Rows) (d2:Int) (I1:Rows→Rows→Int→Prop) (m1:Rows→Rows→Int→Nat):Prop where
 g64:(¬d2 < (a1.length:Int))→(65536 < (d1.length:Int))→R 0 0=D.l []
 g65:(¬d2 < (a1.length:Int))→(65536 < (d1.length:Int))→R 1 0=D.i 9
 g66:(¬d2 < (a1.length:Int))→(¬65536 < (d1.length:Int))→R 0 0=D.l d1
 g67:(¬d2 < (a1.length:Int))→(¬65536 < (d1.length:Int))→R 1 0=D.i 0
 l2:(d2 < (a1.length:Int))→V16j2 a0_2 a1 d0 d1 d2 I1 m1
abbrev V16l1 (a0_2:Int) (a1:Rows) (R:Nat→Nat→D):Prop:=∃(I1:Rows→Rows→Int→Prop) (m1:Rows→Rows→Int→Nat),I1 [] [] 0∧∀d0 d1 d2,I1 d0 d1 d2→V16c1 a0_2 a1 R d0 d1 d2 I1 m1
structure V16c0 (pre:Nat→List (List D)→Prop) (fn:Nat→List (List D)→Nat→Nat→D) (a0_0:Int) (a0_1:Int) (a0_2:Int) (a1:Rows) (R:Nat→Nat→D) (b0:Rows) (b1:Int) (b2:Int) (I0:Rows→Int→Int→Prop) (m0:Rows→Int→Int→Nat):Prop where
 g6:(b2 < (a1.length:Int))→0≤b2
 g7:(b2 < (a1.length:Int))→b2 < (a1.length:Int)
 g8:(b2 < (a1.length:Int))→(((Int.toNat b2:Nat):Int)) < (a1.length:Int)
 g9:(b2 < (a1.length:Int))→pre 49 [[D.i a0_0,D.i a0_1,D.i a0_2],[D.l (D.rows (gt a1 b2.toNat 0))]]
 g10:(b2 < (a1.length:Int))→(¬(D.int (fn 49 [[D.i a0_0,D.i a0_1,D.i a0_2],[D.l (D.rows (gt a1 b2.toNat 0))]] 0 0))=0)→R 0 0=D.l []
 g11:(b2 < (a1.length:Int))→(¬(D.int (fn 49 [[D.i a0_0,D.i a0_1,D.i a0_2],[D.l (D.rows (gt a1 b2.toNat 0))]] 0 0))=0)→R 1 0=D.i (D.int (fn 49 [[D.i a0_0,D.i a0_1,D.i a0_2],[D.l (D.rows (gt a1 b2.toNat 0))]] 0 0))
 g12:(b2 < (a1.length:Int))→((D.int (fn 49 [[D.i a0_0,D.i a0_1,D.i a0_2],[D.l (D.rows (gt a1 b2.toNat 0))]] 0 0))=0)→vZ16 ((b2+1))
 n13:(b2 < (a1.length:Int))→((D.int (fn 49 [[D.i a0_0,D.i a0_1,D.i a0_2],[D.l (D.rows (gt a1 b2.toNat 0))]] 0 0))=0)→I0 b0 b1 (b2+1)∧m0 b0 b1 (b2+1) < m0 b0 b1 b2
 l1:(¬b2 < (a1.length:Int))→V16l1 a0_2 a1 R
abbrev V16l0 (pre:Nat→List (List D)→Prop) (fn:Nat→List (List D)→Nat→Nat→D) (a0_0:Int) (a0_1:Int) (a0_2:Int) (a1:Rows) (R:Nat→Nat→D):Prop:=∃(I0:Rows→Int→Int→Prop) (m0:Rows→Int→Int→Nat),I0 [] 0 0∧∀b0 b1 b2,I0 b0 b1 b2→V16c0 pre fn a0_0 a0_1 a0_2 a1 R b0 b1 b2 I0 m0
structure V16 (pre:Nat→List (List D)→Prop) (fn:Nat→List (List D)→Nat→Nat→D) (a0_0:Int) (a0_1:Int) (a0_2:Int) (a1:Rows) (R:Nat→Nat→D):Prop where
 g0:pre 48 [[D.i a0_0,D.i a0_1,D.i a0_2]]
 g1:(¬(D.int (fn 48 [[D.i a0_0,D.i a0_1,D.i a0_2]] 0 0))=0)→R 0 0=D.l []
 g2:(¬(D.int (fn 48 [[D.i a0_0,D.i a0_1,D.i a0_2]] 0 0))=0)→R 1 0=D.i (D.int (fn 48 [[D.i a0_0,D.i a0_1,D.i a0_2]] 0 0))
 g3:((D.int (fn 48 [[D.i a0_0,D.i a0_1,D.i a0_2]] 0 0))=0)→(256 < (a1.length:Int))→R 0 0=D.l []
 g4:((D.int (fn 48 [[D.i a0_0,D.i a0_1,D.i a0_2]] 0 0))=0)→(256 < (a1.length:Int))→R 1 0=D.i 9
 l0:((D.int (fn 48 [[D.i a0_0,D.i a0_1,D.i a0_2]] 0 0))=0)→(¬256 < (a1.length:Int))→V16l0 pre fn a0_0 a0_1 a0_2 a1 R
end HX
