/-
  Texts of the executors: PkV, PkX, PkY, PkW, HxMapL, V36, SaD, V21, SaC, SaE, SaF, V52, SaG, V46, V14, SlD, SlE, V18, SlF, V35, SlG, SlH, SlI, W50, W100, W76, W71, W51.
-/
import Derived.Test.YtmnaiddobipclaaSenseLevels8
set_option linter.all false
namespace HX
open Go Go.Proofs CX
structure Sb (s s':Rows×Int):Prop where
 le:bitsN s≤bitsN s'
 bit:∀p:Nat,(p:Int) < bitsN s→bAt s'.1 p=bAt s.1 p
 hd:40≤bitsN s→∀i,i < 5→gt s'.1 i 0=gt s.1 i 0
theorem Sb.refl (s:Rows×Int):Sb s s:=⟨Int.le_refl _,fun _ _=>rfl,fun _ _ _=>rfl⟩
theorem Sb.trans {a b c:Rows×Int} (h:Sb a b) (g:Sb b c):Sb a c:=
 ⟨Int.le_trans h.le g.le,fun p hp=>by rw [g.bit p (Int.lt_of_lt_of_le hp h.le),h.bit p hp],fun hb i hi=>by rw [g.hd (Int.le_trans hb h.le) i hi,h.hd hb i hi]⟩
structure Rd (d:Rows) (s:Rows×Int):Prop where
 len:bitsN s≤40+8 * d.length
 bit:∀p:Nat,40≤p→(p:Int) < bitsN s→bAt d (p - 40)=bAt s.1 p
theorem Rd.less {d:Rows} {s s':Rows×Int} (h:Rd d s') (g:Sb s s'):Rd d s:=
 ⟨Int.le_trans g.le h.len,fun p h1 h2=>by rw [h.bit p h1 (Int.lt_of_lt_of_le h2 g.le),g.bit p h2]⟩
end HX

namespace HX
open Go Go.Proofs CX
def Can (l:Rows):Prop:=∀i,(h:i < l.length)→l[i]=[.i (eT l i),.i (eI l i)]
end HX

namespace HX
open Go Go.Proofs CX
structure Pf (d e:Rows):Prop where
 len:d.length≤e.length
 bit:∀p,p < 8 * d.length→bAt e p=bAt d p
theorem chk_G {l:Rows} (h:EvOk' l):∀f,f≤l.length→chkG l f=0
 |0,_=>rfl
 |f+1,hf=>by
  have q:l.length - (f+1) < l.length:=by omega
  obtain ⟨Q,hQ⟩:∃Q,l.length - (f+1)=Q:=⟨_,rfl⟩
  rw [chkG,hQ]
  rw [hQ] at q
  have lq:(l.take Q).length=Q:=by rw [List.length_take];omega
  rw [if_pos]
  ·exact chk_G h f (by omega)
  ·refine folE_of (h.rt Q q) (h.ri Q q) fun hp=>?_
   rw [lq] at hp ⊢
   have:=h.up (Q - 1) (by omega)
   rw [show Q - 1+1=Q by omega] at this
   unfold eT eI at this ⊢
   rw [gt_take (by omega),gt_take (by omega)]
   exact this
theorem chk_0 {l:Rows} (h:EvOk' l) (hl:l.length≤65536):chkE l=0:=by
 rw [chkE,if_neg (by omega)];exact chk_G h _ (Nat.le_refl _)
theorem chk_of:∀{l:Rows},chkE l=0→l.length≤65536:=by
 intro l h
 rw [chkE] at h
 split at h<;>omega
section
variable {l:Rows} (h:EvOk' l) (hc:Can l) (hl:l.length≤255)
include h hc hl
end
end HX

namespace HX
open Go Go.Proofs CX
theorem chkG_all {l:Rows}:∀f,f≤l.length→chkG l f=0→∀j,l.length - f≤j→j < l.length→folE (l.take j) (eT l j) (eI l j)=0
 |0,_,_,j,h1,h2=>by omega
 |f+1,hf,h,j,h1,h2=>by
  rw [chkG] at h
  split at h
  ·rename_i h3
   by_cases e:j=l.length - (f+1)
   ·rw [e];exact h3
   ·exact chkG_all f (by omega) h j (by omega) h2
  ·rename_i h3;exact absurd h h3
theorem chk_ev {l:Rows} (h:chkE l=0):l.length≤65536∧EvOk' l:=by
 have hl:=chk_of h
 rw [chkE,if_neg (by omega)] at h
 have all:=fun j hj=>folE_0 (chkG_all l.length (Nat.le_refl _) h j (by omega) hj)
 refine ⟨hl,fun i hi=>(all i hi).1,fun i hi=>(all i hi).2.1,fun i hi=>?_⟩
 have:=(all (i+1) hi).2.2
 have lt:(l.take (i+1)).length=i+1:=by rw [List.length_take];omega
 rw [lt,Nat.add_sub_cancel] at this
 have:=this (by omega)
 unfold eT eI at this ⊢
 rw [gt_take (by omega),gt_take (by omega)] at this
 exact this
end HX

namespace HX
open Go CX
theorem dEq_true {a b:D} (h:dEq a b=true):a=b:=by
 cases a<;>cases b<;>simp_all [dEq]
theorem kEqF_iff:∀(ks:List D) (f:Nat→D) (c:Nat),kEqF ks f c=true↔∀j,j < ks.length→dEq (f (c+j)) (ks.getD j .nil)=true
 |[],f,c=>⟨fun _ j hj=>by simp at hj,fun _=>rfl⟩
 |k :: ks,f,c=>by
  simp only [kEqF,Bool.and_eq_true,kEqF_iff ks f (c+1)]
  constructor
  ·rintro ⟨h1,h2⟩ j hj
   cases j with
   |zero=>simpa using h1
   |succ j=>have:=h2 j (by simpa using hj);rw [show c+1+j=c+(j+1) by omega] at this;simpa using this
  ·intro h
   refine ⟨by simpa using h 0 (by simp),fun j hj=>?_⟩
   have:=h (j+1) (by simpa using hj)
   rw [show c+(j+1)=c+1+j by omega] at this
   simpa using this
def gk (k:List D):Prop:=∀j,j < k.length→dEq (k.getD j .nil) (k.getD j .nil)=true
theorem kEq_same {k k' v r:List D} (h:kEq k r=true) (hl:k'.length=k.length):kEq k' r=kEq k' (k++v):=by
 have h:=(kEqF_iff _ _ _).1 h
 rw [Bool.eq_iff_iff]
 refine (kEqF_iff _ _ _).trans (Iff.trans ?_ (kEqF_iff _ _ _).symm)
 have e:∀j,j < k'.length→r.getD (0+j) .nil=(k++v).getD (0+j) .nil:=fun j hj=>by
  have:r.getD (0+j) .nil=k.getD j .nil:=dEq_true (h j (by omega))
  rw [this,Nat.zero_add,List.getD_eq_getElem?_getD,List.getD_eq_getElem?_getD,List.getElem?_append_left (by omega)]
 constructor
 ·intro q j hj;have:=q j hj;rwa [e j hj] at this
 ·intro q j hj;have:=q j hj;rwa [←e j hj] at this
theorem kEq_both {k k' r:List D} (h:kEq k' r=true) (hl:k'.length=k.length) (hk:gk k) {v:List D} (h2:kEq k' (k++v)=true):kEq k r=true:=by
 have a:=(kEqF_iff _ _ _).1 h
 have b:=(kEqF_iff _ _ _).1 h2
 refine (kEqF_iff _ _ _).2 fun j hj=>?_
 have a:r.getD (0+j) .nil=k'.getD j .nil:=dEq_true (a j (by omega))
 have b:(k++v).getD (0+j) .nil=k'.getD j .nil:=dEq_true (b j (by omega))
 show dEq (r.getD (0+j) .nil) _=true
 have e:(k++v).getD (0+j) .nil=k.getD j .nil:=by rw [Nat.zero_add,List.getD_eq_getElem?_getD,List.getD_eq_getElem?_getD,List.getElem?_append_left hj]
 rw [a,←b,e]
 exact hk j hj
theorem mfnd_set {k k' v:List D} (hk:gk k) (hl:k'.length=k.length):∀l:Rows,mfnd k' (msetR k v l)=if kEq k' (k++v) then some (k++v) else mfnd k' l
 |[]=>rfl
 |r :: l=>by
  simp only [msetR]
  by_cases c:kEq k r=true
  ·rw [if_pos c]
   simp only [mfnd]
   by_cases d:kEq k' (k++v)=true
   ·rw [if_pos d,if_pos d]
   ·rw [if_neg d,if_neg d,if_neg]
    rwa [kEq_same (v:=v) c hl]
  ·rw [if_neg c]
   simp only [mfnd]
   rw [mfnd_set hk hl l]
   by_cases d:kEq k' r=true
   ·rw [if_pos d,if_neg,if_pos d]
    exact fun e=>c (kEq_both d hl hk e)
   ·rw [if_neg d,if_neg d]
theorem gk1 (a:Int):gk [.i a]:=fun j hj=>by
 have:j=0:=by simpa using hj
 subst this;simp [dEq]
theorem kEq1 (a b:Int) (v:List D):kEq [.i b] ([.i a]++v)=decide (a=b):=by
 simp [kEq,kEqF,dEq]
theorem has1 (a b:Int) (v:List D) (l:Rows):mhasR (msetR [.i a] v l) [.i b]=true↔a=b∨mhasR l [.i b]=true:=by
 unfold mhasR
 rw [mfnd_set (k':=[.i b]) (gk1 a) rfl,kEq1]
 by_cases h:a=b<;>simp [h]
theorem get1 (a b:Int) (v z:D) (l:Rows):mgetR (msetR [.i a] [v] l) [.i b] 0 z=if a=b then v else mgetR l [.i b] 0 z:=by
 unfold mgetR
 rw [mfnd_set (k':=[.i b]) (gk1 a) rfl,kEq1]
 by_cases h:a=b
 ·simp [h]
 ·simp [h]
theorem has_nil (k:List D):mhasR [] k=false:=rfl
end HX

namespace HX
open Go Go.Proofs CX
structure V36 (a0_0:Int) (a0_1:Int) (a0_2:Int) (a1:Rows) (a2:Int) (R:Nat→Nat→D) (I0:Int→Rows→Prop) (m0:Int→Rows→Nat) (I1:Int→Rows→Rows→Int→Prop) (m1:Int→Rows→Rows→Int→Nat) (I2:Int→Rows→Rows→Int→Rows→Int→Prop) (m2:Int→Rows→Rows→Int→Rows→Int→Nat):Prop where
 g0:-9223372036854775808≤(2 * a0_0)∧(2 * a0_0)≤9223372036854775807
 g1:-9223372036854775808≤((2 * a0_0) * a0_1)∧((2 * a0_0) * a0_1)≤9223372036854775807
 i0:I0 0 []
 g3:∀x0_0 x0_1,I0 x0_0 x0_1→(x0_0 < (a1.length:Int))→0≤x0_0
 g4:∀x0_0 x0_1,I0 x0_0 x0_1→(x0_0 < (a1.length:Int))→x0_0 < (a1.length:Int)
 g5:∀x0_0 x0_1,I0 x0_0 x0_1→(x0_0 < (a1.length:Int))→(((Int.toNat x0_0:Nat):Int)) < (a1.length:Int)
 g6:∀x0_0 x0_1,I0 x0_0 x0_1→(x0_0 < (a1.length:Int))→(Ar.std.wrap IntKind.u64 a2)≠0
 g7:∀x0_0 x0_1,I0 x0_0 x0_1→(x0_0 < (a1.length:Int))→-9223372036854775808≤(Int.tmod (Ar.std.wrap IntKind.u64 (D.int (gt a1 x0_0.toNat 0))) (Ar.std.wrap IntKind.u64 a2))∧(Int.tmod (Ar.std.wrap IntKind.u64 (D.int (gt a1 x0_0.toNat 0))) (Ar.std.wrap IntKind.u64 a2))≤9223372036854775807
 g8:∀x0_0 x0_1,I0 x0_0 x0_1→(x0_0 < (a1.length:Int))→(Ar.std.wrap IntKind.u64 ((2 * a0_0) * a0_1))≠0
 g9:∀x0_0 x0_1,I0 x0_0 x0_1→(x0_0 < (a1.length:Int))→-9223372036854775808≤(Int.tmod (Ar.std.wrap IntKind.u64 (D.int (gt a1 x0_0.toNat 1))) (Ar.std.wrap IntKind.u64 ((2 * a0_0) * a0_1)))∧(Int.tmod (Ar.std.wrap IntKind.u64 (D.int (gt a1 x0_0.toNat 1))) (Ar.std.wrap IntKind.u64 ((2 * a0_0) * a0_1)))≤9223372036854775807
 g10:∀x0_0 x0_1,I0 x0_0 x0_1→(x0_0 < (a1.length:Int))→-9223372036854775808≤(x0_0+1)∧(x0_0+1)≤9223372036854775807
 n11:∀x0_0 x0_1,I0 x0_0 x0_1→(x0_0 < (a1.length:Int))→I0 (x0_0+1) (msetR [D.i (Int.tmod (Ar.std.wrap IntKind.u64 (D.int (gt a1 x0_0.toNat 0))) (Ar.std.wrap IntKind.u64 a2)),D.i (Int.tmod (Ar.std.wrap IntKind.u64 (D.int (gt a1 x0_0.toNat 1))) (Ar.std.wrap IntKind.u64 ((2 * a0_0) * a0_1)))] [D.b true] x0_1)∧m0 (x0_0+1) (msetR [D.i (Int.tmod (Ar.std.wrap IntKind.u64 (D.int (gt a1 x0_0.toNat 0))) (Ar.std.wrap IntKind.u64 a2)),D.i (Int.tmod (Ar.std.wrap IntKind.u64 (D.int (gt a1 x0_0.toNat 1))) (Ar.std.wrap IntKind.u64 ((2 * a0_0) * a0_1)))] [D.b true] x0_1) < m0 x0_0 x0_1
 i1:∀x0_0 x0_1,I0 x0_0 x0_1→(¬x0_0 < (a1.length:Int))→I1 x0_0 x0_1 [] 0
 i2:∀x0_0 x0_1,I0 x0_0 x0_1→∀x1_0 x1_1,I1 x0_0 x0_1 x1_0 x1_1→(¬x0_0 < (a1.length:Int))→(x1_1 < a2)→I2 x0_0 x0_1 x1_0 x1_1 x1_0 0
 g14:∀x0_0 x0_1,I0 x0_0 x0_1→∀x1_0 x1_1,I1 x0_0 x0_1 x1_0 x1_1→∀x2_0 x2_1,I2 x0_0 x0_1 x1_0 x1_1 x2_0 x2_1→(¬x0_0 < (a1.length:Int))→(x1_1 < a2)→(x2_1 < ((2 * a0_0) * a0_1))→(D.boo (mgetR x0_1 [D.i x1_1,D.i x2_1] 0 (D.b false))=true)→(x2_0.length+(List.length ([[D.i x1_1,D.i x2_1]]:Rows))) * 16≤4294967296∧(x2_0.length+(List.length ([[D.i x1_1,D.i x2_1]]:Rows)))≤4294967296
 g15:∀x0_0 x0_1,I0 x0_0 x0_1→∀x1_0 x1_1,I1 x0_0 x0_1 x1_0 x1_1→∀x2_0 x2_1,I2 x0_0 x0_1 x1_0 x1_1 x2_0 x2_1→(¬x0_0 < (a1.length:Int))→(x1_1 < a2)→(x2_1 < ((2 * a0_0) * a0_1))→(D.boo (mgetR x0_1 [D.i x1_1,D.i x2_1] 0 (D.b false))=true)→-9223372036854775808≤(x2_1+1)∧(x2_1+1)≤9223372036854775807
 n16:∀x0_0 x0_1,I0 x0_0 x0_1→∀x1_0 x1_1,I1 x0_0 x0_1 x1_0 x1_1→∀x2_0 x2_1,I2 x0_0 x0_1 x1_0 x1_1 x2_0 x2_1→(¬x0_0 < (a1.length:Int))→(x1_1 < a2)→(x2_1 < ((2 * a0_0) * a0_1))→(D.boo (mgetR x0_1 [D.i x1_1,D.i x2_1] 0 (D.b false))=true)→I2 x0_0 x0_1 x1_0 x1_1 (x2_0++[[D.i x1_1,D.i x2_1]]) (x2_1+1)∧m2 x0_0 x0_1 x1_0 x1_1 (x2_0++[[D.i x1_1,D.i x2_1]]) (x2_1+1) < m2 x0_0 x0_1 x1_0 x1_1 x2_0 x2_1
 g17:∀x0_0 x0_1,I0 x0_0 x0_1→∀x1_0 x1_1,I1 x0_0 x0_1 x1_0 x1_1→∀x2_0 x2_1,I2 x0_0 x0_1 x1_0 x1_1 x2_0 x2_1→(¬x0_0 < (a1.length:Int))→(x1_1 < a2)→(x2_1 < ((2 * a0_0) * a0_1))→(D.boo (mgetR x0_1 [D.i x1_1,D.i x2_1] 0 (D.b false))=false)→-9223372036854775808≤(x2_1+1)∧(x2_1+1)≤9223372036854775807
 n18:∀x0_0 x0_1,I0 x0_0 x0_1→∀x1_0 x1_1,I1 x0_0 x0_1 x1_0 x1_1→∀x2_0 x2_1,I2 x0_0 x0_1 x1_0 x1_1 x2_0 x2_1→(¬x0_0 < (a1.length:Int))→(x1_1 < a2)→(x2_1 < ((2 * a0_0) * a0_1))→(D.boo (mgetR x0_1 [D.i x1_1,D.i x2_1] 0 (D.b false))=false)→I2 x0_0 x0_1 x1_0 x1_1 x2_0 (x2_1+1)∧m2 x0_0 x0_1 x1_0 x1_1 x2_0 (x2_1+1) < m2 x0_0 x0_1 x1_0 x1_1 x2_0 x2_1
 g19:∀x0_0 x0_1,I0 x0_0 x0_1→∀x1_0 x1_1,I1 x0_0 x0_1 x1_0 x1_1→∀x2_0 x2_1,I2 x0_0 x0_1 x1_0 x1_1 x2_0 x2_1→(¬x0_0 < (a1.length:Int))→(x1_1 < a2)→(¬x2_1 < ((2 * a0_0) * a0_1))→-9223372036854775808≤(x1_1+1)∧(x1_1+1)≤9223372036854775807
 n20:∀x0_0 x0_1,I0 x0_0 x0_1→∀x1_0 x1_1,I1 x0_0 x0_1 x1_0 x1_1→∀x2_0 x2_1,I2 x0_0 x0_1 x1_0 x1_1 x2_0 x2_1→(¬x0_0 < (a1.length:Int))→(x1_1 < a2)→(¬x2_1 < ((2 * a0_0) * a0_1))→I1 x0_0 x0_1 x2_0 (x1_1+1)∧m1 x0_0 x0_1 x2_0 (x1_1+1) < m1 x0_0 x0_1 x1_0 x1_1
 g21:∀x0_0 x0_1,I0 x0_0 x0_1→∀x1_0 x1_1,I1 x0_0 x0_1 x1_0 x1_1→(¬x0_0 < (a1.length:Int))→(¬x1_1 < a2)→R 0 0=D.l x1_0
end HX

namespace HX
open Go Go.Proofs CX
structure Ord (n:Int) (out:Rows) (t i:Int):Prop where
 ev:EvOk' out
 bd:∀j,j < out.length→(eT out j < t∨(eT out j=t∧eI out j < i))∧eI out j < n
theorem eA {out:Rows} {r:List D} {j:Nat} (h:j < out.length):eT (out++[r]) j=eT out j∧eI (out++[r]) j=eI out j:=by
 unfold eT eI;rw [gtA h,gtA h];exact ⟨rfl,rfl⟩
theorem eN {out:Rows} {t i:Int}:eT (out++[[.i t,.i i]]) out.length=t∧eI (out++[[.i t,.i i]]) out.length=i:=by
 unfold eT eI;rw [gtN,gtN];exact ⟨rfl,rfl⟩
theorem Ord.push {n:Int} {out:Rows} {t i:Int} (h:Ord n out t i) (ht:0≤t∧t≤1073741824) (hi:0≤i∧i≤65535) (hn:i < n):Ord n (out++[[.i t,.i i]]) t (i+1):=by
 refine ⟨h.ev.push (folE_of ht hi fun hp=>(h.bd _ (by omega)).1),fun j hj=>?_⟩
 by_cases c:j < out.length
 ·rw [(eA c).1,(eA c).2]
  have:=h.bd j c
  omega
 ·have:j=out.length:=by simp at hj;omega
  subst this
  rw [eN.1,eN.2]
  omega
theorem Ord.next {n:Int} {out:Rows} {t i:Int} (h:Ord n out t i):Ord n out t (i+1):=⟨h.ev,fun j hj=>by have:=h.bd j hj;omega⟩
theorem Ord.tick {n:Int} {out:Rows} {t i:Int} (h:Ord n out t i):Ord n out (t+1) 0:=⟨h.ev,fun j hj=>by have:=h.bd j hj;omega⟩
theorem twoWH {w h:Int} (hw:1≤w∧w≤32) (hh:1≤h∧h≤32):1≤w * h∧w * h≤1024∧2 * w * h=2 * (w * h):=by
 have a:=Int.mul_le_mul hw.2 hh.2 (by omega) (by omega)
 have b:=Int.mul_le_mul hw.1 hh.1 (by omega) (by omega)
 exact ⟨by omega,by omega,Int.mul_assoc _ _ _⟩
end HX

namespace HX
open Go Go.Proofs CX
abbrev vZ21 (x:Int):=-9223372036854775808≤x∧x≤9223372036854775807
abbrev v21a (f0:Int) (e1:Int) (a1:Rows) (k1:Int):=(Int.tdiv (D.int (gt (List.take (f0.toNat - e1.toNat) (List.drop e1.toNat a1)) k1.toNat 1)) 2)
abbrev v21b (f0:Int) (e1:Int) (a1:Rows):=(List.take (f0.toNat - e1.toNat) (List.drop e1.toNat a1))
abbrev v21c (a0_0:Int) (f0:Int) (e1:Int) (a1:Rows) (k1:Int):=(mnI (a0_0 - 1) ((Int.tmod (v21a f0 e1 a1 k1) a0_0)+1))
abbrev v21d (fn:Nat→List (List D)→Nat→Nat→D) (a0_0:Int):=(D.boo (fn 50 [[D.i a0_0],[D.i 1],[D.i 32]] 0 0)=true)
abbrev v21e (fn:Nat→List (List D)→Nat→Nat→D) (a0_1:Int):=(D.boo (fn 50 [[D.i a0_1],[D.i 1],[D.i 32]] 0 0)=true)
structure V21c1 (pre:Nat→List (List D)→Prop) (fn:Nat→List (List D)→Nat→Nat→D) (a0_0:Int) (a0_1:Int) (a0_2:Int) (a1:Rows) (a2:Int) (d0:Int) (d1:Int) (I0:Bool→Prop) (I1:Int→Int→Prop) (m1:Int→Int→Nat):Prop where
 g28:(d1 < (a1.length:Int))→0≤d1
 g29:(d1 < (a1.length:Int))→d1 < (a1.length:Int)
 g30:(d1 < (a1.length:Int))→(((Int.toNat d1:Nat):Int)) < (a1.length:Int)
 g31:(d1 < (a1.length:Int))→pre 52 [[D.i a0_0,D.i a0_1,D.i a0_2]]
 g32:(d1 < (a1.length:Int))→vZ21 ((2 * (D.int (fn 52 [[D.i a0_0,D.i a0_1,D.i a0_2]] 0 0))))
 n33:(d1 < (a1.length:Int))→((2 * (D.int (fn 52 [[D.i a0_0,D.i a0_1,D.i a0_2]] 0 0)))≤(D.int (gt a1 d1.toNat 1)))→(0≤d1)→I0 true
 g34:(d1 < (a1.length:Int))→((2 * (D.int (fn 52 [[D.i a0_0,D.i a0_1,D.i a0_2]] 0 0)))≤(D.int (gt a1 d1.toNat 1)))→(¬0≤d1)→pre 50 [[D.i a2],[D.i 0],[D.i 100]]
 n35:(d1 < (a1.length:Int))→((2 * (D.int (fn 52 [[D.i a0_0,D.i a0_1,D.i a0_2]] 0 0)))≤(D.int (gt a1 d1.toNat 1)))→(¬0≤d1)→I0 (!(D.boo (fn 50 [[D.i a2],[D.i 0],[D.i 100]] 0 0)))
 g36:(d1 < (a1.length:Int))→(¬(2 * (D.int (fn 52 [[D.i a0_0,D.i a0_1,D.i a0_2]] 0 0)))≤(D.int (gt a1 d1.toNat 1)))→vZ21 ((d1+1))
 n37:(d1 < (a1.length:Int))→(¬(2 * (D.int (fn 52 [[D.i a0_0,D.i a0_1,D.i a0_2]] 0 0)))≤(D.int (gt a1 d1.toNat 1)))→I1 d0 (d1+1)∧m1 d0 (d1+1) < m1 d0 d1
 g39:(¬d1 < (a1.length:Int))→pre 50 [[D.i a2],[D.i 0],[D.i 100]]
 n40:(¬d1 < (a1.length:Int))→I0 (!(D.boo (fn 50 [[D.i a2],[D.i 0],[D.i 100]] 0 0)))
abbrev V21l1 (pre:Nat→List (List D)→Prop) (fn:Nat→List (List D)→Nat→Nat→D) (a0_0:Int) (a0_1:Int) (a0_2:Int) (a1:Rows) (a2:Int) (I0:Bool→Prop):Prop:=∃(I1:Int→Int→Prop) (m1:Int→Int→Nat),I1 0 0∧∀d0 d1,I1 d0 d1→V21c1 pre fn a0_0 a0_1 a0_2 a1 a2 d0 d1 I0 I1 m1
structure V21r0 (pre:Nat→List (List D)→Prop) (fn:Nat→List (List D)→Nat→Nat→D) (a0_0:Int) (a0_1:Int) (a0_2:Int) (a1:Rows) (a2:Int) (I0:Bool→Prop):Prop where
 l1:V21l1 pre fn a0_0 a0_1 a0_2 a1 a2 I0
structure V21r4 (a1:Rows) (e1:Int) (f0:Int) (I4:Bool→Prop):Prop where
 g46:(f0 < (a1.length:Int))→0≤f0
 g47:(f0 < (a1.length:Int))→f0 < (a1.length:Int)
 g48:(f0 < (a1.length:Int))→(((Int.toNat f0:Nat):Int)) < (a1.length:Int)
 g49:(f0 < (a1.length:Int))→0≤e1
 g50:(f0 < (a1.length:Int))→e1 < (a1.length:Int)
 g51:(f0 < (a1.length:Int))→(((Int.toNat e1:Nat):Int)) < (a1.length:Int)
 n52:(f0 < (a1.length:Int))→I4 (decide ((D.int (gt a1 f0.toNat 0))=(D.int (gt a1 e1.toNat 0))))
 n53:(¬f0 < (a1.length:Int))→I4 false
structure V21c7 (a0_0:Int) (a1:Rows) (a2:Int) (e1:Int) (f0:Int) (f1:Rows) (k1:Int) (o0:Int) (o1:Bool) (q0:Int) (q1:Bool) (I6:Int→Bool→Prop) (m6:Int→Bool→Nat) (I7:Int→Bool→Prop) (m7:Int→Bool→Nat):Prop where
 g82:vZ21 ((a0_0 - 1))
 g83:vZ21 (((Int.tmod (v21a f0 e1 a1 k1) a0_0)+1))
 g84:(q0≤(v21c a0_0 f0 e1 a1 k1))→vZ21 ((o0 * a0_0))
 g85:(q0≤(v21c a0_0 f0 e1 a1 k1))→vZ21 (((o0 * a0_0)+q0))
 g86:(q0≤(v21c a0_0 f0 e1 a1 k1))→(¬((o0 * a0_0)+q0)=(v21a f0 e1 a1 k1))→(q1=true)→vZ21 ((q0+1))
 n87:(q0≤(v21c a0_0 f0 e1 a1 k1))→(¬((o0 * a0_0)+q0)=(v21a f0 e1 a1 k1))→(q1=true)→I7 (q0+1) true∧m7 (q0+1) true < m7 q0 q1
 g88:(q0≤(v21c a0_0 f0 e1 a1 k1))→(¬((o0 * a0_0)+q0)=(v21a f0 e1 a1 k1))→(q1=false)→(mhasR f1 [D.i ((o0 * a0_0)+q0)]=true)→vZ21 (((D.int (gt (v21b f0 e1 a1) k1.toNat 0)) - (D.int (mgetR f1 [D.i ((o0 * a0_0)+q0)] 0 (D.i 0)))))
 g89:(q0≤(v21c a0_0 f0 e1 a1 k1))→(¬((o0 * a0_0)+q0)=(v21a f0 e1 a1 k1))→(q1=false)→(mhasR f1 [D.i ((o0 * a0_0)+q0)]=true)→vZ21 ((q0+1))
 n90:(q0≤(v21c a0_0 f0 e1 a1 k1))→(¬((o0 * a0_0)+q0)=(v21a f0 e1 a1 k1))→(q1=false)→(mhasR f1 [D.i ((o0 * a0_0)+q0)]=true)→I7 (q0+1) (decide (((D.int (gt (v21b f0 e1 a1) k1.toNat 0)) - (D.int (mgetR f1 [D.i ((o0 * a0_0)+q0)] 0 (D.i 0))))≤a2))∧m7 (q0+1) (decide (((D.int (gt (v21b f0 e1 a1) k1.toNat 0)) - (D.int (mgetR f1 [D.i ((o0 * a0_0)+q0)] 0 (D.i 0))))≤a2)) < m7 q0 q1
 g91:(q0≤(v21c a0_0 f0 e1 a1 k1))→(¬((o0 * a0_0)+q0)=(v21a f0 e1 a1 k1))→(q1=false)→(mhasR f1 [D.i ((o0 * a0_0)+q0)]=false)→vZ21 ((q0+1))
 n92:(q0≤(v21c a0_0 f0 e1 a1 k1))→(¬((o0 * a0_0)+q0)=(v21a f0 e1 a1 k1))→(q1=false)→(mhasR f1 [D.i ((o0 * a0_0)+q0)]=false)→I7 (q0+1) false∧m7 (q0+1) false < m7 q0 q1
 g93:(q0≤(v21c a0_0 f0 e1 a1 k1))→(((o0 * a0_0)+q0)=(v21a f0 e1 a1 k1))→vZ21 ((q0+1))
 n94:(q0≤(v21c a0_0 f0 e1 a1 k1))→(((o0 * a0_0)+q0)=(v21a f0 e1 a1 k1))→I7 (q0+1) q1∧m7 (q0+1) q1 < m7 q0 q1
 g95:(¬q0≤(v21c a0_0 f0 e1 a1 k1))→vZ21 ((o0+1))
 n96:(¬q0≤(v21c a0_0 f0 e1 a1 k1))→I6 (o0+1) q1∧m6 (o0+1) q1 < m6 o0 o1
abbrev V21l7 (a0_0:Int) (a1:Rows) (a2:Int) (e1:Int) (f0:Int) (f1:Rows) (k1:Int) (o0:Int) (o1:Bool) (I6:Int→Bool→Prop) (m6:Int→Bool→Nat):Prop:=∃(I7:Int→Bool→Prop) (m7:Int→Bool→Nat),I7 (mxI 0 ((Int.tmod (v21a f0 e1 a1 k1) a0_0) - 1)) o1∧∀q0 q1,I7 q0 q1→V21c7 a0_0 a1 a2 e1 f0 f1 k1 o0 o1 q0 q1 I6 m6 I7 m7
structure V21c6 (a0_0:Int) (a0_1:Int) (a1:Rows) (a2:Int) (e1:Int) (f0:Int) (f1:Rows) (k0:Rows) (k1:Int) (o0:Int) (o1:Bool) (I5:Rows→Int→Prop) (m5:Rows→Int→Nat) (I6:Int→Bool→Prop) (m6:Int→Bool→Nat):Prop where
 g78:vZ21 ((a0_1 - 1))
 g79:vZ21 (((Int.tdiv (v21a f0 e1 a1 k1) a0_0)+1))
 g80:(o0≤(mnI (a0_1 - 1) ((Int.tdiv (v21a f0 e1 a1 k1) a0_0)+1)))→vZ21 (((Int.tmod (v21a f0 e1 a1 k1) a0_0) - 1))
 g97:(¬o0≤(mnI (a0_1 - 1) ((Int.tdiv (v21a f0 e1 a1 k1) a0_0)+1)))→(o1=true)→(k0.length+(List.length ([[D.i (D.int (gt (v21b f0 e1 a1) k1.toNat 0)),D.i (D.int (gt (v21b f0 e1 a1) k1.toNat 1))]]:Rows))) * 16≤4294967296∧(k0.length+(List.length ([[D.i (D.int (gt (v21b f0 e1 a1) k1.toNat 0)),D.i (D.int (gt (v21b f0 e1 a1) k1.toNat 1))]]:Rows)))≤4294967296
 g98:(¬o0≤(mnI (a0_1 - 1) ((Int.tdiv (v21a f0 e1 a1 k1) a0_0)+1)))→(o1=true)→vZ21 ((k1+1))
 n99:(¬o0≤(mnI (a0_1 - 1) ((Int.tdiv (v21a f0 e1 a1 k1) a0_0)+1)))→(o1=true)→I5 (k0++[[D.i (D.int (gt (v21b f0 e1 a1) k1.toNat 0)),D.i (D.int (gt (v21b f0 e1 a1) k1.toNat 1))]]) (k1+1)∧m5 (k0++[[D.i (D.int (gt (v21b f0 e1 a1) k1.toNat 0)),D.i (D.int (gt (v21b f0 e1 a1) k1.toNat 1))]]) (k1+1) < m5 k0 k1
 g100:(¬o0≤(mnI (a0_1 - 1) ((Int.tdiv (v21a f0 e1 a1 k1) a0_0)+1)))→(o1=false)→vZ21 ((k1+1))
 n101:(¬o0≤(mnI (a0_1 - 1) ((Int.tdiv (v21a f0 e1 a1 k1) a0_0)+1)))→(o1=false)→I5 k0 (k1+1)∧m5 k0 (k1+1) < m5 k0 k1
 l7:(o0≤(mnI (a0_1 - 1) ((Int.tdiv (v21a f0 e1 a1 k1) a0_0)+1)))→V21l7 a0_0 a1 a2 e1 f0 f1 k1 o0 o1 I6 m6
abbrev V21l6 (a0_0:Int) (a0_1:Int) (a1:Rows) (a2:Int) (e1:Int) (f0:Int) (f1:Rows) (k0:Rows) (k1:Int) (I5:Rows→Int→Prop) (m5:Rows→Int→Nat):Prop:=∃(I6:Int→Bool→Prop) (m6:Int→Bool→Nat),I6 (mxI 0 ((Int.tdiv (v21a f0 e1 a1 k1) a0_0) - 1)) false∧∀o0 o1,I6 o0 o1→V21c6 a0_0 a0_1 a1 a2 e1 f0 f1 k0 k1 o0 o1 I5 m5 I6 m6
structure V21c5 (a0_0:Int) (a0_1:Int) (a1:Rows) (a2:Int) (e0:Rows) (e1:Int) (e2:Rows) (f0:Int) (f1:Rows) (k0:Rows) (k1:Int) (I2:Rows→Int→Rows→Prop) (m2:Rows→Int→Rows→Nat) (I5:Rows→Int→Prop) (m5:Rows→Int→Nat):Prop where
 g68:(k1 < ((((v21b f0 e1 a1)).length:Int)))→0≤k1
 g69:(k1 < ((((v21b f0 e1 a1)).length:Int)))→k1 < ((((v21b f0 e1 a1)).length:Int))
 g70:(k1 < ((((v21b f0 e1 a1)).length:Int)))→(((Int.toNat k1:Nat):Int)) < ((((v21b f0 e1 a1)).length:Int))
 g71:(k1 < ((((v21b f0 e1 a1)).length:Int)))→(2:Int)≠0
 g72:(k1 < ((((v21b f0 e1 a1)).length:Int)))→vZ21 ((v21a f0 e1 a1 k1))
 g73:(k1 < ((((v21b f0 e1 a1)).length:Int)))→a0_0≠0
 g75:(k1 < ((((v21b f0 e1 a1)).length:Int)))→vZ21 ((Int.tdiv (v21a f0 e1 a1 k1) a0_0))
 g76:(k1 < ((((v21b f0 e1 a1)).length:Int)))→vZ21 (((Int.tdiv (v21a f0 e1 a1 k1) a0_0) - 1))
 n102:(¬k1 < ((((v21b f0 e1 a1)).length:Int)))→I2 k0 f0 f1∧m2 k0 f0 f1 < m2 e0 e1 e2
 l6:(k1 < ((((v21b f0 e1 a1)).length:Int)))→V21l6 a0_0 a0_1 a1 a2 e1 f0 f1 k0 k1 I5 m5
abbrev V21l5 (a0_0:Int) (a0_1:Int) (a1:Rows) (a2:Int) (e0:Rows) (e1:Int) (e2:Rows) (f0:Int) (f1:Rows) (I2:Rows→Int→Rows→Prop) (m2:Rows→Int→Rows→Nat):Prop:=∃(I5:Rows→Int→Prop) (m5:Rows→Int→Nat),I5 e0 0∧∀k0 k1,I5 k0 k1→V21c5 a0_0 a0_1 a1 a2 e0 e1 e2 f0 f1 k0 k1 I2 m2 I5 m5
structure V21c4 (a0_0:Int) (a0_1:Int) (a1:Rows) (a2:Int) (e0:Rows) (e1:Int) (e2:Rows) (f0:Int) (f1:Rows) (j0:Bool) (I2:Rows→Int→Rows→Prop) (m2:Rows→Int→Rows→Nat) (I3:Int→Rows→Prop) (m3:Int→Rows→Nat):Prop where
 g54:(j0=true)→0≤f0
 g55:(j0=true)→f0 < (a1.length:Int)
 g56:(j0=true)→(((Int.toNat f0:Nat):Int)) < (a1.length:Int)
 g57:(j0=true)→(2:Int)≠0
 g58:(j0=true)→vZ21 ((Int.tdiv (D.int (gt a1 f0.toNat 1)) 2))
 g62:(j0=true)→vZ21 ((f0+1))
 n63:(j0=true)→I3 (f0+1) (msetR [D.i (Int.tdiv (D.int (gt a1 f0.toNat 1)) 2)] [D.i (D.int (gt a1 f0.toNat 0))] f1)∧m3 (f0+1) (msetR [D.i (Int.tdiv (D.int (gt a1 f0.toNat 1)) 2)] [D.i (D.int (gt a1 f0.toNat 0))] f1) < m3 f0 f1
 g64:(j0=false)→0≤e1
 g65:(j0=false)→e1≤f0
 g66:(j0=false)→f0≤(a1.length:Int)
 l5:(j0=false)→V21l5 a0_0 a0_1 a1 a2 e0 e1 e2 f0 f1 I2 m2
abbrev V21j4 (a0_0:Int) (a0_1:Int) (a1:Rows) (a2:Int) (e0:Rows) (e1:Int) (e2:Rows) (f0:Int) (f1:Rows) (I2:Rows→Int→Rows→Prop) (m2:Rows→Int→Rows→Nat) (I3:Int→Rows→Prop) (m3:Int→Rows→Nat):Prop:=∃(I4:Bool→Prop),V21r4 a1 e1 f0 I4∧∀j0,I4 j0→V21c4 a0_0 a0_1 a1 a2 e0 e1 e2 f0 f1 j0 I2 m2 I3 m3
structure V21c3 (a0_0:Int) (a0_1:Int) (a1:Rows) (a2:Int) (e0:Rows) (e1:Int) (e2:Rows) (f0:Int) (f1:Rows) (I2:Rows→Int→Rows→Prop) (m2:Rows→Int→Rows→Nat) (I3:Int→Rows→Prop) (m3:Int→Rows→Nat):Prop where
 l4:V21j4 a0_0 a0_1 a1 a2 e0 e1 e2 f0 f1 I2 m2 I3 m3
abbrev V21l3 (a0_0:Int) (a0_1:Int) (a1:Rows) (a2:Int) (e0:Rows) (e1:Int) (e2:Rows) (I2:Rows→Int→Rows→Prop) (m2:Rows→Int→Rows→Nat):Prop:=∃(I3:Int→Rows→Prop) (m3:Int→Rows→Nat),I3 e1 e2∧∀f0 f1,I3 f0 f1→V21c3 a0_0 a0_1 a1 a2 e0 e1 e2 f0 f1 I2 m2 I3 m3
structure V21c2 (a0_0:Int) (a0_1:Int) (a1:Rows) (a2:Int) (R:Nat→Nat→D) (e0:Rows) (e1:Int) (e2:Rows) (I2:Rows→Int→Rows→Prop) (m2:Rows→Int→Rows→Nat):Prop where
 g103:(¬e1 < (a1.length:Int))→R 0 0=D.l e0
 g104:(¬e1 < (a1.length:Int))→R 1 0=D.i 0
 l3:(e1 < (a1.length:Int))→V21l3 a0_0 a0_1 a1 a2 e0 e1 e2 I2 m2
abbrev V21l2 (a0_0:Int) (a0_1:Int) (a1:Rows) (a2:Int) (R:Nat→Nat→D):Prop:=∃(I2:Rows→Int→Rows→Prop) (m2:Rows→Int→Rows→Nat),I2 [] 0 []∧∀e0 e1 e2,I2 e0 e1 e2→V21c2 a0_0 a0_1 a1 a2 R e0 e1 e2 I2 m2
structure V21c0 (a0_0:Int) (a0_1:Int) (a1:Rows) (a2:Int) (R:Nat→Nat→D) (b0:Bool):Prop where
 g41:(b0=true)→R 0 0=D.l []
 g42:(b0=true)→R 1 0=D.i 3
 l2:(b0=false)→V21l2 a0_0 a0_1 a1 a2 R
abbrev V21j0 (pre:Nat→List (List D)→Prop) (fn:Nat→List (List D)→Nat→Nat→D) (a0_0:Int) (a0_1:Int) (a0_2:Int) (a1:Rows) (a2:Int) (R:Nat→Nat→D):Prop:=∃(I0:Bool→Prop),V21r0 pre fn a0_0 a0_1 a0_2 a1 a2 I0∧∀b0,I0 b0→V21c0 a0_0 a0_1 a1 a2 R b0
structure V21 (pre:Nat→List (List D)→Prop) (fn:Nat→List (List D)→Nat→Nat→D) (a0_0:Int) (a0_1:Int) (a0_2:Int) (a1:Rows) (a2:Int) (R:Nat→Nat→D):Prop where
 g0:pre 50 [[D.i a0_0],[D.i 1],[D.i 32]]
 g1:(D.boo (fn 50 [[D.i a0_0],[D.i 1],[D.i 32]] 0 0)=false)→R 0 0=D.l []
 g2:(D.boo (fn 50 [[D.i a0_0],[D.i 1],[D.i 32]] 0 0)=false)→R 1 0=D.i 3
 g7:(v21d fn a0_0)→pre 50 [[D.i a0_1],[D.i 1],[D.i 32]]
 g8:(v21d fn a0_0)→(D.boo (fn 50 [[D.i a0_1],[D.i 1],[D.i 32]] 0 0)=false)→R 0 0=D.l []
 g9:(v21d fn a0_0)→(D.boo (fn 50 [[D.i a0_1],[D.i 1],[D.i 32]] 0 0)=false)→R 1 0=D.i 3
 g14:(v21d fn a0_0)→(v21e fn a0_1)→pre 50 [[D.i a0_2],[D.i 1],[D.i 128]]
 g15:(v21d fn a0_0)→(v21e fn a0_1)→(D.boo (fn 50 [[D.i a0_2],[D.i 1],[D.i 128]] 0 0)=false)→R 0 0=D.l []
 g16:(v21d fn a0_0)→(v21e fn a0_1)→(D.boo (fn 50 [[D.i a0_2],[D.i 1],[D.i 128]] 0 0)=false)→R 1 0=D.i 3
 g23:(v21d fn a0_0)→(v21e fn a0_1)→(D.boo (fn 50 [[D.i a0_2],[D.i 1],[D.i 128]] 0 0)=true)→pre 51 [[D.l a1]]
 g24:(v21d fn a0_0)→(v21e fn a0_1)→(D.boo (fn 50 [[D.i a0_2],[D.i 1],[D.i 128]] 0 0)=true)→(¬(D.int (fn 51 [[D.l a1]] 0 0))=0)→R 0 0=D.l []
 g25:(v21d fn a0_0)→(v21e fn a0_1)→(D.boo (fn 50 [[D.i a0_2],[D.i 1],[D.i 128]] 0 0)=true)→(¬(D.int (fn 51 [[D.l a1]] 0 0))=0)→R 1 0=D.i (D.int (fn 51 [[D.l a1]] 0 0))
 l0:(v21d fn a0_0)→(v21e fn a0_1)→(D.boo (fn 50 [[D.i a0_2],[D.i 1],[D.i 128]] 0 0)=true)→((D.int (fn 51 [[D.l a1]] 0 0))=0)→V21j0 pre fn a0_0 a0_1 a0_2 a1 a2 R
end HX

namespace HX
open Go Go.Proofs CX
def px (l:Rows) (k:Nat):Int:=eI l k / 2
theorem ev_mono {l:Rows} (h:EvOk' l) {a:Nat}:∀{b:Nat},a≤b→b < l.length→eT l a≤eT l b:=by
 intro b
 induction b with
 |zero=>intro h1 _;rw [show a=0 by omega];exact Int.le_refl _
 |succ b ih=>
  intro h1 h2
  by_cases c:a=b+1
  ·rw [c];exact Int.le_refl _
  ·have:=ih (by omega) (by omega)
   have:=h.up b h2
   omega
structure MapOk (l m:Rows) (F:Nat):Prop where
 has:∀q,mhasR m [.i q]=true↔∃k,k < F∧px l k=q
 top:∀k,k < F→eT l k≤(mgetR m [.i (px l k)] 0 (.i 0)).int
 one:∀q,mhasR m [.i q]=true→∃k,k < F∧px l k=q∧(mgetR m [.i q] 0 (.i 0)).int=eT l k
theorem MapOk.nil (l:Rows):MapOk l [] 0:=⟨fun q=>by simp [has_nil],fun k h=>by omega,fun q h=>by simp [has_nil] at h⟩
theorem MapOk.push {l m:Rows} {F:Nat} (h:MapOk l m F) (he:EvOk' l) (hF:F < l.length):MapOk l (msetR [.i (px l F)] [.i (eT l F)] m) (F+1):=by
 refine ⟨fun q=>?_,fun k hk=>?_,fun q hq=>?_⟩
 ·rw [has1,h.has]
  constructor
  ·rintro (rfl |⟨k,hk,rfl⟩)
   ·exact ⟨F,by omega,rfl⟩
   ·exact ⟨k,by omega,rfl⟩
  ·rintro ⟨k,hk,rfl⟩
   by_cases c:k=F
   ·subst c;exact .inl rfl
   ·exact .inr ⟨k,by omega,rfl⟩
 ·rw [get1]
  split
  ·exact ev_mono he (by omega) hF
  ·rename_i c
   exact h.top k (by have:k≠F:=fun e=>c (by rw [e]);omega)
 ·rw [has1] at hq
  rw [get1]
  split
  ·rename_i c;exact ⟨F,by omega,c,rfl⟩
  ·rename_i c
   obtain ⟨k,h1,h2,h3⟩:=h.one q (hq.resolve_left c)
   exact ⟨k,by omega,h2,h3⟩
end HX

namespace HX
open Go Go.Proofs CX
structure ClC (w h win:Int) (l m:Rows) (F G:Nat):Prop where
 hw:1≤w∧w≤32
 hh:1≤h∧h≤32
 hn:0≤win∧win≤100
 ev:EvOk' l
 len:l.length≤65536
 id:∀j,j < l.length→eI l j < 2 * (w * h)
 FG:F≤G∧G≤l.length∧F < l.length
 map:MapOk l m G
 eq:∀b,F≤b→b < G→eT l b=eT l F
 gt:∀b,G≤b→b < l.length→eT l F < eT l b
section
variable {l m:Rows} {win:Int} {i:Nat} {w p v0 v u0 u1 u:Int}
end
end HX

namespace HX
open Go Go.Proofs CX
end HX

namespace HX
open Go Go.Proofs CX
structure V52 (a0_0:Int) (a0_1:Int) (a0_2:Int) (R:Nat→Nat→D)  : Prop where
 g0:-9223372036854775808≤(a0_0 * a0_1)∧(a0_0 * a0_1)≤9223372036854775807
 g1:R 0 0=D.i (a0_0 * a0_1)
end HX

namespace HX
open Go Go.Proofs CX
theorem law52 {w h s:Int} (hw:1≤w∧w≤32) (hh:1≤h∧h≤32) {R:Nat→Nat→D} (hR:R 0 0=.i (w * h)):V52 w h s R:=by
 obtain ⟨a,b,_⟩:=twoWH hw hh
 exact ⟨by omega,hR⟩
theorem inB_t {a b c:Int}:inB a b c=true↔b≤a∧a≤c:=by unfold inB;exact decide_eq_true_iff
theorem inB_f {a b c:Int}:inB a b c=false↔¬(b≤a∧a≤c):=by unfold inB;exact decide_eq_false_iff_not
end HX

namespace HX
open Go Go.Proofs CX
structure V46 (pre:Nat→List (List D)→Prop) (fn:Nat→List (List D)→Nat→Nat→D) (a0_0:Int) (a0_1:Int) (a0_2:Int) (a1:Rows) (R:Nat→Nat→D) (I0:Int→Int→Prop) (m0:Int→Int→Nat):Prop where
 g0:pre 52 [[D.i a0_0,D.i a0_1,D.i a0_2]]
 g1:(¬(a1.length:Int)=(D.int (fn 52 [[D.i a0_0,D.i a0_1,D.i a0_2]] 0 0)))→R 0 0=D.i 13
 i0:((a1.length:Int)=(D.int (fn 52 [[D.i a0_0,D.i a0_1,D.i a0_2]] 0 0)))→I0 0 0
 g3:∀x0_0 x0_1,I0 x0_0 x0_1→((a1.length:Int)=(D.int (fn 52 [[D.i a0_0,D.i a0_1,D.i a0_2]] 0 0)))→(x0_1 < (a1.length:Int))→0≤x0_1
 g4:∀x0_0 x0_1,I0 x0_0 x0_1→((a1.length:Int)=(D.int (fn 52 [[D.i a0_0,D.i a0_1,D.i a0_2]] 0 0)))→(x0_1 < (a1.length:Int))→x0_1 < (a1.length:Int)
 g5:∀x0_0 x0_1,I0 x0_0 x0_1→((a1.length:Int)=(D.int (fn 52 [[D.i a0_0,D.i a0_1,D.i a0_2]] 0 0)))→(x0_1 < (a1.length:Int))→(((Int.toNat x0_1:Nat):Int)) < (a1.length:Int)
 g6:∀x0_0 x0_1,I0 x0_0 x0_1→((a1.length:Int)=(D.int (fn 52 [[D.i a0_0,D.i a0_1,D.i a0_2]] 0 0)))→(x0_1 < (a1.length:Int))→pre 50 [[D.i (D.int (gt a1 x0_1.toNat 0))],[D.i 0],[D.i 255]]
 g7:∀x0_0 x0_1,I0 x0_0 x0_1→((a1.length:Int)=(D.int (fn 52 [[D.i a0_0,D.i a0_1,D.i a0_2]] 0 0)))→(x0_1 < (a1.length:Int))→(D.boo (fn 50 [[D.i (D.int (gt a1 x0_1.toNat 0))],[D.i 0],[D.i 255]] 0 0)=false)→(0≤x0_1)→R 0 0=D.i 3
 g8:∀x0_0 x0_1,I0 x0_0 x0_1→((a1.length:Int)=(D.int (fn 52 [[D.i a0_0,D.i a0_1,D.i a0_2]] 0 0)))→(x0_1 < (a1.length:Int))→(D.boo (fn 50 [[D.i (D.int (gt a1 x0_1.toNat 0))],[D.i 0],[D.i 255]] 0 0)=false)→(¬0≤x0_1)→R 0 0=D.i 0
 g9:∀x0_0 x0_1,I0 x0_0 x0_1→((a1.length:Int)=(D.int (fn 52 [[D.i a0_0,D.i a0_1,D.i a0_2]] 0 0)))→(x0_1 < (a1.length:Int))→(D.boo (fn 50 [[D.i (D.int (gt a1 x0_1.toNat 0))],[D.i 0],[D.i 255]] 0 0)=true)→-9223372036854775808≤(x0_1+1)∧(x0_1+1)≤9223372036854775807
 n10:∀x0_0 x0_1,I0 x0_0 x0_1→((a1.length:Int)=(D.int (fn 52 [[D.i a0_0,D.i a0_1,D.i a0_2]] 0 0)))→(x0_1 < (a1.length:Int))→(D.boo (fn 50 [[D.i (D.int (gt a1 x0_1.toNat 0))],[D.i 0],[D.i 255]] 0 0)=true)→I0 x0_0 (x0_1+1)∧m0 x0_0 (x0_1+1) < m0 x0_0 x0_1
 g12:∀x0_0 x0_1,I0 x0_0 x0_1→((a1.length:Int)=(D.int (fn 52 [[D.i a0_0,D.i a0_1,D.i a0_2]] 0 0)))→(¬x0_1 < (a1.length:Int))→R 0 0=D.i 0
end HX

namespace HX
open Go Go.Proofs CX
abbrev vZ14 (x:Int):=-9223372036854775808≤x∧x≤9223372036854775807
abbrev v14a (a1:Rows) (f1:Int) (j1:Int) (j2:Rows):=((D.int (gt (D.rows (gt a1 f1.toNat 0)) j1.toNat 0)) - (D.int (gt j2 j1.toNat 0)))
abbrev v14b (a1:Rows) (f1:Int):=((((D.rows (gt a1 f1.toNat 0))).length:Int))
abbrev v14c (j2:Rows) (j1:Int) (a1:Rows) (f1:Int):=((D.int (gt j2 j1.toNat 0)) - (D.int (gt (D.rows (gt a1 f1.toNat 0)) j1.toNat 0)))
abbrev v14d (fn:Nat→List (List D)→Nat→Nat→D) (a0_0:Int):=(D.boo (fn 50 [[D.i a0_0],[D.i 1],[D.i 32]] 0 0)=true)
abbrev v14e (a1:Rows) (d1:Int):=((((D.rows (gt a1 d1.toNat 0))).length:Int))
structure V14c2 (a1:Rows) (d0:Rows) (d1:Int) (e0:Rows) (e1:Int) (I1:Rows→Int→Prop) (m1:Rows→Int→Nat):Prop where
 g41:(e1 < (v14e a1 d1))→0≤e1
 g42:(e1 < (v14e a1 d1))→e1 < (v14e a1 d1)
 g43:(e1 < (v14e a1 d1))→(((Int.toNat e1:Nat):Int)) < (v14e a1 d1)
 g44:(e1 < (v14e a1 d1))→False
 g45:(¬e1 < (v14e a1 d1))→vZ14 ((d1+1))
 n46:(¬e1 < (v14e a1 d1))→I1 e0 (d1+1)∧m1 e0 (d1+1) < m1 d0 d1
abbrev V14l2 (a1:Rows) (d0:Rows) (d1:Int) (I1:Rows→Int→Prop) (m1:Rows→Int→Nat):Prop:=∃(I2:Rows→Int→Prop) (m2:Rows→Int→Nat),I2 d0 0∧∀e0 e1,I2 e0 e1→V14c2 a1 d0 d1 e0 e1 I1 m1
structure V14c1 (a1:Rows) (R:Nat→Nat→D) (d0:Rows) (d1:Int) (I1:Rows→Int→Prop) (m1:Rows→Int→Nat):Prop where
 g37:(d1 < (a1.length:Int))→0≤d1
 g38:(d1 < (a1.length:Int))→d1 < (a1.length:Int)
 g39:(d1 < (a1.length:Int))→(((Int.toNat d1:Nat):Int)) < (a1.length:Int)
 g47:(¬d1 < (a1.length:Int))→(65536 < (d0.length:Int))→R 0 0=D.l []
 g48:(¬d1 < (a1.length:Int))→(65536 < (d0.length:Int))→R 1 0=D.i 9
 g49:(¬d1 < (a1.length:Int))→(¬65536 < (d0.length:Int))→R 0 0=D.l d0
 g50:(¬d1 < (a1.length:Int))→(¬65536 < (d0.length:Int))→R 1 0=D.i 0
 l2:(d1 < (a1.length:Int))→V14l2 a1 d0 d1 I1 m1
abbrev V14l1 (a1:Rows) (R:Nat→Nat→D):Prop:=∃(I1:Rows→Int→Prop) (m1:Rows→Int→Nat),I1 [] 0∧∀d0 d1,I1 d0 d1→V14c1 a1 R d0 d1 I1 m1
structure V14c4 (a0_2:Int) (a1:Rows) (f0:Rows) (f1:Int) (f2:Rows) (j0:Rows) (j1:Int) (j2:Rows) (I3:Rows→Int→Rows→Prop) (m3:Rows→Int→Rows→Nat) (I4:Rows→Int→Rows→Prop) (m4:Rows→Int→Rows→Nat):Prop where
 g57:(j1 < (v14b a1 f1))→0≤j1
 g58:(j1 < (v14b a1 f1))→j1 < (v14b a1 f1)
 g59:(j1 < (v14b a1 f1))→(((Int.toNat j1:Nat):Int)) < (v14b a1 f1)
 g61:(j1 < (v14b a1 f1))→j1 < (j2.length:Int)
 g62:(j1 < (v14b a1 f1))→(((Int.toNat j1:Nat):Int)) < (j2.length:Int)
 g64:(j1 < (v14b a1 f1))→vZ14 ((v14a a1 f1 j1 j2))
 g65:(j1 < (v14b a1 f1))→(a0_2≤(v14a a1 f1 j1 j2))→vZ14 ((2 * j1))
 g66:(j1 < (v14b a1 f1))→(a0_2≤(v14a a1 f1 j1 j2))→vZ14 (((2 * j1)+1))
 g67:(j1 < (v14b a1 f1))→(a0_2≤(v14a a1 f1 j1 j2))→(j0.length+(List.length ([[D.i f1,D.i ((2 * j1)+1)]]:Rows))) * 16≤4294967296∧(j0.length+(List.length ([[D.i f1,D.i ((2 * j1)+1)]]:Rows)))≤4294967296
 g68:(j1 < (v14b a1 f1))→(a0_2≤(v14a a1 f1 j1 j2))→0≤j1
 g69:(j1 < (v14b a1 f1))→(a0_2≤(v14a a1 f1 j1 j2))→j1 < (j2.length:Int)
 g70:(j1 < (v14b a1 f1))→(a0_2≤(v14a a1 f1 j1 j2))→(((Int.toNat j1:Nat):Int)) < (j2.length:Int)
 g72:(j1 < (v14b a1 f1))→(a0_2≤(v14a a1 f1 j1 j2))→vZ14 (((D.int (gt j2 j1.toNat 0))+a0_2))
 g76:(j1 < (v14b a1 f1))→(a0_2≤(v14a a1 f1 j1 j2))→vZ14 ((j1+1))
 n77:(j1 < (v14b a1 f1))→(a0_2≤(v14a a1 f1 j1 j2))→I4 (j0++[[D.i f1,D.i ((2 * j1)+1)]]) (j1+1) (List.set j2 j1.toNat [D.i ((D.int (gt j2 j1.toNat 0))+a0_2)])∧m4 (j0++[[D.i f1,D.i ((2 * j1)+1)]]) (j1+1) (List.set j2 j1.toNat [D.i ((D.int (gt j2 j1.toNat 0))+a0_2)]) < m4 j0 j1 j2
 g78:(j1 < (v14b a1 f1))→(¬a0_2≤(v14a a1 f1 j1 j2))→0≤j1
 g79:(j1 < (v14b a1 f1))→(¬a0_2≤(v14a a1 f1 j1 j2))→j1 < (j2.length:Int)
 g80:(j1 < (v14b a1 f1))→(¬a0_2≤(v14a a1 f1 j1 j2))→(((Int.toNat j1:Nat):Int)) < (j2.length:Int)
 g82:(j1 < (v14b a1 f1))→(¬a0_2≤(v14a a1 f1 j1 j2))→vZ14 ((v14c j2 j1 a1 f1))
 g83:(j1 < (v14b a1 f1))→(¬a0_2≤(v14a a1 f1 j1 j2))→(a0_2≤(v14c j2 j1 a1 f1))→vZ14 ((2 * j1))
 g84:(j1 < (v14b a1 f1))→(¬a0_2≤(v14a a1 f1 j1 j2))→(a0_2≤(v14c j2 j1 a1 f1))→(j0.length+(List.length ([[D.i f1,D.i (2 * j1)]]:Rows))) * 16≤4294967296∧(j0.length+(List.length ([[D.i f1,D.i (2 * j1)]]:Rows)))≤4294967296
 g85:(j1 < (v14b a1 f1))→(¬a0_2≤(v14a a1 f1 j1 j2))→(a0_2≤(v14c j2 j1 a1 f1))→0≤j1
 g86:(j1 < (v14b a1 f1))→(¬a0_2≤(v14a a1 f1 j1 j2))→(a0_2≤(v14c j2 j1 a1 f1))→j1 < (j2.length:Int)
 g87:(j1 < (v14b a1 f1))→(¬a0_2≤(v14a a1 f1 j1 j2))→(a0_2≤(v14c j2 j1 a1 f1))→(((Int.toNat j1:Nat):Int)) < (j2.length:Int)
 g89:(j1 < (v14b a1 f1))→(¬a0_2≤(v14a a1 f1 j1 j2))→(a0_2≤(v14c j2 j1 a1 f1))→vZ14 (((D.int (gt j2 j1.toNat 0)) - a0_2))
 g93:(j1 < (v14b a1 f1))→(¬a0_2≤(v14a a1 f1 j1 j2))→(a0_2≤(v14c j2 j1 a1 f1))→vZ14 ((j1+1))
 n94:(j1 < (v14b a1 f1))→(¬a0_2≤(v14a a1 f1 j1 j2))→(a0_2≤(v14c j2 j1 a1 f1))→I4 (j0++[[D.i f1,D.i (2 * j1)]]) (j1+1) (List.set j2 j1.toNat [D.i ((D.int (gt j2 j1.toNat 0)) - a0_2)])∧m4 (j0++[[D.i f1,D.i (2 * j1)]]) (j1+1) (List.set j2 j1.toNat [D.i ((D.int (gt j2 j1.toNat 0)) - a0_2)]) < m4 j0 j1 j2
 g95:(j1 < (v14b a1 f1))→(¬a0_2≤(v14a a1 f1 j1 j2))→(¬a0_2≤(v14c j2 j1 a1 f1))→vZ14 ((j1+1))
 n96:(j1 < (v14b a1 f1))→(¬a0_2≤(v14a a1 f1 j1 j2))→(¬a0_2≤(v14c j2 j1 a1 f1))→I4 j0 (j1+1) j2∧m4 j0 (j1+1) j2 < m4 j0 j1 j2
 g97:(¬j1 < (v14b a1 f1))→vZ14 ((f1+1))
 n98:(¬j1 < (v14b a1 f1))→I3 j0 (f1+1) j2∧m3 j0 (f1+1) j2 < m3 f0 f1 f2
abbrev V14l4 (a0_2:Int) (a1:Rows) (f0:Rows) (f1:Int) (f2:Rows) (I3:Rows→Int→Rows→Prop) (m3:Rows→Int→Rows→Nat):Prop:=∃(I4:Rows→Int→Rows→Prop) (m4:Rows→Int→Rows→Nat),I4 f0 0 f2∧∀j0 j1 j2,I4 j0 j1 j2→V14c4 a0_2 a1 f0 f1 f2 j0 j1 j2 I3 m3 I4 m4
structure V14c3 (a0_2:Int) (a1:Rows) (R:Nat→Nat→D) (f0:Rows) (f1:Int) (f2:Rows) (I3:Rows→Int→Rows→Prop) (m3:Rows→Int→Rows→Nat):Prop where
 g53:(f1 < (a1.length:Int))→0≤f1
 g54:(f1 < (a1.length:Int))→f1 < (a1.length:Int)
 g55:(f1 < (a1.length:Int))→(((Int.toNat f1:Nat):Int)) < (a1.length:Int)
 g99:(¬f1 < (a1.length:Int))→(65536 < (f0.length:Int))→R 0 0=D.l []
 g100:(¬f1 < (a1.length:Int))→(65536 < (f0.length:Int))→R 1 0=D.i 9
 g101:(¬f1 < (a1.length:Int))→(¬65536 < (f0.length:Int))→R 0 0=D.l f0
 g102:(¬f1 < (a1.length:Int))→(¬65536 < (f0.length:Int))→R 1 0=D.i 0
 l4:(f1 < (a1.length:Int))→V14l4 a0_2 a1 f0 f1 f2 I3 m3
abbrev V14l3 (a0_2:Int) (a1:Rows) (R:Nat→Nat→D):Prop:=∃(I3:Rows→Int→Rows→Prop) (m3:Rows→Int→Rows→Nat),I3 [] 0 ([]++(D.rows (gt a1 (Int.toNat 0) 0)))∧∀f0 f1 f2,I3 f0 f1 f2→V14c3 a0_2 a1 R f0 f1 f2 I3 m3
structure V14c0 (pre:Nat→List (List D)→Prop) (fn:Nat→List (List D)→Nat→Nat→D) (a0_0:Int) (a0_1:Int) (a0_2:Int) (a1:Rows) (R:Nat→Nat→D) (b0:Rows) (b1:Int) (b2:Int) (I0:Rows→Int→Int→Prop) (m0:Rows→Int→Int→Nat):Prop where
 g23:(b2 < (a1.length:Int))→0≤b2
 g24:(b2 < (a1.length:Int))→b2 < (a1.length:Int)
 g25:(b2 < (a1.length:Int))→(((Int.toNat b2:Nat):Int)) < (a1.length:Int)
 g26:(b2 < (a1.length:Int))→pre 46 [[D.i a0_0,D.i a0_1,D.i a0_2],[D.l (D.rows (gt a1 b2.toNat 0))]]
 g27:(b2 < (a1.length:Int))→(¬(D.int (fn 46 [[D.i a0_0,D.i a0_1,D.i a0_2],[D.l (D.rows (gt a1 b2.toNat 0))]] 0 0))=0)→R 0 0=D.l []
 g28:(b2 < (a1.length:Int))→(¬(D.int (fn 46 [[D.i a0_0,D.i a0_1,D.i a0_2],[D.l (D.rows (gt a1 b2.toNat 0))]] 0 0))=0)→R 1 0=D.i (D.int (fn 46 [[D.i a0_0,D.i a0_1,D.i a0_2],[D.l (D.rows (gt a1 b2.toNat 0))]] 0 0))
 g29:(b2 < (a1.length:Int))→((D.int (fn 46 [[D.i a0_0,D.i a0_1,D.i a0_2],[D.l (D.rows (gt a1 b2.toNat 0))]] 0 0))=0)→vZ14 ((b2+1))
 n30:(b2 < (a1.length:Int))→((D.int (fn 46 [[D.i a0_0,D.i a0_1,D.i a0_2],[D.l (D.rows (gt a1 b2.toNat 0))]] 0 0))=0)→I0 b0 b1 (b2+1)∧m0 b0 b1 (b2+1) < m0 b0 b1 b2
 g31:(¬b2 < (a1.length:Int))→((a1.length:Int)=0)→R 0 0=D.l []
 g32:(¬b2 < (a1.length:Int))→((a1.length:Int)=0)→R 1 0=D.i 0
 g33:(¬b2 < (a1.length:Int))→(¬(a1.length:Int)=0)→(0:Int)≤0
 g34:(¬b2 < (a1.length:Int))→(¬(a1.length:Int)=0)→0 < (a1.length:Int)
 g35:(¬b2 < (a1.length:Int))→(¬(a1.length:Int)=0)→(((Int.toNat 0:Nat):Int)) < (a1.length:Int)
 g51:(¬b2 < (a1.length:Int))→(¬(a1.length:Int)=0)→((List.length ([]:Rows))+(List.length ((D.rows (gt a1 (Int.toNat 0) 0)):Rows))) * 8≤4294967296∧((List.length ([]:Rows))+(List.length ((D.rows (gt a1 (Int.toNat 0) 0)):Rows)))≤4294967296
 l1:(¬b2 < (a1.length:Int))→(¬(a1.length:Int)=0)→((List.length ((D.rows (gt a1 (Int.toNat 0) 0)):Rows))≤0)→V14l1 a1 R
 l3:(¬b2 < (a1.length:Int))→(¬(a1.length:Int)=0)→V14l3 a0_2 a1 R
abbrev V14l0 (pre:Nat→List (List D)→Prop) (fn:Nat→List (List D)→Nat→Nat→D) (a0_0:Int) (a0_1:Int) (a0_2:Int) (a1:Rows) (R:Nat→Nat→D):Prop:=∃(I0:Rows→Int→Int→Prop) (m0:Rows→Int→Int→Nat),I0 [] 0 0∧∀b0 b1 b2,I0 b0 b1 b2→V14c0 pre fn a0_0 a0_1 a0_2 a1 R b0 b1 b2 I0 m0
structure V14 (pre:Nat→List (List D)→Prop) (fn:Nat→List (List D)→Nat→Nat→D) (a0_0:Int) (a0_1:Int) (a0_2:Int) (a1:Rows) (R:Nat→Nat→D):Prop where
 g0:pre 50 [[D.i a0_0],[D.i 1],[D.i 32]]
 g1:(D.boo (fn 50 [[D.i a0_0],[D.i 1],[D.i 32]] 0 0)=false)→R 0 0=D.l []
 g2:(D.boo (fn 50 [[D.i a0_0],[D.i 1],[D.i 32]] 0 0)=false)→R 1 0=D.i 3
 g6:(v14d fn a0_0)→pre 50 [[D.i a0_1],[D.i 1],[D.i 32]]
 g7:(v14d fn a0_0)→(D.boo (fn 50 [[D.i a0_1],[D.i 1],[D.i 32]] 0 0)=false)→R 0 0=D.l []
 g8:(v14d fn a0_0)→(D.boo (fn 50 [[D.i a0_1],[D.i 1],[D.i 32]] 0 0)=false)→R 1 0=D.i 3
 g12:(v14d fn a0_0)→(D.boo (fn 50 [[D.i a0_1],[D.i 1],[D.i 32]] 0 0)=true)→pre 50 [[D.i a0_2],[D.i 1],[D.i 128]]
 g13:(v14d fn a0_0)→(D.boo (fn 50 [[D.i a0_1],[D.i 1],[D.i 32]] 0 0)=true)→(D.boo (fn 50 [[D.i a0_2],[D.i 1],[D.i 128]] 0 0)=false)→R 0 0=D.l []
 g14:(v14d fn a0_0)→(D.boo (fn 50 [[D.i a0_1],[D.i 1],[D.i 32]] 0 0)=true)→(D.boo (fn 50 [[D.i a0_2],[D.i 1],[D.i 128]] 0 0)=false)→R 1 0=D.i 3
 g20:(v14d fn a0_0)→(D.boo (fn 50 [[D.i a0_1],[D.i 1],[D.i 32]] 0 0)=true)→(D.boo (fn 50 [[D.i a0_2],[D.i 1],[D.i 128]] 0 0)=true)→(256 < (a1.length:Int))→R 0 0=D.l []
 g21:(v14d fn a0_0)→(D.boo (fn 50 [[D.i a0_1],[D.i 1],[D.i 32]] 0 0)=true)→(D.boo (fn 50 [[D.i a0_2],[D.i 1],[D.i 128]] 0 0)=true)→(256 < (a1.length:Int))→R 1 0=D.i 9
 l0:(v14d fn a0_0)→(D.boo (fn 50 [[D.i a0_1],[D.i 1],[D.i 32]] 0 0)=true)→(D.boo (fn 50 [[D.i a0_2],[D.i 1],[D.i 128]] 0 0)=true)→(¬256 < (a1.length:Int))→V14l0 pre fn a0_0 a0_1 a0_2 a1 R
end HX

namespace HX
open Go Go.Proofs CX
def lv (f:Rows) (p:Nat):Int:=(gt f p 0).int
def frm (F:Rows) (t:Nat):Rows:=(gt F t 0).rows
open Classical in
noncomputable def frE (w h:Int) (f:Rows):Int:=if (f.length:Int)=w * h then (if ∃j,j < f.length∧inB (lv f j) 0 255=false then 3 else 0) else 13
theorem frE_0 {w h:Int} {f:Rows} (h0:frE w h f=0):(f.length:Int)=w * h∧∀j,j < f.length→0≤lv f j∧lv f j≤255:=by
 unfold frE at h0
 split at h0
 ·rename_i c
  split at h0
  ·cases h0
  ·rename_i d
   refine ⟨c,fun j hj=>inB_t.1 ?_⟩
   cases e:inB (lv f j) 0 255 with
   |true=>rfl
   |false=>exact absurd ⟨j,hj,e⟩ d
 ·cases h0
theorem frE_of {w h:Int} {f:Rows} (h1:(f.length:Int)=w * h) (h2:∀j,j < f.length→0≤lv f j∧lv f j≤255):frE w h f=0:=by
 rw [frE,if_pos h1,if_neg]
 rintro ⟨j,hj,e⟩
 exact inB_f.1 e (h2 j hj)
theorem law46 {pre:Nat→List (List D)→Prop} {fn:Nat→List (List D)→Nat→Nat→D} (hp50:∀x,pre 50 x) (hf50:∀a b c,fn 50 [[.i a],[.i b],[.i c]] 0 0=.b (inB a b c))
  (hp52:∀w h s:Int,1≤w∧w≤32→1≤h∧h≤32→pre 52 [[.i w,.i h,.i s]]) (hf52:∀w h s:Int,fn 52 [[.i w,.i h,.i s]] 0 0=.i (w * h))
  {w h s:Int} {f:Rows} (hw:1≤w∧w≤32) (hh:1≤h∧h≤32) {R:Nat→Nat→D} (hR:R 0 0=.i (frE w h f)) :
  V46 pre fn w h s f R (fun _ i=>∃q:Nat,i=q∧q≤f.length∧∀j,j < q→inB (lv f j) 0 255=true) (fun _ i=>(f.length - i).toNat):=by
 have hi:∀n:Int,(D.i n).int=n:=fun _=>rfl
 have hb:∀n:Bool,(D.b n).boo=n:=fun _=>rfl
 obtain ⟨n1,n2,_⟩:=twoWH hw hh
 constructor
 all_goals (try simp only [hf50,hf52,hi,hb])
 case g0=>exact hp52 _ _ _ hw hh
 case g1=>intro c;rw [hR,frE,if_neg c]
 case i0=>exact fun _=>⟨0,rfl,Nat.zero_le _,fun j h=>by omega⟩
 all_goals (rintro a i ⟨q,rfl,hq,hj⟩ c;(try simp only [Int.toNat_natCast]))
 case g6=>intro _;exact hp50 _
 case g7=>intro h1 h2 _;rw [hR,frE,if_pos c,if_pos ⟨q,by omega,h2⟩]
 case n10=>
  intro h1 h2
  refine ⟨⟨q+1,by omega,by omega,fun j hjq=>?_⟩,by omega⟩
  by_cases e:j=q
  ·subst e;exact h2
  ·exact hj j (by omega)
 case g12=>
  intro h1
  rw [hR,frE,if_pos c,if_neg]
  rintro ⟨j,h2,h3⟩
  rw [hj j (by omega)] at h3;cases h3
 all_goals (intros;omega)
noncomputable def wP (s t:Int) (f k o:Rows):Nat→Rows×Rows
 |0=>(k,o)
 |p+1=>
  let x:=wP s t f k o p
  if s≤lv f p - lv x.1 p then (x.1.set p [.i (lv x.1 p+s)],x.2++[[.i t,.i (2 * p+1)]])
  else if s≤lv x.1 p - lv f p then (x.1.set p [.i (lv x.1 p - s)],x.2++[[.i t,.i (2 * p)]])
  else x
noncomputable def wT (s:Int) (F:Rows):Nat→Rows×Rows
 |0=>(frm F 0,[])
 |t+1=>wP s t (frm F t) (wT s F t).1 (wT s F t).2 (frm F t).length
noncomputable def fE (w h:Int) (F:Rows):Nat→Int
 |0=>0
 |t+1=>if fE w h F t=0 then frE w h (frm F t) else fE w h F t
open Classical in
noncomputable def wtE (w h s:Int) (F:Rows):Int:=
 if ¬(inB w 1 32=true∧inB h 1 32=true∧inB s 1 128=true) then 3 else if 256 < F.length then 9 else if ¬fE w h F F.length=0 then fE w h F F.length else if 65536 < (wT s F F.length).2.length∧¬F.length=0 then 9 else 0
open Classical in
noncomputable def wtR (w h s:Int) (F:Rows):Rows:=if wtE w h s F=0∧¬F.length=0 then (wT s F F.length).2 else []
theorem lv_set {k:Rows} {p q:Nat} {x:Int} (hp:p < k.length):lv (k.set p [.i x]) q=if q=p then x else lv k q:=by
 unfold lv
 simp only [gt,List.getD_eq_getElem?_getD,List.getElem?_set]
 by_cases c:p=q
 ·subst c;simp [hp,D.int]
 ·rw [if_neg c,if_neg (Ne.symm c)]
theorem fE_0 {w h:Int} {F:Rows}:∀n,fE w h F n=0↔∀t,t < n→frE w h (frm F t)=0
 |0=>⟨fun _ t h=>by omega,fun _=>rfl⟩
 |n+1=>by
  rw [fE]
  split
  ·rename_i c
   have ih:=(fE_0 n).1 c
   constructor
   ·intro e t ht
    by_cases d:t=n
    ·subst d;exact e
    ·exact ih t (by omega)
   ·intro e;exact e n (by omega)
  ·rename_i c
   exact ⟨fun e=>absurd e c,fun e=>absurd ((fE_0 n).2 fun t ht=>e t (by omega)) c⟩
structure KOk (n:Nat) (k:Rows):Prop where
 len:k.length=n
 rng:∀p,p < n→0≤lv k p∧lv k p≤255
theorem wP_ok {s t:Int} {f k o:Rows} {n:Nat} (hs:1≤s) (hf:KOk n f) (hk:KOk n k):∀p,p≤n→KOk n (wP s t f k o p).1∧(wP s t f k o p).2.length≤o.length+p∧∀q,p≤q→lv (wP s t f k o p).1 q=lv k q
 |0,_=>⟨hk,Nat.le_refl _,fun _ _=>rfl⟩
 |p+1,hp=>by
  obtain ⟨h1,h2,h3⟩:=wP_ok (t:=t) (o:=o) hs hf hk p (by omega)
  have a:=h1.rng p (by omega)
  have b:=hf.rng p (by omega)
  have l:=h1.len
  rw [wP]
  split
  ·refine ⟨⟨by rw [List.length_set];exact l,fun q hq=>?_⟩,by simp;omega,fun q hq=>?_⟩
   ·rw [lv_set (by omega)]
    split
    ·omega
    ·exact h1.rng q hq
   ·rw [lv_set (by omega),if_neg (by omega)];exact h3 q (by omega)
  ·split
   ·refine ⟨⟨by rw [List.length_set];exact l,fun q hq=>?_⟩,by simp;omega,fun q hq=>?_⟩
    ·rw [lv_set (by omega)]
     split
     ·omega
     ·exact h1.rng q hq
    ·rw [lv_set (by omega),if_neg (by omega)];exact h3 q (by omega)
   ·exact ⟨h1,by omega,fun q hq=>h3 q (by omega)⟩
theorem wT_ok {s:Int} {F:Rows} {n:Nat} (hs:1≤s) (hF:∀t,t < F.length→KOk n (frm F t)) (h0:0 < F.length):∀t,t≤F.length→KOk n (wT s F t).1∧(wT s F t).2.length≤t * n
 |0,_=>⟨hF 0 h0,Nat.zero_le _⟩
 |t+1,ht=>by
  obtain ⟨h1,h2⟩:=wT_ok hs hF h0 t (by omega)
  have hf:=hF t (by omega)
  obtain ⟨h3,h4,_⟩:=wP_ok (t:=t) (o:=(wT s F t).2) hs hf h1 n (Nat.le_refl _)
  rw [wT,hf.len]
  refine ⟨h3,?_⟩
  rw [Nat.add_mul]
  omega
theorem fE_k {w h:Int} {F:Rows} {n:Nat} (hn:(n:Int)=w * h) (h0:fE w h F F.length=0):∀t,t < F.length→KOk n (frm F t):=fun t ht=>by
 obtain ⟨a,b⟩:=frE_0 ((fE_0 _).1 h0 t ht)
 exact ⟨by omega,fun p hp=>b p (by omega)⟩
end HX

namespace HX
open Go Go.Proofs CX
theorem law14 {pre:Nat→List (List D)→Prop} {fn:Nat→List (List D)→Nat→Nat→D} (hp50:∀x,pre 50 x) (hf50:∀a b c,fn 50 [[.i a],[.i b],[.i c]] 0 0=.b (inB a b c))
  (hp46:∀(w h s:Int) (f:Rows),1≤w∧w≤32→1≤h∧h≤32→pre 46 [[.i w,.i h,.i s],[.l f]]) (hf46:∀(w h s:Int) (f:Rows),fn 46 [[.i w,.i h,.i s],[.l f]] 0 0=.i (frE w h f))
  {w h s:Int} {F:Rows} {R:Nat→Nat→D} (h0:R 0 0=.l (wtR w h s F)) (h1:R 1 0=.i (wtE w h s F)):V14 pre fn w h s F R:=by
 have hi:∀n:Int,(D.i n).int=n:=fun _=>rfl
 have hb:∀n:Bool,(D.b n).boo=n:=fun _=>rfl
 have err:∀e:Int,¬e=0→wtE w h s F=e→R 0 0=.l []:=fun e he h=>by rw [h0,wtR,h,if_neg fun c=>he c.1]
 constructor
 all_goals (try simp only [v14d,hf50,hi,hb])
 case g0 |g6 |g12=>intros;exact hp50 _
 case g1=>intro a;exact err 3 (by decide) (by rw [wtE,if_pos fun b=>by rw [a] at b;cases b.1])
 case g2=>intro a;rw [h1,wtE,if_pos fun b=>by rw [a] at b;cases b.1]
 case g7=>intro _ a;exact err 3 (by decide) (by rw [wtE,if_pos fun b=>by rw [a] at b;cases b.2.1])
 case g8=>intro _ a;rw [h1,wtE,if_pos fun b=>by rw [a] at b;cases b.2.1]
 case g13=>intro _ _ a;exact err 3 (by decide) (by rw [wtE,if_pos fun b=>by rw [a] at b;cases b.2.2])
 case g14=>intro _ _ a;rw [h1,wtE,if_pos fun b=>by rw [a] at b;cases b.2.2]
 case g20=>intro a b c d;exact err 9 (by decide) (by rw [wtE,if_neg fun h=>h ⟨a,b,c⟩,if_pos (by omega)])
 case g21=>intro a b c d;rw [h1,wtE,if_neg fun h=>h ⟨a,b,c⟩,if_pos (by omega)]
 intro a b c d
 have hw:=inB_t.1 a
 have hh:=inB_t.1 b
 have hs:=inB_t.1 c
 obtain ⟨n1,n2,_⟩:=twoWH hw hh
 have e1:wtE w h s F=if ¬fE w h F F.length=0 then fE w h F F.length else if 65536 < (wT s F F.length).2.length∧¬F.length=0 then 9 else 0:=by
  rw [wtE,if_neg fun h=>h ⟨a,b,c⟩,if_neg (by omega)]
 refine ⟨fun b0 b1 i=>∃q:Nat,i=q∧q≤F.length∧fE w h F q=0,fun _ _ i=>(F.length - i).toNat,⟨0,rfl,Nat.zero_le _,rfl⟩,?_⟩
 rintro _ _ i ⟨q,rfl,hq,hz⟩
 constructor
 all_goals (try simp only [hf46,hi,Int.toNat_natCast,Int.toNat_zero])
 case g26=>intros;exact hp46 _ _ _ _ hw hh
 case g27 |g28=>
  intro c1 c2
  have c2:¬frE w h (frm F q)=0:=c2
  have e2:∀n,q+1≤n→fE w h F n=frE w h (frm F q):=by
   intro n hn
   induction n with
   |zero=>omega
   |succ m ih=>
    rw [fE]
    by_cases cc:q+1≤m
    ·rw [ih cc,if_neg c2]
    ·have:m=q:=by omega
     subst this
     rw [if_pos hz]
  have e3:=e2 F.length (by omega)
  have e4:wtE w h s F=frE w h (frm F q):=by rw [e1,e3,if_pos c2]
  first
   |exact err _ c2 e4
   |rw [h1,e4];rfl
 case n30=>
  intro c1 c2
  exact ⟨⟨q+1,by omega,by omega,by rw [fE,if_pos hz];exact c2⟩,by omega⟩
 case g31=>
  intro c1 c2;rw [h0,wtR,if_neg fun h=>h.2 (by omega)]
 case g32=>
  intro c1 c2
  have:F.length=0:=by omega
  have e:fE w h F F.length=0:=by rw [this];rfl
  rw [h1,e1,if_neg fun h=>h e,if_neg fun h=>h.2 this]
 case g51 |l1=>
  intro c1 c2
  have eq:q=F.length:=by omega
  have l0':(D.rows (gt F 0 0)).length=(w * h).toNat:=(fE_k (n:=(w * h).toNat) (by omega) (eq ▸ hz) 0 (by omega)).len
  first
   |(rw [l0',List.length_nil];omega)
   |(intro c3;omega)
 case l3=>
  intro c1 c2
  have eq:q=F.length:=by omega
  have hF:=fE_k (n:=(w * h).toNat) (by omega) (eq ▸ hz)
  have hK:=wT_ok hs.1 hF (by omega)
  refine ⟨fun f0 i f2=>∃t:Nat,i=t∧t≤F.length∧f0=(wT s F t).2∧f2=(wT s F t).1,fun _ i _=>(F.length - i).toNat,⟨0,rfl,Nat.zero_le _,rfl,rfl⟩,?_⟩
  rintro _ i _ ⟨t,rfl,ht,rfl,rfl⟩
  have e5:¬(t:Int) < F.length→wtE w h s F=if 65536 < (wT s F t).2.length then 9 else 0:=by
   intro c4
   have:t=F.length:=by omega
   subst this
   rw [e1,←eq,if_neg fun h=>h hz,eq]
   split
   ·rename_i c5;rw [if_pos c5.1]
   ·rename_i c5;rw [if_neg fun c6=>c5 ⟨c6,by omega⟩]
  constructor
  case g99=>intro c4 c5;exact err 9 (by decide) (by rw [e5 c4,if_pos (by omega)])
  case g100=>intro c4 c5;rw [h1,e5 c4,if_pos (by omega)]
  case g101=>intro c4 c5;rw [h0,wtR,if_pos ⟨by rw [e5 c4,if_neg (by omega)],by omega⟩];congr 1;congr 2;omega
  case g102=>intro c4 c5;rw [h1,e5 c4,if_neg (by omega)]
  case l4=>
   intro c4
   have hft:=hF t (by omega)
   obtain ⟨k1,k2⟩:=hK t ht
   have hP:=wP_ok (t:=t) (o:=(wT s F t).2) hs.1 hft k1
   have k3:(wT s F t).2.length≤256 * 1024:=Nat.le_trans k2 (Nat.mul_le_mul (by omega) (by omega))
   refine ⟨fun j0 i j2=>∃p:Nat,i=p∧p≤(w * h).toNat∧j0=(wP s t (frm F t) (wT s F t).1 (wT s F t).2 p).2∧j2=(wP s t (frm F t) (wT s F t).1 (wT s F t).2 p).1,fun _ i _=>(w * h - i).toNat,⟨0,rfl,Nat.zero_le _,rfl,rfl⟩,?_⟩
   rintro _ i _ ⟨p,rfl,hp,rfl,rfl⟩
   obtain ⟨p1,p2,p3⟩:=hP p hp
   have lf:=hft.len
   have lk:=p1.len
   have ra:=fun hp=>p1.rng p hp
   have rb:=fun hp=>hft.rng p hp
   have ef:(D.rows (gt F t 0))=frm F t:=rfl
   have el:∀k:Rows,(gt k p 0).int=lv k p:=fun _=>rfl
   generalize hx:wP s t (frm F t) (wT s F t).1 (wT s F t).2 p=x at *
   constructor
   all_goals (try simp only [vZ14,v14a,v14b,v14c,Int.toNat_natCast,ef,el,lf,List.length_cons,List.length_nil])
   case n77=>intro c5 c6;exact ⟨⟨p+1,by omega,by omega,by rw [wP,hx];simp only [if_pos c6],by rw [wP,hx];simp only [if_pos c6]⟩,by omega⟩
   case n94=>intro c5 c6 c7;exact ⟨⟨p+1,by omega,by omega,by rw [wP,hx];simp only [if_neg c6,if_pos c7],by rw [wP,hx];simp only [if_neg c6,if_pos c7]⟩,by omega⟩
   case n96=>intro c5 c6 c7;exact ⟨⟨p+1,by omega,by omega,by rw [wP,hx];simp only [if_neg c6,if_neg c7],by rw [wP,hx];simp only [if_neg c6,if_neg c7]⟩,by omega⟩
   case n98=>
    intro c5
    have:p=(w * h).toNat:=by omega
    subst this
    refine ⟨⟨t+1,by omega,by omega,?_,?_⟩,by omega⟩<;>rw [wT,lf,hx]
   all_goals (intros;first |omega |(have:=ra (by omega);have:=rb (by omega);omega))
  all_goals (intros;(try simp only [vZ14,Int.toNat_natCast]);omega)
 all_goals (intros;(try simp only [vZ14]);omega)
end HX

namespace HX
open Go Go.Proofs CX
abbrev vZ18 (x:Int):=-9223372036854775808≤x∧x≤9223372036854775807
abbrev v18a (fn:Nat→List (List D)→Nat→Nat→D) (a0_0:Int):=(D.boo (fn 50 [[D.i a0_0],[D.i 1],[D.i 32]] 0 0)=true)
abbrev v18b (b3:Rows) (f1:Int):=((((D.rows (gt b3 f1.toNat 0))).length:Int))
abbrev v18c (fn:Nat→List (List D)→Nat→Nat→D) (a0_1:Int):=(D.boo (fn 50 [[D.i a0_1],[D.i 1],[D.i 32]] 0 0)=true)
abbrev v18d (fn:Nat→List (List D)→Nat→Nat→D) (a0_2:Int):=(D.boo (fn 50 [[D.i a0_2],[D.i 1],[D.i 128]] 0 0)=true)
abbrev v18e (fn:Nat→List (List D)→Nat→Nat→D) (a0_0:Int) (a0_1:Int) (a0_2:Int) (a2:Rows) (b2:Int):=(¬(2 * (D.int (fn 52 [[D.i a0_0,D.i a0_1,D.i a0_2]] 0 0)))≤(D.int (gt a2 b2.toNat 1)))
abbrev v18f (b3:Rows) (f1:Int) (j0:Int):=(D.int (gt (D.rows (gt b3 f1.toNat 0)) j0.toNat 0))
abbrev v18g (fn:Nat→List (List D)→Nat→Nat→D) (a3:Int):=(D.boo (fn 50 [[D.i a3],[D.i 0],[D.i 256]] 0 0)=true)
abbrev v18h (fn:Nat→List (List D)→Nat→Nat→D) (a2:Rows) (b2:Int) (a3:Int):=(fn 50 [[D.i (D.int (gt a2 b2.toNat 0))],[D.i 1],[D.i (a3 - 1)]] 0 0)
abbrev v18i (b3:Rows) (d1:Int):=((((D.rows (gt b3 d1.toNat 0))).length:Int))
abbrev v18j (fn:Nat→List (List D)→Nat→Nat→D) (a0_0:Int) (a0_1:Int) (a0_2:Int) (a1:Rows):=(D.int (fn 46 [[D.i a0_0,D.i a0_1,D.i a0_2],[D.l a1]] 0 0))
structure V18c2 (b3:Rows) (d0:Rows) (d1:Int) (e0:Int) (I1:Rows→Int→Prop) (m1:Rows→Int→Nat):Prop where
 g96:(e0 < (v18i b3 d1))→0≤e0
 g97:(e0 < (v18i b3 d1))→e0 < (v18i b3 d1)
 g98:(e0 < (v18i b3 d1))→(((Int.toNat e0:Nat):Int)) < (v18i b3 d1)
 g99:(e0 < (v18i b3 d1))→(2:Int)≠0
 g100:(e0 < (v18i b3 d1))→vZ18 ((Int.tdiv (D.int (gt (D.rows (gt b3 d1.toNat 0)) e0.toNat 0)) 2))
 g101:(e0 < (v18i b3 d1))→False
 g102:(¬e0 < (v18i b3 d1))→(true=true)→(d0.length+(List.length ([[D.l []]]:Rows))) * 24≤4294967296∧(d0.length+(List.length ([[D.l []]]:Rows)))≤4294967296
 g103:(¬e0 < (v18i b3 d1))→(true=true)→vZ18 ((d1+1))
 n104:(¬e0 < (v18i b3 d1))→(true=true)→I1 (d0++[[D.l []]]) (d1+1)∧m1 (d0++[[D.l []]]) (d1+1) < m1 d0 d1
abbrev V18l2 (b3:Rows) (d0:Rows) (d1:Int) (I1:Rows→Int→Prop) (m1:Rows→Int→Nat):Prop:=∃(I2:Int→Prop) (m2:Int→Nat),I2 0∧∀e0,I2 e0→V18c2 b3 d0 d1 e0 I1 m1
structure V18c1 (R:Nat→Nat→D) (b3:Rows) (d0:Rows) (d1:Int) (I1:Rows→Int→Prop) (m1:Rows→Int→Nat):Prop where
 g92:(d1 < (b3.length:Int))→0≤d1
 g93:(d1 < (b3.length:Int))→d1 < (b3.length:Int)
 g94:(d1 < (b3.length:Int))→(((Int.toNat d1:Nat):Int)) < (b3.length:Int)
 g109:(¬d1 < (b3.length:Int))→R 0 0=D.l d0
 g110:(¬d1 < (b3.length:Int))→R 1 0=D.i 0
 l2:(d1 < (b3.length:Int))→V18l2 b3 d0 d1 I1 m1
abbrev V18l1 (R:Nat→Nat→D) (b3:Rows):Prop:=∃(I1:Rows→Int→Prop) (m1:Rows→Int→Nat),I1 [] 0∧∀d0 d1,I1 d0 d1→V18c1 R b3 d0 d1 I1 m1
structure V18c4 (a0_2:Int) (b3:Rows) (f0:Rows) (f1:Int) (f2:Rows) (j0:Int) (j1:Rows) (I3:Rows→Int→Rows→Prop) (m3:Rows→Int→Rows→Nat) (I4:Int→Rows→Prop) (m4:Int→Rows→Nat):Prop where
 g117:(j0 < (v18b b3 f1))→0≤j0
 g118:(j0 < (v18b b3 f1))→j0 < (v18b b3 f1)
 g119:(j0 < (v18b b3 f1))→(((Int.toNat j0:Nat):Int)) < (v18b b3 f1)
 g120:(j0 < (v18b b3 f1))→(2:Int)≠0
 g121:(j0 < (v18b b3 f1))→vZ18 ((Int.tdiv (v18f b3 f1 j0) 2))
 g122:(j0 < (v18b b3 f1))→0≤(Int.tdiv (v18f b3 f1 j0) 2)
 g123:(j0 < (v18b b3 f1))→(Int.tdiv (v18f b3 f1 j0) 2) < (j1.length:Int)
 g124:(j0 < (v18b b3 f1))→(((Int.toNat (Int.tdiv (v18f b3 f1 j0) 2):Nat):Int)) < (j1.length:Int)
 g127:(j0 < (v18b b3 f1))→vZ18 ((2 * (Int.tmod (v18f b3 f1 j0) 2)))
 g128:(j0 < (v18b b3 f1))→vZ18 (((2 * (Int.tmod (v18f b3 f1 j0) 2)) - 1))
 g129:(j0 < (v18b b3 f1))→vZ18 ((a0_2 * ((2 * (Int.tmod (v18f b3 f1 j0) 2)) - 1)))
 g130:(j0 < (v18b b3 f1))→vZ18 (((D.int (gt j1 (Int.toNat (Int.tdiv (v18f b3 f1 j0) 2)) 0))+(a0_2 * ((2 * (Int.tmod (v18f b3 f1 j0) 2)) - 1))))
 g134:(j0 < (v18b b3 f1))→vZ18 ((j0+1))
 n135:(j0 < (v18b b3 f1))→I4 (j0+1) (List.set j1 (Int.toNat (Int.tdiv (v18f b3 f1 j0) 2)) [D.i ((D.int (gt j1 (Int.toNat (Int.tdiv (v18f b3 f1 j0) 2)) 0))+(a0_2 * ((2 * (Int.tmod (v18f b3 f1 j0) 2)) - 1)))])∧m4 (j0+1) (List.set j1 (Int.toNat (Int.tdiv (v18f b3 f1 j0) 2)) [D.i ((D.int (gt j1 (Int.toNat (Int.tdiv (v18f b3 f1 j0) 2)) 0))+(a0_2 * ((2 * (Int.tmod (v18f b3 f1 j0) 2)) - 1)))]) < m4 j0 j1
 g136:(¬j0 < (v18b b3 f1))→1≤j1.length
 g140:(¬j0 < (v18b b3 f1))→(false=false)→((List.length ([]:Rows))+j1.length) * 8≤4294967296∧((List.length ([]:Rows))+j1.length)≤4294967296
 g141:(¬j0 < (v18b b3 f1))→(false=false)→(f0.length+(List.length ([[D.l ([]++j1)]]:Rows))) * 24≤4294967296∧(f0.length+(List.length ([[D.l ([]++j1)]]:Rows)))≤4294967296
 g142:(¬j0 < (v18b b3 f1))→(false=false)→vZ18 ((f1+1))
 n143:(¬j0 < (v18b b3 f1))→(false=false)→I3 (f0++[[D.l ([]++j1)]]) (f1+1) j1∧m3 (f0++[[D.l ([]++j1)]]) (f1+1) j1 < m3 f0 f1 f2
abbrev V18l4 (a0_2:Int) (b3:Rows) (f0:Rows) (f1:Int) (f2:Rows) (I3:Rows→Int→Rows→Prop) (m3:Rows→Int→Rows→Nat):Prop:=∃(I4:Int→Rows→Prop) (m4:Int→Rows→Nat),I4 0 f2∧∀j0 j1,I4 j0 j1→V18c4 a0_2 b3 f0 f1 f2 j0 j1 I3 m3 I4 m4
structure V18c3 (a0_2:Int) (R:Nat→Nat→D) (b3:Rows) (f0:Rows) (f1:Int) (f2:Rows) (I3:Rows→Int→Rows→Prop) (m3:Rows→Int→Rows→Nat):Prop where
 g113:(f1 < (b3.length:Int))→0≤f1
 g114:(f1 < (b3.length:Int))→f1 < (b3.length:Int)
 g115:(f1 < (b3.length:Int))→(((Int.toNat f1:Nat):Int)) < (b3.length:Int)
 g144:(¬f1 < (b3.length:Int))→R 0 0=D.l f0
 g145:(¬f1 < (b3.length:Int))→R 1 0=D.i 0
 l4:(f1 < (b3.length:Int))→V18l4 a0_2 b3 f0 f1 f2 I3 m3
abbrev V18l3 (a0_2:Int) (a1:Rows) (R:Nat→Nat→D) (b3:Rows):Prop:=∃(I3:Rows→Int→Rows→Prop) (m3:Rows→Int→Rows→Nat),I3 [] 0 ([]++a1)∧∀f0 f1 f2,I3 f0 f1 f2→V18c3 a0_2 R b3 f0 f1 f2 I3 m3
structure V18c0 (pre:Nat→List (List D)→Prop) (fn:Nat→List (List D)→Nat→Nat→D) (a0_0:Int) (a0_1:Int) (a0_2:Int) (a1:Rows) (a2:Rows) (a3:Int) (R:Nat→Nat→D) (b0:Rows) (b1:Int) (b2:Int) (b3:Rows) (I0:Rows→Int→Int→Rows→Prop) (m0:Rows→Int→Int→Rows→Nat):Prop where
 g67:(b2 < (a2.length:Int))→0≤b2
 g68:(b2 < (a2.length:Int))→b2 < (a2.length:Int)
 g69:(b2 < (a2.length:Int))→(((Int.toNat b2:Nat):Int)) < (a2.length:Int)
 g70:(b2 < (a2.length:Int))→pre 52 [[D.i a0_0,D.i a0_1,D.i a0_2]]
 g71:(b2 < (a2.length:Int))→vZ18 ((2 * (D.int (fn 52 [[D.i a0_0,D.i a0_1,D.i a0_2]] 0 0))))
 g72:(b2 < (a2.length:Int))→((2 * (D.int (fn 52 [[D.i a0_0,D.i a0_1,D.i a0_2]] 0 0)))≤(D.int (gt a2 b2.toNat 1)))→R 0 0=D.l []
 g73:(b2 < (a2.length:Int))→((2 * (D.int (fn 52 [[D.i a0_0,D.i a0_1,D.i a0_2]] 0 0)))≤(D.int (gt a2 b2.toNat 1)))→R 1 0=D.i 3
 g74:(b2 < (a2.length:Int))→(v18e fn a0_0 a0_1 a0_2 a2 b2)→vZ18 ((a3 - 1))
 g75:(b2 < (a2.length:Int))→(v18e fn a0_0 a0_1 a0_2 a2 b2)→pre 50 [[D.i (D.int (gt a2 b2.toNat 0))],[D.i 1],[D.i (a3 - 1)]]
 g76:(b2 < (a2.length:Int))→(v18e fn a0_0 a0_1 a0_2 a2 b2)→(D.boo (v18h fn a2 b2 a3)=false)→R 0 0=D.l []
 g77:(b2 < (a2.length:Int))→(v18e fn a0_0 a0_1 a0_2 a2 b2)→(D.boo (v18h fn a2 b2 a3)=false)→R 1 0=D.i 3
 g78:(b2 < (a2.length:Int))→(v18e fn a0_0 a0_1 a0_2 a2 b2)→(D.boo (v18h fn a2 b2 a3)=true)→0≤(D.int (gt a2 b2.toNat 0))
 g79:(b2 < (a2.length:Int))→(v18e fn a0_0 a0_1 a0_2 a2 b2)→(D.boo (v18h fn a2 b2 a3)=true)→(D.int (gt a2 b2.toNat 0)) < (b3.length:Int)
 g80:(b2 < (a2.length:Int))→(v18e fn a0_0 a0_1 a0_2 a2 b2)→(D.boo (v18h fn a2 b2 a3)=true)→(((Int.toNat (D.int (gt a2 b2.toNat 0)):Nat):Int)) < (b3.length:Int)
 g83:(b2 < (a2.length:Int))→(v18e fn a0_0 a0_1 a0_2 a2 b2)→(D.boo (v18h fn a2 b2 a3)=true)→((List.length ((D.rows (gt b3 (Int.toNat (D.int (gt a2 b2.toNat 0))) 0)):Rows))+(List.length ([[D.i (D.int (gt a2 b2.toNat 1))]]:Rows))) * 8≤4294967296∧((List.length ((D.rows (gt b3 (Int.toNat (D.int (gt a2 b2.toNat 0))) 0)):Rows))+(List.length ([[D.i (D.int (gt a2 b2.toNat 1))]]:Rows)))≤4294967296
 g86:(b2 < (a2.length:Int))→(v18e fn a0_0 a0_1 a0_2 a2 b2)→(D.boo (v18h fn a2 b2 a3)=true)→(Int.toNat (D.int (gt a2 b2.toNat 0)))≤(Int.toNat (D.int (gt a2 b2.toNat 0)))
 g89:(b2 < (a2.length:Int))→(v18e fn a0_0 a0_1 a0_2 a2 b2)→(D.boo (v18h fn a2 b2 a3)=true)→vZ18 ((b2+1))
 n90:(b2 < (a2.length:Int))→(v18e fn a0_0 a0_1 a0_2 a2 b2)→(D.boo (v18h fn a2 b2 a3)=true)→I0 b0 b1 (b2+1) (List.set b3 (Int.toNat (D.int (gt a2 b2.toNat 0))) [D.l ((D.rows (gt b3 (Int.toNat (D.int (gt a2 b2.toNat 0))) 0))++[[D.i (D.int (gt a2 b2.toNat 1))]])])∧m0 b0 b1 (b2+1) (List.set b3 (Int.toNat (D.int (gt a2 b2.toNat 0))) [D.l ((D.rows (gt b3 (Int.toNat (D.int (gt a2 b2.toNat 0))) 0))++[[D.i (D.int (gt a2 b2.toNat 1))]])]) < m0 b0 b1 b2 b3
 g111:(¬b2 < (a2.length:Int))→((List.length ([]:Rows))+a1.length) * 8≤4294967296∧((List.length ([]:Rows))+a1.length)≤4294967296
 l1:(¬b2 < (a2.length:Int))→(a1.length≤0)→V18l1 R b3
 l3:(¬b2 < (a2.length:Int))→V18l3 a0_2 a1 R b3
abbrev V18l0 (pre:Nat→List (List D)→Prop) (fn:Nat→List (List D)→Nat→Nat→D) (a0_0:Int) (a0_1:Int) (a0_2:Int) (a1:Rows) (a2:Rows) (a3:Int) (R:Nat→Nat→D):Prop:=∃(I0:Rows→Int→Int→Rows→Prop) (m0:Rows→Int→Int→Rows→Nat),I0 [] 0 0 (List.replicate a3.toNat [D.l []])∧∀b0 b1 b2 b3,I0 b0 b1 b2 b3→V18c0 pre fn a0_0 a0_1 a0_2 a1 a2 a3 R b0 b1 b2 b3 I0 m0
structure V18 (pre:Nat→List (List D)→Prop) (fn:Nat→List (List D)→Nat→Nat→D) (a0_0:Int) (a0_1:Int) (a0_2:Int) (a1:Rows) (a2:Rows) (a3:Int) (R:Nat→Nat→D):Prop where
 g0:pre 50 [[D.i a0_0],[D.i 1],[D.i 32]]
 g1:(D.boo (fn 50 [[D.i a0_0],[D.i 1],[D.i 32]] 0 0)=false)→R 0 0=D.l []
 g2:(D.boo (fn 50 [[D.i a0_0],[D.i 1],[D.i 32]] 0 0)=false)→R 1 0=D.i 3
 g17:(v18a fn a0_0)→pre 50 [[D.i a0_1],[D.i 1],[D.i 32]]
 g18:(v18a fn a0_0)→(D.boo (fn 50 [[D.i a0_1],[D.i 1],[D.i 32]] 0 0)=false)→R 0 0=D.l []
 g19:(v18a fn a0_0)→(D.boo (fn 50 [[D.i a0_1],[D.i 1],[D.i 32]] 0 0)=false)→R 1 0=D.i 3
 g34:(v18a fn a0_0)→(v18c fn a0_1)→pre 50 [[D.i a0_2],[D.i 1],[D.i 128]]
 g35:(v18a fn a0_0)→(v18c fn a0_1)→(D.boo (fn 50 [[D.i a0_2],[D.i 1],[D.i 128]] 0 0)=false)→R 0 0=D.l []
 g36:(v18a fn a0_0)→(v18c fn a0_1)→(D.boo (fn 50 [[D.i a0_2],[D.i 1],[D.i 128]] 0 0)=false)→R 1 0=D.i 3
 g53:(v18a fn a0_0)→(v18c fn a0_1)→(v18d fn a0_2)→pre 50 [[D.i a3],[D.i 0],[D.i 256]]
 g54:(v18a fn a0_0)→(v18c fn a0_1)→(v18d fn a0_2)→(D.boo (fn 50 [[D.i a3],[D.i 0],[D.i 256]] 0 0)=false)→R 0 0=D.l []
 g55:(v18a fn a0_0)→(v18c fn a0_1)→(v18d fn a0_2)→(D.boo (fn 50 [[D.i a3],[D.i 0],[D.i 256]] 0 0)=false)→R 1 0=D.i 3
 g56:(v18a fn a0_0)→(v18c fn a0_1)→(v18d fn a0_2)→(v18g fn a3)→pre 46 [[D.i a0_0,D.i a0_1,D.i a0_2],[D.l a1]]
 g57:(v18a fn a0_0)→(v18c fn a0_1)→(v18d fn a0_2)→(v18g fn a3)→(¬(v18j fn a0_0 a0_1 a0_2 a1)=0)→R 0 0=D.l []
 g58:(v18a fn a0_0)→(v18c fn a0_1)→(v18d fn a0_2)→(v18g fn a3)→(¬(v18j fn a0_0 a0_1 a0_2 a1)=0)→R 1 0=D.i (v18j fn a0_0 a0_1 a0_2 a1)
 g59:(v18a fn a0_0)→(v18c fn a0_1)→(v18d fn a0_2)→(v18g fn a3)→((v18j fn a0_0 a0_1 a0_2 a1)=0)→pre 51 [[D.l a2]]
 g60:(v18a fn a0_0)→(v18c fn a0_1)→(v18d fn a0_2)→(v18g fn a3)→((v18j fn a0_0 a0_1 a0_2 a1)=0)→(¬(D.int (fn 51 [[D.l a2]] 0 0))=0)→R 0 0=D.l []
 g61:(v18a fn a0_0)→(v18c fn a0_1)→(v18d fn a0_2)→(v18g fn a3)→((v18j fn a0_0 a0_1 a0_2 a1)=0)→(¬(D.int (fn 51 [[D.l a2]] 0 0))=0)→R 1 0=D.i (D.int (fn 51 [[D.l a2]] 0 0))
 g62:(v18a fn a0_0)→(v18c fn a0_1)→(v18d fn a0_2)→(v18g fn a3)→((v18j fn a0_0 a0_1 a0_2 a1)=0)→((D.int (fn 51 [[D.l a2]] 0 0))=0)→0≤a3
 g63:(v18a fn a0_0)→(v18c fn a0_1)→(v18d fn a0_2)→(v18g fn a3)→((v18j fn a0_0 a0_1 a0_2 a1)=0)→((D.int (fn 51 [[D.l a2]] 0 0))=0)→a3≤a3
 g64:(v18a fn a0_0)→(v18c fn a0_1)→(v18d fn a0_2)→(v18g fn a3)→((v18j fn a0_0 a0_1 a0_2 a1)=0)→((D.int (fn 51 [[D.l a2]] 0 0))=0)→(a3 * (Int.ofNat 1))≤4096
 g65:(v18a fn a0_0)→(v18c fn a0_1)→(v18d fn a0_2)→(v18g fn a3)→((v18j fn a0_0 a0_1 a0_2 a1)=0)→((D.int (fn 51 [[D.l a2]] 0 0))=0)→(a3 * (Int.ofNat 24))≤140737488355328
 l0:(v18a fn a0_0)→(v18c fn a0_1)→(v18d fn a0_2)→(v18g fn a3)→((v18j fn a0_0 a0_1 a0_2 a1)=0)→((D.int (fn 51 [[D.l a2]] 0 0))=0)→V18l0 pre fn a0_0 a0_1 a0_2 a1 a2 a3 R
end HX

namespace HX
open Go Go.Proofs CX
noncomputable def chg (l:Rows) (t:Int):Nat→Rows
 |0=>[]
 |q+1=>if eT l q=t then chg l t q++[[.i (eI l q)]] else chg l t q
noncomputable def chgs (l:Rows) (t:Int):Rows:=chg l t l.length
def dlt (s i:Int):Int:=s * (2 * Int.tmod i 2 - 1)
def apR (s:Int) (c k:Rows):Nat→Rows
 |0=>k
 |q+1=>(apR s c k q).set (Int.tdiv (lv c q) 2).toNat [.i (lv (apR s c k q) (Int.tdiv (lv c q) 2).toNat+dlt s (lv c q))]
noncomputable def rb (s:Int) (l f:Rows):Nat→Rows
 |0=>f
 |t+1=>apR s (chgs l t) (rb s l f t) (chgs l t).length
noncomputable def rbO (s:Int) (l f:Rows):Nat→Rows
 |0=>[]
 |t+1=>rbO s l f t++[[.l (rb s l f (t+1))]]
def BadE (n:Int) (l:Rows) (T:Int):Prop:=∃j,j < l.length∧¬(eI l j < 2 * n∧inB (eT l j) 1 (T - 1)=true)
open Classical in
noncomputable def rbE (w h s:Int) (f l:Rows) (T:Int):Int:=
 if ¬(inB w 1 32=true∧inB h 1 32=true∧inB s 1 128=true) then 3 else if inB T 0 256=false then 3 else if ¬frE w h f=0 then frE w h f else if ¬chkE l=0 then chkE l
 else if BadE (w * h) l T then 3 else 0
noncomputable def rbR (w h s:Int) (f l:Rows) (T:Int):Rows:=if rbE w h s f l T=0 then rbO s l f T.toNat else []
theorem rbO_len {s:Int} {l f:Rows}:∀t,(rbO s l f t).length=t
 |0=>rfl
 |t+1=>by rw [rbO,List.length_append,rbO_len t];rfl
theorem rbO_at {s:Int} {l f:Rows}:∀{n t},t < n→frm (rbO s l f n) t=rb s l f (t+1)
 |0,t,h=>by omega
 |n+1,t,h=>by
  rw [rbO]
  unfold frm
  by_cases c:t < n
  ·rw [gtA (by rw [rbO_len];exact c)];exact rbO_at c
  ·have:t=n:=by omega
   subst this
   have:=@gtN (rbO s l f t) [.l (rb s l f (t+1))] 0
   rw [rbO_len] at this
   rw [this];rfl
theorem chg_len {l:Rows} {t:Int}:∀q,(chg l t q).length≤q
 |0=>Nat.le_refl _
 |q+1=>by
  have:=chg_len (l:=l) (t:=t) q
  rw [chg];split
  ·simp;omega
  ·omega
theorem chg_in {l:Rows} {t n:Int}:∀q,(∀j,j < q→0≤eI l j∧eI l j < n)→∀i,i < (chg l t q).length→0≤lv (chg l t q) i∧lv (chg l t q) i < n
 |0,_,i,hi=>by simp [chg] at hi
 |q+1,h,i,hi=>by
  have ih:=chg_in (t:=t) q (fun j hj=>h j (by omega))
  rw [chg] at hi ⊢
  split at hi
  ·rename_i c
   rw [if_pos c]
   by_cases d:i < (chg l t q).length
   ·unfold lv;rw [gtA d];exact ih i d
   ·have:i=(chg l t q).length:=by simp at hi;omega
    subst this
    unfold lv;rw [gtN];exact h q (by omega)
  ·rename_i c
   rw [if_neg c];exact ih i hi
theorem dlt_b {s i:Int} (hs:1≤s∧s≤128) (hi:0≤i):-128≤dlt s i∧dlt s i≤128∧(dlt s i=s∨dlt s i=-s):=by
 have:Int.tmod i 2=0∨Int.tmod i 2=1:=by
  rw [Int.tmod_eq_emod_of_nonneg hi];omega
 unfold dlt
 rcases this with e |e<;>rw [e]<;>omega
structure BOk (n:Nat) (b:Int) (k:Rows):Prop where
 len:k.length=n
 rng:∀p,-b≤lv k p∧lv k p≤b
theorem ap_ok {s b:Int} {n:Nat} {c k:Rows} (hs:1≤s∧s≤128) (hb:0≤b) (hc:∀i,i < c.length→0≤lv c i∧lv c i < 2 * n) (hk:BOk n b k):∀q,q≤c.length→BOk n (b+128 * q) (apR s c k q)
 |0,_=>by simpa [apR] using hk
 |q+1,hq=>by
  have ih:=ap_ok hs hb hc hk q (by omega)
  have h1:=hc q (by omega)
  have h2:=dlt_b hs h1.1
  have h3:(Int.tdiv (lv c q) 2).toNat < n:=by
   rw [Int.tdiv_eq_ediv_of_nonneg h1.1];omega
  refine ⟨by rw [apR,List.length_set];exact ih.len,fun p=>?_⟩
  rw [apR,lv_set (by rw [ih.len];exact h3)]
  have h4:=ih.rng p
  have h5:=ih.rng (Int.tdiv (lv c q) 2).toNat
  split<;>omega
theorem rb_ok {s:Int} {n:Nat} {l f:Rows} (hs:1≤s∧s≤128) (hl:l.length≤65536) (hi:∀j,j < l.length→0≤eI l j∧eI l j < 2 * n) (hf:BOk n 255 f):∀t:Nat,BOk n (255+8388608 * t) (rb s l f t)
 |0=>by simpa [rb] using hf
 |t+1=>by
  have ih:=rb_ok hs hl hi hf t
  have h1:=ap_ok (s:=s) (c:=chgs l t) hs (by omega) (chg_in _ hi) ih _ (Nat.le_refl _)
  have h2:=chg_len (l:=l) (t:=t) l.length
  refine ⟨h1.len,fun p=>?_⟩
  have h3:=h1.rng p
  have e:rb s l f (t+1)=apR s (chgs l t) (rb s l f t) (chgs l t).length:=rfl
  rw [e]
  have h4:(chgs l t).length≤65536:=Nat.le_trans h2 hl
  omega
theorem frE_b {w h:Int} {n:Nat} {f:Rows} (hn:(n:Int)=w * h) (h0:frE w h f=0):BOk n 255 f:=by
 obtain ⟨a,b⟩:=frE_0 h0
 refine ⟨by omega,fun p=>?_⟩
 by_cases c:p < f.length
 ·have:=b p c;omega
 ·have:lv f p=0:=by simp [lv,gt,List.getD_eq_getElem?_getD,List.getElem?_eq_none (Nat.le_of_not_lt c),D.int]
  omega
open Classical in
theorem law18 {pre:Nat→List (List D)→Prop} {fn:Nat→List (List D)→Nat→Nat→D} (hp50:∀x,pre 50 x) (hf50:∀a b c,fn 50 [[.i a],[.i b],[.i c]] 0 0=.b (inB a b c))
  (hp46:∀(w h s:Int) (f:Rows),1≤w∧w≤32→1≤h∧h≤32→pre 46 [[.i w,.i h,.i s],[.l f]]) (hf46:∀(w h s:Int) (f:Rows),fn 46 [[.i w,.i h,.i s],[.l f]] 0 0=.i (frE w h f))
  (hp51:∀x,pre 51 x) (hf51:∀l,fn 51 [[.l l]] 0 0=.i (chkE l)) (hp52:∀w h s:Int,1≤w∧w≤32→1≤h∧h≤32→pre 52 [[.i w,.i h,.i s]]) (hf52:∀w h s:Int,fn 52 [[.i w,.i h,.i s]] 0 0=.i (w * h))
  {w h s T:Int} {f l:Rows} {R:Nat→Nat→D} (h0:R 0 0=.l (rbR w h s f l T)) (h1:R 1 0=.i (rbE w h s f l T)):V18 pre fn w h s f l T R:=by
 have hi:∀n:Int,(D.i n).int=n:=fun _=>rfl
 have hb:∀n:Bool,(D.b n).boo=n:=fun _=>rfl
 have hr:∀n:Rows,(D.l n).rows=n:=fun _=>rfl
 have err:∀e:Int,¬e=0→rbE w h s f l T=e→R 0 0=.l []:=fun e he h=>by rw [h0,rbR,h,if_neg he]
 constructor
 all_goals (try simp only [v18a,v18c,v18d,v18g,v18j,hf50,hf46,hf51,hi,hb])
 case g0 |g17 |g34 |g53=>intros;exact hp50 _
 case g59=>intros;exact hp51 _
 case g1=>intro a;exact err 3 (by decide) (by rw [rbE,if_pos fun b=>by rw [a] at b;cases b.1])
 case g2=>intro a;rw [h1,rbE,if_pos fun b=>by rw [a] at b;cases b.1]
 case g18=>intro _ a;exact err 3 (by decide) (by rw [rbE,if_pos fun b=>by rw [a] at b;cases b.2.1])
 case g19=>intro _ a;rw [h1,rbE,if_pos fun b=>by rw [a] at b;cases b.2.1]
 case g35=>intro _ _ a;exact err 3 (by decide) (by rw [rbE,if_pos fun b=>by rw [a] at b;cases b.2.2])
 case g36=>intro _ _ a;rw [h1,rbE,if_pos fun b=>by rw [a] at b;cases b.2.2]
 case g54=>intro a b c d;exact err 3 (by decide) (by rw [rbE,if_neg fun h=>h ⟨a,b,c⟩,if_pos d])
 case g55=>intro a b c d;rw [h1,rbE,if_neg fun h=>h ⟨a,b,c⟩,if_pos d]
 case g56=>intro a b _ _;exact hp46 _ _ _ _ (inB_t.1 a) (inB_t.1 b)
 case g57=>intro a b c d e;exact err _ e (by rw [rbE,if_neg fun h=>h ⟨a,b,c⟩,if_neg (by simp [d]),if_pos e])
 case g58=>intro a b c d e;rw [h1,rbE,if_neg fun h=>h ⟨a,b,c⟩,if_neg (by simp [d]),if_pos e]
 case g60=>intro a b c d e g;exact err _ g (by rw [rbE,if_neg fun h=>h ⟨a,b,c⟩,if_neg (by simp [d]),if_neg fun h=>h e,if_pos g])
 case g61=>intro a b c d e g;rw [h1,rbE,if_neg fun h=>h ⟨a,b,c⟩,if_neg (by simp [d]),if_neg fun h=>h e,if_pos g]
 case g62 |g63 |g64 |g65=>intro _ _ _ d _ _;have:=inB_t.1 d;(try show _ * 1≤_);(try show _ * 24≤_);omega
 intro a b c d e g
 have hw:=inB_t.1 a
 have hh:=inB_t.1 b
 have hs:=inB_t.1 c
 have hT:=inB_t.1 d
 obtain ⟨n1,n2,_⟩:=twoWH hw hh
 obtain ⟨hl,ev⟩:=chk_ev g
 have hf:=frE_b (n:=(w * h).toNat) (by omega) e
 have fl:=hf.len
 have e1:rbE w h s f l T=if BadE (w * h) l T then 3 else 0:=by
  rw [rbE,if_neg fun h=>h ⟨a,b,c⟩,if_neg (by simp [d]),if_neg fun h=>h e,if_neg fun h=>h g]
 refine ⟨fun _ _ i b3=>∃q:Nat,i=q∧q≤l.length∧b3.length=T.toNat∧(∀t:Nat,t < T.toNat→(gt b3 t 0).rows=chg l t q)∧∀j,j < q→eI l j < 2 * (w * h)∧inB (eT l j) 1 (T - 1)=true,fun _ _ i _=>(l.length - i).toNat,
  ⟨0,rfl,Nat.zero_le _,List.length_replicate,fun t ht=>by simp [gt,List.getD_eq_getElem?_getD,List.getElem?_replicate,ht,D.rows,chg],fun j h=>by omega⟩,?_⟩
 rintro _ _ i b3 ⟨q,rfl,hq,hbl,hch,hj⟩
 constructor
 all_goals (try simp only [vZ18,v18e,v18h,hf50,hf52,hi,hb,Int.toNat_natCast])
 case g70=>intro _;exact hp52 _ _ _ hw hh
 case g75=>intros;exact hp50 _
 case g72=>intro a1 a2;exact err 3 (by decide) (by rw [e1,if_pos (show BadE _ _ _ from ⟨q,by omega,fun h=>absurd h.1 (Int.not_lt.2 a2)⟩)])
 case g73=>intro a1 a2;rw [h1,e1,if_pos (show BadE _ _ _ from ⟨q,by omega,fun h=>absurd h.1 (Int.not_lt.2 a2)⟩)]
 case g76=>intro a1 _ a2;exact err 3 (by decide) (by rw [e1,if_pos (show BadE _ _ _ from ⟨q,by omega,fun h=>by have h:=h.2;unfold eT at h;rw [a2] at h;cases h⟩)])
 case g77=>intro a1 _ a2;rw [h1,e1,if_pos (show BadE _ _ _ from ⟨q,by omega,fun h=>by have h:=h.2;unfold eT at h;rw [a2] at h;cases h⟩)]
 case g78 |g79 |g80=>intro a1 a2 a3;have:=inB_t.1 a3;omega
 case g83=>
  intro a1 a2 a3
  have h2:=inB_t.1 a3
  have h3:=hch (gt l q 0).int.toNat (by omega)
  have h4:=chg_len (l:=l) (t:=(gt l q 0).int.toNat) q
  rw [h3]
  show _ * 8≤4294967296∧_
  simp only [List.length_cons,List.length_nil]
  omega
 case n90=>
  intro a1 a2 a3
  have h2:=inB_t.1 a3
  refine ⟨⟨q+1,by omega,by omega,by rw [List.length_set];exact hbl,fun t ht=>?_,fun j hjq=>?_⟩,by omega⟩
  ·have h3:=hch t ht
   have h5:((gt l q 0).int.toNat:Int)=(gt l q 0).int:=by omega
   rw [chg]
   show _=if (gt l q 0).int=_ then _ else _
   by_cases e2:(gt l q 0).int=t
   ·have h4:(gt l q 0).int.toNat=t:=by omega
    rw [if_pos e2,h4]
    simp only [gt,List.getD_eq_getElem?_getD,List.getElem?_set,hbl]
    rw [if_pos trivial,if_pos ht]
    show _++_=_++_
    rw [←h3];rfl
   ·rw [if_neg e2,←h3]
    simp only [gt,List.getD_eq_getElem?_getD,List.getElem?_set]
    rw [if_neg (fun h=>e2 (by have h:(gt l q 0).int.toNat=t:=h;omega))]
  ·by_cases e2:j=q
   ·subst e2;exact ⟨by unfold eI;omega,a3⟩
   ·exact hj j (by omega)
 case g111=>intro _;rw [List.length_nil];omega
 case l1=>intro _ a1;omega
 case l3=>
  intro a1
  have:q=l.length:=by omega
  subst this
  have e2:rbE w h s f l T=0:=by rw [e1,if_neg (fun ⟨j,h2,h3⟩=>h3 (hj j h2))]
  have hI:∀j,j < l.length→0≤eI l j∧eI l j < 2 * ((w * h).toNat:Int):=fun j h=>⟨(ev.ri j h).1,by have:=(hj j h).1;omega⟩
  have hR:=rb_ok (s:=s) (l:=l) (f:=f) hs hl hI hf
  refine ⟨fun f0 i f2=>∃t:Nat,i=t∧t≤T.toNat∧f0=rbO s l f t∧f2=rb s l f t,fun _ i _=>(T - i).toNat,⟨0,rfl,Nat.zero_le _,rfl,rfl⟩,?_⟩
  rintro _ i _ ⟨t,rfl,ht,rfl,rfl⟩
  have ol:=rbO_len (s:=s) (l:=l) (f:=f) t
  constructor
  all_goals (try simp only [vZ18,Int.toNat_natCast])
  case g144=>intro a2;rw [h0,rbR,if_pos e2];congr 2;omega
  case g145=>intro a2;rw [h1,e2]
  case l4=>
   intro a2
   have hc:=hch t (by omega)
   have hk:=hR t
   have cl:=chg_len (l:=l) (t:=t) l.length
   have hA:=ap_ok (s:=s) (c:=chgs l t) hs (by omega) (chg_in _ hI) hk
   have hD:=fun i hi=>chg_in (t:=(t:Int)) l.length hI i hi
   refine ⟨fun i j1=>∃p:Nat,i=p∧p≤(chgs l t).length∧j1=apR s (chgs l t) (rb s l f t) p,fun i _=>((chgs l t).length - i).toNat,⟨0,rfl,Nat.zero_le _,rfl⟩,?_⟩
   rintro i _ ⟨p,rfl,hp,rfl⟩
   have hc:(gt b3 t 0).rows=chgs l t:=hc
   have cl:(chgs l t).length≤l.length:=cl
   have hD:∀i,i < (chgs l t).length→0≤lv (chgs l t) i∧lv (chgs l t) i < 2 * ((w * h).toNat:Int):=hD
   have hp':=hA p hp
   have el:∀(k:Rows) (p:Nat),(gt k p 0).int=lv k p:=fun _ _=>rfl
   have pl:=hp'.len
   constructor
   all_goals (try simp only [vZ18,v18b,v18f,Int.toNat_natCast,hc,el,List.length_cons,List.length_nil,List.nil_append,pl])
   case n135=>intro a3;exact ⟨⟨p+1,by omega,by omega,rfl⟩,by omega⟩
   case n143=>
    intro a3 _
    have:p=(chgs l t).length:=by omega
    subst this
    exact ⟨⟨t+1,by omega,by omega,rfl,rfl⟩,by omega⟩
   case g121 |g122 |g123 |g124 |g127 |g128 |g129 |g130=>
    intro a3
    have b1:=hD p (by omega)
    have b2:=dlt_b hs b1.1
    have b3:=hp'.rng (Int.tdiv (lv (chgs l t) p) 2).toNat
    have b4:Int.tdiv (lv (chgs l t) p) 2=lv (chgs l t) p / 2:=Int.tdiv_eq_ediv_of_nonneg b1.1
    have b5:Int.tmod (lv (chgs l t) p) 2=lv (chgs l t) p % 2:=Int.tmod_eq_emod_of_nonneg b1.1
    unfold dlt at b2
    first |omega |(rw [b4] at *;omega) |(rw [b5] at *;omega)
   all_goals (intros;omega)
  all_goals (intros;omega)
 all_goals (intros;omega)
end HX

namespace HX
open Go Go.Proofs CX
abbrev vZ35 (x:Int):=-9223372036854775808≤x∧x≤9223372036854775807
structure V35r3 (a2:Rows) (d2:Int) (I3:Bool→Prop):Prop where
 n31:(0 < d2)→I3 (decide (0 < (a2.length:Int)))
 n32:(¬0 < d2)→I3 false
structure V35r4 (a0_0:Int) (a0_1:Int) (a0_2:Int) (a2:Rows) (d1:Rows) (d2:Int) (e0:Int) (e1:Rows) (f0:Bool) (I4:Rows→Prop):Prop where
 g34:(f0=true)→0≤e0
 g35:(f0=true)→e0 < ((((List.set e1 e0.toNat [D.i (D.int (gt d1 e0.toNat 0))])).length:Int))
 g36:(f0=true)→(((Int.toNat e0:Nat):Int)) < ((((List.set e1 e0.toNat [D.i (D.int (gt d1 e0.toNat 0))])).length:Int))
 g38:(f0=true)→vZ35 ((d2 * (a0_0 * a0_1)))
 g39:(f0=true)→vZ35 (((d2 * (a0_0 * a0_1))+e0))
 g40:(f0=true)→(a2.length:Int)≠0
 g41:(f0=true)→0≤(Int.tmod ((d2 * (a0_0 * a0_1))+e0) (a2.length:Int))
 g42:(f0=true)→(Int.tmod ((d2 * (a0_0 * a0_1))+e0) (a2.length:Int)) < (a2.length:Int)
 g43:(f0=true)→(((Int.toNat (Int.tmod ((d2 * (a0_0 * a0_1))+e0) (a2.length:Int)):Nat):Int)) < (a2.length:Int)
 g44:(f0=true)→vZ35 ((D.int (gt a2 (Int.toNat (Int.tmod ((d2 * (a0_0 * a0_1))+e0) (a2.length:Int))) 0)))
 g45:(f0=true)→vZ35 ((2 * a0_2))
 g46:(f0=true)→vZ35 (((2 * a0_2)+1))
 g47:(f0=true)→((2 * a0_2)+1)≠0
 g48:(f0=true)→vZ35 (((Int.tmod (D.int (gt a2 (Int.toNat (Int.tmod ((d2 * (a0_0 * a0_1))+e0) (a2.length:Int))) 0)) ((2 * a0_2)+1)) - a0_2))
 g49:(f0=true)→vZ35 (((D.int (gt (List.set e1 e0.toNat [D.i (D.int (gt d1 e0.toNat 0))]) e0.toNat 0))+((Int.tmod (D.int (gt a2 (Int.toNat (Int.tmod ((d2 * (a0_0 * a0_1))+e0) (a2.length:Int))) 0)) ((2 * a0_2)+1)) - a0_2)))
 n53:(f0=true)→I4 (List.set (List.set e1 e0.toNat [D.i (D.int (gt d1 e0.toNat 0))]) e0.toNat [D.i ((D.int (gt (List.set e1 e0.toNat [D.i (D.int (gt d1 e0.toNat 0))]) e0.toNat 0))+((Int.tmod (D.int (gt a2 (Int.toNat (Int.tmod ((d2 * (a0_0 * a0_1))+e0) (a2.length:Int))) 0)) ((2 * a0_2)+1)) - a0_2))])
 n54:(f0=false)→I4 (List.set e1 e0.toNat [D.i (D.int (gt d1 e0.toNat 0))])
structure V35c4 (e0:Int) (e1:Rows) (j0:Rows) (I2:Int→Rows→Prop) (m2:Int→Rows→Nat):Prop where
 g55:0≤e0
 g56:e0 < (j0.length:Int)
 g57:(((Int.toNat e0:Nat):Int)) < (j0.length:Int)
 g61:vZ35 ((e0+1))
 n62:I2 (e0+1) (List.set j0 e0.toNat [D.i (mnI (mxI (D.int (gt j0 e0.toNat 0)) 0) 255)])∧m2 (e0+1) (List.set j0 e0.toNat [D.i (mnI (mxI (D.int (gt j0 e0.toNat 0)) 0) 255)]) < m2 e0 e1
abbrev V35j4 (a0_0:Int) (a0_1:Int) (a0_2:Int) (a2:Rows) (d1:Rows) (d2:Int) (e0:Int) (e1:Rows) (f0:Bool) (I2:Int→Rows→Prop) (m2:Int→Rows→Nat):Prop:=∃(I4:Rows→Prop),V35r4 a0_0 a0_1 a0_2 a2 d1 d2 e0 e1 f0 I4∧∀j0,I4 j0→V35c4 e0 e1 j0 I2 m2
structure V35c3 (a0_0:Int) (a0_1:Int) (a0_2:Int) (a2:Rows) (d1:Rows) (d2:Int) (e0:Int) (e1:Rows) (f0:Bool) (I2:Int→Rows→Prop) (m2:Int→Rows→Nat):Prop where
 l4:V35j4 a0_0 a0_1 a0_2 a2 d1 d2 e0 e1 f0 I2 m2
abbrev V35j3 (a0_0:Int) (a0_1:Int) (a0_2:Int) (a2:Rows) (d1:Rows) (d2:Int) (e0:Int) (e1:Rows) (I2:Int→Rows→Prop) (m2:Int→Rows→Nat):Prop:=∃(I3:Bool→Prop),V35r3 a2 d2 I3∧∀f0,I3 f0→V35c3 a0_0 a0_1 a0_2 a2 d1 d2 e0 e1 f0 I2 m2
structure V35c2 (a0_0:Int) (a0_1:Int) (a0_2:Int) (a2:Rows) (d0:Rows) (d1:Rows) (d2:Int) (e0:Int) (e1:Rows) (I1:Rows→Rows→Int→Prop) (m1:Rows→Rows→Int→Nat) (I2:Int→Rows→Prop) (m2:Int→Rows→Nat):Prop where
 g24:(e0 < (a0_0 * a0_1))→0≤e0
 g25:(e0 < (a0_0 * a0_1))→e0 < (d1.length:Int)
 g26:(e0 < (a0_0 * a0_1))→(((Int.toNat e0:Nat):Int)) < (d1.length:Int)
 g28:(e0 < (a0_0 * a0_1))→e0 < (e1.length:Int)
 g29:(e0 < (a0_0 * a0_1))→(((Int.toNat e0:Nat):Int)) < (e1.length:Int)
 g63:(¬e0 < (a0_0 * a0_1))→(d0.length+(List.length ([[D.l e1]]:Rows))) * 24≤4294967296∧(d0.length+(List.length ([[D.l e1]]:Rows)))≤4294967296
 g64:(¬e0 < (a0_0 * a0_1))→vZ35 ((d2+1))
 n65:(¬e0 < (a0_0 * a0_1))→I1 (d0++[[D.l e1]]) e1 (d2+1)∧m1 (d0++[[D.l e1]]) e1 (d2+1) < m1 d0 d1 d2
 l3:(e0 < (a0_0 * a0_1))→V35j3 a0_0 a0_1 a0_2 a2 d1 d2 e0 e1 I2 m2
abbrev V35l2 (a0_0:Int) (a0_1:Int) (a0_2:Int) (a2:Rows) (d0:Rows) (d1:Rows) (d2:Int) (I1:Rows→Rows→Int→Prop) (m1:Rows→Rows→Int→Nat):Prop:=∃(I2:Int→Rows→Prop) (m2:Int→Rows→Nat),I2 0 (List.replicate (Int.toNat (a0_0 * a0_1)) [D.i 0])∧∀e0 e1,I2 e0 e1→V35c2 a0_0 a0_1 a0_2 a2 d0 d1 d2 e0 e1 I1 m1 I2 m2
structure V35c1 (a0_0:Int) (a0_1:Int) (a0_2:Int) (a2:Rows) (a3:Int) (R:Nat→Nat→D) (d0:Rows) (d1:Rows) (d2:Int) (I1:Rows→Rows→Int→Prop) (m1:Rows→Rows→Int→Nat):Prop where
 g19:(d2 < a3)→0≤(a0_0 * a0_1)
 g20:(d2 < a3)→(a0_0 * a0_1)≤(a0_0 * a0_1)
 g21:(d2 < a3)→((a0_0 * a0_1) * (Int.ofNat 1))≤4096
 g22:(d2 < a3)→((a0_0 * a0_1) * (Int.ofNat 8))≤140737488355328
 g66:(¬d2 < a3)→R 0 0=D.l d0
 l2:(d2 < a3)→V35l2 a0_0 a0_1 a0_2 a2 d0 d1 d2 I1 m1
abbrev V35l1 (a0_0:Int) (a0_1:Int) (a0_2:Int) (a2:Rows) (a3:Int) (R:Nat→Nat→D) (b1:Rows):Prop:=∃(I1:Rows→Rows→Int→Prop) (m1:Rows→Rows→Int→Nat),I1 [] b1 0∧∀d0 d1 d2,I1 d0 d1 d2→V35c1 a0_0 a0_1 a0_2 a2 a3 R d0 d1 d2 I1 m1
structure V35c0 (a0_0:Int) (a0_1:Int) (a0_2:Int) (a1:Rows) (a2:Rows) (a3:Int) (R:Nat→Nat→D) (b0:Int) (b1:Rows) (I0:Int→Rows→Prop) (m0:Int→Rows→Nat):Prop where
 g6:(b0 < (a0_0 * a0_1))→(0 < (a1.length:Int))→(a1.length:Int)≠0
 g7:(b0 < (a0_0 * a0_1))→(0 < (a1.length:Int))→0≤(Int.tmod b0 (a1.length:Int))
 g8:(b0 < (a0_0 * a0_1))→(0 < (a1.length:Int))→(Int.tmod b0 (a1.length:Int)) < (a1.length:Int)
 g9:(b0 < (a0_0 * a0_1))→(0 < (a1.length:Int))→(((Int.toNat (Int.tmod b0 (a1.length:Int)):Nat):Int)) < (a1.length:Int)
 g10:(b0 < (a0_0 * a0_1))→(0 < (a1.length:Int))→vZ35 ((D.int (gt a1 (Int.toNat (Int.tmod b0 (a1.length:Int))) 0)))
 g11:(b0 < (a0_0 * a0_1))→(0 < (a1.length:Int))→0≤b0
 g12:(b0 < (a0_0 * a0_1))→(0 < (a1.length:Int))→b0 < (b1.length:Int)
 g13:(b0 < (a0_0 * a0_1))→(0 < (a1.length:Int))→(((Int.toNat b0:Nat):Int)) < (b1.length:Int)
 g14:(b0 < (a0_0 * a0_1))→(0 < (a1.length:Int))→vZ35 ((b0+1))
 n15:(b0 < (a0_0 * a0_1))→(0 < (a1.length:Int))→I0 (b0+1) (List.set b1 b0.toNat [D.i (D.int (gt a1 (Int.toNat (Int.tmod b0 (a1.length:Int))) 0))])∧m0 (b0+1) (List.set b1 b0.toNat [D.i (D.int (gt a1 (Int.toNat (Int.tmod b0 (a1.length:Int))) 0))]) < m0 b0 b1
 g16:(b0 < (a0_0 * a0_1))→(¬0 < (a1.length:Int))→vZ35 ((b0+1))
 n17:(b0 < (a0_0 * a0_1))→(¬0 < (a1.length:Int))→I0 (b0+1) b1∧m0 (b0+1) b1 < m0 b0 b1
 l1:(¬b0 < (a0_0 * a0_1))→V35l1 a0_0 a0_1 a0_2 a2 a3 R b1
abbrev V35l0 (a0_0:Int) (a0_1:Int) (a0_2:Int) (a1:Rows) (a2:Rows) (a3:Int) (R:Nat→Nat→D):Prop:=∃(I0:Int→Rows→Prop) (m0:Int→Rows→Nat),I0 0 (List.replicate (Int.toNat (a0_0 * a0_1)) [D.i 0])∧∀b0 b1,I0 b0 b1→V35c0 a0_0 a0_1 a0_2 a1 a2 a3 R b0 b1 I0 m0
structure V35 (a0_0:Int) (a0_1:Int) (a0_2:Int) (a1:Rows) (a2:Rows) (a3:Int) (R:Nat→Nat→D):Prop where
 g0:vZ35 ((a0_0 * a0_1))
 g1:0≤(a0_0 * a0_1)
 g2:(a0_0 * a0_1)≤(a0_0 * a0_1)
 g3:((a0_0 * a0_1) * (Int.ofNat 1))≤4096
 g4:((a0_0 * a0_1) * (Int.ofNat 8))≤140737488355328
 l0:V35l0 a0_0 a0_1 a0_2 a1 a2 a3 R
end HX

namespace HX
open Go Go.Proofs CX
def Byt (a:Rows):Prop:=∀i,i < a.length→0≤lv a i∧lv a i≤255
def f1S (N:Nat) (a:Rows):Nat→Rows
 |0=>List.replicate N [.i 0]
 |p+1=>if 0 < a.length then (f1S N a p).set p [.i (lv a (Int.tmod p a.length).toNat)] else f1S N a p
def mv (s N:Int) (m:Rows) (t p:Nat):Int:=if 0 < t∧0 < m.length then Int.tmod (lv m (Int.tmod (t * N+p) m.length).toNat) (2 * s+1) - s else 0
def nxv (s N:Int) (m:Rows) (t:Nat) (k:Rows) (p:Nat):Int:=mnI (mxI (lv k p+mv s N m t p) 0) 255
def flP (s N:Int) (m:Rows) (t:Nat) (k:Rows):Nat→Rows
 |0=>List.replicate N.toNat [.i 0]
 |p+1=>(flP s N m t k p).set p [.i (nxv s N m t k p)]
def fl (s N:Int) (a m:Rows):Nat→Rows×Rows
 |0=>(f1S N.toNat a N.toNat,[])
 |t+1=>(flP s N m t (fl s N a m t).1 N.toNat,(fl s N a m t).2++[[.l (flP s N m t (fl s N a m t).1 N.toNat)]])
theorem lv_rep {N p:Nat}:lv (List.replicate N [.i 0]) p=0:=by
 unfold lv gt
 simp only [List.getD_eq_getElem?_getD,List.getElem?_replicate]
 split<;>rfl
theorem mnx (x:Int):0≤mnI (mxI x 0) 255∧mnI (mxI x 0) 255≤255:=by
 unfold mnI mxI;split<;>split<;>omega
theorem mnx_near {x y s:Int} (hx:0≤x∧x≤255) (hy:-s≤y∧y≤s):mnI (mxI (x+y) 0) 255 - x≤s∧x - mnI (mxI (x+y) 0) 255≤s:=by
 unfold mnI mxI;split<;>split<;>omega
theorem idx_in {a:Rows} {x:Int} (h0:0≤x) (ha:0 < a.length):(0≤Int.tmod x a.length∧Int.tmod x a.length < a.length)∧(Int.tmod x a.length).toNat < a.length:=by
 have h1:=Int.tmod_nonneg (b:=(a.length:Int)) h0
 have h2:=Int.tmod_lt_of_pos x (b:=(a.length:Int)) (by omega)
 omega
theorem mv_b {s N:Int} {m:Rows} {t p:Nat} (hs:1≤s) (hN:0≤N) (hm:Byt m):-s≤mv s N m t p∧mv s N m t p≤s:=by
 unfold mv
 split
 ·rename_i c
  have h0:0≤(t:Int) * N+p:=by have:=Int.mul_nonneg (Int.natCast_nonneg t) hN;omega
  have h1:=hm _ (idx_in h0 c.2).2
  have h2:=Int.tmod_nonneg (2 * s+1) h1.1
  have h3:=Int.tmod_lt_of_pos (lv m (Int.tmod (t * N+p) m.length).toNat) (b:=2 * s+1) (by omega)
  omega
 ·omega
theorem f1S_ok {N:Nat} {a:Rows} (ha:Byt a):∀p,p≤N→KOk N (f1S N a p)
 |0,_=>⟨by simp [f1S],fun q _=>by rw [f1S,lv_rep];omega⟩
 |p+1,hp=>by
  have ih:=f1S_ok (N:=N) ha p (by omega)
  rw [f1S]
  split
  ·rename_i c
   refine ⟨by rw [List.length_set];exact ih.len,fun q hq=>?_⟩
   rw [lv_set (show p < _ by have:=ih.len;omega)]
   split
   ·exact ha _ (idx_in (Int.natCast_nonneg p) c).2
   ·exact ih.rng q hq
  ·exact ih
theorem flP_ok {s N:Int} {m k:Rows} {t:Nat}:∀p,p≤N.toNat→KOk N.toNat (flP s N m t k p)∧∀q,q < p→lv (flP s N m t k p) q=nxv s N m t k q
 |0,_=>⟨⟨by simp [flP],fun q _=>by rw [flP,lv_rep];omega⟩,fun q h=>by omega⟩
 |p+1,hp=>by
  obtain ⟨ih,ih2⟩:=flP_ok (s:=s) (N:=N) (m:=m) (k:=k) (t:=t) p (by omega)
  rw [flP]
  refine ⟨⟨by rw [List.length_set];exact ih.len,fun q hq=>?_⟩,fun q hq=>?_⟩
  ·rw [lv_set (show p < _ by have:=ih.len;omega)]
   split
   ·exact mnx _
   ·exact ih.rng q hq
  ·rw [lv_set (show p < _ by have:=ih.len;omega)]
   split
   ·rename_i c;rw [c]
   ·exact ih2 q (by omega)
theorem fl_ok {s N:Int} {a m:Rows} (ha:Byt a):∀t,KOk N.toNat (fl s N a m t).1
 |0=>f1S_ok ha _ (Nat.le_refl _)
 |_+1=>(flP_ok _ (Nat.le_refl _)).1
theorem fl_len {s N:Int} {a m:Rows}:∀t,(fl s N a m t).2.length=t
 |0=>rfl
 |t+1=>by rw [fl,List.length_append,fl_len t];rfl
theorem fl_at {s N:Int} {a m:Rows}:∀{n t},t < n→frm (fl s N a m n).2 t=(fl s N a m (t+1)).1
 |0,t,h=>by omega
 |n+1,t,h=>by
  rw [fl]
  unfold frm
  by_cases c:t < n
  ·rw [gtA (by rw [fl_len];exact c)];exact fl_at c
  ·have:t=n:=by omega
   subst this
   have:=@gtN (fl s N a m t).2 [.l (flP s N m t (fl s N a m t).1 N.toNat)] 0
   rw [fl_len] at this
   show (gt _ t 0).rows=_
   rw [this];rfl
theorem fl_near {s N:Int} {a m:Rows} (hs:1≤s) (hN:0≤N) (ha:Byt a) (hm:Byt m) (t p:Nat) (hp:p < N.toNat):lv (fl s N a m (t+1)).1 p - lv (fl s N a m t).1 p≤s∧lv (fl s N a m t).1 p - lv (fl s N a m (t+1)).1 p≤s:=by
 have h1:=(flP_ok (s:=s) (N:=N) (m:=m) (k:=(fl s N a m t).1) (t:=t) _ (Nat.le_refl _)).2 p hp
 show lv (flP s N m t (fl s N a m t).1 N.toNat) p - _≤_∧_ - lv (flP s N m t (fl s N a m t).1 N.toNat) p≤_
 rw [h1]
 exact mnx_near ((fl_ok ha t).rng p hp) (mv_b hs hN hm)
theorem fl_still {s N:Int} {a:Rows} (ha:Byt a) (t p:Nat) (hp:p < N.toNat):lv (fl s N a [] (t+1)).1 p=lv (fl s N a [] t).1 p:=by
 have h1:=(flP_ok (s:=s) (N:=N) (m:=[]) (k:=(fl s N a [] t).1) (t:=t) _ (Nat.le_refl _)).2 p hp
 show lv (flP s N [] t (fl s N a [] t).1 N.toNat) p=_
 rw [h1]
 have h2:=(fl_ok (s:=s) (N:=N) (m:=[]) ha t).rng p hp
 have h3:mv s N [] t p=0:=by unfold mv;rw [if_neg (by simp)]
 unfold nxv mnI mxI
 rw [h3]
 split<;>split<;>omega
theorem law35 {w h s n:Int} {a m:Rows} (hw:1≤w∧w≤32) (hh:1≤h∧h≤32) (hs:1≤s∧s≤128) (hn:0≤n∧n≤256) (ha:Byt a) (hm:Byt m) {R:Nat→Nat→D} (hR:R 0 0=.l (fl s (w * h) a m n.toNat).2):V35 w h s a m n R:=by
 obtain ⟨n1,n2,_⟩:=twoWH hw hh
 have el:∀(k:Rows) (p:Nat),(gt k p 0).int=lv k p:=fun _ _=>rfl
 have o1:∀x:Int,x * Int.ofNat 1=x:=fun x=>by show x * 1=x;omega
 have o8:∀x:Int,x * Int.ofNat 8=x * 8:=fun x=>rfl
 generalize hN:w * h=N at *
 constructor
 all_goals (try simp only [vZ35,hN,o1,o8])
 case l0=>
  refine ⟨fun i b1=>∃p:Nat,i=p∧p≤N.toNat∧b1=f1S N.toNat a p,fun i _=>(N - i).toNat,⟨0,rfl,Nat.zero_le _,by rw [hN];rfl⟩,?_⟩
  rintro i _ ⟨p,rfl,hp,rfl⟩
  have hk:=f1S_ok ha p hp
  have kl:=hk.len
  constructor
  all_goals (try simp only [vZ35,hN,el,Int.toNat_natCast])
  case n15=>intro c1 c2;exact ⟨⟨p+1,by omega,by omega,by rw [f1S,if_pos (by omega)]⟩,by omega⟩
  case n17=>intro c1 c2;exact ⟨⟨p+1,by omega,by omega,by rw [f1S,if_neg (by omega)]⟩,by omega⟩
  case g7 |g8 |g9 |g10=>
   intro c1 c2
   have h1:=idx_in (a:=a) (Int.natCast_nonneg p) (by omega)
   have h2:=ha _ h1.2
   omega
  case l1=>
   intro c1
   have:p=N.toNat:=by omega
   subst this
   refine ⟨fun d0 d1 i=>∃t:Nat,i=t∧t≤n.toNat∧d0=(fl s N a m t).2∧d1=(fl s N a m t).1,fun _ _ i=>(n - i).toNat,⟨0,rfl,Nat.zero_le _,rfl,rfl⟩,?_⟩
   rintro _ _ i ⟨t,rfl,ht,rfl,rfl⟩
   have hk:=fl_ok (s:=s) (N:=N) (m:=m) ha t
   have kl:=hk.len
   have dl:=fl_len (s:=s) (N:=N) (a:=a) (m:=m) t
   constructor
   all_goals (try simp only [vZ35,hN,el,o1,o8])
   case g66=>intro c2;rw [hR];congr 2;congr 1;omega
   case l2=>
    intro c2
    refine ⟨fun i e1=>∃p:Nat,i=p∧p≤N.toNat∧e1=flP s N m t (fl s N a m t).1 p,fun i _=>(N - i).toNat,⟨0,rfl,Nat.zero_le _,by rw [hN];rfl⟩,?_⟩
    rintro i _ ⟨p,rfl,hp,rfl⟩
    obtain ⟨he,_⟩:=flP_ok (s:=s) (N:=N) (m:=m) (k:=(fl s N a m t).1) (t:=t) p hp
    have len:=he.len
    constructor
    all_goals (try simp only [vZ35,hN,el,Int.toNat_natCast,List.length_cons,List.length_nil])
    case n65=>
     intro c3
     have:p=N.toNat:=by omega
     subst this
     exact ⟨⟨t+1,by omega,by omega,rfl,rfl⟩,by omega⟩
    case l3=>
     intro c3
     have hb:=hk.rng p (by omega)
     have hset:∀x:Int,((flP s N m t (fl s N a m t).1 p).set p [.i x]).length=N.toNat∧lv ((flP s N m t (fl s N a m t).1 p).set p [.i x]) p=x:=fun x=>⟨by rw [List.length_set];exact len,by rw [lv_set (by omega),if_pos rfl]⟩
     have hmul:0≤(t:Int) * N∧(t:Int) * N≤262144:=by
      refine ⟨Int.mul_nonneg (by omega) (by omega),?_⟩
      exact Int.le_trans (Int.mul_le_mul (show (t:Int)≤256 by omega) n2 (by omega) (by omega)) (by decide)
     have hmv:=mv_b (t:=t) (p:=p) hs.1 (show 0≤N by omega) hm
     refine ⟨fun b=>b=decide (0 < t∧0 < m.length),⟨fun c4=>?_,fun c4=>?_⟩,?_⟩
     ·rw [decide_eq_decide];omega
     ·symm;rw [decide_eq_false_iff_not];omega
     rintro _ rfl
     constructor
     refine ⟨fun j0=>j0=(flP s N m t (fl s N a m t).1 p).set p [.i (lv (fl s N a m t).1 p+mv s N m t p)],?_,?_⟩
     ·constructor
      all_goals (try simp only [vZ35,hN,el,Int.toNat_natCast,hset,decide_eq_true_eq,decide_eq_false_iff_not])
      case n53=>
       intro c4
       rw [List.set_set,mv,if_pos c4]
      case n54=>
       intro c4
       rw [mv,if_neg c4,Int.add_zero]
      case g41 |g42 |g43 |g44 |g48 |g49=>
       intro c4
       have h1:=idx_in (a:=m) (x:=t * N+p) (by omega) c4.2
       have h2:=hm _ h1.2
       rw [mv,if_pos c4] at hmv
       omega
      all_goals (intros;omega)
     ·rintro _ rfl
      constructor
      all_goals (try simp only [vZ35,el,Int.toNat_natCast,hset])
      case n62=>
       refine ⟨⟨p+1,by omega,by omega,?_⟩,by omega⟩
       rw [List.set_set,flP];rfl
      all_goals omega
    all_goals (intros;omega)
   all_goals (intros;omega)
  all_goals (intros;omega)
 all_goals omega
end HX

namespace HX
open Go Go.Proofs CX
theorem chg_pre {l:Rows} {r:List D} {t:Int}:∀q,q≤l.length→chg (l++[r]) t q=chg l t q
 |0,_=>rfl
 |q+1,h=>by
  have e:=@eA l r q (by omega)
  rw [chg,chg,chg_pre q (by omega),e.1,e.2]
theorem chgs_A {l:Rows} {t t' i:Int}:chgs (l++[[.i t',.i i]]) t=if t'=t then chgs l t++[[.i i]] else chgs l t:=by
 unfold chgs
 rw [List.length_append]
 show chg _ _ (l.length+1)=_
 rw [chg,chg_pre _ (Nat.le_refl _),eN.1,eN.2]
theorem ap_pre {s:Int} {c k:Rows} {r:List D}:∀q,q≤c.length→apR s (c++[r]) k q=apR s c k q
 |0,_=>rfl
 |q+1,h=>by
  have e:lv (c++[r]) q=lv c q:=by unfold lv;rw [gtA (by omega)]
  rw [apR,apR,ap_pre q (by omega),e]
def apA (s:Int) (c k:Rows):Rows:=apR s c k c.length
theorem apA_A {s i:Int} {c k:Rows}:apA s (c++[[.i i]]) k=(apA s c k).set (Int.tdiv i 2).toNat [.i (lv (apA s c k) (Int.tdiv i 2).toNat+dlt s i)]:=by
 unfold apA
 have e:lv (c++[[.i i]]) c.length=i:=by unfold lv;rw [gtN];rfl
 rw [List.length_append]
 show apR _ _ _ (c.length+1)=_
 rw [apR,ap_pre _ (Nat.le_refl _),e]
theorem half1 (p:Nat):(Int.tdiv (2 * p+1) 2).toNat=p∧Int.tmod (2 * p+1) 2=1:=by
 rw [Int.tdiv_eq_ediv_of_nonneg (by omega),Int.tmod_eq_emod_of_nonneg (by omega)];omega
theorem half0 (p:Nat):(Int.tdiv (2 * p) 2).toNat=p∧Int.tmod (2 * p) 2=0:=by
 rw [Int.tdiv_eq_ediv_of_nonneg (by omega),Int.tmod_eq_emod_of_nonneg (by omega)];omega
theorem wP_rb {s t:Int} {f k o:Rows} (ho:chgs o t=[]):∀p,apA s (chgs (wP s t f k o p).2 t) k=(wP s t f k o p).1∧∀t',t'≠t→chgs (wP s t f k o p).2 t'=chgs o t'
 |0=>⟨by rw [wP,ho];rfl,fun _ _=>rfl⟩
 |p+1=>by
  obtain ⟨h1,h2⟩:=wP_rb (s:=s) (f:=f) (k:=k) ho p
  rw [wP]
  generalize wP s t f k o p=x at *
  obtain ⟨x1,x2⟩:=x
  split
  ·refine ⟨?_,fun t' ht=>by rw [chgs_A,if_neg fun e=>ht e.symm];exact h2 t' ht⟩
   rw [chgs_A,if_pos rfl,apA_A,(half1 p).1,dlt,(half1 p).2,h1]
   simp
  ·split
   ·refine ⟨?_,fun t' ht=>by rw [chgs_A,if_neg fun e=>ht e.symm];exact h2 t' ht⟩
    rw [chgs_A,if_pos rfl,apA_A,(half0 p).1,dlt,(half0 p).2,h1]
    simp [Int.sub_eq_add_neg]
   ·exact ⟨h1,h2⟩
theorem wT_no {s:Int} {F:Rows}:∀(t:Nat) (t':Int),(t:Int)≤t'→chgs (wT s F t).2 t'=[]
 |0,_,_=>rfl
 |t+1,t',h=>by
  rw [wT,(wP_rb (wT_no t t (Int.le_refl _)) _).2 t' (by omega)]
  exact wT_no t t' (by omega)
theorem wT_at {s:Int} {F:Rows} {t:Nat}:∀n,t+1≤n→chgs (wT s F n).2 t=chgs (wT s F (t+1)).2 t
 |0,h=>by omega
 |n+1,h=>by
  by_cases c:t=n
  ·rw [c]
  ·rw [wT,(wP_rb (wT_no n n (Int.le_refl _)) _).2 t (by omega)]
   exact wT_at n (by omega)
theorem rb_wT {s:Int} {F:Rows} {n:Nat}:∀t,t≤n→rb s (wT s F n).2 (frm F 0) t=(wT s F t).1
 |0,_=>rfl
 |t+1,h=>by
  rw [rb,rb_wT t (by omega),wT_at n h]
  exact (wP_rb (wT_no t t (Int.le_refl _)) _).1
theorem wP_ord {s:Int} {t n:Nat} {f k o:Rows} (ht:t≤256) (hn:n≤1024) (ho:Ord (2 * n) o t 0):∀p,p≤n→Ord (2 * n) (wP s t f k o p).2 t (2 * p)
 |0,_=>ho
 |p+1,hp=>by
  have ih:=wP_ord (s:=s) (f:=f) (k:=k) ht hn ho p (by omega)
  have e:(2 * ((p+1:Nat):Int))=2 * p+1+1:=by omega
  rw [wP,e]
  split
  ·exact ih.next.push (by omega) (by omega) (by omega)
  ·split
   ·exact (ih.push (by omega) (by omega) (by omega)).next
   ·exact ih.next.next
theorem wT_ord {s:Int} {F:Rows} {n:Nat} (hF:F.length≤256) (hn:n≤1024) (hf:∀t,t < F.length→KOk n (frm F t)):∀t:Nat,t≤F.length→Ord (2 * n) (wT s F t).2 t 0
 |0,_=>⟨ev_nil,fun j hj=>by simp [wT] at hj⟩
 |t+1,ht=>by
  have ih:=wT_ord (s:=s) hF hn hf t (by omega)
  rw [wT,(hf t (by omega)).len]
  exact (wP_ord (by omega) hn ih n (Nat.le_refl _)).tick
theorem wP_same {s t:Int} {f k o:Rows} {n:Nat} (hs:1≤s) (h:∀p,p < n→lv f p=lv k p):∀p,p≤n→wP s t f k o p=(k,o)
 |0,_=>rfl
 |p+1,hp=>by
  have e:=h p (by omega)
  rw [wP,wP_same hs h p (by omega)]
  simp only [e]
  rw [if_neg (by omega),if_neg (by omega)]
theorem wP_one {s:Int} {t:Int} {f k o:Rows} (ht:1≤t) (ho:∀j,j < o.length→1≤eT o j):∀p j,j < (wP s t f k o p).2.length→1≤eT (wP s t f k o p).2 j
 |0,j,hj=>ho j hj
 |p+1,j,hj=>by
  have ih:=wP_one (s:=s) (f:=f) (k:=k) ht ho p
  have push:∀(l:Rows) (i:Int),(∀j,j < l.length→1≤eT l j)→∀j,j < (l++[[D.i t,D.i i]]).length→1≤eT (l++[[D.i t,D.i i]]) j:=by
   intro l i hl j hj
   by_cases c:j < l.length
   ·rw [(eA c).1];exact hl j c
   ·have:j=l.length:=by simp at hj;omega
    subst this
    rw [eN.1];exact ht
  rw [wP] at hj ⊢
  generalize wP s t f k o p=x at *
  split at hj
  ·rename_i c;rw [if_pos c];exact push _ _ ih j hj
  ·rename_i c
   rw [if_neg c]
   split at hj
   ·rename_i d;rw [if_pos d];exact push _ _ ih j hj
   ·rename_i d;rw [if_neg d];exact ih j hj
theorem wT_one {s:Int} {F:Rows} {n:Nat} (hs:1≤s) (hf:∀t,t < F.length→KOk n (frm F t)):∀t:Nat,t≤F.length→∀j,j < (wT s F t).2.length→1≤eT (wT s F t).2 j
 |0,_,j,hj=>by simp [wT] at hj
 |1,ht,j,hj=>by
  rw [wT,(hf 0 ht).len,wT,wP_same hs (fun _ _=>rfl) n (Nat.le_refl _)] at hj
  simp at hj
 |t+2,ht,j,hj=>by
  have ih:=wT_one hs hf (t+1) (by omega)
  rw [wT] at hj ⊢
  exact wP_one (by omega) ih _ j hj
def upd (s f k:Int):Int:=if s≤f - k then k+s else if s≤k - f then k - s else k
theorem wP_lv {s t:Int} {f k o:Rows} {n:Nat} (hs:1≤s) (hf:KOk n f) (hk:KOk n k):∀q,q≤n→∀p,p < n→lv (wP s t f k o q).1 p=if p < q then upd s (lv f p) (lv k p) else lv k p
 |0,_,p,_=>by rw [if_neg (by omega)];rfl
 |q+1,hq,p,hp=>by
  obtain ⟨h1,_,h3⟩:=wP_ok (t:=t) (o:=o) hs hf hk q (by omega)
  have ih:=wP_lv (t:=t) (o:=o) hs hf hk q (by omega)
  have iq:=h3 q (Nat.le_refl _)
  have ip:=ih p hp
  have l1:=h1.len
  rw [wP]
  generalize wP s t f k o q=x at *
  have fin:∀y:Int,y=upd s (lv f q) (lv k q)→lv (x.1.set q [.i y]) p=if p < q+1 then upd s (lv f p) (lv k p) else lv k p:=by
   intro y hy
   rw [lv_set (by omega)]
   by_cases c:p=q
   ·subst c;rw [if_pos rfl,if_pos (by omega),hy]
   ·rw [if_neg c,ip]
    by_cases d:p < q
    ·rw [if_pos d,if_pos (by omega)]
    ·rw [if_neg d,if_neg (by omega)]
  rw [iq]
  split
  ·rename_i c;exact fin _ (by rw [upd,if_pos c])
  ·rename_i c
   split
   ·rename_i d;exact fin _ (by rw [upd,if_neg c,if_pos d])
   ·rename_i d
    rw [ip]
    by_cases e:p=q
    ·subst e;rw [if_neg (by omega),if_pos (by omega),upd,if_neg c,if_neg d]
    ·by_cases g:p < q
     ·rw [if_pos g,if_pos (by omega)]
     ·rw [if_neg g,if_neg (by omega)]
theorem wT_near {s:Int} {F:Rows} {n:Nat} (hs:1≤s) (hf:∀t,t < F.length→KOk n (frm F t))
  (hst:∀t p,t+1 < F.length→p < n→lv (frm F (t+1)) p - lv (frm F t) p≤s∧lv (frm F t) p - lv (frm F (t+1)) p≤s) :
  ∀t p,t < F.length→p < n→lv (frm F t) p - lv (wT s F (t+1)).1 p < s∧lv (wT s F (t+1)).1 p - lv (frm F t) p < s:=by
 intro t
 induction t with
 |zero=>
  intro p ht hp
  rw [wT,(hf 0 ht).len,wT,wP_same hs (fun _ _=>rfl) n (Nat.le_refl _)]
  simp only []
  omega
 |succ t ih=>
  intro p ht hp
  have h1:=ih p (by omega) hp
  have h2:=hst t p ht hp
  have hk:=(wT_ok hs hf (by omega) (t+1) (by omega)).1
  rw [wT,(hf _ ht).len,wP_lv hs (hf _ ht) hk n (Nat.le_refl _) p hp,if_pos hp]
  unfold upd
  split
  ·omega
  ·split<;>omega
theorem wT_still {s:Int} {F:Rows} {n:Nat} (hs:1≤s) (hf:∀t,t < F.length→KOk n (frm F t)) (h:∀t p,t < F.length→p < n→lv (frm F t) p=lv (frm F 0) p):∀t,t≤F.length→wT s F t=(frm F 0,[])
 |0,_=>rfl
 |t+1,ht=>by
  rw [wT,(hf t (by omega)).len,wT_still hs hf h t (by omega)]
  exact wP_same hs (fun p hp=>h t p (by omega) hp) n (Nat.le_refl _)
end HX

namespace HX
open Go Go.Proofs CX
structure FilmOk (w h s n:Int) (F:Rows):Prop where
 len:F.length=n.toNat
 e1:wtE w h s F=0
 e2:rbE w h s (frm F 0) (wtR w h s F) n=0
 len2:(rbR w h s (frm F 0) (wtR w h s F) n).length=n.toNat
 lF:∀t,t < n.toNat→(frm F t).length=(w * h).toNat
 lK:∀t,t < n.toNat→(frm (rbR w h s (frm F 0) (wtR w h s F) n) t).length=(w * h).toNat
 near:∀t p,t < n.toNat→p < (w * h).toNat→lv (frm F t) p - lv (frm (rbR w h s (frm F 0) (wtR w h s F) n) t) p < s∧lv (frm (rbR w h s (frm F 0) (wtR w h s F) n) t) p - lv (frm F t) p < s
 bd:∀t p,t < n.toNat→p < (w * h).toNat→(0≤lv (frm F t) p∧lv (frm F t) p≤255)∧0≤lv (frm (rbR w h s (frm F 0) (wtR w h s F) n) t) p∧lv (frm (rbR w h s (frm F 0) (wtR w h s F) n) t) p≤255
theorem wt_0 {w h s n:Int} {F:Rows} (hw:1≤w∧w≤8) (hh:1≤h∧h≤8) (hs:1≤s∧s≤128) (hn:1≤n∧n≤30) (hl:F.length=n.toNat) (hf:∀t,t < F.length→KOk (w * h).toNat (frm F t)) :
  wtE w h s F=0∧wtR w h s F=(wT s F n.toNat).2∧(wT s F n.toNat).2.length≤1920:=by
 have a:=Int.mul_le_mul hw.2 hh.2 (by omega) (by omega)
 have b:=Int.mul_le_mul hw.1 hh.1 (by omega) (by omega)
 have hN:((w * h).toNat:Int)=w * h:=by omega
 have z:fE w h F F.length=0:=(fE_0 _).2 fun t ht=>frE_of (by rw [(hf t ht).len];exact hN) fun j hj=>(hf t ht).rng j (by rw [←(hf t ht).len];exact hj)
 have k:=(wT_ok hs.1 hf (by omega) F.length (Nat.le_refl _)).2
 have l:F.length * (w * h).toNat≤30 * 64:=Nat.mul_le_mul (by omega) (by omega)
 have e:wtE w h s F=0:=by
  rw [wtE,if_neg fun c=>c ⟨inB_t.2 (by omega),inB_t.2 (by omega),inB_t.2 (by omega)⟩,if_neg (by omega),if_neg fun c=>c z,if_neg fun c=>by have:=c.1;omega]
 refine ⟨e,?_,?_⟩
 ·rw [wtR,if_pos ⟨e,by omega⟩,hl]
 ·rw [←hl];omega
theorem film_ok {w h s n:Int} {F:Rows} (hw:1≤w∧w≤8) (hh:1≤h∧h≤8) (hs:1≤s∧s≤128) (hn:1≤n∧n≤30) (hl:F.length=n.toNat) (hf:∀t,t < F.length→KOk (w * h).toNat (frm F t))
  (hst:∀t p,t+1 < F.length→p < (w * h).toNat→lv (frm F (t+1)) p - lv (frm F t) p≤s∧lv (frm F t) p - lv (frm F (t+1)) p≤s):FilmOk w h s n F:=by
 have a:=Int.mul_le_mul hw.2 hh.2 (by omega) (by omega)
 have b:=Int.mul_le_mul hw.1 hh.1 (by omega) (by omega)
 have hN:((w * h).toNat:Int)=w * h:=by omega
 obtain ⟨e,r,len⟩:=wt_0 hw hh hs hn hl hf
 have o:=wT_ord (s:=s) (by omega) (by omega) hf n.toNat (by omega)
 have o1:=wT_one hs.1 hf n.toNat (by omega)
 have f0:frE w h (frm F 0)=0:=frE_of (by rw [(hf 0 (by omega)).len];exact hN) fun j hj=>(hf 0 (by omega)).rng j (by rw [←(hf 0 (by omega)).len];exact hj)
 have c0:chkE (wtR w h s F)=0:=by rw [r];exact chk_0 o.ev (by omega)
 have e2:rbE w h s (frm F 0) (wtR w h s F) n=0:=by
  rw [rbE,if_neg fun c=>c ⟨inB_t.2 (by omega),inB_t.2 (by omega),inB_t.2 (by omega)⟩,if_neg (by rw [inB_f];omega),if_neg fun c=>c f0,if_neg fun c=>c c0,if_neg]
  rintro ⟨j,h1,h2⟩
  rw [r] at h1 h2
  have h3:=o.bd j h1
  have h4:=o1 j h1
  have h7:=(o.ev.ri j h1).1
  have h5:eI (wT s F n.toNat).2 j < 2 * (w * h):=by rw [←hN];exact h3.2
  have h6:eT (wT s F n.toNat).2 j≤n - 1:=by omega
  exact h2 ⟨h5,inB_t.2 ⟨h4,h6⟩⟩
 have rr:rbR w h s (frm F 0) (wtR w h s F) n=rbO s (wT s F n.toNat).2 (frm F 0) n.toNat:=by rw [rbR,if_pos e2,r]
 have row:∀t,t < n.toNat→frm (rbR w h s (frm F 0) (wtR w h s F) n) t=(wT s F (t+1)).1:=fun t ht=>by rw [rr,rbO_at ht,rb_wT _ (by omega)]
 have ko:∀t,t < n.toNat→KOk (w * h).toNat (wT s F (t+1)).1:=fun t ht=>(wT_ok hs.1 hf (by omega) (t+1) (by omega)).1
 exact ⟨hl,e,e2,by rw [rr,rbO_len],fun t ht=>(hf t (by omega)).len,fun t ht=>by rw [row t ht];exact (ko t ht).len,fun t p ht hp=>by rw [row t ht];exact wT_near hs.1 hf hst t p (by omega) hp,
  fun t p ht hp=>by rw [row t ht];exact ⟨(hf t (by omega)).rng p hp,(ko t ht).rng p hp⟩⟩
theorem still_ok {w h s n:Int} {F:Rows} (hw:1≤w∧w≤8) (hh:1≤h∧h≤8) (hs:1≤s∧s≤128) (hn:1≤n∧n≤30) (hl:F.length=n.toNat) (hf:∀t,t < F.length→KOk (w * h).toNat (frm F t))
  (he:∀t p,t < F.length→p < (w * h).toNat→lv (frm F t) p=lv (frm F 0) p):wtE w h s F=0∧(wtR w h s F).length=0:=by
 obtain ⟨e,r,_⟩:=wt_0 hw hh hs hn hl hf
 exact ⟨e,by rw [r,wT_still hs.1 hf he _ (by omega)];rfl⟩
theorem tm {x k:Int} (hx:0≤x) (hk:0 < k):0≤Int.tmod x k∧Int.tmod x k < k:=⟨Int.tmod_nonneg _ hx,Int.tmod_lt_of_pos _ hk⟩
theorem mxI_lt {x y s:Int} (h1:x < s) (h2:y < s):¬s≤mxI x y:=by unfold mxI;split<;>omega
theorem law6 {pre:Nat→List (List D)→Prop} {fn:Nat→List (List D)→Nat→Nat→D} (hp13:pre 13 []) (hf13:fn 13 [] 0 0=.b true)
  (hp14:∀(w h s:Int) (F:Rows),pre 14 [[.i w,.i h,.i s],[.l F]]) (hf14:∀(w h s:Int) (F:Rows),fn 14 [[.i w,.i h,.i s],[.l F]] 0 0=.l (wtR w h s F)∧fn 14 [[.i w,.i h,.i s],[.l F]] 1 0=.i (wtE w h s F))
  (hp18:∀(w h s T:Int) (f l:Rows),pre 18 [[.i w,.i h,.i s],[.l f],[.l l],[.i T]]) (hf18:∀(w h s T:Int) (f l:Rows),fn 18 [[.i w,.i h,.i s],[.l f],[.l l],[.i T]] 0 0=.l (rbR w h s f l T)∧fn 18 [[.i w,.i h,.i s],[.l f],[.l l],[.i T]] 1 0=.i (rbE w h s f l T))
  (hp35:∀(w h s n:Int) (a m:Rows),1≤w∧w≤32→1≤h∧h≤32→1≤s∧s≤128→0≤n∧n≤256→Byt a→Byt m→pre 35 [[.i w,.i h,.i s],[.l a],[.l m],[.i n]]) (hf35:∀(w h s n:Int) (a m:Rows),fn 35 [[.i w,.i h,.i s],[.l a],[.l m],[.i n]] 0 0=.l (fl s (w * h) a m n.toNat).2)
  {a0 a1 a2 a5:Int} {a3 a4:Rows} (h0:0≤a0∧a0≤255) (h1:0≤a1∧a1≤255) (h2:0≤a2∧a2≤255) (h5:0≤a5∧a5≤255) (h3:Byt a3) (h4:Byt a4) {R:Nat→Nat→D} (hR:R 0 0=.b true):V6 pre fn a0 a1 a2 a3 a4 a5 R:=by
 have hi:∀n:Int,(D.i n).int=n:=fun _=>rfl
 have hr:∀n:Rows,(D.l n).rows=n:=fun _=>rfl
 have hb:∀n:Bool,(D.b n).boo=n:=fun _=>rfl
 have el:∀(k:Rows) (p:Nat),(gt k p 0).int=lv k p:=fun _ _=>rfl
 have ef:∀(k:Rows) (p:Nat),(gt k p 0).rows=frm k p:=fun _ _=>rfl
 have w1:=tm h0.1 (show (0:Int) < 8 by decide)
 have w2:=tm h1.1 (show (0:Int) < 8 by decide)
 have w3:=tm h2.1 (show (0:Int) < 128 by decide)
 have w4:=tm h5.1 (show (0:Int) < 30 by decide)
 have hz:Byt []:=fun i hi=>by simp at hi
 generalize hw:1+Int.tmod a0 8=w
 generalize hh:1+Int.tmod a1 8=h
 generalize hs:1+Int.tmod a2 128=s
 generalize hn:1+Int.tmod a5 30=n
 have bw:1≤w∧w≤8:=by omega
 have bh:1≤h∧h≤8:=by omega
 have bs:1≤s∧s≤128:=by omega
 have bn:1≤n∧n≤30:=by omega
 obtain ⟨n1,_⟩:=twoWH (w:=w) (h:=h) (by omega) (by omega)
 have kF:∀m:Rows,∀t,t < (fl s (w * h) a3 m n.toNat).2.length→KOk (w * h).toNat (frm (fl s (w * h) a3 m n.toNat).2 t):=fun m t ht=>by
  rw [fl_len] at ht
  rw [fl_at ht];exact fl_ok h3 _
 have fo:=film_ok bw bh bs bn (fl_len _) (kF a4) fun t p ht hp=>by
  rw [fl_len] at ht
  rw [fl_at ht,fl_at (by omega)]
  exact fl_near bs.1 (by omega) h3 h4 _ p hp
 have so:=still_ok bw bh bs bn (fl_len _) (kF []) fun t p ht hp=>by
  rw [fl_len] at ht
  rw [fl_at ht,fl_at (by omega)]
  clear ht
  induction t with
  |zero=>rfl
  |succ t ih=>rw [fl_still h3 _ p hp];exact ih
 have hp35':∀m,Byt m→pre 35 [[.i w,.i h,.i s],[.l a3],[.l m],[.i n]]:=fun m hm=>hp35 _ _ _ _ _ _ (by omega) (by omega) bs (by omega) h3 hm
 generalize hF:(fl s (w * h) a3 a4 n.toNat).2=F at fo
 constructor
 all_goals (try simp only [vZ6,v6a,v6b,v6c,v6e,v6g,v6h,v6i,hw,hh,hs,hn,hf14,hf18,hf35,hi,hr,ef,hF,fo.e1,fo.e2,Int.toNat_zero])
 case g12=>exact hp35' _ h4
 case g13=>exact hp14 _ _ _ _
 case g18=>intro _;exact hp18 _ _ _ _ _ _
 case g14 |g19=>intros;contradiction
 case g20=>intro _ _ c;exact absurd (show _=n by rw [fo.len2];omega) c
 case g16 |g17=>intro _;rw [fo.len];omega
 case l0=>
  intro _ _ _
  have len2:=fo.len2
  have lenF:=fo.len
  refine ⟨fun b i=>∃t:Nat,i=t∧t≤n.toNat,fun _ i=>(n - i).toNat,⟨0,rfl,Nat.zero_le _⟩,?_⟩
  rintro b i ⟨t,rfl,ht⟩
  constructor
  all_goals (try simp only [vZ6,v6a,v6b,v6c,v6e,v6f,v6g,v6h,v6i,hw,hh,hs,hn,hf13,hf14,hf18,hf35,hi,hr,hb,ef,hF,so.1,so.2,Int.toNat_natCast,Int.toNat_zero])
  case g46=>intro _;exact hp35' _ hz
  case g47=>intro _;exact hp14 _ _ _ _
  case g48=>intros;exact hp13
  case g49=>intros;exact hR
  case g50=>intro _ _ c;exact absurd (by simp) c
  case g51=>intro _ c;exact absurd (by simp) c
  case g28=>intro c d;exact absurd (by rw [fo.lF t (by omega),fo.lK t (by omega)]) d
  case l1=>
   intro c d
   have c:t < n.toNat:=by rw [len2] at c;omega
   have l1:=fo.lF t c
   have l2:=fo.lK t c
   have nr:=fun p hp=>fo.near t p c hp
   have bd:=fun p hp=>fo.bd t p c hp
   refine ⟨fun _ i=>∃p:Nat,i=p∧p≤(w * h).toNat,fun _ i=>(w * h - i).toNat,⟨0,rfl,Nat.zero_le _⟩,?_⟩
   rintro _ i ⟨p,rfl,hp⟩
   constructor
   all_goals (try simp only [vZ6,v6a,v6b,v6d,v6f,hw,hh,hs,hn,hf14,hf18,hf35,hi,hr,ef,el,hF,Int.toNat_natCast,Int.toNat_zero,l1,l2,lenF])
   case n43=>intro c3 _;exact ⟨⟨p+1,by omega,by omega⟩,by omega⟩
   case n45=>intro c3;exact ⟨⟨t+1,by omega,by omega⟩,by omega⟩
   case g41=>intro c3 c4;have:=nr p (by omega);exact absurd c4 (mxI_lt (by omega) (by omega))
   case g39 |g40=>intro c3;have:=bd p (by omega);omega
   all_goals (intros;omega)
  all_goals (intros;(try simp only [len2,lenF] at *);omega)
 all_goals (intros;omega)
end HX

namespace HX
open Go Go.Proofs CX
set_option maxHeartbeats 4000000 in
set_option maxRecDepth 100000 in
theorem walk50 {ro A pre fn} (hE:EnvOk ⟨A,(cxE ro),ksF,sigL [],pre,fn⟩) {P:List (List D)→Prop} {res:List (List D)→Nat→Nat→D}
  (hv:∀(a0:Int) (a1:Int) (a2:Int),P [[.i a0],[.i a1],[.i a2]]→V50 a0 a1 a2 (res [[.i a0],[.i a1],[.i a2]]) ) :
  PureC (cxE ro) 50 ⟨[(false,[.int .i64]),(false,[.int .i64]),(false,[.int .i64])],[(false,[.bool])],false⟩ P res:=by
 have h:=hE.A
 simp only [] at h
 have hinl:∀f fn,inlL [] f=some fn→(cxE ro).fn f=some fn∧(cxE ro).ext f=none:=Inls.ok (by repeat (first |exact .nil |refine .cons rfl rfl ?_))
 refine PureC.of_vc hE hinl 6 (f:=50) (fn:=Try.f50) ⟨rfl,rfl⟩ ?_
 intro a0 a1 a2 hP
 obtain ⟨R,hR⟩:∃R,res [[.i a0],[.i a1],[.i a2]]=R:=⟨_,rfl⟩
 rw [hR]
 have hV:=hv a0 a1 a2  hP
 rw [hR] at hV
 clear hR hP hv
 cbv
 repeat' first|(refine Br.mk (fun _=>?_) (fun _=>?_)<;>cbv)|(refine NilB.mk (fun _=>?_) ?_<;>cbv)|refine And.intro ?_ ?_|exact True.intro
 ·rename_i hp0_0
  subst h;exact hV.g0 (dt hp0_0)
 ·rename_i hp1_0
  subst h;exact hV.g1 (df hp1_0)
end HX

namespace HX
open Go Go.Proofs CX
set_option maxHeartbeats 4000000 in
set_option maxRecDepth 100000 in
theorem walk100 {ro A pre fn} (hE:EnvOk ⟨A,(cxE ro),ksF,sigL [],pre,fn⟩) {P:List (List D)→Prop} {res:List (List D)→Nat→Nat→D}
  (hv:∀(a0:Int) (a1:Int),P [[.i a0],[.i a1]]→V100 a0 a1 (res [[.i a0],[.i a1]]) ) :
  PureC (cxE ro) 100 ⟨[(false,[.int .i64]),(false,[.int .i64])],[(false,[.int .i64])],false⟩ P res:=by
 have h:=hE.A
 simp only [] at h
 have hinl:∀f fn,inlL [(112,Try.f112)] f=some fn→(cxE ro).fn f=some fn∧(cxE ro).ext f=none:=Inls.ok (by repeat (first |exact .nil |refine .cons rfl rfl ?_))
 refine PureC.of_vc hE hinl 6 (f:=100) (fn:=Try.f100) ⟨rfl,rfl⟩ ?_
 intro a0 a1 hP
 obtain ⟨R,hR⟩:∃R,res [[.i a0],[.i a1]]=R:=⟨_,rfl⟩
 rw [hR]
 have hV:=hv a0 a1  hP
 rw [hR] at hV
 clear hR hP hv
 cbv
 repeat' first|(refine Br.mk (fun _=>?_) (fun _=>?_)<;>cbv)|(refine NilB.mk (fun _=>?_) ?_<;>cbv)|refine And.intro ?_ ?_|exact True.intro
 ·rename_i hp0_0 hp0_1
  subst h;exact hV.g0 (df (nt hp0_0)) (df (nt hp0_1))
 ·rename_i hp1_0 hp1_1
  subst h;exact hV.g1 (df (nt hp1_0)) (dt (nf hp1_1))
 ·rename_i hp2_0 hp2_1
  subst h;exact hV.g2 (dt (nf hp2_0)) (df (nt hp2_1))
 ·rename_i hp3_0 hp3_1 hp3_2
  subst h;exact hV.g3 (dt (nf hp3_0)) (dt (nf hp3_1)) (dt hp3_2)
 ·rename_i hp4_0 hp4_1 hp4_2 hp4_3
  subst h;exact hV.g4 (dt (nf hp4_0)) (dt (nf hp4_1)) (df hp4_2) (dt hp4_3)
 ·rename_i hp5_0 hp5_1 hp5_2 hp5_3
  subst h;exact hV.g5 (dt (nf hp5_0)) (dt (nf hp5_1)) (df hp5_2) (df hp5_3)
end HX

namespace HX
open Go Go.Proofs CX
set_option maxHeartbeats 4000000 in
set_option maxRecDepth 100000 in
theorem walk76 {ro A pre fn} (hE:EnvOk ⟨A,(cxE ro),ksF,sigL [(100,⟨[(false,[.int .i64]),(false,[.int .i64])],[(false,[.int .i64])],false⟩)],pre,fn⟩) {P:List (List D)→Prop} {res:List (List D)→Nat→Nat→D}
  (hv:∀(a0_0:Int) (a0_1:Int) (a1_0:Int) (a1_1:Int),P [[.i a0_0,.i a0_1],[.i a1_0,.i a1_1]]→∃(I0:Int→Int→Prop) (m0:Int→Int→Nat),V76 pre fn a0_0 a0_1 a1_0 a1_1 (res [[.i a0_0,.i a0_1],[.i a1_0,.i a1_1]]) I0 m0) :
  PureC (cxE ro) 76 ⟨[(true,[.int .i64,.int .i64]),(true,[.int .i64,.int .i64])],[(false,[.int .i64])],false⟩ P res:=by
 have h:=hE.A
 simp only [] at h
 have hinl:∀f fn,inlL [(99,Try.f99)] f=some fn→(cxE ro).fn f=some fn∧(cxE ro).ext f=none:=Inls.ok (by repeat (first |exact .nil |refine .cons rfl rfl ?_))
 refine PureC.of_vc hE hinl 6 (f:=76) (fn:=Try.f76) ⟨rfl,rfl⟩ ?_
 intro a0_0 a0_1 a1_0 a1_1 hP
 obtain ⟨R,hR⟩:∃R,res [[.i a0_0,.i a0_1],[.i a1_0,.i a1_1]]=R:=⟨_,rfl⟩
 rw [hR]
 obtain ⟨I0,m0,hV⟩:=hv a0_0 a0_1 a1_0 a1_1  hP
 rw [hR] at hV
 clear hR hP hv
 cbv
 repeat' first|(refine Br.mk (fun _=>?_) (fun _=>?_)<;>cbv)|(refine NilB.mk (fun _=>?_) ?_<;>cbv)|refine And.intro ?_ ?_|exact True.intro
 ·subst h;exact hV.g0
 ·subst h;exact hV.g1
 ·refine Leaf.gen fun σz hσz=>?_
  refine loopB hE hinl 6 [] [] [] (fun x:Int×Int=>[.i x.1,.i x.2]) (fun x=>I0 x.1 x.2) (fun x=>m0 x.1 x.2) (0,0) (by subst h;exact hV.i0) ?_ ?_<;>subst hσz
  ·clear hE hinl hV;cbv;(try repeat' first|rfl|assumption|constructor)
  ·intro ⟨x0_0,x0_1⟩ hI0 K0 hK0
   cbv
   repeat' first|(refine Br.mk (fun _=>?_) (fun _=>?_)<;>cbv)|(refine NilB.mk (fun _=>?_) ?_<;>cbv)|refine And.intro ?_ ?_|exact True.intro
   ·next a=>subst h;exact hV.g3 _ _ hI0 (dt a)
   ·next a=>subst h;exact hV.g4 _ _ hI0 (dt a)
   ·next a=>subst h;exact hV.g5 _ _ hI0 (dt a)
   ·next a b=>subst h;exact hV.g6 _ _ hI0 (dt a) (df (nt b))
   ·next a b=>subst h;exact hV.g7 _ _ hI0 (dt a) (dt (nf b))
   ·rename_i p8a p8b
    refine hK0 (x0_0,A.add x0_1 1) _ ?_ ?_ ?_
    ·subst h;exact (hV.n8 _ _ hI0 (dt p8a) (dt (nf p8b))).1
    ·subst h;exact (hV.n8 _ _ hI0 (dt p8a) (dt (nf p8b))).2
    ·clear hE hinl hV hK0;cbv;(try repeat' first|rfl|assumption|constructor)
   ·next a=>subst h;exact hV.g9 _ _ hI0 (df a)
end HX

namespace HX
open Go Go.Proofs CX
set_option maxHeartbeats 4000000 in
set_option maxRecDepth 100000 in
theorem walk71 {ro A pre fn} (hE:EnvOk ⟨A,(cxE ro),ksF,sigL [(50,⟨[(false,[.int .i64]),(false,[.int .i64]),(false,[.int .i64])],[(false,[.bool])],false⟩),(76,⟨[(true,[.int .i64,.int .i64]),(true,[.int .i64,.int .i64])],[(false,[.int .i64])],false⟩)],pre,fn⟩) {P:List (List D)→Prop} {res:List (List D)→Nat→Nat→D}
  (hv:∀(a0:Rows) (a1_0:Int) (a1_1:Int),ShR [.int .i64,.int .i64] a0→P [[.l a0],[.i a1_0,.i a1_1]]→V71 pre fn a0 a1_0 a1_1 (res [[.l a0],[.i a1_0,.i a1_1]]) ) :
  PureC (cxE ro) 71 ⟨[(false,[.sl [.int .i64,.int .i64]]),(true,[.int .i64,.int .i64])],[(false,[.int .i64])],false⟩ P res:=by
 have h:=hE.A
 simp only [] at h
 have hinl:∀f fn,inlL [] f=some fn→(cxE ro).fn f=some fn∧(cxE ro).ext f=none:=Inls.ok (by repeat (first |exact .nil |refine .cons rfl rfl ?_))
 refine PureC.of_vc hE hinl 6 (f:=71) (fn:=Try.f71) ⟨rfl,rfl⟩ ?_
 intro a0 ha0 a1_0 a1_1 hP
 obtain ⟨R,hR⟩:∃R,res [[.l a0],[.i a1_0,.i a1_1]]=R:=⟨_,rfl⟩
 rw [hR]
 have hV:=hv a0 a1_0 a1_1 ha0 hP
 rw [hR] at hV
 clear hR hP hv
 cbv
 repeat' first|(refine Br.mk (fun _=>?_) (fun _=>?_)<;>cbv)|(refine NilB.mk (fun _=>?_) ?_<;>cbv)|refine And.intro ?_ ?_|exact True.intro
 ·subst h;exact hV.g0
 ·next a=>subst h;exact hV.g1 (nt a)
 ·next a=>subst h;exact hV.g2 (nf a)
 ·next a b=>subst h;exact hV.g3 (nf a) (nt b)
 ·next a b c=>subst h;exact hV.g4 (nf a) (nf b) (dt c)
 ·next a b c=>subst h;exact hV.g5 (nf a) (nf b) (dt c)
 ·next a b c=>subst h;exact hV.g6 (nf a) (nf b) (dt c)
 ·next a b c=>subst h;exact hV.g7 (nf a) (nf b) (dt c)
 ·next a b c=>subst h;exact hV.g8 (nf a) (nf b) (dt c)
 ·next a b c d=>subst h;exact hV.g9 (nf a) (nf b) (dt c) (dt d)
 ·next a b c d=>subst h;exact hV.g10 (nf a) (nf b) (dt c) (df d)
 ·next a b c=>subst h;exact hV.g11 (nf a) (nf b) (df c)
end HX

namespace HX
open Go Go.Proofs CX
set_option maxHeartbeats 4000000 in
set_option maxRecDepth 100000 in
theorem walk51 {ro A pre fn} (hE:EnvOk ⟨A,(cxE ro),ksF,sigL [(71,⟨[(false,[.sl [.int .i64,.int .i64]]),(true,[.int .i64,.int .i64])],[(false,[.int .i64])],false⟩)],pre,fn⟩) {P:List (List D)→Prop} {res:List (List D)→Nat→Nat→D}
  (hv:∀(a0:Rows),ShR [.int .i64,.int .i64] a0→P [[.l a0]]→∃(I0:Int→Int→Prop) (m0:Int→Int→Nat),V51 pre fn a0 (res [[.l a0]]) I0 m0) :
  PureC (cxE ro) 51 ⟨[(false,[.sl [.int .i64,.int .i64]])],[(false,[.int .i64])],false⟩ P res:=by
 have h:=hE.A
 simp only [] at h
 have hinl:∀f fn,inlL [] f=some fn→(cxE ro).fn f=some fn∧(cxE ro).ext f=none:=Inls.ok (by repeat (first |exact .nil |refine .cons rfl rfl ?_))
 refine PureC.of_vc hE hinl 6 (f:=51) (fn:=Try.f51) ⟨rfl,rfl⟩ ?_
 intro a0 ha0 hP
 obtain ⟨R,hR⟩:∃R,res [[.l a0]]=R:=⟨_,rfl⟩
 rw [hR]
 obtain ⟨I0,m0,hV⟩:=hv a0 ha0 hP
 rw [hR] at hV
 clear hR hP hv
 cbv
 repeat' first|(refine Br.mk (fun _=>?_) (fun _=>?_)<;>cbv)|(refine NilB.mk (fun _=>?_) ?_<;>cbv)|refine And.intro ?_ ?_|exact True.intro
 ·next a=>subst h;exact hV.g0 (dt a)
 ·rename_i p1a
  refine Leaf.gen fun σz hσz=>?_
  refine loopB hE hinl 6 [] [] [] (fun x:Int×Int=>[.i x.1,.i x.2]) (fun x=>I0 x.1 x.2) (fun x=>m0 x.1 x.2) (0,0) (by subst h;exact hV.i0 (df p1a)) ?_ ?_<;>subst hσz
  ·clear hE hinl hV;cbv;(try repeat' first|rfl|assumption|constructor)
  ·intro ⟨x0_0,x0_1⟩ hI0 K0 hK0
   cbv
   repeat' first|(refine Br.mk (fun _=>?_) (fun _=>?_)<;>cbv)|(refine NilB.mk (fun _=>?_) ?_<;>cbv)|refine And.intro ?_ ?_|exact True.intro
   ·next a=>subst h;exact hV.g2 _ _ hI0 (df p1a) (dt a)
   ·next a=>subst h;exact hV.g3 _ _ hI0 (df p1a) (dt a)
   ·next a=>subst h;exact hV.g4 _ _ hI0 (df p1a) (dt a)
   ·next a=>subst h;exact hV.g2 _ _ hI0 (df p1a) (dt a)
   ·next a=>subst h;exact hV.g6 _ _ hI0 (df p1a) (dt a)
   ·next a=>subst h;exact hV.g7 _ _ hI0 (df p1a) (dt a)
   ·next a b=>subst h;exact hV.g8 _ _ hI0 (df p1a) (dt a) (df (nt b))
   ·next a b=>subst h;exact hV.g9 _ _ hI0 (df p1a) (dt a) (dt (nf b))
   ·rename_i p10a p10b
    refine hK0 (x0_0,A.add x0_1 1) _ ?_ ?_ ?_
    ·subst h;exact (hV.n10 _ _ hI0 (df p1a) (dt p10a) (dt (nf p10b))).1
    ·subst h;exact (hV.n10 _ _ hI0 (df p1a) (dt p10a) (dt (nf p10b))).2
    ·clear hE hinl hV hK0;cbv;(try repeat' first|rfl|assumption|constructor)
   ·next a=>subst h;exact hV.g11 _ _ hI0 (df p1a) (df a)
end HX
