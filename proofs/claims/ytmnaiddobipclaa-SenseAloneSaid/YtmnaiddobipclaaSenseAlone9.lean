/-
  Texts of the executors: PkU, PkT, PkV, PkX, PkY, PkW, HxMapL, V36, SaD, V21, SaC, SaE, SaF, V52, SaG, SaH, SaI, SaJ, W50, W100, W76, W71, W51, W52, W36.
-/
import Derived.Test.YtmnaiddobipclaaSenseAlone8
set_option linter.all false
namespace HX
open Go Go.Proofs CX
theorem folE_0 {l:Rows} {t i:Int} (h:folE l t i=0):(0≤t∧t≤1073741824)∧(0≤i∧i≤65535)∧(0 < l.length→eT l (l.length - 1) < t∨(eT l (l.length - 1)=t∧eI l (l.length - 1) < i)):=by
 unfold folE at h
 split at h
 ·omega
 ·rename_i h1
  have h1:inB t 0 1073741824=true∧inB i 0 65535=true:=Classical.not_not.1 h1
  have a:=of_decide_eq_true h1.1
  have b:=of_decide_eq_true h1.2
  split at h
  ·omega
  ·rename_i h2
   refine ⟨a,b,fun hl=>?_⟩
   have h3:¬0≤cmpE (eT l (l.length - 1)) (eI l (l.length - 1)) t i:=fun h=>h2 ⟨hl,h⟩
   simp only [cmpE,cmpI] at h3
   split at h3<;>(split at h3<;>(try split at h3))<;>(try omega)
   all_goals (repeat' (split at h3))<;>omega
theorem folE_of {l:Rows} {t i:Int} (h1:0≤t∧t≤1073741824) (h2:0≤i∧i≤65535) (h3:0 < l.length→eT l (l.length - 1) < t∨(eT l (l.length - 1)=t∧eI l (l.length - 1) < i)):folE l t i=0:=by
 have a:inB t 0 1073741824=true:=decide_eq_true h1
 have b:inB i 0 65535=true:=decide_eq_true h2
 rw [folE,if_neg fun h=>h ⟨a,b⟩,if_neg]
 intro ⟨hl,h⟩
 have h3:=h3 hl
 simp only [cmpE,cmpI] at h
 repeat' (split at h)
 all_goals omega
theorem ev_nil:EvOk' []:=⟨fun i h=>by simp at h,fun i h=>by simp at h,fun i h=>by simp at h⟩
theorem gt_eq (l:Rows) (i c:Nat):gt l i c=((l[i]?).getD []).getD c .nil:=by
 show (l.getD i []).getD c .nil=_
 rw [List.getD_eq_getElem?_getD (l:=l)]
theorem gtA {l:Rows} {x:List D} {i c:Nat} (h:i < l.length):gt (l++[x]) i c=gt l i c:=by
 rw [gt_eq,gt_eq,List.getElem?_append_left h]
theorem gtN {l:Rows} {x:List D} {c:Nat}:gt (l++[x]) l.length c=x.getD c .nil:=by
 rw [gt_eq,List.getElem?_append_right (Nat.le_refl _),Nat.sub_self]
 rfl
theorem gt_take {l:Rows} {n i c:Nat} (h:i < n):gt (l.take n) i c=gt l i c:=by
 rw [gt_eq,gt_eq,List.getElem?_take,if_pos h]
theorem gt_drop (l:Rows) (n i c:Nat):gt (l.drop n) i c=gt l (n+i) c:=by
 rw [gt_eq,gt_eq,List.getElem?_drop]
theorem EvOk'.push {l:Rows} (h:EvOk' l) {t i:Int} (e:folE l t i=0):EvOk' (l++[[.i t,.i i]]):=by
 obtain ⟨e1,e2,e3⟩:=folE_0 e
 have oldT:∀j,j < l.length→eT (l++[[D.i t,D.i i]]) j=eT l j:=fun j hj=>by unfold eT;rw [gtA hj]
 have oldI:∀j,j < l.length→eI (l++[[D.i t,D.i i]]) j=eI l j:=fun j hj=>by unfold eI;rw [gtA hj]
 have newT:eT (l++[[D.i t,D.i i]]) l.length=t:=by unfold eT;rw [gtN];rfl
 have newI:eI (l++[[D.i t,D.i i]]) l.length=i:=by unfold eI;rw [gtN];rfl
 have len:(l++[[D.i t,D.i i]]).length=l.length+1:=by simp
 refine ⟨fun j hj=>?_,fun j hj=>?_,fun j hj=>?_⟩<;>rw [len] at hj
 ·by_cases e:j=l.length
  ·rw [e,newT];exact e1
  ·rw [oldT j (by omega)];exact h.rt j (by omega)
 ·by_cases e:j=l.length
  ·rw [e,newI];exact e2
  ·rw [oldI j (by omega)];exact h.ri j (by omega)
 ·by_cases e:j+1=l.length
  ·rw [e,newT,newI,oldT j (by omega),oldI j (by omega),show j=l.length - 1 by omega]
   exact e3 (by omega)
  ·rw [oldT j (by omega),oldI j (by omega),oldT (j+1) (by omega),oldI (j+1) (by omega)]
   exact h.up j (by omega)
end HX

namespace HX
open Go Go.Proofs CX
structure Wb (s:Rows×Int):Prop where
 wf:Wf s
 by_:byL s.1
 z:(gt s.1 (s.1.length - 1) 0).int % 2 ^ s.2.toNat=0
end HX

namespace HX
open Go Go.Proofs CX
structure Sb (s s':Rows×Int):Prop where
 le:bitsN s≤bitsN s'
 bit:∀p:Nat,(p:Int) < bitsN s→bAt s'.1 p=bAt s.1 p
 hd:40≤bitsN s→∀i,i < 5→gt s'.1 i 0=gt s.1 i 0
theorem Sb.refl (s:Rows×Int):Sb s s:=⟨Int.le_refl _,fun _ _=>rfl,fun _ _ _=>rfl⟩
theorem Sb.trans {a b c:Rows×Int} (h:Sb a b) (g:Sb b c):Sb a c:=
 ⟨Int.le_trans h.le g.le,fun p hp=>by rw [g.bit p (Int.lt_of_lt_of_le hp h.le),h.bit p hp],fun hb i hi=>by rw [g.hd (Int.le_trans hb h.le) i hi,h.hd hb i hi]⟩
structure Rd (d:Rows) (s:Rows×Int):Prop where
 len:bitsN s≤40+8 * d.length
 bit:∀p:Nat,40≤p→(p:Int) < bitsN s→bAt d (p - 40)=bAt s.1 p
theorem Rd.less {d:Rows} {s s':Rows×Int} (h:Rd d s') (g:Sb s s'):Rd d s:=
 ⟨Int.le_trans g.le h.len,fun p h1 h2=>by rw [h.bit p h1 (Int.lt_of_lt_of_le h2 g.le),g.bit p h2]⟩
end HX

namespace HX
open Go Go.Proofs CX
def Can (l:Rows):Prop:=∀i,(h:i < l.length)→l[i]=[.i (eT l i),.i (eI l i)]
end HX

namespace HX
open Go Go.Proofs CX
structure Pf (d e:Rows):Prop where
 len:d.length≤e.length
 bit:∀p,p < 8 * d.length→bAt e p=bAt d p
theorem chk_G {l:Rows} (h:EvOk' l):∀f,f≤l.length→chkG l f=0
 |0,_=>rfl
 |f+1,hf=>by
  have q:l.length - (f+1) < l.length:=by omega
  obtain ⟨Q,hQ⟩:∃Q,l.length - (f+1)=Q:=⟨_,rfl⟩
  rw [chkG,hQ]
  rw [hQ] at q
  have lq:(l.take Q).length=Q:=by rw [List.length_take];omega
  rw [if_pos]
  ·exact chk_G h f (by omega)
  ·refine folE_of (h.rt Q q) (h.ri Q q) fun hp=>?_
   rw [lq] at hp ⊢
   have:=h.up (Q - 1) (by omega)
   rw [show Q - 1+1=Q by omega] at this
   unfold eT eI at this ⊢
   rw [gt_take (by omega),gt_take (by omega)]
   exact this
theorem chk_0 {l:Rows} (h:EvOk' l) (hl:l.length≤65536):chkE l=0:=by
 rw [chkE,if_neg (by omega)];exact chk_G h _ (Nat.le_refl _)
theorem chk_of:∀{l:Rows},chkE l=0→l.length≤65536:=by
 intro l h
 rw [chkE] at h
 split at h<;>omega
section
variable {l:Rows} (h:EvOk' l) (hc:Can l) (hl:l.length≤255)
include h hc hl
end
end HX

namespace HX
open Go Go.Proofs CX
theorem chkG_all {l:Rows}:∀f,f≤l.length→chkG l f=0→∀j,l.length - f≤j→j < l.length→folE (l.take j) (eT l j) (eI l j)=0
 |0,_,_,j,h1,h2=>by omega
 |f+1,hf,h,j,h1,h2=>by
  rw [chkG] at h
  split at h
  ·rename_i h3
   by_cases e:j=l.length - (f+1)
   ·rw [e];exact h3
   ·exact chkG_all f (by omega) h j (by omega) h2
  ·rename_i h3;exact absurd h h3
theorem chk_ev {l:Rows} (h:chkE l=0):l.length≤65536∧EvOk' l:=by
 have hl:=chk_of h
 rw [chkE,if_neg (by omega)] at h
 have all:=fun j hj=>folE_0 (chkG_all l.length (Nat.le_refl _) h j (by omega) hj)
 refine ⟨hl,fun i hi=>(all i hi).1,fun i hi=>(all i hi).2.1,fun i hi=>?_⟩
 have:=(all (i+1) hi).2.2
 have lt:(l.take (i+1)).length=i+1:=by rw [List.length_take];omega
 rw [lt,Nat.add_sub_cancel] at this
 have:=this (by omega)
 unfold eT eI at this ⊢
 rw [gt_take (by omega),gt_take (by omega)] at this
 exact this
end HX

namespace HX
open Go CX
theorem dEq_true {a b:D} (h:dEq a b=true):a=b:=by
 cases a<;>cases b<;>simp_all [dEq]
theorem kEqF_iff:∀(ks:List D) (f:Nat→D) (c:Nat),kEqF ks f c=true↔∀j,j < ks.length→dEq (f (c+j)) (ks.getD j .nil)=true
 |[],f,c=>⟨fun _ j hj=>by simp at hj,fun _=>rfl⟩
 |k :: ks,f,c=>by
  simp only [kEqF,Bool.and_eq_true,kEqF_iff ks f (c+1)]
  constructor
  ·rintro ⟨h1,h2⟩ j hj
   cases j with
   |zero=>simpa using h1
   |succ j=>have:=h2 j (by simpa using hj);rw [show c+1+j=c+(j+1) by omega] at this;simpa using this
  ·intro h
   refine ⟨by simpa using h 0 (by simp),fun j hj=>?_⟩
   have:=h (j+1) (by simpa using hj)
   rw [show c+(j+1)=c+1+j by omega] at this
   simpa using this
def gk (k:List D):Prop:=∀j,j < k.length→dEq (k.getD j .nil) (k.getD j .nil)=true
theorem kEq_same {k k' v r:List D} (h:kEq k r=true) (hl:k'.length=k.length):kEq k' r=kEq k' (k++v):=by
 have h:=(kEqF_iff _ _ _).1 h
 rw [Bool.eq_iff_iff]
 refine (kEqF_iff _ _ _).trans (Iff.trans ?_ (kEqF_iff _ _ _).symm)
 have e:∀j,j < k'.length→r.getD (0+j) .nil=(k++v).getD (0+j) .nil:=fun j hj=>by
  have:r.getD (0+j) .nil=k.getD j .nil:=dEq_true (h j (by omega))
  rw [this,Nat.zero_add,List.getD_eq_getElem?_getD,List.getD_eq_getElem?_getD,List.getElem?_append_left (by omega)]
 constructor
 ·intro q j hj;have:=q j hj;rwa [e j hj] at this
 ·intro q j hj;have:=q j hj;rwa [←e j hj] at this
theorem kEq_both {k k' r:List D} (h:kEq k' r=true) (hl:k'.length=k.length) (hk:gk k) {v:List D} (h2:kEq k' (k++v)=true):kEq k r=true:=by
 have a:=(kEqF_iff _ _ _).1 h
 have b:=(kEqF_iff _ _ _).1 h2
 refine (kEqF_iff _ _ _).2 fun j hj=>?_
 have a:r.getD (0+j) .nil=k'.getD j .nil:=dEq_true (a j (by omega))
 have b:(k++v).getD (0+j) .nil=k'.getD j .nil:=dEq_true (b j (by omega))
 show dEq (r.getD (0+j) .nil) _=true
 have e:(k++v).getD (0+j) .nil=k.getD j .nil:=by rw [Nat.zero_add,List.getD_eq_getElem?_getD,List.getD_eq_getElem?_getD,List.getElem?_append_left hj]
 rw [a,←b,e]
 exact hk j hj
theorem mfnd_set {k k' v:List D} (hk:gk k) (hl:k'.length=k.length):∀l:Rows,mfnd k' (msetR k v l)=if kEq k' (k++v) then some (k++v) else mfnd k' l
 |[]=>rfl
 |r :: l=>by
  simp only [msetR]
  by_cases c:kEq k r=true
  ·rw [if_pos c]
   simp only [mfnd]
   by_cases d:kEq k' (k++v)=true
   ·rw [if_pos d,if_pos d]
   ·rw [if_neg d,if_neg d,if_neg]
    rwa [kEq_same (v:=v) c hl]
  ·rw [if_neg c]
   simp only [mfnd]
   rw [mfnd_set hk hl l]
   by_cases d:kEq k' r=true
   ·rw [if_pos d,if_neg,if_pos d]
    exact fun e=>c (kEq_both d hl hk e)
   ·rw [if_neg d,if_neg d]
theorem mset_len {k v:List D}:∀l:Rows,(msetR k v l).length=if mhasR l k then l.length else l.length+1
 |[]=>rfl
 |r :: l=>by
  have e:mhasR (r :: l) k=if kEq k r=true then true else mhasR l k:=by
   unfold mhasR;simp only [mfnd];split<;>rfl
  rw [e]
  simp only [msetR]
  by_cases c:kEq k r=true
  ·simp only [c,if_true,List.length_cons]
  ·simp only [c,Bool.false_eq_true,if_false,List.length_cons,mset_len (k:=k) (v:=v) l]
   split<;>rfl
theorem gk1 (a:Int):gk [.i a]:=fun j hj=>by
 have:j=0:=by simpa using hj
 subst this;simp [dEq]
theorem gk2 (a b:Int):gk [.i a,.i b]:=fun j hj=>by
 have:j=0∨j=1:=by simp at hj;omega
 rcases this with rfl |rfl<;>simp [dEq]
theorem kEq1 (a b:Int) (v:List D):kEq [.i b] ([.i a]++v)=decide (a=b):=by
 simp [kEq,kEqF,dEq]
theorem kEq2 (a b c d:Int) (v:List D):kEq [.i c,.i d] ([.i a,.i b]++v)=decide (a=c∧b=d):=by
 simp [kEq,kEqF,dEq]
theorem has1 (a b:Int) (v:List D) (l:Rows):mhasR (msetR [.i a] v l) [.i b]=true↔a=b∨mhasR l [.i b]=true:=by
 unfold mhasR
 rw [mfnd_set (k':=[.i b]) (gk1 a) rfl,kEq1]
 by_cases h:a=b<;>simp [h]
theorem get1 (a b:Int) (v z:D) (l:Rows):mgetR (msetR [.i a] [v] l) [.i b] 0 z=if a=b then v else mgetR l [.i b] 0 z:=by
 unfold mgetR
 rw [mfnd_set (k':=[.i b]) (gk1 a) rfl,kEq1]
 by_cases h:a=b
 ·simp [h]
 ·simp [h]
theorem has2 (a b c d:Int) (v:List D) (l:Rows):mhasR (msetR [.i a,.i b] v l) [.i c,.i d]=true↔(a=c∧b=d)∨mhasR l [.i c,.i d]=true:=by
 unfold mhasR
 rw [mfnd_set (k':=[.i c,.i d]) (gk2 a b) rfl,kEq2]
 by_cases h:a=c∧b=d<;>simp [h]
theorem get2 (a b c d:Int) (v z:D) (l:Rows):mgetR (msetR [.i a,.i b] [v] l) [.i c,.i d] 0 z=if a=c∧b=d then v else mgetR l [.i c,.i d] 0 z:=by
 unfold mgetR
 rw [mfnd_set (k':=[.i c,.i d]) (gk2 a b) rfl,kEq2]
 by_cases h:a=c∧b=d
 ·simp [h]
 ·simp [h]
theorem has_nil (k:List D):mhasR [] k=false:=rfl
end HX

namespace HX
open Go Go.Proofs CX
structure V36 (a0_0:Int) (a0_1:Int) (a0_2:Int) (a1:Rows) (a2:Int) (R:Nat→Nat→D) (I0:Int→Rows→Prop) (m0:Int→Rows→Nat) (I1:Int→Rows→Rows→Int→Prop) (m1:Int→Rows→Rows→Int→Nat) (I2:Int→Rows→Rows→Int→Rows→Int→Prop) (m2:Int→Rows→Rows→Int→Rows→Int→Nat):Prop where
 g0:-9223372036854775808≤(2 * a0_0)∧(2 * a0_0)≤9223372036854775807
 g1:-9223372036854775808≤((2 * a0_0) * a0_1)∧((2 * a0_0) * a0_1)≤9223372036854775807
 i0:I0 0 []
 g3:∀x0_0 x0_1,I0 x0_0 x0_1→(x0_0 < (a1.length:Int))→0≤x0_0
 g4:∀x0_0 x0_1,I0 x0_0 x0_1→(x0_0 < (a1.length:Int))→x0_0 < (a1.length:Int)
 g5:∀x0_0 x0_1,I0 x0_0 x0_1→(x0_0 < (a1.length:Int))→(((Int.toNat x0_0:Nat):Int)) < (a1.length:Int)
 g6:∀x0_0 x0_1,I0 x0_0 x0_1→(x0_0 < (a1.length:Int))→(Ar.std.wrap IntKind.u64 a2)≠0
 g7:∀x0_0 x0_1,I0 x0_0 x0_1→(x0_0 < (a1.length:Int))→-9223372036854775808≤(Int.tmod (Ar.std.wrap IntKind.u64 (D.int (gt a1 x0_0.toNat 0))) (Ar.std.wrap IntKind.u64 a2))∧(Int.tmod (Ar.std.wrap IntKind.u64 (D.int (gt a1 x0_0.toNat 0))) (Ar.std.wrap IntKind.u64 a2))≤9223372036854775807
 g8:∀x0_0 x0_1,I0 x0_0 x0_1→(x0_0 < (a1.length:Int))→(Ar.std.wrap IntKind.u64 ((2 * a0_0) * a0_1))≠0
 g9:∀x0_0 x0_1,I0 x0_0 x0_1→(x0_0 < (a1.length:Int))→-9223372036854775808≤(Int.tmod (Ar.std.wrap IntKind.u64 (D.int (gt a1 x0_0.toNat 1))) (Ar.std.wrap IntKind.u64 ((2 * a0_0) * a0_1)))∧(Int.tmod (Ar.std.wrap IntKind.u64 (D.int (gt a1 x0_0.toNat 1))) (Ar.std.wrap IntKind.u64 ((2 * a0_0) * a0_1)))≤9223372036854775807
 g10:∀x0_0 x0_1,I0 x0_0 x0_1→(x0_0 < (a1.length:Int))→-9223372036854775808≤(x0_0+1)∧(x0_0+1)≤9223372036854775807
 n11:∀x0_0 x0_1,I0 x0_0 x0_1→(x0_0 < (a1.length:Int))→I0 (x0_0+1) (msetR [D.i (Int.tmod (Ar.std.wrap IntKind.u64 (D.int (gt a1 x0_0.toNat 0))) (Ar.std.wrap IntKind.u64 a2)),D.i (Int.tmod (Ar.std.wrap IntKind.u64 (D.int (gt a1 x0_0.toNat 1))) (Ar.std.wrap IntKind.u64 ((2 * a0_0) * a0_1)))] [D.b true] x0_1)∧m0 (x0_0+1) (msetR [D.i (Int.tmod (Ar.std.wrap IntKind.u64 (D.int (gt a1 x0_0.toNat 0))) (Ar.std.wrap IntKind.u64 a2)),D.i (Int.tmod (Ar.std.wrap IntKind.u64 (D.int (gt a1 x0_0.toNat 1))) (Ar.std.wrap IntKind.u64 ((2 * a0_0) * a0_1)))] [D.b true] x0_1) < m0 x0_0 x0_1
 i1:∀x0_0 x0_1,I0 x0_0 x0_1→(¬x0_0 < (a1.length:Int))→I1 x0_0 x0_1 [] 0
 i2:∀x0_0 x0_1,I0 x0_0 x0_1→∀x1_0 x1_1,I1 x0_0 x0_1 x1_0 x1_1→(¬x0_0 < (a1.length:Int))→(x1_1 < a2)→I2 x0_0 x0_1 x1_0 x1_1 x1_0 0
 g14:∀x0_0 x0_1,I0 x0_0 x0_1→∀x1_0 x1_1,I1 x0_0 x0_1 x1_0 x1_1→∀x2_0 x2_1,I2 x0_0 x0_1 x1_0 x1_1 x2_0 x2_1→(¬x0_0 < (a1.length:Int))→(x1_1 < a2)→(x2_1 < ((2 * a0_0) * a0_1))→(D.boo (mgetR x0_1 [D.i x1_1,D.i x2_1] 0 (D.b false))=true)→(x2_0.length+(List.length ([[D.i x1_1,D.i x2_1]]:Rows))) * 16≤4294967296∧(x2_0.length+(List.length ([[D.i x1_1,D.i x2_1]]:Rows)))≤4294967296
 g15:∀x0_0 x0_1,I0 x0_0 x0_1→∀x1_0 x1_1,I1 x0_0 x0_1 x1_0 x1_1→∀x2_0 x2_1,I2 x0_0 x0_1 x1_0 x1_1 x2_0 x2_1→(¬x0_0 < (a1.length:Int))→(x1_1 < a2)→(x2_1 < ((2 * a0_0) * a0_1))→(D.boo (mgetR x0_1 [D.i x1_1,D.i x2_1] 0 (D.b false))=true)→-9223372036854775808≤(x2_1+1)∧(x2_1+1)≤9223372036854775807
 n16:∀x0_0 x0_1,I0 x0_0 x0_1→∀x1_0 x1_1,I1 x0_0 x0_1 x1_0 x1_1→∀x2_0 x2_1,I2 x0_0 x0_1 x1_0 x1_1 x2_0 x2_1→(¬x0_0 < (a1.length:Int))→(x1_1 < a2)→(x2_1 < ((2 * a0_0) * a0_1))→(D.boo (mgetR x0_1 [D.i x1_1,D.i x2_1] 0 (D.b false))=true)→I2 x0_0 x0_1 x1_0 x1_1 (x2_0++[[D.i x1_1,D.i x2_1]]) (x2_1+1)∧m2 x0_0 x0_1 x1_0 x1_1 (x2_0++[[D.i x1_1,D.i x2_1]]) (x2_1+1) < m2 x0_0 x0_1 x1_0 x1_1 x2_0 x2_1
 g17:∀x0_0 x0_1,I0 x0_0 x0_1→∀x1_0 x1_1,I1 x0_0 x0_1 x1_0 x1_1→∀x2_0 x2_1,I2 x0_0 x0_1 x1_0 x1_1 x2_0 x2_1→(¬x0_0 < (a1.length:Int))→(x1_1 < a2)→(x2_1 < ((2 * a0_0) * a0_1))→(D.boo (mgetR x0_1 [D.i x1_1,D.i x2_1] 0 (D.b false))=false)→-9223372036854775808≤(x2_1+1)∧(x2_1+1)≤9223372036854775807
 n18:∀x0_0 x0_1,I0 x0_0 x0_1→∀x1_0 x1_1,I1 x0_0 x0_1 x1_0 x1_1→∀x2_0 x2_1,I2 x0_0 x0_1 x1_0 x1_1 x2_0 x2_1→(¬x0_0 < (a1.length:Int))→(x1_1 < a2)→(x2_1 < ((2 * a0_0) * a0_1))→(D.boo (mgetR x0_1 [D.i x1_1,D.i x2_1] 0 (D.b false))=false)→I2 x0_0 x0_1 x1_0 x1_1 x2_0 (x2_1+1)∧m2 x0_0 x0_1 x1_0 x1_1 x2_0 (x2_1+1) < m2 x0_0 x0_1 x1_0 x1_1 x2_0 x2_1
 g19:∀x0_0 x0_1,I0 x0_0 x0_1→∀x1_0 x1_1,I1 x0_0 x0_1 x1_0 x1_1→∀x2_0 x2_1,I2 x0_0 x0_1 x1_0 x1_1 x2_0 x2_1→(¬x0_0 < (a1.length:Int))→(x1_1 < a2)→(¬x2_1 < ((2 * a0_0) * a0_1))→-9223372036854775808≤(x1_1+1)∧(x1_1+1)≤9223372036854775807
 n20:∀x0_0 x0_1,I0 x0_0 x0_1→∀x1_0 x1_1,I1 x0_0 x0_1 x1_0 x1_1→∀x2_0 x2_1,I2 x0_0 x0_1 x1_0 x1_1 x2_0 x2_1→(¬x0_0 < (a1.length:Int))→(x1_1 < a2)→(¬x2_1 < ((2 * a0_0) * a0_1))→I1 x0_0 x0_1 x2_0 (x1_1+1)∧m1 x0_0 x0_1 x2_0 (x1_1+1) < m1 x0_0 x0_1 x1_0 x1_1
 g21:∀x0_0 x0_1,I0 x0_0 x0_1→∀x1_0 x1_1,I1 x0_0 x0_1 x1_0 x1_1→(¬x0_0 < (a1.length:Int))→(¬x1_1 < a2)→R 0 0=D.l x1_0
end HX

namespace HX
open Go Go.Proofs CX
noncomputable def mpS (N T:Int) (l:Rows):Nat→Rows
 |0=>[]
 |q+1=>msetR [.i (Int.tmod (Ar.std.wrap .u64 (eT l q)) (Ar.std.wrap .u64 T)),.i (Int.tmod (Ar.std.wrap .u64 (eI l q)) (Ar.std.wrap .u64 N))] [.b true] (mpS N T l q)
noncomputable def outI (m:Rows) (t:Nat) (acc:Rows):Nat→Rows
 |0=>acc
 |k+1=>if D.boo (mgetR m [.i t,.i k] 0 (.b false))=true then outI m t acc k++[[.i t,.i k]] else outI m t acc k
noncomputable def outT (m:Rows) (n:Nat):Nat→Rows
 |0=>[]
 |t+1=>outI m t (outT m n t) n
noncomputable def madeR (w h:Int) (l:Rows) (T:Int):Rows:=outT (mpS (2 * w * h) T l l.length) (2 * w * h).toNat T.toNat
structure Ord (n:Int) (out:Rows) (t i:Int):Prop where
 ev:EvOk' out
 bd:∀j,j < out.length→(eT out j < t∨(eT out j=t∧eI out j < i))∧eI out j < n
theorem eA {out:Rows} {r:List D} {j:Nat} (h:j < out.length):eT (out++[r]) j=eT out j∧eI (out++[r]) j=eI out j:=by
 unfold eT eI;rw [gtA h,gtA h];exact ⟨rfl,rfl⟩
theorem eN {out:Rows} {t i:Int}:eT (out++[[.i t,.i i]]) out.length=t∧eI (out++[[.i t,.i i]]) out.length=i:=by
 unfold eT eI;rw [gtN,gtN];exact ⟨rfl,rfl⟩
theorem Ord.push {n:Int} {out:Rows} {t i:Int} (h:Ord n out t i) (ht:0≤t∧t≤1073741824) (hi:0≤i∧i≤65535) (hn:i < n):Ord n (out++[[.i t,.i i]]) t (i+1):=by
 refine ⟨h.ev.push (folE_of ht hi fun hp=>(h.bd _ (by omega)).1),fun j hj=>?_⟩
 by_cases c:j < out.length
 ·rw [(eA c).1,(eA c).2]
  have:=h.bd j c
  omega
 ·have:j=out.length:=by simp at hj;omega
  subst this
  rw [eN.1,eN.2]
  omega
theorem Ord.next {n:Int} {out:Rows} {t i:Int} (h:Ord n out t i):Ord n out t (i+1):=⟨h.ev,fun j hj=>by have:=h.bd j hj;omega⟩
theorem Ord.tick {n:Int} {out:Rows} {t i:Int} (h:Ord n out t i):Ord n out (t+1) 0:=⟨h.ev,fun j hj=>by have:=h.bd j hj;omega⟩
theorem outI_ok {m:Rows} {n:Nat} (hn:n≤65536) {t:Nat} (ht:t≤1000000) {acc:Rows} (h:Ord n acc t 0):∀k,k≤n→Ord n (outI m t acc k) t k∧(outI m t acc k).length≤acc.length+k
 |0,_=>⟨h,Nat.le_refl _⟩
 |k+1,hk=>by
  obtain ⟨h1,h2⟩:=outI_ok hn ht h k (by omega)
  rw [outI]
  split
  ·exact ⟨h1.push (by omega) (by omega) (by omega),by simp;omega⟩
  ·exact ⟨h1.next,by omega⟩
theorem outT_ok {m:Rows} {n:Nat} (hn:n≤65536):∀t,t≤1000000→Ord n (outT m n t) t 0∧(outT m n t).length≤t * n
 |0,_=>⟨⟨ev_nil,fun j hj=>by simp [outT] at hj⟩,by simp [outT]⟩
 |t+1,ht=>by
  obtain ⟨h1,h2⟩:=outT_ok hn t (by omega)
  obtain ⟨h3,h4⟩:=outI_ok (m:=m) hn (t:=t) (by omega) h1 n (Nat.le_refl _)
  refine ⟨h3.tick,?_⟩
  rw [Nat.add_mul]
  show (outI m t (outT m n t) n).length≤_
  omega
theorem twoWH {w h:Int} (hw:1≤w∧w≤32) (hh:1≤h∧h≤32):1≤w * h∧w * h≤1024∧2 * w * h=2 * (w * h):=by
 have a:=Int.mul_le_mul hw.2 hh.2 (by omega) (by omega)
 have b:=Int.mul_le_mul hw.1 hh.1 (by omega) (by omega)
 exact ⟨by omega,by omega,Int.mul_assoc _ _ _⟩
theorem made_ok {w h:Int} (hw:1≤w∧w≤32) (hh:1≤h∧h≤32) {l:Rows} {T:Int} (hT:1≤T∧T≤1000):Ord (2 * (w * h)) (madeR w h l T) T 0∧(madeR w h l T).length≤2048000:=by
 obtain ⟨a,b,c⟩:=twoWH hw hh
 unfold madeR
 obtain ⟨h1,h2⟩:=outT_ok (m:=mpS (2 * w * h) T l l.length) (n:=(2 * w * h).toNat) (by omega) T.toNat (by omega)
 have e:(((2 * w * h).toNat:Nat):Int)=2 * (w * h):=by omega
 have e2:((T.toNat:Nat):Int)=T:=by omega
 rw [e,e2] at h1
 refine ⟨h1,Nat.le_trans h2 ?_⟩
 exact Nat.le_trans (Nat.mul_le_mul (show T.toNat≤1000 by omega) (show (2 * w * h).toNat≤2048 by omega)) (by decide)
theorem wrapU64 (n:Int):0≤Ar.std.wrap .u64 n∧Ar.std.wrap .u64 n≤18446744073709551615:=by
 show 0≤IntKind.wrap .u64 n∧IntKind.wrap .u64 n≤_
 simp only [IntKind.wrap,IntKind.signed,IntKind.bits]
 simp
 omega
theorem wrapU64e {n:Int} (h1:0≤n) (h2:n≤18446744073709551615):Ar.std.wrap .u64 n=n:=by
 show IntKind.wrap .u64 n=n
 simp only [IntKind.wrap,IntKind.signed,IntKind.bits]
 simp
 omega
theorem tmodR {x y:Int} (hx:0≤x) (hy:0 < y):0≤Int.tmod x y∧Int.tmod x y < y:=by
 rw [Int.tmod_eq_emod_of_nonneg hx]
 exact ⟨Int.emod_nonneg _ (by omega),Int.emod_lt_of_pos _ hy⟩
theorem law36 {w H s:Int} (hw:1≤w∧w≤32) (hh:1≤H∧H≤32) {l:Rows} (hl:(l.length:Int)≤9223372036854775807) {T:Int} (hT:1≤T∧T≤1000) {R:Nat→Nat→D} (hR:R 0 0=.l (madeR w H l T)) :
  V36 w H s l T R (fun i m=>∃q:Nat,i=q∧q≤l.length∧m=mpS (2 * w * H) T l q) (fun i _=>(l.length - i).toNat)
   (fun _ m out t=>∃T':Nat,t=T'∧T'≤T.toNat∧m=mpS (2 * w * H) T l l.length∧out=outT m (2 * w * H).toNat T') (fun _ _ _ t=>(T - t).toNat)
   (fun _ m _ t acc i=>∃T' k:Nat,t=T'∧i=k∧k≤(2 * w * H).toNat∧m=mpS (2 * w * H) T l l.length∧acc=outI m T' (outT m (2 * w * H).toNat T') k) (fun _ _ _ _ _ i=>(2 * w * H - i).toNat):=by
 obtain ⟨n1,n2,n3⟩:=twoWH hw hh
 have wT:Ar.std.wrap .u64 T=T:=wrapU64e (by omega) (by omega)
 have wN:Ar.std.wrap .u64 (2 * w * H)=2 * w * H:=wrapU64e (by omega) (by omega)
 constructor
 case i0=>exact ⟨0,rfl,Nat.zero_le _,rfl⟩
 case n11=>
  rintro i m ⟨q,rfl,hq,rfl⟩ h
  exact ⟨⟨q+1,by omega,by omega,by simp only [Int.toNat_natCast];rfl⟩,by omega⟩
 case i1=>
  rintro i m ⟨q,rfl,hq,rfl⟩ h
  exact ⟨0,rfl,Nat.zero_le _,by rw [show q=l.length by omega],rfl⟩
 case i2=>
  rintro i m _ out t ⟨T',rfl,hT',rfl,rfl⟩ _ h
  exact ⟨T',0,rfl,rfl,Nat.zero_le _,rfl,rfl⟩
 case n16=>
  rintro i m _ out t ⟨T0,e0,_,_,_⟩ acc k ⟨T',k',rfl,rfl,hk,rfl,rfl⟩ _ h h2 h3
  refine ⟨⟨T',k'+1,rfl,by omega,by omega,rfl,?_⟩,by omega⟩
  rw [outI,if_pos h3]
 case n18=>
  rintro i m _ out t ⟨T0,e0,_,_,_⟩ acc k ⟨T',k',rfl,rfl,hk,rfl,rfl⟩ _ h h2 h3
  refine ⟨⟨T',k'+1,rfl,by omega,by omega,rfl,?_⟩,by omega⟩
  rw [outI,if_neg (by rw [h3];decide)]
 case n20=>
  rintro i m _ out t ⟨T0,e0,_,_,_⟩ acc k ⟨T',k',rfl,rfl,hk,rfl,rfl⟩ _ h h2
  refine ⟨⟨T'+1,by omega,by omega,rfl,?_⟩,by omega⟩
  rw [outT,show k'=(2 * w * H).toNat by omega]
 case g21=>
  rintro i m _ out t ⟨T',rfl,hT',rfl,rfl⟩ _ h
  rw [hR,madeR,show T'=T.toNat by omega]
 case g14=>
  rintro i m _ out t ⟨T0,e0,_,_,_⟩ acc k ⟨T',k',rfl,rfl,hk,rfl,rfl⟩ _ h h2 h3
  obtain ⟨h4,h5⟩:=outT_ok (m:=mpS (2 * w * H) T l l.length) (n:=(2 * w * H).toNat) (by omega) T' (by omega)
  obtain ⟨_,h6⟩:=outI_ok (m:=mpS (2 * w * H) T l l.length) (n:=(2 * w * H).toNat) (by omega) (t:=T') (by omega) h4 k' hk
  have:T' * (2 * w * H).toNat≤1000 * 2048:=Nat.mul_le_mul (by omega) (by omega)
  simp only [List.length_cons,List.length_nil]
  omega
 case g7 |g9=>
  rintro i m ⟨q,rfl,hq,rfl⟩ h
  have a:=wrapU64 (D.int (gt l (q:Int).toNat 0))
  have b:=wrapU64 (D.int (gt l (q:Int).toNat 1))
  first |(rw [wT];have c:=tmodR a.1 (show 0 < T by omega);omega) |(rw [wN];have c:=tmodR b.1 (show 0 < 2 * w * H by omega);omega)
 case g6=>intros;rw [wT];omega
 case g8=>intros;rw [wN];omega
 case g15 |g17=>
  rintro i m _ out t ⟨T0,e0,_,_,_⟩ acc k ⟨T',k',rfl,rfl,hk,rfl,rfl⟩ _ h h2 h3
  omega
 case g19=>
  rintro i m _ out t ⟨T0,e0,_,_,_⟩ acc k ⟨T',k',rfl,rfl,hk,rfl,rfl⟩ _ h h2
  omega
 case g0=>omega
 case g1=>omega
 all_goals (rintro i m ⟨q,rfl,hq,rfl⟩ h;omega)
end HX

namespace HX
open Go Go.Proofs CX
abbrev vZ21 (x:Int):=-9223372036854775808≤x∧x≤9223372036854775807
abbrev v21a (f0:Int) (e1:Int) (a1:Rows) (k1:Int):=(Int.tdiv (D.int (gt (List.take (f0.toNat - e1.toNat) (List.drop e1.toNat a1)) k1.toNat 1)) 2)
abbrev v21b (f0:Int) (e1:Int) (a1:Rows):=(List.take (f0.toNat - e1.toNat) (List.drop e1.toNat a1))
abbrev v21c (a0_0:Int) (f0:Int) (e1:Int) (a1:Rows) (k1:Int):=(mnI (a0_0 - 1) ((Int.tmod (v21a f0 e1 a1 k1) a0_0)+1))
abbrev v21d (fn:Nat→List (List D)→Nat→Nat→D) (a0_0:Int):=(D.boo (fn 50 [[D.i a0_0],[D.i 1],[D.i 32]] 0 0)=true)
abbrev v21e (fn:Nat→List (List D)→Nat→Nat→D) (a0_1:Int):=(D.boo (fn 50 [[D.i a0_1],[D.i 1],[D.i 32]] 0 0)=true)
structure V21c1 (pre:Nat→List (List D)→Prop) (fn:Nat→List (List D)→Nat→Nat→D) (a0_0:Int) (a0_1:Int) (a0_2:Int) (a1:Rows) (a2:Int) (d0:Int) (d1:Int) (I0:Bool→Prop) (I1:Int→Int→Prop) (m1:Int→Int→Nat):Prop where
 g28:(d1 < (a1.length:Int))→0≤d1
 g29:(d1 < (a1.length:Int))→d1 < (a1.length:Int)
 g30:(d1 < (a1.length:Int))→(((Int.toNat d1:Nat):Int)) < (a1.length:Int)
 g31:(d1 < (a1.length:Int))→pre 52 [[D.i a0_0,D.i a0_1,D.i a0_2]]
 g32:(d1 < (a1.length:Int))→vZ21 ((2 * (D.int (fn 52 [[D.i a0_0,D.i a0_1,D.i a0_2]] 0 0))))
 n33:(d1 < (a1.length:Int))→((2 * (D.int (fn 52 [[D.i a0_0,D.i a0_1,D.i a0_2]] 0 0)))≤(D.int (gt a1 d1.toNat 1)))→(0≤d1)→I0 true
 g34:(d1 < (a1.length:Int))→((2 * (D.int (fn 52 [[D.i a0_0,D.i a0_1,D.i a0_2]] 0 0)))≤(D.int (gt a1 d1.toNat 1)))→(¬0≤d1)→pre 50 [[D.i a2],[D.i 0],[D.i 100]]
 n35:(d1 < (a1.length:Int))→((2 * (D.int (fn 52 [[D.i a0_0,D.i a0_1,D.i a0_2]] 0 0)))≤(D.int (gt a1 d1.toNat 1)))→(¬0≤d1)→I0 (!(D.boo (fn 50 [[D.i a2],[D.i 0],[D.i 100]] 0 0)))
 g36:(d1 < (a1.length:Int))→(¬(2 * (D.int (fn 52 [[D.i a0_0,D.i a0_1,D.i a0_2]] 0 0)))≤(D.int (gt a1 d1.toNat 1)))→vZ21 ((d1+1))
 n37:(d1 < (a1.length:Int))→(¬(2 * (D.int (fn 52 [[D.i a0_0,D.i a0_1,D.i a0_2]] 0 0)))≤(D.int (gt a1 d1.toNat 1)))→I1 d0 (d1+1)∧m1 d0 (d1+1) < m1 d0 d1
 g39:(¬d1 < (a1.length:Int))→pre 50 [[D.i a2],[D.i 0],[D.i 100]]
 n40:(¬d1 < (a1.length:Int))→I0 (!(D.boo (fn 50 [[D.i a2],[D.i 0],[D.i 100]] 0 0)))
abbrev V21l1 (pre:Nat→List (List D)→Prop) (fn:Nat→List (List D)→Nat→Nat→D) (a0_0:Int) (a0_1:Int) (a0_2:Int) (a1:Rows) (a2:Int) (I0:Bool→Prop):Prop:=∃(I1:Int→Int→Prop) (m1:Int→Int→Nat),I1 0 0∧∀d0 d1,I1 d0 d1→V21c1 pre fn a0_0 a0_1 a0_2 a1 a2 d0 d1 I0 I1 m1
structure V21r0 (pre:Nat→List (List D)→Prop) (fn:Nat→List (List D)→Nat→Nat→D) (a0_0:Int) (a0_1:Int) (a0_2:Int) (a1:Rows) (a2:Int) (I0:Bool→Prop):Prop where
 l1:V21l1 pre fn a0_0 a0_1 a0_2 a1 a2 I0
structure V21r4 (a1:Rows) (e1:Int) (f0:Int) (I4:Bool→Prop):Prop where
 g46:(f0 < (a1.length:Int))→0≤f0
 g47:(f0 < (a1.length:Int))→f0 < (a1.length:Int)
 g48:(f0 < (a1.length:Int))→(((Int.toNat f0:Nat):Int)) < (a1.length:Int)
 g49:(f0 < (a1.length:Int))→0≤e1
 g50:(f0 < (a1.length:Int))→e1 < (a1.length:Int)
 g51:(f0 < (a1.length:Int))→(((Int.toNat e1:Nat):Int)) < (a1.length:Int)
 n52:(f0 < (a1.length:Int))→I4 (decide ((D.int (gt a1 f0.toNat 0))=(D.int (gt a1 e1.toNat 0))))
 n53:(¬f0 < (a1.length:Int))→I4 false
structure V21c7 (a0_0:Int) (a1:Rows) (a2:Int) (e1:Int) (f0:Int) (f1:Rows) (k1:Int) (o0:Int) (o1:Bool) (q0:Int) (q1:Bool) (I6:Int→Bool→Prop) (m6:Int→Bool→Nat) (I7:Int→Bool→Prop) (m7:Int→Bool→Nat):Prop where
 g82:vZ21 ((a0_0 - 1))
 g83:vZ21 (((Int.tmod (v21a f0 e1 a1 k1) a0_0)+1))
 g84:(q0≤(v21c a0_0 f0 e1 a1 k1))→vZ21 ((o0 * a0_0))
 g85:(q0≤(v21c a0_0 f0 e1 a1 k1))→vZ21 (((o0 * a0_0)+q0))
 g86:(q0≤(v21c a0_0 f0 e1 a1 k1))→(¬((o0 * a0_0)+q0)=(v21a f0 e1 a1 k1))→(q1=true)→vZ21 ((q0+1))
 n87:(q0≤(v21c a0_0 f0 e1 a1 k1))→(¬((o0 * a0_0)+q0)=(v21a f0 e1 a1 k1))→(q1=true)→I7 (q0+1) true∧m7 (q0+1) true < m7 q0 q1
 g88:(q0≤(v21c a0_0 f0 e1 a1 k1))→(¬((o0 * a0_0)+q0)=(v21a f0 e1 a1 k1))→(q1=false)→(mhasR f1 [D.i ((o0 * a0_0)+q0)]=true)→vZ21 (((D.int (gt (v21b f0 e1 a1) k1.toNat 0)) - (D.int (mgetR f1 [D.i ((o0 * a0_0)+q0)] 0 (D.i 0)))))
 g89:(q0≤(v21c a0_0 f0 e1 a1 k1))→(¬((o0 * a0_0)+q0)=(v21a f0 e1 a1 k1))→(q1=false)→(mhasR f1 [D.i ((o0 * a0_0)+q0)]=true)→vZ21 ((q0+1))
 n90:(q0≤(v21c a0_0 f0 e1 a1 k1))→(¬((o0 * a0_0)+q0)=(v21a f0 e1 a1 k1))→(q1=false)→(mhasR f1 [D.i ((o0 * a0_0)+q0)]=true)→I7 (q0+1) (decide (((D.int (gt (v21b f0 e1 a1) k1.toNat 0)) - (D.int (mgetR f1 [D.i ((o0 * a0_0)+q0)] 0 (D.i 0))))≤a2))∧m7 (q0+1) (decide (((D.int (gt (v21b f0 e1 a1) k1.toNat 0)) - (D.int (mgetR f1 [D.i ((o0 * a0_0)+q0)] 0 (D.i 0))))≤a2)) < m7 q0 q1
 g91:(q0≤(v21c a0_0 f0 e1 a1 k1))→(¬((o0 * a0_0)+q0)=(v21a f0 e1 a1 k1))→(q1=false)→(mhasR f1 [D.i ((o0 * a0_0)+q0)]=false)→vZ21 ((q0+1))
 n92:(q0≤(v21c a0_0 f0 e1 a1 k1))→(¬((o0 * a0_0)+q0)=(v21a f0 e1 a1 k1))→(q1=false)→(mhasR f1 [D.i ((o0 * a0_0)+q0)]=false)→I7 (q0+1) false∧m7 (q0+1) false < m7 q0 q1
 g93:(q0≤(v21c a0_0 f0 e1 a1 k1))→(((o0 * a0_0)+q0)=(v21a f0 e1 a1 k1))→vZ21 ((q0+1))
 n94:(q0≤(v21c a0_0 f0 e1 a1 k1))→(((o0 * a0_0)+q0)=(v21a f0 e1 a1 k1))→I7 (q0+1) q1∧m7 (q0+1) q1 < m7 q0 q1
 g95:(¬q0≤(v21c a0_0 f0 e1 a1 k1))→vZ21 ((o0+1))
 n96:(¬q0≤(v21c a0_0 f0 e1 a1 k1))→I6 (o0+1) q1∧m6 (o0+1) q1 < m6 o0 o1
abbrev V21l7 (a0_0:Int) (a1:Rows) (a2:Int) (e1:Int) (f0:Int) (f1:Rows) (k1:Int) (o0:Int) (o1:Bool) (I6:Int→Bool→Prop) (m6:Int→Bool→Nat):Prop:=∃(I7:Int→Bool→Prop) (m7:Int→Bool→Nat),I7 (mxI 0 ((Int.tmod (v21a f0 e1 a1 k1) a0_0) - 1)) o1∧∀q0 q1,I7 q0 q1→V21c7 a0_0 a1 a2 e1 f0 f1 k1 o0 o1 q0 q1 I6 m6 I7 m7
structure V21c6 (a0_0:Int) (a0_1:Int) (a1:Rows) (a2:Int) (e1:Int) (f0:Int) (f1:Rows) (k0:Rows) (k1:Int) (o0:Int) (o1:Bool) (I5:Rows→Int→Prop) (m5:Rows→Int→Nat) (I6:Int→Bool→Prop) (m6:Int→Bool→Nat):Prop where
 g78:vZ21 ((a0_1 - 1))
 g79:vZ21 (((Int.tdiv (v21a f0 e1 a1 k1) a0_0)+1))
 g80:(o0≤(mnI (a0_1 - 1) ((Int.tdiv (v21a f0 e1 a1 k1) a0_0)+1)))→vZ21 (((Int.tmod (v21a f0 e1 a1 k1) a0_0) - 1))
 g97:(¬o0≤(mnI (a0_1 - 1) ((Int.tdiv (v21a f0 e1 a1 k1) a0_0)+1)))→(o1=true)→(k0.length+(List.length ([[D.i (D.int (gt (v21b f0 e1 a1) k1.toNat 0)),D.i (D.int (gt (v21b f0 e1 a1) k1.toNat 1))]]:Rows))) * 16≤4294967296∧(k0.length+(List.length ([[D.i (D.int (gt (v21b f0 e1 a1) k1.toNat 0)),D.i (D.int (gt (v21b f0 e1 a1) k1.toNat 1))]]:Rows)))≤4294967296
 g98:(¬o0≤(mnI (a0_1 - 1) ((Int.tdiv (v21a f0 e1 a1 k1) a0_0)+1)))→(o1=true)→vZ21 ((k1+1))
 n99:(¬o0≤(mnI (a0_1 - 1) ((Int.tdiv (v21a f0 e1 a1 k1) a0_0)+1)))→(o1=true)→I5 (k0++[[D.i (D.int (gt (v21b f0 e1 a1) k1.toNat 0)),D.i (D.int (gt (v21b f0 e1 a1) k1.toNat 1))]]) (k1+1)∧m5 (k0++[[D.i (D.int (gt (v21b f0 e1 a1) k1.toNat 0)),D.i (D.int (gt (v21b f0 e1 a1) k1.toNat 1))]]) (k1+1) < m5 k0 k1
 g100:(¬o0≤(mnI (a0_1 - 1) ((Int.tdiv (v21a f0 e1 a1 k1) a0_0)+1)))→(o1=false)→vZ21 ((k1+1))
 n101:(¬o0≤(mnI (a0_1 - 1) ((Int.tdiv (v21a f0 e1 a1 k1) a0_0)+1)))→(o1=false)→I5 k0 (k1+1)∧m5 k0 (k1+1) < m5 k0 k1
 l7:(o0≤(mnI (a0_1 - 1) ((Int.tdiv (v21a f0 e1 a1 k1) a0_0)+1)))→V21l7 a0_0 a1 a2 e1 f0 f1 k1 o0 o1 I6 m6
abbrev V21l6 (a0_0:Int) (a0_1:Int) (a1:Rows) (a2:Int) (e1:Int) (f0:Int) (f1:Rows) (k0:Rows) (k1:Int) (I5:Rows→Int→Prop) (m5:Rows→Int→Nat):Prop:=∃(I6:Int→Bool→Prop) (m6:Int→Bool→Nat),I6 (mxI 0 ((Int.tdiv (v21a f0 e1 a1 k1) a0_0) - 1)) false∧∀o0 o1,I6 o0 o1→V21c6 a0_0 a0_1 a1 a2 e1 f0 f1 k0 k1 o0 o1 I5 m5 I6 m6
structure V21c5 (a0_0:Int) (a0_1:Int) (a1:Rows) (a2:Int) (e0:Rows) (e1:Int) (e2:Rows) (f0:Int) (f1:Rows) (k0:Rows) (k1:Int) (I2:Rows→Int→Rows→Prop) (m2:Rows→Int→Rows→Nat) (I5:Rows→Int→Prop) (m5:Rows→Int→Nat):Prop where
 g68:(k1 < ((((v21b f0 e1 a1)).length:Int)))→0≤k1
 g69:(k1 < ((((v21b f0 e1 a1)).length:Int)))→k1 < ((((v21b f0 e1 a1)).length:Int))
 g70:(k1 < ((((v21b f0 e1 a1)).length:Int)))→(((Int.toNat k1:Nat):Int)) < ((((v21b f0 e1 a1)).length:Int))
 g71:(k1 < ((((v21b f0 e1 a1)).length:Int)))→(2:Int)≠0
 g72:(k1 < ((((v21b f0 e1 a1)).length:Int)))→vZ21 ((v21a f0 e1 a1 k1))
 g73:(k1 < ((((v21b f0 e1 a1)).length:Int)))→a0_0≠0
 g75:(k1 < ((((v21b f0 e1 a1)).length:Int)))→vZ21 ((Int.tdiv (v21a f0 e1 a1 k1) a0_0))
 g76:(k1 < ((((v21b f0 e1 a1)).length:Int)))→vZ21 (((Int.tdiv (v21a f0 e1 a1 k1) a0_0) - 1))
 n102:(¬k1 < ((((v21b f0 e1 a1)).length:Int)))→I2 k0 f0 f1∧m2 k0 f0 f1 < m2 e0 e1 e2
 l6:(k1 < ((((v21b f0 e1 a1)).length:Int)))→V21l6 a0_0 a0_1 a1 a2 e1 f0 f1 k0 k1 I5 m5
abbrev V21l5 (a0_0:Int) (a0_1:Int) (a1:Rows) (a2:Int) (e0:Rows) (e1:Int) (e2:Rows) (f0:Int) (f1:Rows) (I2:Rows→Int→Rows→Prop) (m2:Rows→Int→Rows→Nat):Prop:=∃(I5:Rows→Int→Prop) (m5:Rows→Int→Nat),I5 e0 0∧∀k0 k1,I5 k0 k1→V21c5 a0_0 a0_1 a1 a2 e0 e1 e2 f0 f1 k0 k1 I2 m2 I5 m5
structure V21c4 (a0_0:Int) (a0_1:Int) (a1:Rows) (a2:Int) (e0:Rows) (e1:Int) (e2:Rows) (f0:Int) (f1:Rows) (j0:Bool) (I2:Rows→Int→Rows→Prop) (m2:Rows→Int→Rows→Nat) (I3:Int→Rows→Prop) (m3:Int→Rows→Nat):Prop where
 g54:(j0=true)→0≤f0
 g55:(j0=true)→f0 < (a1.length:Int)
 g56:(j0=true)→(((Int.toNat f0:Nat):Int)) < (a1.length:Int)
 g57:(j0=true)→(2:Int)≠0
 g58:(j0=true)→vZ21 ((Int.tdiv (D.int (gt a1 f0.toNat 1)) 2))
 g62:(j0=true)→vZ21 ((f0+1))
 n63:(j0=true)→I3 (f0+1) (msetR [D.i (Int.tdiv (D.int (gt a1 f0.toNat 1)) 2)] [D.i (D.int (gt a1 f0.toNat 0))] f1)∧m3 (f0+1) (msetR [D.i (Int.tdiv (D.int (gt a1 f0.toNat 1)) 2)] [D.i (D.int (gt a1 f0.toNat 0))] f1) < m3 f0 f1
 g64:(j0=false)→0≤e1
 g65:(j0=false)→e1≤f0
 g66:(j0=false)→f0≤(a1.length:Int)
 l5:(j0=false)→V21l5 a0_0 a0_1 a1 a2 e0 e1 e2 f0 f1 I2 m2
abbrev V21j4 (a0_0:Int) (a0_1:Int) (a1:Rows) (a2:Int) (e0:Rows) (e1:Int) (e2:Rows) (f0:Int) (f1:Rows) (I2:Rows→Int→Rows→Prop) (m2:Rows→Int→Rows→Nat) (I3:Int→Rows→Prop) (m3:Int→Rows→Nat):Prop:=∃(I4:Bool→Prop),V21r4 a1 e1 f0 I4∧∀j0,I4 j0→V21c4 a0_0 a0_1 a1 a2 e0 e1 e2 f0 f1 j0 I2 m2 I3 m3
structure V21c3 (a0_0:Int) (a0_1:Int) (a1:Rows) (a2:Int) (e0:Rows) (e1:Int) (e2:Rows) (f0:Int) (f1:Rows) (I2:Rows→Int→Rows→Prop) (m2:Rows→Int→Rows→Nat) (I3:Int→Rows→Prop) (m3:Int→Rows→Nat):Prop where
 l4:V21j4 a0_0 a0_1 a1 a2 e0 e1 e2 f0 f1 I2 m2 I3 m3
abbrev V21l3 (a0_0:Int) (a0_1:Int) (a1:Rows) (a2:Int) (e0:Rows) (e1:Int) (e2:Rows) (I2:Rows→Int→Rows→Prop) (m2:Rows→Int→Rows→Nat):Prop:=∃(I3:Int→Rows→Prop) (m3:Int→Rows→Nat),I3 e1 e2∧∀f0 f1,I3 f0 f1→V21c3 a0_0 a0_1 a1 a2 e0 e1 e2 f0 f1 I2 m2 I3 m3
structure V21c2 (a0_0:Int) (a0_1:Int) (a1:Rows) (a2:Int) (R:Nat→Nat→D) (e0:Rows) (e1:Int) (e2:Rows) (I2:Rows→Int→Rows→Prop) (m2:Rows→Int→Rows→Nat):Prop where
 g103:(¬e1 < (a1.length:Int))→R 0 0=D.l e0
 g104:(¬e1 < (a1.length:Int))→R 1 0=D.i 0
 l3:(e1 < (a1.length:Int))→V21l3 a0_0 a0_1 a1 a2 e0 e1 e2 I2 m2
abbrev V21l2 (a0_0:Int) (a0_1:Int) (a1:Rows) (a2:Int) (R:Nat→Nat→D):Prop:=∃(I2:Rows→Int→Rows→Prop) (m2:Rows→Int→Rows→Nat),I2 [] 0 []∧∀e0 e1 e2,I2 e0 e1 e2→V21c2 a0_0 a0_1 a1 a2 R e0 e1 e2 I2 m2
structure V21c0 (a0_0:Int) (a0_1:Int) (a1:Rows) (a2:Int) (R:Nat→Nat→D) (b0:Bool):Prop where
 g41:(b0=true)→R 0 0=D.l []
 g42:(b0=true)→R 1 0=D.i 3
 l2:(b0=false)→V21l2 a0_0 a0_1 a1 a2 R
abbrev V21j0 (pre:Nat→List (List D)→Prop) (fn:Nat→List (List D)→Nat→Nat→D) (a0_0:Int) (a0_1:Int) (a0_2:Int) (a1:Rows) (a2:Int) (R:Nat→Nat→D):Prop:=∃(I0:Bool→Prop),V21r0 pre fn a0_0 a0_1 a0_2 a1 a2 I0∧∀b0,I0 b0→V21c0 a0_0 a0_1 a1 a2 R b0
structure V21 (pre:Nat→List (List D)→Prop) (fn:Nat→List (List D)→Nat→Nat→D) (a0_0:Int) (a0_1:Int) (a0_2:Int) (a1:Rows) (a2:Int) (R:Nat→Nat→D):Prop where
 g0:pre 50 [[D.i a0_0],[D.i 1],[D.i 32]]
 g1:(D.boo (fn 50 [[D.i a0_0],[D.i 1],[D.i 32]] 0 0)=false)→R 0 0=D.l []
 g2:(D.boo (fn 50 [[D.i a0_0],[D.i 1],[D.i 32]] 0 0)=false)→R 1 0=D.i 3
 g7:(v21d fn a0_0)→pre 50 [[D.i a0_1],[D.i 1],[D.i 32]]
 g8:(v21d fn a0_0)→(D.boo (fn 50 [[D.i a0_1],[D.i 1],[D.i 32]] 0 0)=false)→R 0 0=D.l []
 g9:(v21d fn a0_0)→(D.boo (fn 50 [[D.i a0_1],[D.i 1],[D.i 32]] 0 0)=false)→R 1 0=D.i 3
 g14:(v21d fn a0_0)→(v21e fn a0_1)→pre 50 [[D.i a0_2],[D.i 1],[D.i 128]]
 g15:(v21d fn a0_0)→(v21e fn a0_1)→(D.boo (fn 50 [[D.i a0_2],[D.i 1],[D.i 128]] 0 0)=false)→R 0 0=D.l []
 g16:(v21d fn a0_0)→(v21e fn a0_1)→(D.boo (fn 50 [[D.i a0_2],[D.i 1],[D.i 128]] 0 0)=false)→R 1 0=D.i 3
 g23:(v21d fn a0_0)→(v21e fn a0_1)→(D.boo (fn 50 [[D.i a0_2],[D.i 1],[D.i 128]] 0 0)=true)→pre 51 [[D.l a1]]
 g24:(v21d fn a0_0)→(v21e fn a0_1)→(D.boo (fn 50 [[D.i a0_2],[D.i 1],[D.i 128]] 0 0)=true)→(¬(D.int (fn 51 [[D.l a1]] 0 0))=0)→R 0 0=D.l []
 g25:(v21d fn a0_0)→(v21e fn a0_1)→(D.boo (fn 50 [[D.i a0_2],[D.i 1],[D.i 128]] 0 0)=true)→(¬(D.int (fn 51 [[D.l a1]] 0 0))=0)→R 1 0=D.i (D.int (fn 51 [[D.l a1]] 0 0))
 l0:(v21d fn a0_0)→(v21e fn a0_1)→(D.boo (fn 50 [[D.i a0_2],[D.i 1],[D.i 128]] 0 0)=true)→((D.int (fn 51 [[D.l a1]] 0 0))=0)→V21j0 pre fn a0_0 a0_1 a0_2 a1 a2 R
end HX

namespace HX
open Go Go.Proofs CX
def nearP (W p q:Int):Prop:=p≠q∧-1≤p % W - q % W∧p % W - q % W≤1∧-1≤p / W - q / W∧p / W - q / W≤1
def px (l:Rows) (k:Nat):Int:=eI l k / 2
def supP (W:Int) (l:Rows) (win:Int) (i:Nat):Prop:=∃k,k < l.length∧nearP W (px l i) (px l k)∧0≤eT l i - eT l k∧eT l i - eT l k≤win
open Classical in
noncomputable def clnN (W:Int) (l:Rows) (win:Int):Nat→Rows
 |0=>[]
 |i+1=>if supP W l win i then clnN W l win i++[[.i (eT l i),.i (eI l i)]] else clnN W l win i
open Classical in
noncomputable def clnE (w h s:Int) (l:Rows) (win:Int):Int:=
 if ¬(inB w 1 32=true∧inB h 1 32=true∧inB s 1 128=true) then 3 else if ¬chkE l=0 then chkE l else if (∃j,j < l.length∧2 * (w * h)≤eI l j)∨inB win 0 100=false then 3 else 0
open Classical in
noncomputable def clnR (w h s:Int) (l:Rows) (win:Int):Rows:=if clnE w h s l win=0 then clnN w l win l.length else []
theorem ev_mono {l:Rows} (h:EvOk' l) {a:Nat}:∀{b:Nat},a≤b→b < l.length→eT l a≤eT l b:=by
 intro b
 induction b with
 |zero=>intro h1 _;rw [show a=0 by omega];exact Int.le_refl _
 |succ b ih=>
  intro h1 h2
  by_cases c:a=b+1
  ·rw [c];exact Int.le_refl _
  ·have:=ih (by omega) (by omega)
   have:=h.up b h2
   omega
structure MapOk (l m:Rows) (F:Nat):Prop where
 has:∀q,mhasR m [.i q]=true↔∃k,k < F∧px l k=q
 top:∀k,k < F→eT l k≤(mgetR m [.i (px l k)] 0 (.i 0)).int
 one:∀q,mhasR m [.i q]=true→∃k,k < F∧px l k=q∧(mgetR m [.i q] 0 (.i 0)).int=eT l k
theorem MapOk.nil (l:Rows):MapOk l [] 0:=⟨fun q=>by simp [has_nil],fun k h=>by omega,fun q h=>by simp [has_nil] at h⟩
theorem MapOk.push {l m:Rows} {F:Nat} (h:MapOk l m F) (he:EvOk' l) (hF:F < l.length):MapOk l (msetR [.i (px l F)] [.i (eT l F)] m) (F+1):=by
 refine ⟨fun q=>?_,fun k hk=>?_,fun q hq=>?_⟩
 ·rw [has1,h.has]
  constructor
  ·rintro (rfl |⟨k,hk,rfl⟩)
   ·exact ⟨F,by omega,rfl⟩
   ·exact ⟨k,by omega,rfl⟩
  ·rintro ⟨k,hk,rfl⟩
   by_cases c:k=F
   ·subst c;exact .inl rfl
   ·exact .inr ⟨k,by omega,rfl⟩
 ·rw [get1]
  split
  ·exact ev_mono he (by omega) hF
  ·rename_i c
   exact h.top k (by have:k≠F:=fun e=>c (by rw [e]);omega)
 ·rw [has1] at hq
  rw [get1]
  split
  ·rename_i c;exact ⟨F,by omega,c,rfl⟩
  ·rename_i c
   obtain ⟨k,h1,h2,h3⟩:=h.one q (hq.resolve_left c)
   exact ⟨k,by omega,h2,h3⟩
end HX

namespace HX
open Go Go.Proofs CX
theorem dmod {w u v:Int} (h0:0≤u) (h1:u < w):(v * w+u) / w=v∧(v * w+u) % w=u:=by
 rw [Int.add_comm]
 refine ⟨?_,?_⟩
 ·rw [Int.add_mul_ediv_right _ _ (by omega),Int.ediv_eq_zero_of_lt h0 h1,Int.zero_add]
 ·rw [Int.add_mul_emod_self_right,Int.emod_eq_of_lt h0 h1]
def hitP (l m:Rows) (win:Int) (i:Nat) (q:Int):Prop:=mhasR m [.i q]=true∧eT l i - (mgetR m [.i q] 0 (.i 0)).int≤win
structure ClC (w h win:Int) (l m:Rows) (F G:Nat):Prop where
 hw:1≤w∧w≤32
 hh:1≤h∧h≤32
 hn:0≤win∧win≤100
 ev:EvOk' l
 len:l.length≤65536
 id:∀j,j < l.length→eI l j < 2 * (w * h)
 FG:F≤G∧G≤l.length∧F < l.length
 map:MapOk l m G
 eq:∀b,F≤b→b < G→eT l b=eT l F
 gt:∀b,G≤b→b < l.length→eT l F < eT l b
theorem px_bd {w h win:Int} {l m:Rows} {F G:Nat} (c:ClC w h win l m F G) {k:Nat} (hk:k < l.length):0≤px l k∧px l k < w * h∧px l k / w < h∧0≤px l k / w∧0≤px l k % w∧px l k % w < w:=by
 have a:=c.ev.ri k hk
 have b:=c.id k hk
 have hw:=c.hw
 have p0:0≤px l k:=by unfold px;omega
 have p1:px l k < w * h:=by unfold px;omega
 refine ⟨p0,p1,Int.ediv_lt_of_lt_mul (by omega) (by rw [Int.mul_comm h w];exact p1),Int.ediv_nonneg p0 (by omega),Int.emod_nonneg _ (by omega),Int.emod_lt_of_pos _ (by omega)⟩
def bxP (l m:Rows) (win:Int) (i:Nat) (w p v0 v u0 u1:Int):Prop:=∃v' u',v0≤v'∧v' < v∧u0≤u'∧u'≤u1∧v' * w+u'≠p∧hitP l m win i (v' * w+u')
def rwP (l m:Rows) (win:Int) (i:Nat) (w p v u0 u:Int):Prop:=∃u',u0≤u'∧u' < u∧v * w+u'≠p∧hitP l m win i (v * w+u')
section
variable {l m:Rows} {win:Int} {i:Nat} {w p v0 v u0 u1 u:Int}
theorem bxP_0 (h:v≤v0):¬bxP l m win i w p v0 v u0 u1:=fun ⟨v',u',h1,h2,_⟩=>by omega
theorem rwP_0 (h:u≤u0):¬rwP l m win i w p v u0 u:=fun ⟨u',h1,h2,_⟩=>by omega
theorem rwP_s (h:u0≤u):rwP l m win i w p v u0 (u+1)↔rwP l m win i w p v u0 u∨(v * w+u≠p∧hitP l m win i (v * w+u)):=by
 constructor
 ·rintro ⟨u',h1,h2,h3⟩
  by_cases e:u'=u
  ·subst e;exact .inr h3
  ·exact .inl ⟨u',h1,by omega,h3⟩
 ·rintro (⟨u',h1,h2,h3⟩ |h')
  ·exact ⟨u',h1,by omega,h3⟩
  ·exact ⟨u,h,by omega,h'⟩
theorem bxP_s (h:v0≤v):bxP l m win i w p v0 (v+1) u0 u1↔bxP l m win i w p v0 v u0 u1∨rwP l m win i w p v u0 (u1+1):=by
 constructor
 ·rintro ⟨v',u',q1,q2,q3,q4,q5⟩
  by_cases e:v'=v
  ·subst e;exact .inr ⟨u',q3,by omega,q5⟩
  ·exact .inl ⟨v',u',q1,by omega,q3,q4,q5⟩
 ·rintro (⟨v',u',q1,q2,q3⟩ |⟨u',q1,q2,q3⟩)
  ·exact ⟨v',u',q1,by omega,q3⟩
  ·exact ⟨v,u',h,by omega,q1,by omega,q3⟩
end
theorem box_iff {w h win:Int} {l m:Rows} {F G K:Nat} (c:ClC w h win l m F G) (hK:F+K < G) {v1 u0 u1 v0:Int} (e0:v0=max 0 (px l (F+K) / w - 1)) (e1:v1=min (h - 1) (px l (F+K) / w+1)) (e2:u0=max 0 (px l (F+K) % w - 1)) (e3:u1=min (w - 1) (px l (F+K) % w+1)) :
  bxP l m win (F+K) w (px l (F+K)) v0 (v1+1) u0 u1↔supP w l win (F+K):=by
 have cF:=c.FG
 have tF:=c.eq (F+K) (by omega) hK
 obtain ⟨p0,p1,p2,p3,p4,p5⟩:=px_bd c (k:=F+K) (by omega)
 constructor
 ·rintro ⟨v,u,h1,h2,h3,h4,h5,h6,h7⟩
  obtain ⟨k,k1,k2,k3⟩:=c.map.one _ h6
  obtain ⟨d1,d2⟩:=dmod (w:=w) (u:=u) (v:=v) (by omega) (by omega)
  have kt:eT l k≤eT l (F+K):=by
   by_cases hk:k < F
   ·rw [tF];exact ev_mono c.ev (by omega) (by omega)
   ·rw [tF,c.eq k (by omega) k1];exact Int.le_refl _
  refine ⟨k,by omega,⟨by rw [k2];exact Ne.symm h5,?_⟩,by omega,by omega⟩
  rw [k2,d1,d2]
  omega
 ·rintro ⟨k,k1,⟨n0,n1,n2,n3,n4⟩,k2,k3⟩
  have kG:k < G:=by
   by_cases hk:k < G
   ·exact hk
   ·have:=c.gt k (by omega) k1
    omega
  obtain ⟨q0,q1,q2,q3,q4,q5⟩:=px_bd c k1
  have e:px l k / w * w+px l k % w=px l k:=by rw [Int.mul_comm];exact Int.mul_ediv_add_emod _ _
  refine ⟨px l k / w,px l k % w,by omega,by omega,by omega,by omega,?_⟩
  rw [e]
  refine ⟨Ne.symm n0,(c.map.has _).2 ⟨k,kG,rfl⟩,?_⟩
  have:=c.map.top k kG
  omega
theorem l6_ok {w h win:Int} {l m:Rows} {F G K:Nat} (c:ClC w h win l m F G) (hK:F+K < G) {out:Rows} (ho:out.length≤65536) {I5:Rows→Int→Prop} {m5:Rows→Int→Nat}
  (ht:supP w l win (F+K)→I5 (out++[[.i (eT l (F+K)),.i (eI l (F+K))]]) ((K:Int)+1)∧m5 (out++[[.i (eT l (F+K)),.i (eI l (F+K))]]) ((K:Int)+1) < m5 out K)
  (hf:¬supP w l win (F+K)→I5 out ((K:Int)+1)∧m5 out ((K:Int)+1) < m5 out K):V21l6 w h l win (F:Int) (G:Int) m out (K:Int) I5 m5:=by
 have cF:=c.FG
 have hl:=c.len
 have hw:=c.hw
 have hh:=c.hh
 have hn:=c.hn
 obtain ⟨p0,p1,p2,p3,p4,p5⟩:=px_bd c (k:=F+K) (by omega)
 have bx:=@box_iff w h win l m F G K c hK
 have ti:=c.ev.rt (F+K) (by omega)
 have g0:∀j:Nat,gt (v21b (G:Int) (F:Int) l) (K:Int).toNat j=gt l (F+K) j:=fun j=>by
  simp only [v21b,Int.toNat_natCast]
  rw [gt_take (by omega),gt_drop]
 have gT:D.int (gt (v21b (G:Int) (F:Int) l) (K:Int).toNat 0)=eT l (F+K):=by rw [g0];rfl
 have gI:D.int (gt (v21b (G:Int) (F:Int) l) (K:Int).toNat 1)=eI l (F+K):=by rw [g0];rfl
 have ri:=c.ev.ri (F+K) (by omega)
 have ep:v21a (G:Int) (F:Int) l (K:Int)=px l (F+K):=by
  show Int.tdiv (D.int (gt (v21b (G:Int) (F:Int) l) (K:Int).toNat 1)) 2=_
  rw [gI,px]
  exact Int.tdiv_eq_ediv_of_nonneg ri.1
 have em:Int.tmod (px l (F+K)) w=px l (F+K) % w:=Int.tmod_eq_emod_of_nonneg p0
 have ed:Int.tdiv (px l (F+K)) w=px l (F+K) / w:=Int.tdiv_eq_ediv_of_nonneg p0
 have ec:v21c w (G:Int) (F:Int) l (K:Int)=min (w - 1) (px l (F+K) % w+1):=by
  show mnI (w - 1) (Int.tmod (v21a (G:Int) (F:Int) l (K:Int)) w+1)=_
  rw [ep,em,mnI_eq]
 have mb:∀q,mhasR m [.i q]=true→0≤(mgetR m [.i q] 0 (.i 0)).int∧(mgetR m [.i q] 0 (.i 0)).int≤1073741824:=fun q hq=>by
  obtain ⟨k,k1,_,k3⟩:=c.map.one q hq
  rw [k3]
  exact c.ev.rt k (by omega)
 unfold V21l6
 generalize hx:px l (F+K) % w=x at *
 generalize hy:px l (F+K) / w=y at *
 obtain ⟨v0,e0⟩:∃v0,v0=max 0 (y - 1):=⟨_,rfl⟩
 obtain ⟨v1,e1⟩:∃v1,v1=min (h - 1) (y+1):=⟨_,rfl⟩
 obtain ⟨u0,e2⟩:∃u0,u0=max 0 (x - 1):=⟨_,rfl⟩
 obtain ⟨u1,e3⟩:∃u1,u1=min (w - 1) (x+1):=⟨_,rfl⟩
 have bx:=bx e0 e1 e2 e3
 generalize hp:px l (F+K)=p at *
 refine ⟨fun v s=>v0≤v∧v≤v1+1∧(s=true↔bxP l m win (F+K) w p v0 v u0 u1),fun v _=>(v1+1 - v).toNat,⟨?_,?_,?_⟩,?_⟩
 ·rw [ep,ed,mxI_eq,e0];exact Int.le_refl _
 ·rw [ep,ed,mxI_eq,e1];omega
 ·rw [ep,ed,mxI_eq]
  rw [←e0]
  exact ⟨fun h=>(by cases h),fun h=>absurd h (bxP_0 (Int.le_refl _))⟩
 ·rintro v s ⟨hv0,hv1,hs⟩
  have dn:¬v≤v1→(s=true↔supP w l win (F+K)):=fun hv=>by
   rw [hs,←bx,show v=v1+1 by omega]
  constructor
  all_goals (try simp only [vZ21,ep,ed,em,mnI_eq,gT,gI,←e1,hx,hy])
  case g97=>intro _ _;simp only [List.length_cons,List.length_nil];omega
  case n99=>
   intro h1 h2
   exact ht ((dn h1).1 h2)
  case n101=>
   intro h1 h2
   exact hf fun h3=>by rw [(dn h1).2 h3] at h2;cases h2
  case l7=>
   intro hv
   have hB:=Int.mul_le_mul (show v≤31 by omega) hw.2 (by omega) (by omega)
   have hB0:=Int.mul_nonneg (show 0≤v by omega) (show 0≤w by omega)
   refine ⟨fun u s=>u0≤u∧u≤u1+1∧(s=true↔bxP l m win (F+K) w p v0 v u0 u1∨rwP l m win (F+K) w p v u0 u),fun u _=>(u1+1 - u).toNat,⟨?_,?_,?_⟩,?_⟩
   ·rw [ep,em,mxI_eq,e2];exact Int.le_refl _
   ·rw [ep,em,mxI_eq];omega
   ·rw [ep,em,mxI_eq,hs,←e2]
    exact ⟨.inl,fun h=>h.elim id fun h=>absurd h (rwP_0 (Int.le_refl _))⟩
   ·rintro u b ⟨hu0,hu1,hb⟩
    have step:u≤u1→∀b':Bool,(b'=true↔b=true∨(v * w+u≠p∧hitP l m win (F+K) (v * w+u)))→(u0≤u+1∧u+1≤u1+1∧(b'=true↔bxP l m win (F+K) w p v0 v u0 u1∨rwP l m win (F+K) w p v u0 (u+1)))∧(u1+1 - (u+1)).toNat < (u1+1 - u).toNat:=fun hu b' hb'=>by
     refine ⟨⟨by omega,by omega,?_⟩,by omega⟩
     rw [hb',hb,or_assoc,rwP_s hu0]
    constructor
    all_goals (try simp only [vZ21,ec,ep,ed,em,mnI_eq,gT,gI,←e3])
    case n87=>
     intro h1 h2 h3
     have:=step h1 true ⟨fun _=>.inl h3,fun _=>rfl⟩
     simpa only [] using this
    case n90=>
     intro h1 h2 h3 h4
     refine step h1 _ ?_
     rw [decide_eq_true_iff,h3]
     exact ⟨fun h=>.inr ⟨h2,h4,h⟩,fun h=>h.elim (fun h=>by cases h) fun h=>h.2.2⟩
    case n92=>
     intro h1 h2 h3 h4
     refine step h1 _ ⟨fun h=>(by cases h),fun h=>h.elim (fun h=>by rw [h3] at h;cases h) fun h=>by rw [h.2.1] at h4;cases h4⟩
    case n94=>
     intro h1 h2
     refine step h1 _ ⟨.inl,fun h=>h.elim id fun h=>absurd h2 h.1⟩
    case n96=>
     intro h1
     refine ⟨⟨by omega,by omega,?_⟩,by omega⟩
     rw [hb,bxP_s hv0,show u=u1+1 by omega]
    case g88=>intro h1 h2 h3 h4;have:=mb _ h4;omega
    all_goals (intros;omega)
  all_goals (intros;omega)
end HX

namespace HX
open Go Go.Proofs CX
theorem cln_len (W:Int) (l:Rows) (win:Int):∀i,(clnN W l win i).length≤i
 |0=>Nat.le_refl _
 |i+1=>by
  have:=cln_len W l win i
  rw [clnN]
  split
  ·simp;omega
  ·omega
theorem l2_ok {w h win:Int} {l:Rows} (hw:1≤w∧w≤32) (hh:1≤h∧h≤32) (hn:0≤win∧win≤100) (ev:EvOk' l) (hl:l.length≤65536) (id:∀j,j < l.length→eI l j < 2 * (w * h)) {R:Nat→Nat→D} (h0:R 0 0=.l (clnN w l win l.length)) (h1:R 1 0=.i 0):V21l2 w h l win R:=by
 refine ⟨fun out i m=>∃F:Nat,i=F∧F≤l.length∧out=clnN w l win F∧MapOk l m F∧∀a b,a < F→F≤b→b < l.length→eT l a < eT l b,fun _ i _=>(l.length - i).toNat,⟨0,rfl,Nat.zero_le _,rfl,MapOk.nil l,fun a b h=>by omega⟩,?_⟩
 rintro out i m ⟨F,rfl,hF,rfl,hm,hb⟩
 constructor
 case g103=>intro h;rw [h0,show F=l.length by omega]
 case g104=>intro h;exact h1
 case l3=>
  intro hlt
  refine ⟨fun g m'=>∃G:Nat,g=G∧F≤G∧G≤l.length∧MapOk l m' G∧∀b,F≤b→b < G→eT l b=eT l F,fun g _=>(l.length - g).toNat,⟨F,rfl,Nat.le_refl _,hF,hm,fun b h1 h2=>by omega⟩,?_⟩
  rintro g m' ⟨G,rfl,hFG,hG,hm',heq⟩
  constructor
  refine ⟨fun b=>b=true↔G < l.length∧eT l G=eT l F,?_,?_⟩
  ·constructor
   case n52=>
    intro h
    rw [decide_eq_true_iff]
    simp only [Int.toNat_natCast]
    exact ⟨fun e=>⟨by omega,e⟩,fun e=>e.2⟩
   case n53=>intro h;exact ⟨fun e=>(by cases e),fun e=>by omega⟩
   all_goals (intros;omega)
  ·intro b hbq
   constructor
   all_goals (try simp only [vZ21,Int.toNat_natCast])
   case n63=>
    intro hb1
    obtain ⟨q1,q2⟩:=hbq.1 hb1
    refine ⟨⟨G+1,by omega,by omega,by omega,?_,fun b' h1 h2=>?_⟩,by omega⟩
    ·have:=hm'.push ev q1
     have e:Int.tdiv (gt l G 1).int 2=px l G:=Int.tdiv_eq_ediv_of_nonneg (ev.ri G q1).1
     rw [←e] at this
     exact this
    ·by_cases e:b'=G
     ·subst e;exact q2
     ·exact heq b' h1 (by omega)
   case g58=>
    intro hb1
    obtain ⟨q1,q2⟩:=hbq.1 hb1
    have e:Int.tdiv (D.int (gt l G 1)) 2=px l G:=Int.tdiv_eq_ediv_of_nonneg (ev.ri G q1).1
    have:=ev.ri G q1
    rw [e,px]
    omega
   case g54 |g55 |g56 |g62=>intro hb1;obtain ⟨q1,q2⟩:=hbq.1 hb1;omega
   case l5=>
    intro hb1
    have hne:¬(G < l.length∧eT l G=eT l F):=fun h=>by rw [hbq.2 h] at hb1;cases hb1
    have hFG':F < G:=by
     by_cases c:F=G
     ·exact absurd ⟨by omega,by rw [c]⟩ hne
     ·omega
    have hgt:∀b,G≤b→b < l.length→eT l F < eT l b:=fun b' h1 h2=>by
     have a:=ev_mono ev hFG (show G < l.length by omega)
     have c:=ev_mono ev h1 h2
     have:eT l G≠eT l F:=fun e=>hne ⟨by omega,e⟩
     omega
    have C:ClC w h win l m' F G:=⟨hw,hh,hn,ev,hl,id,⟨hFG,hG,by omega⟩,hm',heq,hgt⟩
    have hlen:((v21b (G:Int) (F:Int) l).length:Int)=G - F:=by
     simp only [v21b,Int.toNat_natCast,List.length_take,List.length_drop]
     omega
    refine ⟨fun o k=>∃K:Nat,k=K∧F+K≤G∧o=clnN w l win (F+K),fun _ k=>(G - F - k).toNat,⟨0,rfl,by omega,rfl⟩,?_⟩
    rintro o k ⟨K,rfl,hK,rfl⟩
    constructor
    all_goals (try simp only [vZ21,hlen])
    case n102=>
     intro h
     obtain rfl:G=F+K:=by omega
     refine ⟨⟨F+K,rfl,hG,rfl,hm',fun a b h1 h2 h3=>?_⟩,by omega⟩
     by_cases c:a < F
     ·have:=hb a F c (Nat.le_refl _) (by omega)
      have:=hgt b h2 h3
      omega
     ·rw [heq a (by omega) h1];exact hgt b h2 h3
    case l6=>
     intro h
     have:=cln_len w l win (F+K)
     refine l6_ok C (by omega) (by omega) (fun hs=>⟨⟨K+1,by omega,by omega,?_⟩,by omega⟩) (fun hs=>⟨⟨K+1,by omega,by omega,?_⟩,by omega⟩)
     ·rw [←Nat.add_assoc,clnN,if_pos hs]
     ·rw [←Nat.add_assoc,clnN,if_neg hs]
    all_goals (intro h)
    case g72=>
     have e:v21a (G:Int) (F:Int) l (K:Int)=px l (F+K):=by
      simp only [v21a,Int.toNat_natCast]
      rw [gt_take (by omega),gt_drop]
      exact Int.tdiv_eq_ediv_of_nonneg (ev.ri (F+K) (by omega)).1
     obtain ⟨p0,p1,p2,p3,p4,p5⟩:=px_bd C (k:=F+K) (by omega)
     have:=ev.ri (F+K) (by omega)
     rw [e,px];omega
    case g75 |g76=>
     have e:v21a (G:Int) (F:Int) l (K:Int)=px l (F+K):=by
      simp only [v21a,Int.toNat_natCast]
      rw [gt_take (by omega),gt_drop]
      exact Int.tdiv_eq_ediv_of_nonneg (ev.ri (F+K) (by omega)).1
     obtain ⟨p0,p1,p2,p3,p4,p5⟩:=px_bd C (k:=F+K) (by omega)
     rw [e,Int.tdiv_eq_ediv_of_nonneg p0]
     omega
    all_goals omega
   all_goals (intros;omega)
end HX

namespace HX
open Go Go.Proofs CX
structure V52 (a0_0:Int) (a0_1:Int) (a0_2:Int) (R:Nat→Nat→D)  : Prop where
 g0:-9223372036854775808≤(a0_0 * a0_1)∧(a0_0 * a0_1)≤9223372036854775807
 g1:R 0 0=D.i (a0_0 * a0_1)
end HX

namespace HX
open Go Go.Proofs CX
theorem law52 {w h s:Int} (hw:1≤w∧w≤32) (hh:1≤h∧h≤32) {R:Nat→Nat→D} (hR:R 0 0=.i (w * h)):V52 w h s R:=by
 obtain ⟨a,b,_⟩:=twoWH hw hh
 exact ⟨by omega,hR⟩
theorem inB_t {a b c:Int}:inB a b c=true↔b≤a∧a≤c:=by unfold inB;exact decide_eq_true_iff
theorem inB_f {a b c:Int}:inB a b c=false↔¬(b≤a∧a≤c):=by unfold inB;exact decide_eq_false_iff_not
theorem law21 {pre:Nat→List (List D)→Prop} {fn:Nat→List (List D)→Nat→Nat→D} (hp50:∀x,pre 50 x) (hf50:∀a b c,fn 50 [[.i a],[.i b],[.i c]] 0 0=.b (inB a b c))
  (hp51:∀x,pre 51 x) (hf51:∀l,fn 51 [[.l l]] 0 0=.i (chkE l)) (hp52:∀w h s:Int,1≤w∧w≤32→1≤h∧h≤32→pre 52 [[.i w,.i h,.i s]]) (hf52:∀w h s:Int,fn 52 [[.i w,.i h,.i s]] 0 0=.i (w * h))
  {w h s win:Int} {l:Rows} {R:Nat→Nat→D} (h0:R 0 0=.l (clnR w h s l win)) (h1:R 1 0=.i (clnE w h s l win)):V21 pre fn w h s l win R:=by
 have hi:∀n:Int,(D.i n).int=n:=fun _=>rfl
 have hb:∀n:Bool,(D.b n).boo=n:=fun _=>rfl
 have err:∀e:Int,¬e=0→clnE w h s l win=e→R 0 0=.l []:=fun e he h=>by rw [h0,clnR,h,if_neg he]
 constructor
 all_goals (try simp only [v21d,v21e,hf50,hf51,hi,hb])
 case g0 |g7 |g14=>intros;exact hp50 _
 case g23=>intros;exact hp51 _
 case g1=>intro a;exact err 3 (by decide) (by rw [clnE,if_pos fun b=>by rw [a] at b;cases b.1])
 case g2=>intro a;rw [h1,clnE,if_pos fun b=>by rw [a] at b;cases b.1]
 case g8=>intro _ a;exact err 3 (by decide) (by rw [clnE,if_pos fun b=>by rw [a] at b;cases b.2.1])
 case g9=>intro _ a;rw [h1,clnE,if_pos fun b=>by rw [a] at b;cases b.2.1]
 case g15=>intro _ _ a;exact err 3 (by decide) (by rw [clnE,if_pos fun b=>by rw [a] at b;cases b.2.2])
 case g16=>intro _ _ a;rw [h1,clnE,if_pos fun b=>by rw [a] at b;cases b.2.2]
 case g24=>intro a b c d;exact err _ d (by rw [clnE,if_neg fun h=>h ⟨a,b,c⟩,if_pos d])
 case g25=>intro a b c d;rw [h1,clnE,if_neg fun h=>h ⟨a,b,c⟩,if_pos d]
 case l0=>
  intro a b c d
  have hw:=inB_t.1 a
  have hh:=inB_t.1 b
  obtain ⟨hl,ev⟩:=chk_ev d
  obtain ⟨n1,n2,_⟩:=twoWH hw hh
  refine ⟨fun x=>x=true↔(∃j,j < l.length∧2 * (w * h)≤eI l j)∨inB win 0 100=false,⟨⟨fun _ i=>∃q:Nat,i=q∧q≤l.length∧∀j,j < q→¬2 * (w * h)≤eI l j,fun _ i=>(l.length - i).toNat,⟨0,rfl,Nat.zero_le _,fun j h=>by omega⟩,?_⟩⟩,?_⟩
  ·rintro _ i ⟨q,rfl,hq,hj⟩
   constructor
   all_goals (try simp only [vZ21,hf50,hf52,hi,hb,Int.toNat_natCast])
   case g31=>intro _;exact hp52 _ _ _ hw hh
   case g34 |g39=>intros;exact hp50 _
   case n33=>intro a1 a2 _;exact ⟨fun _=>.inl ⟨q,by omega,a2⟩,fun _=>trivial⟩
   case n35=>intro _ _ a3;omega
   case n37=>
    intro a1 a2
    refine ⟨⟨q+1,by omega,by omega,fun j hjq=>?_⟩,by omega⟩
    by_cases e:j=q
    ·subst e;exact a2
    ·exact hj j (by omega)
   case n40=>
    intro a1
    rw [Bool.not_eq_true']
    exact ⟨.inr,fun h=>h.elim (fun ⟨j,h2,h3⟩=>absurd h3 (hj j (by omega))) id⟩
   case g32=>intro _;omega
   all_goals (intros;omega)
  ·intro x hx
   have e0:clnE w h s l win=if (∃j,j < l.length∧2 * (w * h)≤eI l j)∨inB win 0 100=false then 3 else 0:=by
    rw [clnE,if_neg fun h=>h ⟨a,b,c⟩,if_neg fun h=>h d]
   constructor
   case g41=>intro hx1;exact err 3 (by decide) (by rw [e0,if_pos (hx.1 hx1)])
   case g42=>intro hx1;rw [h1,e0,if_pos (hx.1 hx1)]
   case l2=>
    intro hx1
    have hn:¬((∃j,j < l.length∧2 * (w * h)≤eI l j)∨inB win 0 100=false):=fun h=>by rw [hx.2 h] at hx1;cases hx1
    rw [if_neg hn] at e0
    have hwin:0≤win∧win≤100:=by
     refine inB_t.1 ?_
     cases hc:inB win 0 100 with
     |true=>rfl
     |false=>exact absurd (.inr hc) hn
    refine l2_ok hw hh hwin ev hl (fun j hj=>?_) (by rw [h0,clnR,if_pos e0]) (by rw [h1,e0])
    exact Int.not_le.1 fun h=>hn (.inl ⟨j,hj,h⟩)
end HX

namespace HX
open Go Go.Proofs CX
theorem made_len {w h:Int} (hw:1≤w∧w≤32) (hh:1≤h∧h≤32) {l:Rows} {T:Int} (hT:1≤T∧T≤1000):(madeR w h l T).length≤T.toNat * (2 * w * h).toNat:=by
 obtain ⟨a,b,c⟩:=twoWH hw hh
 exact (outT_ok (m:=mpS (2 * w * h) T l l.length) (n:=(2 * w * h).toNat) (by omega) T.toNat (by omega)).2
def lt2 (t i t' i':Int):Prop:=t < t'∨(t=t'∧i < i')
theorem ev_lt {l:Rows} (h:EvOk' l) {a:Nat}:∀{b:Nat},a < b→b < l.length→lt2 (eT l a) (eI l a) (eT l b) (eI l b):=by
 intro b
 induction b with
 |zero=>intro h1 _;omega
 |succ b ih=>
  intro h1 h2
  have u:=h.up b h2
  by_cases c:a=b
  ·subst c;exact u
  ·have:=ih (by omega) (by omega)
   unfold lt2 at this ⊢
   omega
theorem ev_inj {l:Rows} (h:EvOk' l) {a b:Nat} (ha:a < l.length) (hb:b < l.length) (e:eT l a=eT l b) (e2:eI l a=eI l b):a=b:=by
 rcases Nat.lt_trichotomy a b with c |c |c
 ·have:=ev_lt h c hb;unfold lt2 at this;omega
 ·exact c
 ·have:=ev_lt h c ha;unfold lt2 at this;omega
theorem cln_mem (W:Int) (l:Rows) (win:Int):∀i r,r < (clnN W l win i).length→∃j,j < i∧supP W l win j∧eT (clnN W l win i) r=eT l j∧eI (clnN W l win i) r=eI l j
 |0,r,h=>by simp [clnN] at h
 |i+1,r,h=>by
  rw [clnN] at h ⊢
  split at h
  ·rename_i c
   rw [if_pos c]
   by_cases hr:r < (clnN W l win i).length
   ·obtain ⟨j,h1,h2,h3,h4⟩:=cln_mem W l win i r hr
    rw [(eA hr).1,(eA hr).2]
    exact ⟨j,by omega,h2,h3,h4⟩
   ·have:r=(clnN W l win i).length:=by simp at h;omega
    subst this
    exact ⟨i,by omega,c,eN.1,eN.2⟩
  ·rename_i c
   rw [if_neg c]
   obtain ⟨j,h1,h2⟩:=cln_mem W l win i r h
   exact ⟨j,by omega,h2⟩
theorem cln_has (W:Int) (l:Rows) (win:Int):∀i j,j < i→supP W l win j→∃r,r < (clnN W l win i).length∧eT (clnN W l win i) r=eT l j∧eI (clnN W l win i) r=eI l j
 |0,j,h,_=>by omega
 |i+1,j,h,hs=>by
  rw [clnN]
  by_cases e:j=i
  ·subst e
   rw [if_pos hs]
   exact ⟨(clnN W l win j).length,by simp,eN.1,eN.2⟩
  ·obtain ⟨r,h1,h2,h3⟩:=cln_has W l win i j (by omega) hs
   split
   ·exact ⟨r,by simp;omega,by rw [(eA h1).1];exact h2,by rw [(eA h1).2];exact h3⟩
   ·exact ⟨r,h1,h2,h3⟩
theorem cln_inj {W:Int} {l:Rows} {win:Int} (he:EvOk' l):∀i,i≤l.length→∀r r',r < r'→r' < (clnN W l win i).length→¬(eT (clnN W l win i) r=eT (clnN W l win i) r'∧eI (clnN W l win i) r=eI (clnN W l win i) r')
 |0,_,r,r',_,h=>by simp [clnN] at h
 |i+1,hi,r,r',hr,h=>by
  rw [clnN] at h ⊢
  split at h
  ·rename_i c
   rw [if_pos c]
   by_cases hr':r' < (clnN W l win i).length
   ·rw [(eA hr').1,(eA hr').2,(eA (show r < (clnN W l win i).length by omega)).1,(eA (show r < (clnN W l win i).length by omega)).2]
    exact cln_inj he i (by omega) r r' hr hr'
   ·have:r'=(clnN W l win i).length:=by simp at h;omega
    subst this
    obtain ⟨j,h1,_,h3,h4⟩:=cln_mem W l win i r hr
    rw [(eA hr).1,(eA hr).2,eN.1,eN.2,h3,h4]
    rintro ⟨e1,e2⟩
    have:=ev_inj he (by omega) (by omega) e1 e2
    omega
  ·rename_i c
   rw [if_neg c]
   exact cln_inj he i (by omega) r r' hr h
structure LeftOk (C m:Rows) (q:Nat):Prop where
 get:∀t i,(mgetR m [.i t,.i i] 0 (.b false)).boo=true↔∃r,r < q∧eT C r=t∧eI C r=i
 has:∀t i,mhasR m [.i t,.i i]=true↔∃r,r < q∧eT C r=t∧eI C r=i
 len:m.length=q
theorem LeftOk.nil (C:Rows):LeftOk C [] 0:=⟨fun t i=>⟨fun h=>(by have h:false=true:=h;cases h),fun ⟨r,h,_⟩=>by omega⟩,fun t i=>⟨fun h=>(by have h:false=true:=h;cases h),fun ⟨r,h,_⟩=>by omega⟩,rfl⟩
theorem LeftOk.push {C m:Rows} {q:Nat} (h:LeftOk C m q) (hd:∀r,r < q→¬(eT C r=eT C q∧eI C r=eI C q)):LeftOk C (msetR [.i (eT C q),.i (eI C q)] [.b true] m) (q+1):=by
 have ex:∀t i,(∃r,r < q+1∧eT C r=t∧eI C r=i)↔(eT C q=t∧eI C q=i)∨∃r,r < q∧eT C r=t∧eI C r=i:=fun t i=>by
  constructor
  ·rintro ⟨r,h1,h2⟩
   by_cases e:r=q
   ·subst e;exact .inl h2
   ·exact .inr ⟨r,by omega,h2⟩
  ·rintro (h1 |⟨r,h1,h2⟩)
   ·exact ⟨q,by omega,h1⟩
   ·exact ⟨r,by omega,h2⟩
 refine ⟨fun t i=>?_,fun t i=>?_,?_⟩
 ·rw [get2,ex]
  split
  ·rename_i c;exact ⟨fun _=>.inl c,fun _=>rfl⟩
  ·rename_i c;rw [h.get];exact ⟨.inr,fun h=>h.resolve_left c⟩
 ·rw [has2,ex,h.has]
 ·rw [mset_len,if_neg,h.len]
  rw [h.has]
  rintro ⟨r,h1,h2⟩
  exact hd r h1 h2
theorem sq1 {x:Int}:x * x≤1↔-1≤x∧x≤1:=by
 constructor
 ·intro h
  by_cases c:x≤1
  ·by_cases d:-1≤x
   ·exact ⟨d,c⟩
   ·have:=Int.mul_le_mul_of_nonpos_right (show x≤-2 by omega) (show x≤0 by omega)
    omega
  ·have:=Int.mul_le_mul (show 2≤x by omega) (show 2≤x by omega) (by decide) (by omega)
   omega
 ·rintro ⟨h1,h2⟩
  have:x=-1∨x=0∨x=1:=by omega
  rcases this with rfl |rfl |rfl<;>decide
theorem clnE_0 {w h win:Int} {l:Rows} (hw:1≤w∧w≤32) (hh:1≤h∧h≤32) (hn:0≤win∧win≤100) (ev:EvOk' l) (hl:l.length≤65536) (id:∀j,j < l.length→eI l j < 2 * (w * h)):clnE w h 1 l win=0∧clnR w h 1 l win=clnN w l win l.length:=by
 have e:clnE w h 1 l win=0:=by
  rw [clnE,if_neg fun h=>h ⟨inB_t.2 hw,inB_t.2 hh,by decide⟩,if_neg fun h=>h (chk_0 ev hl),if_neg]
  rintro (⟨j,h1,h2⟩ |h)
  ·have:=id j h1;omega
  ·exact inB_f.1 h hn
 exact ⟨e,by rw [clnR,if_pos e]⟩
end HX

namespace HX
open Go Go.Proofs CX
structure AlC (W H w:Int) (L:Rows):Prop where
 hw:1≤W∧W≤5
 hh:1≤H∧H≤5
 hn:0≤w∧w≤7
 ev:EvOk' L
 len:L.length≤1000
 id:∀j,j < L.length→eI L j < 2 * (W * H)
def supN (W:Int) (L:Rows) (w:Int) (i n:Nat):Prop:=∃k,k < n∧nearP W (px L i) (px L k)∧0≤eT L i - eT L k∧eT L i - eT L k≤w
theorem supN_0 {W:Int} {L:Rows} {w:Int} {i:Nat}:¬supN W L w i 0:=fun ⟨k,h,_⟩=>by omega
theorem supN_s {W:Int} {L:Rows} {w:Int} {i n:Nat}:supN W L w i (n+1)↔supN W L w i n∨(nearP W (px L i) (px L n)∧0≤eT L i - eT L n∧eT L i - eT L n≤w):=by
 constructor
 ·rintro ⟨k,h1,h2⟩
  by_cases e:k=n
  ·subst e;exact .inr h2
  ·exact .inl ⟨k,by omega,h2⟩
 ·rintro (⟨k,h1,h2⟩ |h)
  ·exact ⟨k,by omega,h2⟩
  ·exact ⟨n,by omega,h⟩
structure FewOk (L few:Rows) (q:Nat):Prop where
 ev:EvOk' few
 len:few.length≤q
 mem:∀r,r < few.length→∃j,j < q∧eT few r=eT L j∧eI few r=eI L j
theorem FewOk.push {L few:Rows} {q:Nat} (h:FewOk L few q) (he:EvOk' L) (hq:q < L.length):FewOk L (few++[[.i (eT L q),.i (eI L q)]]) (q+1):=by
 refine ⟨h.ev.push (folE_of (he.rt q hq) (he.ri q hq) fun hp=>?_),by simp;have:=h.len;omega,fun r hr=>?_⟩
 ·obtain ⟨j,j1,j2,j3⟩:=h.mem (few.length - 1) (by omega)
  rw [j2,j3]
  exact ev_lt he j1 hq
 ·by_cases c:r < few.length
  ·obtain ⟨j,j1,j2,j3⟩:=h.mem r c
   rw [(eA c).1,(eA c).2]
   exact ⟨j,by omega,j2,j3⟩
  ·have:r=few.length:=by simp at hr;omega
   subst this
   rw [eN.1,eN.2]
   exact ⟨q,by omega,rfl,rfl⟩
theorem FewOk.skip {L few:Rows} {q:Nat} (h:FewOk L few q):FewOk L few (q+1):=⟨h.ev,by have:=h.len;omega,fun r hr=>let ⟨j,j1,j2⟩:=h.mem r hr;⟨j,by omega,j2⟩⟩
theorem few_sup {W w:Int} {L few:Rows} {q:Nat} (h:FewOk L few q) (hq:q≤L.length) {r:Nat} (hr:r < few.length) (hs:supP W few w r):∃j,j < L.length∧eT few r=eT L j∧eI few r=eI L j∧supP W L w j:=by
 obtain ⟨k,k1,k2,k3,k4⟩:=hs
 obtain ⟨j,j1,j2,j3⟩:=h.mem r hr
 obtain ⟨i,i1,i2,i3⟩:=h.mem k k1
 have e:∀{a b:Nat},eI few a=eI L b→px few a=px L b:=fun h=>by unfold px;rw [h]
 rw [e j3,e i3] at k2
 rw [j2,i2] at k3 k4
 exact ⟨j,by omega,j2,j3,i,by omega,k2,k3,k4⟩
theorem left_sup {W H w:Int} {L m:Rows} (c:AlC W H w L) (h:LeftOk (clnN W L w L.length) m (clnN W L w L.length).length) {j:Nat} (hj:j < L.length):(mgetR m [.i (eT L j),.i (eI L j)] 0 (.b false)).boo=true↔supP W L w j:=by
 rw [h.get]
 constructor
 ·rintro ⟨r,r1,r2,r3⟩
  obtain ⟨i,i1,i2,i3,i4⟩:=cln_mem W L w L.length r r1
  have:i=j:=ev_inj c.ev i1 hj (i3.symm.trans r2) (i4.symm.trans r3)
  subst this
  exact i2
 ·intro hs
  exact cln_has W L w L.length j hj hs
end HX

namespace HX
open Go Go.Proofs CX
set_option maxHeartbeats 1000000 in
theorem law7 {pre : Nat → List (List D) → Prop} {fn : Nat → List (List D) → Nat → Nat → D} (hp13 : pre 13 []) (hf13 : fn 13 [] 0 0 = .b true)
    (hp36:∀w h s T:Int,∀l:Rows,1≤w∧w≤32→1≤h∧h≤32→1≤T∧T≤1000→pre 36 [[.i w,.i h,.i s],[.l l],[.i T]]) (hf36:∀(w h s T:Int) (l:Rows),fn 36 [[.i w,.i h,.i s],[.l l],[.i T]] 0 0=.l (madeR w h l T))
    (hp21:∀x,pre 21 x) (hf21:∀(w h s win:Int) (l:Rows),fn 21 [[.i w,.i h,.i s],[.l l],[.i win]] 0 0=.l (clnR w h s l win)∧fn 21 [[.i w,.i h,.i s],[.l l],[.i win]] 1 0=.i (clnE w h s l win))
    {a0 a1 a3 a4:Int} {a2:Rows} (h0:0≤a0∧a0≤255) (h1:0≤a1∧a1≤255) (h3:0≤a3∧a3≤255) (h4:0≤a4∧a4≤255) {R:Nat→Nat→D} (hR:R 0 0=.b true):V7 pre fn a0 a1 a2 a3 a4 R:=by
  have t0:=tmodR (x:=a0) (y:=5) h0.1 (by decide)
  have t1:=tmodR (x:=a1) (y:=5) h1.1 (by decide)
  have t3:=tmodR (x:=a3) (y:=8) h3.1 (by decide)
  obtain ⟨W,hW⟩:∃W,1+Int.tmod a0 5=W:=⟨_,rfl⟩
  obtain ⟨H,hH⟩:∃H,1+Int.tmod a1 5=H:=⟨_,rfl⟩
  obtain ⟨w,hw'⟩:∃w,Int.tmod a3 8=w:=⟨_,rfl⟩
  have hw:1≤W∧W≤5:=by omega
  have hh:1≤H∧H≤5:=by omega
  have hn:0≤w∧w≤7:=by omega
  obtain ⟨L,hL⟩:∃L,madeR W H a2 20=L:=⟨_,rfl⟩
  have C:AlC W H w L:=by
    obtain ⟨o1,_⟩:=made_ok (w:=W) (h:=H) (by omega) (by omega) (l:=a2) (T:=20) (by decide)
    have o2:=made_len (w:=W) (h:=H) (by omega) (by omega) (l:=a2) (T:=20) (by decide)
    obtain ⟨b1,b2,b3⟩:=twoWH (w:=W) (h:=H) (by omega) (by omega)
    have b4:=Int.mul_le_mul hw.2 hh.2 (by omega) (by omega)
    rw [hL] at o1 o2
    have:(20:Int).toNat * (2 * W * H).toNat≤20 * 50:=Nat.mul_le_mul (by decide) (by omega)
    exact ⟨hw,hh,hn,o1.ev,by omega,fun j hj=>(o1.bd j hj).2⟩
  have hi:∀n:Int,(D.i n).int=n:=fun _=>rfl
  have hb:∀n:Bool,(D.b n).boo=n:=fun _=>rfl
  have hrw:∀n:Rows,(D.l n).rows=n:=fun _=>rfl
  have eL:v7a fn a0 a1 a2=L:=by simp only [v7a,hW,hH,hf36,hrw,hL]
  obtain ⟨e1,e2⟩:=clnE_0 (w:=W) (h:=H) (win:=w) (l:=L) (by omega) (by omega) (by omega) C.ev (by have:=C.len;omega) C.id
  obtain ⟨K,hK⟩:∃K,clnN W L w L.length=K:=⟨_,rfl⟩
  have eC:v7d fn a0 a1 a2 a3=K:=by simp only [v7d,hW,hH,hw',eL,(hf21 _ _ _ _ _).1,hrw,e2,hK]
  have kl:K.length≤L.length:=by rw [←hK];exact cln_len _ _ _ _
  have Ll:=C.len
  have ri:∀j,j < L.length→0≤eI L j∧eI L j≤65535:=C.ev.ri
  have rt:∀j,j < L.length→0≤eT L j∧eT L j≤1073741824:=C.ev.rt
  have ep:∀j,j < L.length→Int.tdiv (D.int (gt L j 1)) 2=px L j:=fun j hj=>Int.tdiv_eq_ediv_of_nonneg (ri j hj).1
  have p0:∀j,j < L.length→0≤px L j∧px L j≤32767:=fun j hj=>by have:=ri j hj;unfold px;omega
  have em:∀j,j < L.length→Int.tmod (px L j) W=px L j % W:=fun j hj=>Int.tmod_eq_emod_of_nonneg (p0 j hj).1
  have ed:∀j,j < L.length→Int.tdiv (px L j) W=px L j / W:=fun j hj=>Int.tdiv_eq_ediv_of_nonneg (p0 j hj).1
  have mb:∀j,j < L.length→0≤px L j % W∧px L j % W < 5∧0≤px L j / W∧px L j / W≤32767:=fun j hj=>by
    have a:=Int.emod_nonneg (px L j) (show W≠0 by omega)
    have b:=Int.emod_lt_of_pos (px L j) (show 0 < W by omega)
    have c:=Int.ediv_nonneg (p0 j hj).1 (show 0≤W by omega)
    have d:=Int.ediv_le_self W (p0 j hj).1
    have:=p0 j hj
    omega
  have gT:∀j:Nat,D.int (gt L j 0)=eT L j:=fun _=>rfl
  have gI:∀j:Nat,D.int (gt L j 1)=eI L j:=fun _=>rfl
  constructor
  all_goals (try simp only [vZ7,eL,eC,hW,hH,hw',hf13,hb,hi,(hf21 _ _ _ _ _).1,(hf21 _ _ _ _ _).2,e1])
  case g0=>intro _;exact hp13
  case g1=>intro _;exact hR
  case g10=>intro _;exact hp36 _ _ _ _ _ (by omega) (by omega) (by decide)
  case g11=>intro _;exact hp21 _
  case g12=>intro _ h;exact absurd trivial h
  case l0=>
    intro _ _
    refine ⟨fun i m=>∃q:Nat,i=q∧q≤K.length∧LeftOk K m q,fun i _=>(K.length - i).toNat,⟨0,rfl,Nat.zero_le _,LeftOk.nil K⟩,?_⟩
    rintro i m ⟨q,rfl,hq,hm⟩
    constructor
    all_goals (try simp only [vZ7,eC,Int.toNat_natCast])
    case n18=>
      intro h
      refine ⟨⟨q+1,by omega,by omega,hm.push fun r hr=>?_⟩,by omega⟩
      rw [←hK]
      rw [←hK] at h
      exact cln_inj C.ev L.length (Nat.le_refl _) r q hr (by omega)
    case l1=>
      intro h
      obtain rfl:q=K.length:=by omega
      rw [←hK] at hm
      have ls:∀j,j < L.length→((mgetR m [.i (eT L j),.i (eI L j)] 0 (.b false)).boo=true↔supP W L w j):=fun j hj=>left_sup C hm hj
      refine ⟨fun _ d=>∃q:Nat,d=q∧q≤L.length,fun _ d=>(L.length - d).toNat,⟨0,rfl,Nat.zero_le _⟩,?_⟩
      rintro d0 d ⟨q,rfl,hq⟩
      constructor
      all_goals (try simp only [v7f,eL])
      case l2=>
        intro hd
        have hq:q < L.length:=by omega
        refine ⟨fun b e=>∃n:Nat,e=n∧n≤L.length∧(b=true↔supN W L w q n),fun _ e=>(L.length - e).toNat,⟨0,rfl,Nat.zero_le _,⟨fun h=>(by cases h),fun h=>absurd h supN_0⟩⟩,?_⟩
        rintro b e ⟨n,rfl,hnl,hbs⟩
        constructor
        all_goals (try simp only [vZ7,v7f,v7b,v7c,eL,hW,Int.toNat_natCast,ep q hq,em q hq,ed q hq])
        case l3=>
          intro hx
          have hn':n < L.length:=by omega
          have q1:=mb q hq
          have q2:=mb n hn'
          have q3:=rt q hq
          have q4:=rt n hn'
          refine ⟨fun f=>f=true↔supN W L w q (n+1),?_,fun f hf=>?_⟩
          · have cond : nearP W (px L q) (px L n) ∧ 0 ≤ eT L q - eT L n ∧ eT L q - eT L n ≤ w ↔ (¬ px L q = px L n) ∧ ((px L q % W - px L n % W) * (px L q % W - px L n % W) ≤ 1) ∧ ((px L q / W - px L n / W) * (px L q / W - px L n / W) ≤ 1) ∧ eT L n ≤ eT L q ∧ eT L q - w ≤ eT L n := by
              rw [sq1,sq1]
              constructor
              · rintro ⟨⟨a,b,c,d,e⟩,f,g⟩
                exact ⟨a,⟨b,c⟩,⟨d,e⟩,by omega,by omega⟩
              · rintro ⟨a,⟨b,c⟩,⟨d,e⟩,f,g⟩
                exact ⟨⟨a,b,c,d,e⟩,by omega,by omega⟩
            constructor
            all_goals (try simp only [vZ7,v7g,v7b,v7c,eL,hW,hw',Int.toNat_natCast,ep q hq,em q hq,ed q hq,ep n hn',em n hn',ed n hn',gT])
            case n40=>intro hb1;rw [supN_s,←hbs,hb1];exact ⟨fun _=>.inl rfl,fun _=>trivial⟩
            all_goals (intro hb0)
            all_goals (have nb:¬supN W L w q n:=fun h=>by rw [hbs.2 h] at hb0;cases hb0)
            case n44=>
              intro a1 a2 a3 a4
              rw [supN_s,cond,decide_eq_true_iff]
              exact ⟨fun h=>.inr ⟨a1,a2,a3,a4,h⟩,fun h=>(h.resolve_left nb).2.2.2.2⟩
            case n45=>intro a1 a2 a3 a4;rw [supN_s,cond];exact ⟨fun h=>(by cases h),fun h=>absurd (h.resolve_left nb).2.2.2.1 a4⟩
            case n46=>intro a1 a2 a3;rw [supN_s,cond];exact ⟨fun h=>(by cases h),fun h=>absurd (h.resolve_left nb).2.2.1 a3⟩
            case n47=>intro a1 a2;rw [supN_s,cond];exact ⟨fun h=>(by cases h),fun h=>absurd (h.resolve_left nb).2.1 a2⟩
            case n48=>intro a1;rw [supN_s,cond];exact ⟨fun h=>(by cases h),fun h=>absurd a1 (h.resolve_left nb).1⟩
            case g41=>
              intro _
              have:px L q % W - px L n % W=-4∨px L q % W - px L n % W=-3∨px L q % W - px L n % W=-2∨px L q % W - px L n % W=-1∨px L q % W - px L n % W=0∨px L q % W - px L n % W=1∨px L q % W - px L n % W=2∨px L q % W - px L n % W=3∨px L q % W - px L n % W=4:=by omega
              rcases this with h |h |h |h |h |h |h |h |h<;>rw [h]<;>decide
            case g42=>
              intro _ _
              have b:=Int.natAbs_mul_self (a:=px L q / W - px L n / W)
              have c:(px L q / W - px L n / W).natAbs * (px L q / W - px L n / W).natAbs≤32767 * 32767:=Nat.mul_le_mul (by omega) (by omega)
              omega
            case g43=>intros;omega
          · constructor
            · simp only [vZ7];omega
            · exact ⟨⟨n+1,by omega,by omega,hf⟩,by omega⟩
        case n53=>intro _ _;exact ⟨⟨q+1,by omega,by omega⟩,by omega⟩
        case g51=>
          intro hx he
          exfalso
          obtain rfl:n=L.length:=by omega
          have hs:b=true↔supP W L w q:=hbs
          have hl:=ls q hq
          simp only [gT,gI] at he
          have:(mgetR m [.i (eT L q),.i (eI L q)] 0 (.b false)).boo=b:=by
            rw [Bool.eq_iff_iff,hl,hs]
          rw [this] at he
          simp at he
        case g28=>intro hx;have:=p0 q hq;omega
        case g30 => intro hx; have hn' : n < L.length := by omega
                    rw [ep n hn'];have:=p0 n hn';omega
        case g33 => intro hx; have hn' : n < L.length := by omega
                    rw [ep n hn',em n hn'];have:=mb n hn';have:=mb q hq;omega
        case g35=>intro hx;have:=mb q hq;omega
        case g37 => intro hx; have hn' : n < L.length := by omega
                    rw [ep n hn',ed n hn'];have:=mb n hn';omega
        case g38 => intro hx; have hn' : n < L.length := by omega
                    rw [ep n hn',ed n hn'];have:=mb n hn';have:=mb q hq;omega
        all_goals (intros;omega)
      case l4=>
        intro hx
        refine ⟨fun few j=>∃q:Nat,j=q∧q≤L.length∧FewOk L few q,fun _ j=>(L.length - j).toNat,⟨0,rfl,Nat.zero_le _,⟨ev_nil,Nat.le_refl _,fun r h=>by simp at h⟩⟩,?_⟩
        rintro few j ⟨q,rfl,hq,hf⟩
        have fl:=hf.len
        have fi:∀r,r < few.length→eI few r < 2 * (W * H):=fun r hr=>by
          obtain ⟨j,j1,_,j3⟩:=hf.mem r hr
          rw [j3];exact C.id j (by omega)
        obtain ⟨f1,f2⟩:=clnE_0 (w:=W) (h:=H) (win:=w) (l:=few) (by omega) (by omega) (by omega) hf.ev (by omega) fi
        have eF:v7e fn a0 a1 few a3=clnN W few w few.length:=by simp only [v7e,hW,hH,hw',(hf21 _ _ _ _ _).1,hrw,f2]
        constructor
        all_goals (try simp only [vZ7,v7f,eL,eC,hW,hH,hw',(hf21 _ _ _ _ _).2,hi,f1,Int.toNat_natCast])
        case n63=>intro h1 h2;exact ⟨⟨q+1,by omega,by omega,hf.push C.ev (by omega)⟩,by omega⟩
        case n65=>intro h1 h2;exact ⟨⟨q+1,by omega,by omega,hf.skip⟩,by omega⟩
        case g61=>intro h1 h2;simp only [List.length_cons,List.length_nil];omega
        case g66=>intro _;exact hp21 _
        case g67=>intro _ h;exact absurd trivial h
        case g68=>intro _ _ h;exact absurd (by rw [hm.len,hK]) h
        case g60=>intro _;rw [Int.tmod_eq_emod_of_nonneg (by omega)];omega
        case l5=>
          intro _ _ _
          have cl:=cln_len W few w few.length
          refine ⟨fun _ k=>∃r:Nat,k=r∧r≤(clnN W few w few.length).length,fun _ k=>((clnN W few w few.length).length - k).toNat,⟨0,rfl,Nat.zero_le _⟩,?_⟩
          rintro k0 k ⟨r,rfl,hr⟩
          constructor
          all_goals (try simp only [vZ7,eF,hf13,hb,Int.toNat_natCast])
          case n75=>intro _ _;exact ⟨⟨r+1,by omega,by omega⟩,by omega⟩
          case g73=>
            intro h1 h2
            exfalso
            obtain ⟨j,j1,j2,j3,j4⟩:=cln_mem W few w few.length r (by omega)
            obtain ⟨i,i1,i2,i3,i4⟩:=few_sup hf hq j1 j2
            have:(mgetR m [.i (eT (clnN W few w few.length) r),.i (eI (clnN W few w few.length) r)] 0 (.b false)).boo=true:=by
              rw [j3,j4,i2,i3];exact (ls i i1).2 i4
            have h2:(mgetR m [.i (eT (clnN W few w few.length) r),.i (eI (clnN W few w few.length) r)] 0 (.b false)).boo=false:=h2
            rw [this] at h2;cases h2
          case g76=>intro _;exact hp13
          case g77=>intro _;exact hR
          all_goals (intros;omega)
        all_goals (intros;omega)
      all_goals (intros;omega)
    all_goals (intros;omega)
  all_goals (intros;omega)
end HX

namespace HX
open Go Go.Proofs CX
set_option maxHeartbeats 4000000 in
set_option maxRecDepth 100000 in
theorem walk50 {ro A pre fn} (hE:EnvOk ⟨A,(cxE ro),ksF,sigL [],pre,fn⟩) {P:List (List D)→Prop} {res:List (List D)→Nat→Nat→D}
  (hv:∀(a0:Int) (a1:Int) (a2:Int),P [[.i a0],[.i a1],[.i a2]]→V50 a0 a1 a2 (res [[.i a0],[.i a1],[.i a2]]) ) :
  PureC (cxE ro) 50 ⟨[(false,[.int .i64]),(false,[.int .i64]),(false,[.int .i64])],[(false,[.bool])],false⟩ P res:=by
 have h:=hE.A
 simp only [] at h
 have hinl:∀f fn,inlL [] f=some fn→(cxE ro).fn f=some fn∧(cxE ro).ext f=none:=Inls.ok (by repeat (first |exact .nil |refine .cons rfl rfl ?_))
 refine PureC.of_vc hE hinl 6 (f:=50) (fn:=Try.f50) ⟨rfl,rfl⟩ ?_
 intro a0 a1 a2 hP
 obtain ⟨R,hR⟩:∃R,res [[.i a0],[.i a1],[.i a2]]=R:=⟨_,rfl⟩
 rw [hR]
 have hV:=hv a0 a1 a2  hP
 rw [hR] at hV
 clear hR hP hv
 cbv
 repeat' first|(refine Br.mk (fun _=>?_) (fun _=>?_)<;>cbv)|(refine NilB.mk (fun _=>?_) ?_<;>cbv)|refine And.intro ?_ ?_|exact True.intro
 ·rename_i hp0_0
  subst h;exact hV.g0 (dt hp0_0)
 ·rename_i hp1_0
  subst h;exact hV.g1 (df hp1_0)
end HX

namespace HX
open Go Go.Proofs CX
set_option maxHeartbeats 4000000 in
set_option maxRecDepth 100000 in
theorem walk100 {ro A pre fn} (hE:EnvOk ⟨A,(cxE ro),ksF,sigL [],pre,fn⟩) {P:List (List D)→Prop} {res:List (List D)→Nat→Nat→D}
  (hv:∀(a0:Int) (a1:Int),P [[.i a0],[.i a1]]→V100 a0 a1 (res [[.i a0],[.i a1]]) ) :
  PureC (cxE ro) 100 ⟨[(false,[.int .i64]),(false,[.int .i64])],[(false,[.int .i64])],false⟩ P res:=by
 have h:=hE.A
 simp only [] at h
 have hinl:∀f fn,inlL [(112,Try.f112)] f=some fn→(cxE ro).fn f=some fn∧(cxE ro).ext f=none:=Inls.ok (by repeat (first |exact .nil |refine .cons rfl rfl ?_))
 refine PureC.of_vc hE hinl 6 (f:=100) (fn:=Try.f100) ⟨rfl,rfl⟩ ?_
 intro a0 a1 hP
 obtain ⟨R,hR⟩:∃R,res [[.i a0],[.i a1]]=R:=⟨_,rfl⟩
 rw [hR]
 have hV:=hv a0 a1  hP
 rw [hR] at hV
 clear hR hP hv
 cbv
 repeat' first|(refine Br.mk (fun _=>?_) (fun _=>?_)<;>cbv)|(refine NilB.mk (fun _=>?_) ?_<;>cbv)|refine And.intro ?_ ?_|exact True.intro
 ·rename_i hp0_0 hp0_1
  subst h;exact hV.g0 (df (nt hp0_0)) (df (nt hp0_1))
 ·rename_i hp1_0 hp1_1
  subst h;exact hV.g1 (df (nt hp1_0)) (dt (nf hp1_1))
 ·rename_i hp2_0 hp2_1
  subst h;exact hV.g2 (dt (nf hp2_0)) (df (nt hp2_1))
 ·rename_i hp3_0 hp3_1 hp3_2
  subst h;exact hV.g3 (dt (nf hp3_0)) (dt (nf hp3_1)) (dt hp3_2)
 ·rename_i hp4_0 hp4_1 hp4_2 hp4_3
  subst h;exact hV.g4 (dt (nf hp4_0)) (dt (nf hp4_1)) (df hp4_2) (dt hp4_3)
 ·rename_i hp5_0 hp5_1 hp5_2 hp5_3
  subst h;exact hV.g5 (dt (nf hp5_0)) (dt (nf hp5_1)) (df hp5_2) (df hp5_3)
end HX

namespace HX
open Go Go.Proofs CX
set_option maxHeartbeats 4000000 in
set_option maxRecDepth 100000 in
theorem walk76 {ro A pre fn} (hE:EnvOk ⟨A,(cxE ro),ksF,sigL [(100,⟨[(false,[.int .i64]),(false,[.int .i64])],[(false,[.int .i64])],false⟩)],pre,fn⟩) {P:List (List D)→Prop} {res:List (List D)→Nat→Nat→D}
  (hv:∀(a0_0:Int) (a0_1:Int) (a1_0:Int) (a1_1:Int),P [[.i a0_0,.i a0_1],[.i a1_0,.i a1_1]]→∃(I0:Int→Int→Prop) (m0:Int→Int→Nat),V76 pre fn a0_0 a0_1 a1_0 a1_1 (res [[.i a0_0,.i a0_1],[.i a1_0,.i a1_1]]) I0 m0) :
  PureC (cxE ro) 76 ⟨[(true,[.int .i64,.int .i64]),(true,[.int .i64,.int .i64])],[(false,[.int .i64])],false⟩ P res:=by
 have h:=hE.A
 simp only [] at h
 have hinl:∀f fn,inlL [(99,Try.f99)] f=some fn→(cxE ro).fn f=some fn∧(cxE ro).ext f=none:=Inls.ok (by repeat (first |exact .nil |refine .cons rfl rfl ?_))
 refine PureC.of_vc hE hinl 6 (f:=76) (fn:=Try.f76) ⟨rfl,rfl⟩ ?_
 intro a0_0 a0_1 a1_0 a1_1 hP
 obtain ⟨R,hR⟩:∃R,res [[.i a0_0,.i a0_1],[.i a1_0,.i a1_1]]=R:=⟨_,rfl⟩
 rw [hR]
 obtain ⟨I0,m0,hV⟩:=hv a0_0 a0_1 a1_0 a1_1  hP
 rw [hR] at hV
 clear hR hP hv
 cbv
 repeat' first|(refine Br.mk (fun _=>?_) (fun _=>?_)<;>cbv)|(refine NilB.mk (fun _=>?_) ?_<;>cbv)|refine And.intro ?_ ?_|exact True.intro
 ·subst h;exact hV.g0
 ·subst h;exact hV.g1
 ·refine Leaf.gen fun σz hσz=>?_
  refine loopB hE hinl 6 [] [] [] (fun x:Int×Int=>[.i x.1,.i x.2]) (fun x=>I0 x.1 x.2) (fun x=>m0 x.1 x.2) (0,0) (by subst h;exact hV.i0) ?_ ?_<;>subst hσz
  ·clear hE hinl hV;cbv;(try repeat' first|rfl|assumption|constructor)
  ·intro ⟨x0_0,x0_1⟩ hI0 K0 hK0
   cbv
   repeat' first|(refine Br.mk (fun _=>?_) (fun _=>?_)<;>cbv)|(refine NilB.mk (fun _=>?_) ?_<;>cbv)|refine And.intro ?_ ?_|exact True.intro
   ·next a=>subst h;exact hV.g3 _ _ hI0 (dt a)
   ·next a=>subst h;exact hV.g4 _ _ hI0 (dt a)
   ·next a=>subst h;exact hV.g5 _ _ hI0 (dt a)
   ·next a b=>subst h;exact hV.g6 _ _ hI0 (dt a) (df (nt b))
   ·next a b=>subst h;exact hV.g7 _ _ hI0 (dt a) (dt (nf b))
   ·rename_i p8a p8b
    refine hK0 (x0_0,A.add x0_1 1) _ ?_ ?_ ?_
    ·subst h;exact (hV.n8 _ _ hI0 (dt p8a) (dt (nf p8b))).1
    ·subst h;exact (hV.n8 _ _ hI0 (dt p8a) (dt (nf p8b))).2
    ·clear hE hinl hV hK0;cbv;(try repeat' first|rfl|assumption|constructor)
   ·next a=>subst h;exact hV.g9 _ _ hI0 (df a)
end HX

namespace HX
open Go Go.Proofs CX
set_option maxHeartbeats 4000000 in
set_option maxRecDepth 100000 in
theorem walk71 {ro A pre fn} (hE:EnvOk ⟨A,(cxE ro),ksF,sigL [(50,⟨[(false,[.int .i64]),(false,[.int .i64]),(false,[.int .i64])],[(false,[.bool])],false⟩),(76,⟨[(true,[.int .i64,.int .i64]),(true,[.int .i64,.int .i64])],[(false,[.int .i64])],false⟩)],pre,fn⟩) {P:List (List D)→Prop} {res:List (List D)→Nat→Nat→D}
  (hv:∀(a0:Rows) (a1_0:Int) (a1_1:Int),ShR [.int .i64,.int .i64] a0→P [[.l a0],[.i a1_0,.i a1_1]]→V71 pre fn a0 a1_0 a1_1 (res [[.l a0],[.i a1_0,.i a1_1]]) ) :
  PureC (cxE ro) 71 ⟨[(false,[.sl [.int .i64,.int .i64]]),(true,[.int .i64,.int .i64])],[(false,[.int .i64])],false⟩ P res:=by
 have h:=hE.A
 simp only [] at h
 have hinl:∀f fn,inlL [] f=some fn→(cxE ro).fn f=some fn∧(cxE ro).ext f=none:=Inls.ok (by repeat (first |exact .nil |refine .cons rfl rfl ?_))
 refine PureC.of_vc hE hinl 6 (f:=71) (fn:=Try.f71) ⟨rfl,rfl⟩ ?_
 intro a0 ha0 a1_0 a1_1 hP
 obtain ⟨R,hR⟩:∃R,res [[.l a0],[.i a1_0,.i a1_1]]=R:=⟨_,rfl⟩
 rw [hR]
 have hV:=hv a0 a1_0 a1_1 ha0 hP
 rw [hR] at hV
 clear hR hP hv
 cbv
 repeat' first|(refine Br.mk (fun _=>?_) (fun _=>?_)<;>cbv)|(refine NilB.mk (fun _=>?_) ?_<;>cbv)|refine And.intro ?_ ?_|exact True.intro
 ·subst h;exact hV.g0
 ·next a=>subst h;exact hV.g1 (nt a)
 ·next a=>subst h;exact hV.g2 (nf a)
 ·next a b=>subst h;exact hV.g3 (nf a) (nt b)
 ·next a b c=>subst h;exact hV.g4 (nf a) (nf b) (dt c)
 ·next a b c=>subst h;exact hV.g5 (nf a) (nf b) (dt c)
 ·next a b c=>subst h;exact hV.g6 (nf a) (nf b) (dt c)
 ·next a b c=>subst h;exact hV.g7 (nf a) (nf b) (dt c)
 ·next a b c=>subst h;exact hV.g8 (nf a) (nf b) (dt c)
 ·next a b c d=>subst h;exact hV.g9 (nf a) (nf b) (dt c) (dt d)
 ·next a b c d=>subst h;exact hV.g10 (nf a) (nf b) (dt c) (df d)
 ·next a b c=>subst h;exact hV.g11 (nf a) (nf b) (df c)
end HX

namespace HX
open Go Go.Proofs CX
set_option maxHeartbeats 4000000 in
set_option maxRecDepth 100000 in
theorem walk51 {ro A pre fn} (hE:EnvOk ⟨A,(cxE ro),ksF,sigL [(71,⟨[(false,[.sl [.int .i64,.int .i64]]),(true,[.int .i64,.int .i64])],[(false,[.int .i64])],false⟩)],pre,fn⟩) {P:List (List D)→Prop} {res:List (List D)→Nat→Nat→D}
  (hv:∀(a0:Rows),ShR [.int .i64,.int .i64] a0→P [[.l a0]]→∃(I0:Int→Int→Prop) (m0:Int→Int→Nat),V51 pre fn a0 (res [[.l a0]]) I0 m0) :
  PureC (cxE ro) 51 ⟨[(false,[.sl [.int .i64,.int .i64]])],[(false,[.int .i64])],false⟩ P res:=by
 have h:=hE.A
 simp only [] at h
 have hinl:∀f fn,inlL [] f=some fn→(cxE ro).fn f=some fn∧(cxE ro).ext f=none:=Inls.ok (by repeat (first |exact .nil |refine .cons rfl rfl ?_))
 refine PureC.of_vc hE hinl 6 (f:=51) (fn:=Try.f51) ⟨rfl,rfl⟩ ?_
 intro a0 ha0 hP
 obtain ⟨R,hR⟩:∃R,res [[.l a0]]=R:=⟨_,rfl⟩
 rw [hR]
 obtain ⟨I0,m0,hV⟩:=hv a0 ha0 hP
 rw [hR] at hV
 clear hR hP hv
 cbv
 repeat' first|(refine Br.mk (fun _=>?_) (fun _=>?_)<;>cbv)|(refine NilB.mk (fun _=>?_) ?_<;>cbv)|refine And.intro ?_ ?_|exact True.intro
 ·next a=>subst h;exact hV.g0 (dt a)
 ·rename_i p1a
  refine Leaf.gen fun σz hσz=>?_
  refine loopB hE hinl 6 [] [] [] (fun x:Int×Int=>[.i x.1,.i x.2]) (fun x=>I0 x.1 x.2) (fun x=>m0 x.1 x.2) (0,0) (by subst h;exact hV.i0 (df p1a)) ?_ ?_<;>subst hσz
  ·clear hE hinl hV;cbv;(try repeat' first|rfl|assumption|constructor)
  ·intro ⟨x0_0,x0_1⟩ hI0 K0 hK0
   cbv
   repeat' first|(refine Br.mk (fun _=>?_) (fun _=>?_)<;>cbv)|(refine NilB.mk (fun _=>?_) ?_<;>cbv)|refine And.intro ?_ ?_|exact True.intro
   ·next a=>subst h;exact hV.g2 _ _ hI0 (df p1a) (dt a)
   ·next a=>subst h;exact hV.g3 _ _ hI0 (df p1a) (dt a)
   ·next a=>subst h;exact hV.g4 _ _ hI0 (df p1a) (dt a)
   ·next a=>subst h;exact hV.g2 _ _ hI0 (df p1a) (dt a)
   ·next a=>subst h;exact hV.g6 _ _ hI0 (df p1a) (dt a)
   ·next a=>subst h;exact hV.g7 _ _ hI0 (df p1a) (dt a)
   ·next a b=>subst h;exact hV.g8 _ _ hI0 (df p1a) (dt a) (df (nt b))
   ·next a b=>subst h;exact hV.g9 _ _ hI0 (df p1a) (dt a) (dt (nf b))
   ·rename_i p10a p10b
    refine hK0 (x0_0,A.add x0_1 1) _ ?_ ?_ ?_
    ·subst h;exact (hV.n10 _ _ hI0 (df p1a) (dt p10a) (dt (nf p10b))).1
    ·subst h;exact (hV.n10 _ _ hI0 (df p1a) (dt p10a) (dt (nf p10b))).2
    ·clear hE hinl hV hK0;cbv;(try repeat' first|rfl|assumption|constructor)
   ·next a=>subst h;exact hV.g11 _ _ hI0 (df p1a) (df a)
end HX

namespace HX
open Go Go.Proofs CX
set_option maxHeartbeats 4000000 in
set_option maxRecDepth 100000 in
theorem walk52 {ro A pre fn} (hE:EnvOk ⟨A,(cxE ro),ksF,sigL [],pre,fn⟩) {P:List (List D)→Prop} {res:List (List D)→Nat→Nat→D}
  (hv:∀(a0_0:Int) (a0_1:Int) (a0_2:Int),P [[.i a0_0,.i a0_1,.i a0_2]]→V52 a0_0 a0_1 a0_2 (res [[.i a0_0,.i a0_1,.i a0_2]]) ) :
  PureC (cxE ro) 52 ⟨[(true,[.int .i64,.int .i64,.int .i64])],[(false,[.int .i64])],false⟩ P res:=by
 have h:=hE.A
 simp only [] at h
 have hinl:∀f fn,inlL [] f=some fn→(cxE ro).fn f=some fn∧(cxE ro).ext f=none:=Inls.ok (by repeat (first |exact .nil |refine .cons rfl rfl ?_))
 refine PureC.of_vc hE hinl 6 (f:=52) (fn:=Try.f52) ⟨rfl,rfl⟩ ?_
 intro a0_0 a0_1 a0_2 hP
 obtain ⟨R,hR⟩:∃R,res [[.i a0_0,.i a0_1,.i a0_2]]=R:=⟨_,rfl⟩
 rw [hR]
 have hV:=hv a0_0 a0_1 a0_2  hP
 rw [hR] at hV
 clear hR hP hv
 cbv
 repeat' first|(refine Br.mk (fun _=>?_) (fun _=>?_)<;>cbv)|(refine NilB.mk (fun _=>?_) ?_<;>cbv)|refine And.intro ?_ ?_|exact True.intro
 ·subst h;exact hV.g0
 ·subst h;exact hV.g1
end HX

namespace HX
open Go Go.Proofs CX
set_option maxHeartbeats 4000000 in
set_option maxRecDepth 100000 in
theorem walk36 {ro A pre fn} (hE:EnvOk ⟨A,(cxE ro),ksF,sigL [],pre,fn⟩) {P:List (List D)→Prop} {res:List (List D)→Nat→Nat→D}
  (hv:∀(a0_0:Int) (a0_1:Int) (a0_2:Int) (a1:Rows) (a2:Int),ShR [.int .i64,.int .i64] a1→P [[.i a0_0,.i a0_1,.i a0_2],[.l a1],[.i a2]]→∃(I0:Int→Rows→Prop) (m0:Int→Rows→Nat) (I1:Int→Rows→Rows→Int→Prop) (m1:Int→Rows→Rows→Int→Nat) (I2:Int→Rows→Rows→Int→Rows→Int→Prop) (m2:Int→Rows→Rows→Int→Rows→Int→Nat),V36 a0_0 a0_1 a0_2 a1 a2 (res [[.i a0_0,.i a0_1,.i a0_2],[.l a1],[.i a2]]) I0 m0 I1 m1 I2 m2) :
  PureC (cxE ro) 36 ⟨[(true,[.int .i64,.int .i64,.int .i64]),(false,[.sl [.int .i64,.int .i64]]),(false,[.int .i64])],[(false,[.sl [.int .i64,.int .i64]])],false⟩ P res:=by
 have h:=hE.A
 simp only [] at h
 have hinl:∀f fn,inlL [(44,Try.f44)] f=some fn→(cxE ro).fn f=some fn∧(cxE ro).ext f=none:=Inls.ok (by repeat (first |exact .nil |refine .cons rfl rfl ?_))
 refine PureC.of_vc hE hinl 6 (f:=36) (fn:=Try.f36) ⟨rfl,rfl⟩ ?_
 intro a0_0 a0_1 a0_2 a1 ha1 a2 hP
 obtain ⟨R,hR⟩:∃R,res [[.i a0_0,.i a0_1,.i a0_2],[.l a1],[.i a2]]=R:=⟨_,rfl⟩
 rw [hR]
 obtain ⟨I0,m0,I1,m1,I2,m2,hV⟩:=hv a0_0 a0_1 a0_2 a1 a2 ha1 hP
 rw [hR] at hV
 clear hR hP hv
 cbv
 repeat' first|(refine Br.mk (fun _=>?_) (fun _=>?_)<;>cbv)|(refine NilB.mk (fun _=>?_) ?_<;>cbv)|refine And.intro ?_ ?_|exact True.intro
 ·subst h;exact hV.g0
 ·subst h;exact hV.g1
 ·refine Leaf.gen fun σz hσz=>?_
  refine loopB hE hinl 6 [] [] [(2,[])] (fun x:Int×Rows=>[.i x.1,.l x.2]) (fun x=>I0 x.1 x.2) (fun x=>m0 x.1 x.2) (0,[]) (by subst h;exact hV.i0) ?_ ?_<;>subst hσz
  ·clear hE hinl hV;cbv;(try repeat' first|rfl|assumption|constructor)
  ·intro ⟨x0_0,x0_1⟩ hI0 K0 hK0
   cbv
   repeat' first|(refine Br.mk (fun _=>?_) (fun _=>?_)<;>cbv)|(refine NilB.mk (fun _=>?_) ?_<;>cbv)|refine And.intro ?_ ?_|exact True.intro
   ·rename_i hp3_0
    subst h;exact hV.g3 _ _ hI0 (dt hp3_0)
   ·rename_i hp4_0
    subst h;exact hV.g4 _ _ hI0 (dt hp4_0)
   ·rename_i hp5_0
    subst h;exact hV.g5 _ _ hI0 (dt hp5_0)
   ·rename_i hp6_0
    subst h;exact hV.g6 _ _ hI0 (dt hp6_0)
   ·rename_i hp7_0
    subst h;exact hV.g7 _ _ hI0 (dt hp7_0)
   ·rename_i hp8_0
    subst h;exact hV.g8 _ _ hI0 (dt hp8_0)
   ·rename_i hp9_0
    subst h;exact hV.g9 _ _ hI0 (dt hp9_0)
   ·rename_i hp10_0
    subst h;exact hV.g10 _ _ hI0 (dt hp10_0)
   ·rename_i hp11_0
    refine hK0 (A.add x0_0 1,A.mset x0_1 [D.i (A.tmod (A.wrap .u64 (A.di (A.get a1 (A.toNat x0_0) 0))) (A.wrap .u64 a2)),D.i (A.tmod (A.wrap .u64 (A.di (A.get a1 (A.toNat x0_0) 1))) (A.wrap .u64 (A.mul (A.mul 2 a0_0) a0_1)))] [D.b true]) _ ?_ ?_ ?_
    ·subst h;exact (hV.n11 _ _ hI0 (dt hp11_0)).1
    ·subst h;exact (hV.n11 _ _ hI0 (dt hp11_0)).2
    ·clear hE hinl hV hK0;cbv;(try repeat' first|rfl|assumption|constructor)
   ·rename_i hp12_0
    refine Leaf.gen fun σz hσz=>?_
    refine loopB hE hinl 6 [] [] [] (fun x:Rows×Int=>[.l x.1,.i x.2]) (fun x=>I1 x0_0 x0_1 x.1 x.2) (fun x=>m1 x0_0 x0_1 x.1 x.2) ([],0) (by subst h;exact hV.i1 _ _ hI0 (df hp12_0)) ?_ ?_<;>subst hσz
    ·clear hE hinl hV;cbv;(try repeat' first|rfl|assumption|constructor)
    ·intro ⟨x1_0,x1_1⟩ hI1 K1 hK1
     cbv
     repeat' first|(refine Br.mk (fun _=>?_) (fun _=>?_)<;>cbv)|(refine NilB.mk (fun _=>?_) ?_<;>cbv)|refine And.intro ?_ ?_|exact True.intro
     ·rename_i hp13_0
      refine Leaf.gen fun σz hσz=>?_
      refine loopB hE hinl 6 [] [] [] (fun x:Rows×Int=>[.l x.1,.i x.2]) (fun x=>I2 x0_0 x0_1 x1_0 x1_1 x.1 x.2) (fun x=>m2 x0_0 x0_1 x1_0 x1_1 x.1 x.2) (x1_0,0) (by subst h;exact hV.i2 _ _ hI0 _ _ hI1 (df hp12_0) (dt hp13_0)) ?_ ?_<;>subst hσz
      ·clear hE hinl hV;cbv;(try repeat' first|rfl|assumption|constructor)
      ·intro ⟨x2_0,x2_1⟩ hI2 K2 hK2
       cbv
       repeat' first|(refine Br.mk (fun _=>?_) (fun _=>?_)<;>cbv)|(refine NilB.mk (fun _=>?_) ?_<;>cbv)|refine And.intro ?_ ?_|exact True.intro
       ·rename_i hp14_0 hp14_1
        subst h;exact hV.g14 _ _ hI0 _ _ hI1 _ _ hI2 (df hp12_0) (dt hp13_0) (dt hp14_0) hp14_1
       ·rename_i hp15_0 hp15_1
        subst h;exact hV.g15 _ _ hI0 _ _ hI1 _ _ hI2 (df hp12_0) (dt hp13_0) (dt hp15_0) hp15_1
       ·rename_i hp16_0 hp16_1
        refine hK2 (A.app x2_0 [[D.i x1_1,D.i x2_1]],A.add x2_1 1) _ ?_ ?_ ?_
        ·subst h;exact (hV.n16 _ _ hI0 _ _ hI1 _ _ hI2 (df hp12_0) (dt hp13_0) (dt hp16_0) hp16_1).1
        ·subst h;exact (hV.n16 _ _ hI0 _ _ hI1 _ _ hI2 (df hp12_0) (dt hp13_0) (dt hp16_0) hp16_1).2
        ·clear hE hinl hV hK2;cbv;(try repeat' first|rfl|assumption|constructor)
       ·rename_i hp17_0 hp17_1
        subst h;exact hV.g17 _ _ hI0 _ _ hI1 _ _ hI2 (df hp12_0) (dt hp13_0) (dt hp17_0) hp17_1
       ·rename_i hp18_0 hp18_1
        refine hK2 (x2_0,A.add x2_1 1) _ ?_ ?_ ?_
        ·subst h;exact (hV.n18 _ _ hI0 _ _ hI1 _ _ hI2 (df hp12_0) (dt hp13_0) (dt hp18_0) hp18_1).1
        ·subst h;exact (hV.n18 _ _ hI0 _ _ hI1 _ _ hI2 (df hp12_0) (dt hp13_0) (dt hp18_0) hp18_1).2
        ·clear hE hinl hV hK2;cbv;(try repeat' first|rfl|assumption|constructor)
       ·rename_i hp19_0
        subst h;exact hV.g19 _ _ hI0 _ _ hI1 _ _ hI2 (df hp12_0) (dt hp13_0) (df hp19_0)
       ·rename_i hp20_0
        refine hK1 (x2_0,A.add x1_1 1) _ ?_ ?_ ?_
        ·subst h;exact (hV.n20 _ _ hI0 _ _ hI1 _ _ hI2 (df hp12_0) (dt hp13_0) (df hp20_0)).1
        ·subst h;exact (hV.n20 _ _ hI0 _ _ hI1 _ _ hI2 (df hp12_0) (dt hp13_0) (df hp20_0)).2
        ·clear hE hinl hV hK1;cbv;(try repeat' first|rfl|assumption|constructor)
     ·rename_i hp21_0
      subst h;exact hV.g21 _ _ hI0 _ _ hI1 (df hp12_0) (df hp21_0)
end HX
