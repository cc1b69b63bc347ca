/-
  Texts of the executors: V19, SvE, V22, SvF, V53, V89, V65, V66, V40, V54, PqN, V28, PqP, PqQ, PqB, PqL, W50, W53, W100, W76, W71, W51, W40, W54, W52, W46, W48, W49, W59, W17, W55, W20, W14, HxJoin, W16.
-/
import Derived.Test.YtmnaiddobipclaaSenseSees9
set_option linter.all false
namespace HX
open Go Go.Proofs CX
abbrev vZ19 (x:Int):=-9223372036854775808≤x∧x≤9223372036854775807
abbrev v19a (a2:Rows) (f0:Int):=(Int.tmod (D.int (gt a2 f0.toNat 1)) 2)
abbrev v19b (a2:Rows) (f0:Int):=(Int.tdiv (D.int (gt a2 f0.toNat 1)) 2)
abbrev v19c (a2:Rows) (f0:Int) (e1:Int):=((D.int (gt a2 f0.toNat 0))=e1)
abbrev v19d (a0_0:Int) (a0_1:Int) (a2:Rows) (d2:Int):=(¬((2 * a0_0) * a0_1)≤(D.int (gt a2 d2.toNat 1)))
structure V19r0 (pre:Nat→List (List D)→Prop) (fn:Nat→List (List D)→Nat→Nat→D) (a0_0:Int) (a0_1:Int) (a0_2:Int) (a1:Rows) (a2:Rows) (I0:Int→Prop):Prop where
 g8:((D.int (fn 49 [[D.i a0_0,D.i a0_1,D.i a0_2],[D.l a1]] 0 0))=0)→pre 54 [[D.l a2]]
 n9:((D.int (fn 49 [[D.i a0_0,D.i a0_1,D.i a0_2],[D.l a1]] 0 0))=0)→I0 (D.int (fn 54 [[D.l a2]] 0 0))
 n10:(¬(D.int (fn 49 [[D.i a0_0,D.i a0_1,D.i a0_2],[D.l a1]] 0 0))=0)→I0 (D.int (fn 49 [[D.i a0_0,D.i a0_1,D.i a0_2],[D.l a1]] 0 0))
structure V19c3 (a0_2:Int) (a2:Rows) (e0:Rows) (e1:Int) (e2:Rows) (f0:Int) (f1:Rows) (I2:Rows→Int→Rows→Prop) (m2:Rows→Int→Rows→Nat) (I3:Int→Rows→Prop) (m3:Int→Rows→Nat):Prop where
 g33:(f0 < (a2.length:Int))→0≤f0
 g34:(f0 < (a2.length:Int))→f0 < (a2.length:Int)
 g35:(f0 < (a2.length:Int))→(((Int.toNat f0:Nat):Int)) < (a2.length:Int)
 g36:(f0 < (a2.length:Int))→(¬(D.int (gt a2 f0.toNat 0))=e1)→vZ19 ((f0+1))
 n37:(f0 < (a2.length:Int))→(¬(D.int (gt a2 f0.toNat 0))=e1)→I3 (f0+1) f1∧m3 (f0+1) f1 < m3 f0 f1
 g38:(f0 < (a2.length:Int))→(v19c a2 f0 e1)→0≤f0
 g39:(f0 < (a2.length:Int))→(v19c a2 f0 e1)→f0 < (a2.length:Int)
 g40:(f0 < (a2.length:Int))→(v19c a2 f0 e1)→(((Int.toNat f0:Nat):Int)) < (a2.length:Int)
 g41:(f0 < (a2.length:Int))→(v19c a2 f0 e1)→(2:Int)≠0
 g42:(f0 < (a2.length:Int))→(v19c a2 f0 e1)→((v19a a2 f0)=1)→0≤f0
 g43:(f0 < (a2.length:Int))→(v19c a2 f0 e1)→((v19a a2 f0)=1)→f0 < (a2.length:Int)
 g44:(f0 < (a2.length:Int))→(v19c a2 f0 e1)→((v19a a2 f0)=1)→(((Int.toNat f0:Nat):Int)) < (a2.length:Int)
 g45:(f0 < (a2.length:Int))→(v19c a2 f0 e1)→((v19a a2 f0)=1)→(2:Int)≠0
 g46:(f0 < (a2.length:Int))→(v19c a2 f0 e1)→((v19a a2 f0)=1)→vZ19 ((v19b a2 f0))
 g47:(f0 < (a2.length:Int))→(v19c a2 f0 e1)→((v19a a2 f0)=1)→0≤(v19b a2 f0)
 g48:(f0 < (a2.length:Int))→(v19c a2 f0 e1)→((v19a a2 f0)=1)→(v19b a2 f0) < (f1.length:Int)
 g49:(f0 < (a2.length:Int))→(v19c a2 f0 e1)→((v19a a2 f0)=1)→(((Int.toNat (v19b a2 f0):Nat):Int)) < (f1.length:Int)
 g51:(f0 < (a2.length:Int))→(v19c a2 f0 e1)→((v19a a2 f0)=1)→vZ19 (((D.int (gt f1 (Int.toNat (v19b a2 f0)) 0))+a0_2))
 g55:(f0 < (a2.length:Int))→(v19c a2 f0 e1)→((v19a a2 f0)=1)→vZ19 ((f0+1))
 n56:(f0 < (a2.length:Int))→(v19c a2 f0 e1)→((v19a a2 f0)=1)→I3 (f0+1) (List.set f1 (Int.toNat (v19b a2 f0)) [D.i ((D.int (gt f1 (Int.toNat (v19b a2 f0)) 0))+a0_2)])∧m3 (f0+1) (List.set f1 (Int.toNat (v19b a2 f0)) [D.i ((D.int (gt f1 (Int.toNat (v19b a2 f0)) 0))+a0_2)]) < m3 f0 f1
 g57:(f0 < (a2.length:Int))→(v19c a2 f0 e1)→(¬(v19a a2 f0)=1)→0≤f0
 g58:(f0 < (a2.length:Int))→(v19c a2 f0 e1)→(¬(v19a a2 f0)=1)→f0 < (a2.length:Int)
 g59:(f0 < (a2.length:Int))→(v19c a2 f0 e1)→(¬(v19a a2 f0)=1)→(((Int.toNat f0:Nat):Int)) < (a2.length:Int)
 g60:(f0 < (a2.length:Int))→(v19c a2 f0 e1)→(¬(v19a a2 f0)=1)→(2:Int)≠0
 g61:(f0 < (a2.length:Int))→(v19c a2 f0 e1)→(¬(v19a a2 f0)=1)→vZ19 ((v19b a2 f0))
 g62:(f0 < (a2.length:Int))→(v19c a2 f0 e1)→(¬(v19a a2 f0)=1)→0≤(v19b a2 f0)
 g63:(f0 < (a2.length:Int))→(v19c a2 f0 e1)→(¬(v19a a2 f0)=1)→(v19b a2 f0) < (f1.length:Int)
 g64:(f0 < (a2.length:Int))→(v19c a2 f0 e1)→(¬(v19a a2 f0)=1)→(((Int.toNat (v19b a2 f0):Nat):Int)) < (f1.length:Int)
 g66:(f0 < (a2.length:Int))→(v19c a2 f0 e1)→(¬(v19a a2 f0)=1)→vZ19 (((D.int (gt f1 (Int.toNat (v19b a2 f0)) 0)) - a0_2))
 g70:(f0 < (a2.length:Int))→(v19c a2 f0 e1)→(¬(v19a a2 f0)=1)→vZ19 ((f0+1))
 n71:(f0 < (a2.length:Int))→(v19c a2 f0 e1)→(¬(v19a a2 f0)=1)→I3 (f0+1) (List.set f1 (Int.toNat (v19b a2 f0)) [D.i ((D.int (gt f1 (Int.toNat (v19b a2 f0)) 0)) - a0_2)])∧m3 (f0+1) (List.set f1 (Int.toNat (v19b a2 f0)) [D.i ((D.int (gt f1 (Int.toNat (v19b a2 f0)) 0)) - a0_2)]) < m3 f0 f1
 g72:(¬f0 < (a2.length:Int))→((List.length ([]:Rows))+f1.length) * 8≤4294967296∧((List.length ([]:Rows))+f1.length)≤4294967296
 g73:(¬f0 < (a2.length:Int))→(e0.length+(List.length ([[D.l ([]++f1)]]:Rows))) * 24≤4294967296∧(e0.length+(List.length ([[D.l ([]++f1)]]:Rows)))≤4294967296
 g74:(¬f0 < (a2.length:Int))→vZ19 ((e1+1))
 n75:(¬f0 < (a2.length:Int))→I2 (e0++[[D.l ([]++f1)]]) (e1+1) f1∧m2 (e0++[[D.l ([]++f1)]]) (e1+1) f1 < m2 e0 e1 e2
abbrev V19l3 (a0_2:Int) (a2:Rows) (e0:Rows) (e1:Int) (e2:Rows) (I2:Rows→Int→Rows→Prop) (m2:Rows→Int→Rows→Nat):Prop:=∃(I3:Int→Rows→Prop) (m3:Int→Rows→Nat),I3 0 e2∧∀f0 f1,I3 f0 f1→V19c3 a0_2 a2 e0 e1 e2 f0 f1 I2 m2 I3 m3
structure V19c2 (a0_2:Int) (a2:Rows) (a3:Int) (R:Nat→Nat→D) (e0:Rows) (e1:Int) (e2:Rows) (I2:Rows→Int→Rows→Prop) (m2:Rows→Int→Rows→Nat):Prop where
 g76:(¬e1 < a3)→R 0 0=D.l e0
 g77:(¬e1 < a3)→R 1 0=D.i 0
 l3:(e1 < a3)→V19l3 a0_2 a2 e0 e1 e2 I2 m2
abbrev V19l2 (a0_2:Int) (a1:Rows) (a2:Rows) (a3:Int) (R:Nat→Nat→D):Prop:=∃(I2:Rows→Int→Rows→Prop) (m2:Rows→Int→Rows→Nat),I2 [] 0 ([]++a1)∧∀e0 e1 e2,I2 e0 e1 e2→V19c2 a0_2 a2 a3 R e0 e1 e2 I2 m2
structure V19c1 (pre:Nat→List (List D)→Prop) (fn:Nat→List (List D)→Nat→Nat→D) (a0_0:Int) (a0_1:Int) (a0_2:Int) (a1:Rows) (a2:Rows) (a3:Int) (R:Nat→Nat→D) (d0:Rows) (d1:Int) (d2:Int) (I1:Rows→Int→Int→Prop) (m1:Rows→Int→Int→Nat):Prop where
 g14:(d2 < (a2.length:Int))→0≤d2
 g15:(d2 < (a2.length:Int))→d2 < (a2.length:Int)
 g16:(d2 < (a2.length:Int))→(((Int.toNat d2:Nat):Int)) < (a2.length:Int)
 g17:(d2 < (a2.length:Int))→vZ19 ((2 * a0_0))
 g18:(d2 < (a2.length:Int))→vZ19 (((2 * a0_0) * a0_1))
 g19:(d2 < (a2.length:Int))→(((2 * a0_0) * a0_1)≤(D.int (gt a2 d2.toNat 1)))→R 0 0=D.l []
 g20:(d2 < (a2.length:Int))→(((2 * a0_0) * a0_1)≤(D.int (gt a2 d2.toNat 1)))→R 1 0=D.i 3
 g21:(d2 < (a2.length:Int))→(v19d a0_0 a0_1 a2 d2)→0≤d2
 g22:(d2 < (a2.length:Int))→(v19d a0_0 a0_1 a2 d2)→d2 < (a2.length:Int)
 g23:(d2 < (a2.length:Int))→(v19d a0_0 a0_1 a2 d2)→(((Int.toNat d2:Nat):Int)) < (a2.length:Int)
 g24:(d2 < (a2.length:Int))→(v19d a0_0 a0_1 a2 d2)→vZ19 ((a3 - 1))
 g25:(d2 < (a2.length:Int))→(v19d a0_0 a0_1 a2 d2)→pre 53 [[D.i (D.int (gt a2 d2.toNat 0))],[D.i 1],[D.i (a3 - 1)]]
 g26:(d2 < (a2.length:Int))→(v19d a0_0 a0_1 a2 d2)→(D.boo (fn 53 [[D.i (D.int (gt a2 d2.toNat 0))],[D.i 1],[D.i (a3 - 1)]] 0 0)=false)→R 0 0=D.l []
 g27:(d2 < (a2.length:Int))→(v19d a0_0 a0_1 a2 d2)→(D.boo (fn 53 [[D.i (D.int (gt a2 d2.toNat 0))],[D.i 1],[D.i (a3 - 1)]] 0 0)=false)→R 1 0=D.i 3
 g28:(d2 < (a2.length:Int))→(v19d a0_0 a0_1 a2 d2)→(D.boo (fn 53 [[D.i (D.int (gt a2 d2.toNat 0))],[D.i 1],[D.i (a3 - 1)]] 0 0)=true)→vZ19 ((d2+1))
 n29:(d2 < (a2.length:Int))→(v19d a0_0 a0_1 a2 d2)→(D.boo (fn 53 [[D.i (D.int (gt a2 d2.toNat 0))],[D.i 1],[D.i (a3 - 1)]] 0 0)=true)→I1 d0 d1 (d2+1)∧m1 d0 d1 (d2+1) < m1 d0 d1 d2
 g30:(¬d2 < (a2.length:Int))→((List.length ([]:Rows))+a1.length) * 8≤4294967296∧((List.length ([]:Rows))+a1.length)≤4294967296
 l2:(¬d2 < (a2.length:Int))→V19l2 a0_2 a1 a2 a3 R
abbrev V19l1 (pre:Nat→List (List D)→Prop) (fn:Nat→List (List D)→Nat→Nat→D) (a0_0:Int) (a0_1:Int) (a0_2:Int) (a1:Rows) (a2:Rows) (a3:Int) (R:Nat→Nat→D):Prop:=∃(I1:Rows→Int→Int→Prop) (m1:Rows→Int→Int→Nat),I1 [] 0 0∧∀d0 d1 d2,I1 d0 d1 d2→V19c1 pre fn a0_0 a0_1 a0_2 a1 a2 a3 R d0 d1 d2 I1 m1
structure V19c0 (pre:Nat→List (List D)→Prop) (fn:Nat→List (List D)→Nat→Nat→D) (a0_0:Int) (a0_1:Int) (a0_2:Int) (a1:Rows) (a2:Rows) (a3:Int) (R:Nat→Nat→D) (b0:Int):Prop where
 g11:(¬b0=0)→R 0 0=D.l []
 g12:(¬b0=0)→R 1 0=D.i b0
 l1:(b0=0)→V19l1 pre fn a0_0 a0_1 a0_2 a1 a2 a3 R
abbrev V19j0 (pre:Nat→List (List D)→Prop) (fn:Nat→List (List D)→Nat→Nat→D) (a0_0:Int) (a0_1:Int) (a0_2:Int) (a1:Rows) (a2:Rows) (a3:Int) (R:Nat→Nat→D):Prop:=∃(I0:Int→Prop),V19r0 pre fn a0_0 a0_1 a0_2 a1 a2 I0∧∀b0,I0 b0→V19c0 pre fn a0_0 a0_1 a0_2 a1 a2 a3 R b0
structure V19 (pre:Nat→List (List D)→Prop) (fn:Nat→List (List D)→Nat→Nat→D) (a0_0:Int) (a0_1:Int) (a0_2:Int) (a1:Rows) (a2:Rows) (a3:Int) (R:Nat→Nat→D):Prop where
 g0:pre 48 [[D.i a0_0,D.i a0_1,D.i a0_2]]
 g1:(¬(D.int (fn 48 [[D.i a0_0,D.i a0_1,D.i a0_2]] 0 0))=0)→R 0 0=D.l []
 g2:(¬(D.int (fn 48 [[D.i a0_0,D.i a0_1,D.i a0_2]] 0 0))=0)→R 1 0=D.i (D.int (fn 48 [[D.i a0_0,D.i a0_1,D.i a0_2]] 0 0))
 g3:((D.int (fn 48 [[D.i a0_0,D.i a0_1,D.i a0_2]] 0 0))=0)→pre 53 [[D.i a3],[D.i 0],[D.i 256]]
 g4:((D.int (fn 48 [[D.i a0_0,D.i a0_1,D.i a0_2]] 0 0))=0)→(D.boo (fn 53 [[D.i a3],[D.i 0],[D.i 256]] 0 0)=false)→R 0 0=D.l []
 g5:((D.int (fn 48 [[D.i a0_0,D.i a0_1,D.i a0_2]] 0 0))=0)→(D.boo (fn 53 [[D.i a3],[D.i 0],[D.i 256]] 0 0)=false)→R 1 0=D.i 3
 g6:((D.int (fn 48 [[D.i a0_0,D.i a0_1,D.i a0_2]] 0 0))=0)→(D.boo (fn 53 [[D.i a3],[D.i 0],[D.i 256]] 0 0)=true)→pre 49 [[D.i a0_0,D.i a0_1,D.i a0_2],[D.l a1]]
 l0:((D.int (fn 48 [[D.i a0_0,D.i a0_1,D.i a0_2]] 0 0))=0)→(D.boo (fn 53 [[D.i a3],[D.i 0],[D.i 256]] 0 0)=true)→V19j0 pre fn a0_0 a0_1 a0_2 a1 a2 a3 R
end HX

namespace HX
open Go Go.Proofs CX
section
variable {pre:Nat→List (List D)→Prop} {fn:Nat→List (List D)→Nat→Nat→D} (hp53:∀x,pre 53 x) (hf53:∀a b c,fn 53 [[.i a],[.i b],[.i c]] 0 0=.b (inB a b c))
  (hp48:∀x,pre 48 x) (hf48:∀w h s,fn 48 [[.i w,.i h,.i s]] 0 0=.i (camE w h s))
  (hp49:∀(w h s:Int) (f:Rows),1≤w∧w≤32→1≤h∧h≤32→pre 49 [[.i w,.i h,.i s],[.l f]]) (hf49:∀(w h s:Int) (f:Rows),fn 49 [[.i w,.i h,.i s],[.l f]] 0 0=.i (frE w h f))
include hp48 hf48 hp49 hf49
theorem law16 {w h s:Int} {F:Rows} {R:Nat→Nat→D} (h0:R 0 0=.l (wtR w h s F)) (h1:R 1 0=.i (wtE w h s F)):V16 pre fn w h s F R:=by
 have hi:∀n:Int,(D.i n).int=n:=fun _=>rfl
 have err:∀e:Int,¬e=0→wtE w h s F=e→R 0 0=.l []:=fun e he h=>by rw [h0,wtR,h,if_neg fun c=>he c.1]
 have e3:¬camE w h s=0→wtE w h s F=camE w h s:=fun a=>by obtain ⟨b,c⟩:=cam_3 a;rw [c,wtE,if_pos b]
 constructor
 all_goals (try simp only [hf48,hi])
 case g0=>exact hp48 _
 case g1=>intro a;exact err _ a (e3 a)
 case g2=>intro a;rw [h1,e3 a]
 case g3=>intro a d;exact err 9 (by decide) (by rw [wtE,if_neg fun h=>h (cam_0 a),if_pos (by omega)])
 case g4=>intro a d;rw [h1,wtE,if_neg fun h=>h (cam_0 a),if_pos (by omega)]
 intro a0 d
 obtain ⟨a,b,c⟩:=cam_0 a0
 have hw:=inB_t.1 a
 have hh:=inB_t.1 b
 have hs:=inB_t.1 c
 obtain ⟨n1,n2,_⟩:=twoWH hw hh
 have e1:wtE w h s F=if ¬fE w h F F.length=0 then fE w h F F.length else if 65536 < (wT s F F.length).2.length∧¬F.length=0 then 9 else 0:=by
  rw [wtE,if_neg fun h=>h ⟨a,b,c⟩,if_neg (by omega)]
 refine ⟨fun b0 b1 i=>∃q:Nat,i=q∧q≤F.length∧fE w h F q=0,fun _ _ i=>(F.length - i).toNat,⟨0,rfl,Nat.zero_le _,rfl⟩,?_⟩
 rintro _ _ i ⟨q,rfl,hq,hz⟩
 constructor
 all_goals (try simp only [hf49,hi,Int.toNat_natCast,Int.toNat_zero])
 case g9=>intros;exact hp49 _ _ _ _ hw hh
 case g10 |g11=>
  intro c1 c2
  have c2:¬frE w h (frm F q)=0:=c2
  have e2:∀n,q+1≤n→fE w h F n=frE w h (frm F q):=by
   intro n hn
   induction n with
   |zero=>omega
   |succ m ih=>
    rw [fE]
    by_cases cc:q+1≤m
    ·rw [ih cc,if_neg c2]
    ·have:m=q:=by omega
     subst this
     rw [if_pos hz]
  have e3:=e2 F.length (by omega)
  have e4:wtE w h s F=frE w h (frm F q):=by rw [e1,e3,if_pos c2]
  first
   |exact err _ c2 e4
   |rw [h1,e4];rfl
 case n13=>
  intro c1 c2
  exact ⟨⟨q+1,by omega,by omega,by rw [fE,if_pos hz];exact c2⟩,by omega⟩
 case l1=>
  intro c1
  have eq:q=F.length:=by omega
  have hF:=fE_k (n:=(w * h).toNat) (by omega) (eq ▸ hz)
  have hK:=fun h0=>wT_ok hs.1 hF h0
  refine ⟨fun d0 d1 i=>∃t:Nat,i=t∧t≤F.length∧d1=(wT s F t).2∧d0=if t=0 then [] else (wT s F t).1,fun _ _ i=>(F.length - i).toNat,⟨0,rfl,Nat.zero_le _,rfl,rfl⟩,?_⟩
  rintro d0 _ i ⟨t,rfl,ht,rfl,hd⟩
  have e5:¬(t:Int) < F.length→wtE w h s F=if 65536 < (wT s F t).2.length then 9 else 0:=by
   intro c4
   have:t=F.length:=by omega
   subst this
   rw [e1,←eq,if_neg fun h=>h hz,eq]
   split
   ·rename_i c5;rw [if_pos c5.1]
   ·rename_i c5
    by_cases z:F.length=0
    ·rw [z];rfl
    ·rw [if_neg fun c6=>c5 ⟨c6,z⟩]
  constructor
  case g64=>intro c4 c5;exact err 9 (by decide) (by rw [e5 c4,if_pos (by omega)])
  case g65=>intro c4 c5;rw [h1,e5 c4,if_pos (by omega)]
  case g66=>
   intro c4 c5
   rw [h0,wtR]
   by_cases z:F.length=0
   ·rw [if_neg fun c=>c.2 z,show t=0 by omega];rfl
   ·rw [if_pos ⟨by rw [e5 c4,if_neg (by omega)],z⟩];congr 1;congr 2;omega
  case g67=>intro c4 c5;rw [h1,e5 c4,if_neg (by omega)]
  case l2=>
   intro c4
   have l0:(D.rows (gt F 0 0)).length=(w * h).toNat:=(hF 0 (by omega)).len
   have hft:=hF t (by omega)
   obtain ⟨k1,k2⟩:=hK (by omega) t ht
   have hP:=wP_ok (t:=t) (o:=(wT s F t).2) hs.1 hft k1
   have k3:(wT s F t).2.length≤256 * 1024:=Nat.le_trans k2 (Nat.mul_le_mul (by omega) (by omega))
   refine ⟨fun e0=>e0=(wT s F t).1,?_,?_⟩
   ·constructor
    all_goals (try simp only [Int.toNat_zero,l0])
    case n20=>
     intro c5
     have:t=0:=by omega
     subst this
     rw [hd,if_pos rfl];rfl
    case n21=>intro c5;rw [hd,if_neg (by omega)]
    case g19=>
     intro c5
     have:t=0:=by omega
     subst this
     rw [hd,if_pos rfl,List.length_nil];omega
    all_goals (intros;omega)
   rintro _ rfl
   constructor
   refine ⟨fun j0 i j2=>∃p:Nat,i=p∧p≤(w * h).toNat∧j0=(wP s t (frm F t) (wT s F t).1 (wT s F t).2 p).2∧j2=(wP s t (frm F t) (wT s F t).1 (wT s F t).2 p).1,fun _ i _=>(w * h - i).toNat,⟨0,rfl,Nat.zero_le _,rfl,rfl⟩,?_⟩
   rintro _ i _ ⟨p,rfl,hp,rfl,rfl⟩
   obtain ⟨p1,p2,p3⟩:=hP p hp
   have lf:=hft.len
   have lk:=p1.len
   have ra:=fun hp=>p1.rng p hp
   have rb:=fun hp=>hft.rng p hp
   have ef:(D.rows (gt F t 0))=frm F t:=rfl
   have el:∀k:Rows,(gt k p 0).int=lv k p:=fun _=>rfl
   generalize hx:wP s t (frm F t) (wT s F t).1 (wT s F t).2 p=x at *
   constructor
   all_goals (try simp only [vZ16,v16a,Int.toNat_natCast,ef,el,lf,lk,List.length_cons,List.length_nil])
   case n46=>intro c5 c6;exact ⟨⟨p+1,by omega,by omega,by rw [wP,hx];simp only [if_pos c6],by rw [wP,hx];simp only [if_pos c6]⟩,by omega⟩
   case n59=>
    intro c5 c6 c7
    have c7:s≤lv x.1 p - lv (frm F t) p:=by omega
    exact ⟨⟨p+1,by omega,by omega,by rw [wP,hx];simp only [if_neg c6,if_pos c7],by rw [wP,hx];simp only [if_neg c6,if_pos c7]⟩,by omega⟩
   case n61=>
    intro c5 c6 c7
    have c7:¬s≤lv x.1 p - lv (frm F t) p:=by omega
    exact ⟨⟨p+1,by omega,by omega,by rw [wP,hx];simp only [if_neg c6,if_neg c7],by rw [wP,hx];simp only [if_neg c6,if_neg c7]⟩,by omega⟩
   case n63=>
    intro c5
    have:p=(w * h).toNat:=by omega
    subst this
    refine ⟨⟨t+1,by omega,by omega,?_,?_⟩,by omega⟩
    ·rw [wT,lf,hx]
    ·rw [if_neg (by omega),wT,lf,hx]
   all_goals (intros;first |omega |(have:=ra (by omega);have:=rb (by omega);omega))
 all_goals (intros;(try simp only [vZ16]);omega)
include hp53 hf53
open Classical in
theorem law19 (hp54:∀x,pre 54 x) (hf54:∀l,fn 54 [[.l l]] 0 0=.i (chkE l)) {w h s T:Int} {f l:Rows} {R:Nat→Nat→D} (h0:R 0 0=.l (rbR w h s f l T)) (h1:R 1 0=.i (rbE w h s f l T)):V19 pre fn w h s f l T R:=by
 have hi:∀n:Int,(D.i n).int=n:=fun _=>rfl
 have hb:∀n:Bool,(D.b n).boo=n:=fun _=>rfl
 have err:∀e:Int,¬e=0→rbE w h s f l T=e→R 0 0=.l []:=fun e he h=>by rw [h0,rbR,h,if_neg he]
 have e3:¬camE w h s=0→rbE w h s f l T=camE w h s:=fun a=>by obtain ⟨b,c⟩:=cam_3 a;rw [c,rbE,if_pos b]
 constructor
 all_goals (try simp only [hf48,hf53,hi,hb])
 case g0=>exact hp48 _
 case g3=>intros;exact hp53 _
 case g1=>intro a;exact err _ a (e3 a)
 case g2=>intro a;rw [h1,e3 a]
 case g4=>intro a d;exact err 3 (by decide) (by rw [rbE,if_neg fun h=>h (cam_0 a),if_pos d])
 case g5=>intro a d;rw [h1,rbE,if_neg fun h=>h (cam_0 a),if_pos d]
 case g6=>intro a _;exact hp49 _ _ _ _ (inB_t.1 (cam_0 a).1) (inB_t.1 (cam_0 a).2.1)
 intro a0 d
 obtain ⟨a,b,c⟩:=cam_0 a0
 have hw:=inB_t.1 a
 have hh:=inB_t.1 b
 have hs:=inB_t.1 c
 have hT:=inB_t.1 d
 obtain ⟨n1,n2,n3⟩:=twoWH hw hh
 have e1:rbE w h s f l T=if ¬frE w h f=0 then frE w h f else if ¬chkE l=0 then chkE l else if BadE (w * h) l T then 3 else 0:=by
  rw [rbE,if_neg fun h=>h ⟨a,b,c⟩,if_neg (by simp [d])]
 refine ⟨fun x=>x=if frE w h f=0 then chkE l else frE w h f,?_,?_⟩
 ·constructor
  all_goals (try simp only [hf49,hf54,hi])
  ·intro _;exact hp54 _
  ·intro z;rw [if_pos z]
  ·intro z;rw [if_neg z]
 rintro x hx
 have ex:¬x=0→rbE w h s f l T=x:=by
  intro z
  rw [e1]
  split at hx
  ·rename_i y;rw [if_neg fun h=>h y,←hx,if_pos z]
  ·rename_i y;rw [if_pos y,hx]
 constructor
 case g11=>intro z;exact err _ z (ex z)
 case g12=>intro z;rw [h1,ex z]
 intro z
 have e:frE w h f=0:=by
  rw [z] at hx
  split at hx
  ·assumption
  ·exact hx.symm
 have g:chkE l=0:=by rw [z,if_pos e] at hx;exact hx.symm
 obtain ⟨hl,ev⟩:=chk_ev g
 have hf:=frE_b (n:=(w * h).toNat) (by omega) e
 have fl:=hf.len
 rw [if_neg fun h=>h e,if_neg fun h=>h g] at e1
 clear ex hx
 refine ⟨fun _ _ i=>∃q:Nat,i=q∧q≤l.length∧∀j,j < q→eI l j < 2 * (w * h)∧inB (eT l j) 1 (T - 1)=true,fun _ _ i=>(l.length - i).toNat,⟨0,rfl,Nat.zero_le _,fun j h=>by omega⟩,?_⟩
 rintro _ _ i ⟨q,rfl,hq,hj⟩
 constructor
 all_goals (try simp only [vZ19,v19d,hf53,hi,hb,n3,Int.toNat_natCast])
 case g25=>intros;exact hp53 _
 case g19=>intro a1 a2;exact err 3 (by decide) (by rw [e1,if_pos (show BadE _ _ _ from ⟨q,by omega,fun h=>absurd h.1 (Int.not_lt.2 a2)⟩)])
 case g20=>intro a1 a2;rw [h1,e1,if_pos (show BadE _ _ _ from ⟨q,by omega,fun h=>absurd h.1 (Int.not_lt.2 a2)⟩)]
 case g26=>intro a1 _ a2;exact err 3 (by decide) (by rw [e1,if_pos (show BadE _ _ _ from ⟨q,by omega,fun h=>by have h:=h.2;unfold eT at h;rw [a2] at h;cases h⟩)])
 case g27=>intro a1 _ a2;rw [h1,e1,if_pos (show BadE _ _ _ from ⟨q,by omega,fun h=>by have h:=h.2;unfold eT at h;rw [a2] at h;cases h⟩)]
 case n29=>
  intro a1 a2 a3
  refine ⟨⟨q+1,by omega,by omega,fun j hjq=>?_⟩,by omega⟩
  by_cases e2:j=q
  ·subst e2;exact ⟨by unfold eI;omega,a3⟩
  ·exact hj j (by omega)
 case g30=>intro _;rw [List.length_nil];omega
 case l2=>
  intro a1
  have:q=l.length:=by omega
  subst this
  have e2:rbE w h s f l T=0:=by rw [e1,if_neg (fun ⟨j,h2,h3⟩=>h3 (hj j h2))]
  have hI:∀j,j < l.length→0≤eI l j∧eI l j < 2 * ((w * h).toNat:Int):=fun j h=>⟨(ev.ri j h).1,by have:=(hj j h).1;omega⟩
  have hR:=rb_ok (s:=s) (l:=l) (f:=f) hs hl hI hf
  refine ⟨fun f0 i f2=>∃t:Nat,i=t∧t≤T.toNat∧f0=rbO s l f t∧f2=rb s l f t,fun _ i _=>(T - i).toNat,⟨0,rfl,Nat.zero_le _,rfl,rfl⟩,?_⟩
  rintro _ i _ ⟨t,rfl,ht,rfl,rfl⟩
  have ol:=rbO_len (s:=s) (l:=l) (f:=f) t
  constructor
  case g76=>intro a2;rw [h0,rbR,if_pos e2];congr 2;omega
  case g77=>intro a2;rw [h1,e2]
  intro a2
  have hk:=hR t
  refine ⟨fun i k=>∃q:Nat,i=q∧q≤l.length∧k=apA s (chg l t q) (rb s l f t),fun i _=>(l.length - i).toNat,⟨0,rfl,Nat.zero_le _,rfl⟩,?_⟩
  rintro i _ ⟨q,rfl,hq,rfl⟩
  have cl:=chg_len (l:=l) (t:=t) q
  have hA:=ap_ok (s:=s) (c:=chg l t q) hs (by omega) (chg_in q fun j h=>hI j (by omega)) hk _ (Nat.le_refl _)
  have hA:BOk (w * h).toNat (255+8388608 * t+128 * (chg l t q).length) (apA s (chg l t q) (rb s l f t)):=hA
  have pl:=hA.len
  have el:∀(k:Rows) (p:Nat),(gt k p 0).int=lv k p:=fun _ _=>rfl
  have eId:(gt l q 1).int=eI l q:=rfl
  have eTd:(gt l q 0).int=eT l q:=rfl
  have stp:chg l t (q+1)=if eT l q=t then chg l t q++[[.i (eI l q)]] else chg l t q:=rfl
  constructor
  all_goals (try simp only [vZ19,v19a,v19b,v19c,Int.toNat_natCast,eId,eTd,List.length_cons,List.length_nil,List.nil_append,pl])
  case n37=>intro a3 a4;exact ⟨⟨q+1,by omega,by omega,by rw [stp,if_neg a4]⟩,by omega⟩
  case n56=>
   intro a3 a4 a5
   refine ⟨⟨q+1,by omega,by omega,?_⟩,by omega⟩
   rw [stp,if_pos a4,apA_A,dlt,a5,el];simp
  case n71=>
   intro a3 a4 a5
   have b1:=hI q (by omega)
   have b5:Int.tmod (eI l q) 2=0:=by
    have:=Int.tmod_eq_emod_of_nonneg (b:=2) b1.1
    omega
   refine ⟨⟨q+1,by omega,by omega,?_⟩,by omega⟩
   rw [stp,if_pos a4,apA_A,dlt,b5,el];simp [Int.sub_eq_add_neg]
  case n75=>
   intro a3
   have:q=l.length:=by omega
   subst this
   exact ⟨⟨t+1,by omega,by omega,rfl,rfl⟩,by omega⟩
  case g46 |g47 |g48 |g49 |g51 |g61 |g62 |g63 |g64 |g66=>
   intro a3 _ _
   have b1:=hI q (by omega)
   have b3:=hA.rng (Int.tdiv (eI l q) 2).toNat
   have b4:Int.tdiv (eI l q) 2=eI l q / 2:=Int.tdiv_eq_ediv_of_nonneg b1.1
   try simp only [el]
   first |omega |(rw [b4] at *;omega)
  all_goals (intros;omega)
 all_goals (intros;omega)
end
end HX

namespace HX
open Go Go.Proofs CX
abbrev vZ22 (x:Int):=-9223372036854775808≤x∧x≤9223372036854775807
abbrev v22a (fn:Nat→List (List D)→Nat→Nat→D) (a0_0:Int) (a0_1:Int) (a0_2:Int) (a1:Rows) (e1:Int) (f1:Int):=(fn 59 [[D.i a0_0,D.i a0_1,D.i a0_2],[D.i (Int.tdiv (D.int (gt a1 e1.toNat 1)) 2)],[D.i (Int.tdiv (D.int (gt a1 f1.toNat 1)) 2)]] 0 0)
structure V22r0 (pre:Nat→List (List D)→Prop) (fn:Nat→List (List D)→Nat→Nat→D) (a0_0:Int) (a0_1:Int) (a0_2:Int) (a1:Rows) (I0:Int→Prop):Prop where
 g2:((D.int (fn 48 [[D.i a0_0,D.i a0_1,D.i a0_2]] 0 0))=0)→pre 54 [[D.l a1]]
 n3:((D.int (fn 48 [[D.i a0_0,D.i a0_1,D.i a0_2]] 0 0))=0)→I0 (D.int (fn 54 [[D.l a1]] 0 0))
 n4:(¬(D.int (fn 48 [[D.i a0_0,D.i a0_1,D.i a0_2]] 0 0))=0)→I0 (D.int (fn 48 [[D.i a0_0,D.i a0_1,D.i a0_2]] 0 0))
structure V22c3 (pre:Nat→List (List D)→Prop) (fn:Nat→List (List D)→Nat→Nat→D) (a0_0:Int) (a0_1:Int) (a0_2:Int) (a1:Rows) (a2:Int) (e0:Rows) (e1:Int) (f0:Bool) (f1:Int) (I2:Rows→Int→Prop) (m2:Rows→Int→Nat) (I3:Bool→Int→Prop) (m3:Bool→Int→Nat):Prop where
 g22:(f1 < (a1.length:Int))→0≤e1
 g23:(f1 < (a1.length:Int))→e1 < (a1.length:Int)
 g24:(f1 < (a1.length:Int))→(((Int.toNat e1:Nat):Int)) < (a1.length:Int)
 g25:(f1 < (a1.length:Int))→(2:Int)≠0
 g26:(f1 < (a1.length:Int))→vZ22 ((Int.tdiv (D.int (gt a1 e1.toNat 1)) 2))
 g27:(f1 < (a1.length:Int))→0≤f1
 g28:(f1 < (a1.length:Int))→f1 < (a1.length:Int)
 g29:(f1 < (a1.length:Int))→(((Int.toNat f1:Nat):Int)) < (a1.length:Int)
 g31:(f1 < (a1.length:Int))→vZ22 ((Int.tdiv (D.int (gt a1 f1.toNat 1)) 2))
 g32:(f1 < (a1.length:Int))→pre 59 [[D.i a0_0,D.i a0_1,D.i a0_2],[D.i (Int.tdiv (D.int (gt a1 e1.toNat 1)) 2)],[D.i (Int.tdiv (D.int (gt a1 f1.toNat 1)) 2)]]
 g33:(f1 < (a1.length:Int))→(D.boo (v22a fn a0_0 a0_1 a0_2 a1 e1 f1)=true)→0≤e1
 g34:(f1 < (a1.length:Int))→(D.boo (v22a fn a0_0 a0_1 a0_2 a1 e1 f1)=true)→e1 < (a1.length:Int)
 g35:(f1 < (a1.length:Int))→(D.boo (v22a fn a0_0 a0_1 a0_2 a1 e1 f1)=true)→(((Int.toNat e1:Nat):Int)) < (a1.length:Int)
 g36:(f1 < (a1.length:Int))→(D.boo (v22a fn a0_0 a0_1 a0_2 a1 e1 f1)=true)→0≤f1
 g37:(f1 < (a1.length:Int))→(D.boo (v22a fn a0_0 a0_1 a0_2 a1 e1 f1)=true)→f1 < (a1.length:Int)
 g38:(f1 < (a1.length:Int))→(D.boo (v22a fn a0_0 a0_1 a0_2 a1 e1 f1)=true)→(((Int.toNat f1:Nat):Int)) < (a1.length:Int)
 g39:(f1 < (a1.length:Int))→(D.boo (v22a fn a0_0 a0_1 a0_2 a1 e1 f1)=true)→vZ22 (((D.int (gt a1 e1.toNat 0)) - (D.int (gt a1 f1.toNat 0))))
 g40:(f1 < (a1.length:Int))→(D.boo (v22a fn a0_0 a0_1 a0_2 a1 e1 f1)=true)→pre 53 [[D.i ((D.int (gt a1 e1.toNat 0)) - (D.int (gt a1 f1.toNat 0)))],[D.i 0],[D.i a2]]
 g41:(f1 < (a1.length:Int))→(D.boo (v22a fn a0_0 a0_1 a0_2 a1 e1 f1)=true)→(D.boo (fn 53 [[D.i ((D.int (gt a1 e1.toNat 0)) - (D.int (gt a1 f1.toNat 0)))],[D.i 0],[D.i a2]] 0 0)=true)→vZ22 ((f1+1))
 n42:(f1 < (a1.length:Int))→(D.boo (v22a fn a0_0 a0_1 a0_2 a1 e1 f1)=true)→(D.boo (fn 53 [[D.i ((D.int (gt a1 e1.toNat 0)) - (D.int (gt a1 f1.toNat 0)))],[D.i 0],[D.i a2]] 0 0)=true)→I3 true (f1+1)∧m3 true (f1+1) < m3 f0 f1
 g43:(f1 < (a1.length:Int))→(D.boo (v22a fn a0_0 a0_1 a0_2 a1 e1 f1)=true)→(D.boo (fn 53 [[D.i ((D.int (gt a1 e1.toNat 0)) - (D.int (gt a1 f1.toNat 0)))],[D.i 0],[D.i a2]] 0 0)=false)→vZ22 ((f1+1))
 n44:(f1 < (a1.length:Int))→(D.boo (v22a fn a0_0 a0_1 a0_2 a1 e1 f1)=true)→(D.boo (fn 53 [[D.i ((D.int (gt a1 e1.toNat 0)) - (D.int (gt a1 f1.toNat 0)))],[D.i 0],[D.i a2]] 0 0)=false)→I3 f0 (f1+1)∧m3 f0 (f1+1) < m3 f0 f1
 g45:(f1 < (a1.length:Int))→(D.boo (v22a fn a0_0 a0_1 a0_2 a1 e1 f1)=false)→vZ22 ((f1+1))
 n46:(f1 < (a1.length:Int))→(D.boo (v22a fn a0_0 a0_1 a0_2 a1 e1 f1)=false)→I3 f0 (f1+1)∧m3 f0 (f1+1) < m3 f0 f1
 g47:(¬f1 < (a1.length:Int))→(f0=true)→0≤e1
 g48:(¬f1 < (a1.length:Int))→(f0=true)→e1 < (a1.length:Int)
 g49:(¬f1 < (a1.length:Int))→(f0=true)→(((Int.toNat e1:Nat):Int)) < (a1.length:Int)
 g50:(¬f1 < (a1.length:Int))→(f0=true)→(e0.length+(List.length ([[D.i (D.int (gt a1 e1.toNat 0)),D.i (D.int (gt a1 e1.toNat 1))]]:Rows))) * 16≤4294967296∧(e0.length+(List.length ([[D.i (D.int (gt a1 e1.toNat 0)),D.i (D.int (gt a1 e1.toNat 1))]]:Rows)))≤4294967296
 g51:(¬f1 < (a1.length:Int))→(f0=true)→vZ22 ((e1+1))
 n52:(¬f1 < (a1.length:Int))→(f0=true)→I2 (e0++[[D.i (D.int (gt a1 e1.toNat 0)),D.i (D.int (gt a1 e1.toNat 1))]]) (e1+1)∧m2 (e0++[[D.i (D.int (gt a1 e1.toNat 0)),D.i (D.int (gt a1 e1.toNat 1))]]) (e1+1) < m2 e0 e1
 g53:(¬f1 < (a1.length:Int))→(f0=false)→vZ22 ((e1+1))
 n54:(¬f1 < (a1.length:Int))→(f0=false)→I2 e0 (e1+1)∧m2 e0 (e1+1) < m2 e0 e1
abbrev V22l3 (pre:Nat→List (List D)→Prop) (fn:Nat→List (List D)→Nat→Nat→D) (a0_0:Int) (a0_1:Int) (a0_2:Int) (a1:Rows) (a2:Int) (e0:Rows) (e1:Int) (I2:Rows→Int→Prop) (m2:Rows→Int→Nat):Prop:=∃(I3:Bool→Int→Prop) (m3:Bool→Int→Nat),I3 false 0∧∀f0 f1,I3 f0 f1→V22c3 pre fn a0_0 a0_1 a0_2 a1 a2 e0 e1 f0 f1 I2 m2 I3 m3
structure V22c2 (pre:Nat→List (List D)→Prop) (fn:Nat→List (List D)→Nat→Nat→D) (a0_0:Int) (a0_1:Int) (a0_2:Int) (a1:Rows) (a2:Int) (R:Nat→Nat→D) (e0:Rows) (e1:Int) (I2:Rows→Int→Prop) (m2:Rows→Int→Nat):Prop where
 g55:(¬e1 < (a1.length:Int))→R 0 0=D.l e0
 g56:(¬e1 < (a1.length:Int))→R 1 0=D.i 0
 l3:(e1 < (a1.length:Int))→V22l3 pre fn a0_0 a0_1 a0_2 a1 a2 e0 e1 I2 m2
abbrev V22l2 (pre:Nat→List (List D)→Prop) (fn:Nat→List (List D)→Nat→Nat→D) (a0_0:Int) (a0_1:Int) (a0_2:Int) (a1:Rows) (a2:Int) (R:Nat→Nat→D):Prop:=∃(I2:Rows→Int→Prop) (m2:Rows→Int→Nat),I2 [] 0∧∀e0 e1,I2 e0 e1→V22c2 pre fn a0_0 a0_1 a0_2 a1 a2 R e0 e1 I2 m2
structure V22c1 (pre:Nat→List (List D)→Prop) (fn:Nat→List (List D)→Nat→Nat→D) (a0_0:Int) (a0_1:Int) (a0_2:Int) (a1:Rows) (a2:Int) (R:Nat→Nat→D) (d0:Rows) (d1:Int) (d2:Int) (I1:Rows→Int→Int→Prop) (m1:Rows→Int→Int→Nat):Prop where
 g8:(d2 < (a1.length:Int))→0≤d2
 g9:(d2 < (a1.length:Int))→d2 < (a1.length:Int)
 g10:(d2 < (a1.length:Int))→(((Int.toNat d2:Nat):Int)) < (a1.length:Int)
 g11:(d2 < (a1.length:Int))→vZ22 ((2 * a0_0))
 g12:(d2 < (a1.length:Int))→vZ22 (((2 * a0_0) * a0_1))
 g13:(d2 < (a1.length:Int))→(((2 * a0_0) * a0_1)≤(D.int (gt a1 d2.toNat 1)))→R 0 0=D.l []
 g14:(d2 < (a1.length:Int))→(((2 * a0_0) * a0_1)≤(D.int (gt a1 d2.toNat 1)))→R 1 0=D.i 3
 g15:(d2 < (a1.length:Int))→(¬((2 * a0_0) * a0_1)≤(D.int (gt a1 d2.toNat 1)))→vZ22 ((d2+1))
 n16:(d2 < (a1.length:Int))→(¬((2 * a0_0) * a0_1)≤(D.int (gt a1 d2.toNat 1)))→I1 d0 d1 (d2+1)∧m1 d0 d1 (d2+1) < m1 d0 d1 d2
 g17:(¬d2 < (a1.length:Int))→pre 53 [[D.i a2],[D.i 0],[D.i 100]]
 g18:(¬d2 < (a1.length:Int))→(D.boo (fn 53 [[D.i a2],[D.i 0],[D.i 100]] 0 0)=false)→R 0 0=D.l []
 g19:(¬d2 < (a1.length:Int))→(D.boo (fn 53 [[D.i a2],[D.i 0],[D.i 100]] 0 0)=false)→R 1 0=D.i 3
 l2:(¬d2 < (a1.length:Int))→(D.boo (fn 53 [[D.i a2],[D.i 0],[D.i 100]] 0 0)=true)→V22l2 pre fn a0_0 a0_1 a0_2 a1 a2 R
abbrev V22l1 (pre:Nat→List (List D)→Prop) (fn:Nat→List (List D)→Nat→Nat→D) (a0_0:Int) (a0_1:Int) (a0_2:Int) (a1:Rows) (a2:Int) (R:Nat→Nat→D):Prop:=∃(I1:Rows→Int→Int→Prop) (m1:Rows→Int→Int→Nat),I1 [] 0 0∧∀d0 d1 d2,I1 d0 d1 d2→V22c1 pre fn a0_0 a0_1 a0_2 a1 a2 R d0 d1 d2 I1 m1
structure V22c0 (pre:Nat→List (List D)→Prop) (fn:Nat→List (List D)→Nat→Nat→D) (a0_0:Int) (a0_1:Int) (a0_2:Int) (a1:Rows) (a2:Int) (R:Nat→Nat→D) (b0:Int):Prop where
 g5:(¬b0=0)→R 0 0=D.l []
 g6:(¬b0=0)→R 1 0=D.i b0
 l1:(b0=0)→V22l1 pre fn a0_0 a0_1 a0_2 a1 a2 R
abbrev V22j0 (pre:Nat→List (List D)→Prop) (fn:Nat→List (List D)→Nat→Nat→D) (a0_0:Int) (a0_1:Int) (a0_2:Int) (a1:Rows) (a2:Int) (R:Nat→Nat→D):Prop:=∃(I0:Int→Prop),V22r0 pre fn a0_0 a0_1 a0_2 a1 I0∧∀b0,I0 b0→V22c0 pre fn a0_0 a0_1 a0_2 a1 a2 R b0
structure V22 (pre:Nat→List (List D)→Prop) (fn:Nat→List (List D)→Nat→Nat→D) (a0_0:Int) (a0_1:Int) (a0_2:Int) (a1:Rows) (a2:Int) (R:Nat→Nat→D):Prop where
 g0:pre 48 [[D.i a0_0,D.i a0_1,D.i a0_2]]
 l0:V22j0 pre fn a0_0 a0_1 a0_2 a1 a2 R
end HX

namespace HX
open Go Go.Proofs CX
def supQ (W:Int) (l:Rows) (win:Int) (i n:Nat):Prop:=∃k,k < n∧nearP W (px l i) (px l k)∧0≤eT l i - eT l k∧eT l i - eT l k≤win
theorem supQ_s {W win:Int} {l:Rows} {i n:Nat}:supQ W l win i (n+1)↔supQ W l win i n∨(nearP W (px l i) (px l n)∧0≤eT l i - eT l n∧eT l i - eT l n≤win):=by
 constructor
 ·rintro ⟨k,h1,h2⟩
  by_cases c:k=n
  ·subst c;exact .inr h2
  ·exact .inl ⟨k,by omega,h2⟩
 ·rintro (⟨k,h1,h2⟩ |h)
  ·exact ⟨k,by omega,h2⟩
  ·exact ⟨n,by omega,h⟩
def BadI (n:Int) (l:Rows):Prop:=∃j,j < l.length∧2 * n≤eI l j
theorem clnN_len {W win:Int} {l:Rows}:∀q,(clnN W l win q).length≤q
 |0=>Nat.le_refl _
 |q+1=>by
  have:=clnN_len (W:=W) (l:=l) (win:=win) q
  rw [clnN];split
  ·simp;omega
  ·omega
section
variable {pre:Nat→List (List D)→Prop} {fn:Nat→List (List D)→Nat→Nat→D}
open Classical in
theorem law22 (hp53:∀x,pre 53 x) (hf53:∀a b c,fn 53 [[.i a],[.i b],[.i c]] 0 0=.b (inB a b c))
  (hp48:∀x,pre 48 x) (hf48:∀w h s,fn 48 [[.i w,.i h,.i s]] 0 0=.i (camE w h s)) (hp54:∀x,pre 54 x) (hf54:∀l,fn 54 [[.l l]] 0 0=.i (chkE l))
  (hp59:∀w h s p q:Int,1≤w∧w≤32→0≤p∧p≤65536→0≤q∧q≤65536→pre 59 [[.i w,.i h,.i s],[.i p],[.i q]]) (hf59:∀w h s p q:Int,fn 59 [[.i w,.i h,.i s],[.i p],[.i q]] 0 0=.b (decide (nearP w p q)))
  {w h s win:Int} {l:Rows} {R:Nat→Nat→D} (h0:R 0 0=.l (clnR w h s l win)) (h1:R 1 0=.i (clnE w h s l win)):V22 pre fn w h s l win R:=by
 have hi:∀n:Int,(D.i n).int=n:=fun _=>rfl
 have hb:∀n:Bool,(D.b n).boo=n:=fun _=>rfl
 have err:∀e:Int,¬e=0→clnE w h s l win=e→R 0 0=.l []:=fun e he h=>by rw [h0,clnR,h,if_neg he]
 constructor
 ·exact hp48 _
 refine ⟨fun x=>x=if camE w h s=0 then chkE l else camE w h s,?_,?_⟩
 ·constructor
  all_goals (try simp only [hf48,hf54,hi])
  ·intro _;exact hp54 _
  ·intro z;rw [if_pos z]
  ·intro z;rw [if_neg z]
 rintro x hx
 have ex:¬x=0→clnE w h s l win=x:=by
  intro z
  split at hx
  ·rename_i y;rw [clnE,if_neg fun h=>h (cam_0 y),←hx,if_pos z]
  ·rename_i y;rw [clnE,if_pos (cam_3 y).1,hx,(cam_3 y).2]
 constructor
 case g5=>intro z;exact err _ z (ex z)
 case g6=>intro z;rw [h1,ex z]
 intro z
 have a0:camE w h s=0:=by
  rw [z] at hx
  split at hx
  ·assumption
  ·exact hx.symm
 have g:chkE l=0:=by rw [z,if_pos a0] at hx;exact hx.symm
 obtain ⟨a,b,c⟩:=cam_0 a0
 have hw:=inB_t.1 a
 have hh:=inB_t.1 b
 obtain ⟨n1,n2,n3⟩:=twoWH hw hh
 obtain ⟨hl,ev⟩:=chk_ev g
 clear ex hx
 have e0:clnE w h s l win=if BadI (w * h) l∨inB win 0 100=false then 3 else 0:=by
  rw [clnE,if_neg fun h=>h ⟨a,b,c⟩,if_neg fun h=>h g];unfold BadI;congr
 refine ⟨fun _ _ i=>∃q:Nat,i=q∧q≤l.length∧∀j,j < q→¬2 * (w * h)≤eI l j,fun _ _ i=>(l.length - i).toNat,⟨0,rfl,Nat.zero_le _,fun j h=>by omega⟩,?_⟩
 rintro _ _ i ⟨q,rfl,hq,hj⟩
 constructor
 all_goals (try simp only [vZ22,hf53,hi,hb,n3,Int.toNat_natCast])
 case g17=>intros;exact hp53 _
 case g13=>intro a1 a2;exact err 3 (by decide) (by rw [e0,if_pos (.inl ⟨q,by omega,a2⟩)])
 case g14=>intro a1 a2;rw [h1,e0,if_pos (.inl ⟨q,by omega,a2⟩)]
 case n16=>
  intro a1 a2
  refine ⟨⟨q+1,by omega,by omega,fun j hjq=>?_⟩,by omega⟩
  by_cases e:j=q
  ·subst e;exact a2
  ·exact hj j (by omega)
 case g18=>intro _ a2;exact err 3 (by decide) (by rw [e0,if_pos (.inr a2)])
 case g19=>intro _ a2;rw [h1,e0,if_pos (.inr a2)]
 case l2=>
  intro a1 a2
  have:q=l.length:=by omega
  subst this
  have hwin:=inB_t.1 a2
  have e1:clnE w h s l win=0:=by
   rw [e0,if_neg]
   rintro (⟨j,h2,h3⟩ |h2)
   ·exact hj j h2 h3
   ·rw [a2] at h2;cases h2
  refine ⟨fun e i=>∃q:Nat,i=q∧q≤l.length∧e=clnN w l win q,fun _ i=>(l.length - i).toNat,⟨0,rfl,Nat.zero_le _,rfl⟩,?_⟩
  rintro _ i ⟨q,rfl,hq,rfl⟩
  constructor
  case g55=>intro a3;rw [h0,clnR,if_pos e1];congr 2;omega
  case g56=>intro a3;rw [h1,e1]
  intro a3
  have cl:=clnN_len (W:=w) (l:=l) (win:=win) q
  have px_in:∀k,k < l.length→px l k=Int.tdiv (eI l k) 2∧0≤px l k∧px l k≤65536:=fun k hk=>by
   have:=ev.ri k hk
   unfold px
   rw [Int.tdiv_eq_ediv_of_nonneg this.1]
   omega
  have et:=ev.rt q (by omega)
  have pq:=px_in q (by omega)
  refine ⟨fun f i=>∃p:Nat,i=p∧p≤l.length∧f=decide (supQ w l win q p),fun _ i=>(l.length - i).toNat,⟨0,rfl,Nat.zero_le _,(decide_eq_false fun ⟨k,h,_⟩=>by omega).symm⟩,?_⟩
  rintro _ i ⟨p,rfl,hp,rfl⟩
  have eId:∀k,(gt l k 1).int=eI l k:=fun _=>rfl
  have eTd:∀k,(gt l k 0).int=eT l k:=fun _=>rfl
  constructor
  all_goals (try simp only [vZ22,v22a,hf53,hf59,hi,hb,Int.toNat_natCast,eId,eTd,decide_eq_true_eq,decide_eq_false_iff_not,List.length_cons,List.length_nil])
  case g26 |g31=>intro a4;have:=px_in p (by omega);omega
  case g32=>intro a4;have pp:=px_in p (by omega);rw [←pq.1,←pp.1];exact hp59 _ _ _ _ _ hw pq.2 pp.2
  case g40=>intros;exact hp53 _
  case g39=>intro a4 _;have:=ev.rt p (by omega);omega
  case n42=>
   intro a4 a5 a6
   have pp:=px_in p (by omega)
   rw [←pq.1,←pp.1] at a5
   exact ⟨⟨p+1,by omega,by omega,(decide_eq_true (supQ_s.2 (.inr ⟨a5,inB_t.1 a6⟩))).symm⟩,by omega⟩
  case n44=>
   intro a4 a5 a6
   refine ⟨⟨p+1,by omega,by omega,decide_eq_decide.2 ⟨fun h=>supQ_s.2 (.inl h),fun h=>(supQ_s.1 h).elim id fun h2=>absurd h2.2 (inB_f.1 a6)⟩⟩,by omega⟩
  case n46=>
   intro a4 a5
   have pp:=px_in p (by omega)
   rw [←pq.1,←pp.1] at a5
   refine ⟨⟨p+1,by omega,by omega,decide_eq_decide.2 ⟨fun h=>supQ_s.2 (.inl h),fun h=>(supQ_s.1 h).elim id fun h2=>absurd h2.1 a5⟩⟩,by omega⟩
  case n52=>
   intro a4 a5
   have:p=l.length:=by omega
   subst this
   exact ⟨⟨q+1,by omega,by omega,by rw [clnN,if_pos (show supP w l win q from a5)]⟩,by omega⟩
  case n54=>
   intro a4 a5
   have:p=l.length:=by omega
   subst this
   exact ⟨⟨q+1,by omega,by omega,by rw [clnN,if_neg (show ¬supP w l win q from a5)]⟩,by omega⟩
  all_goals (intros;omega)
 all_goals (intros;omega)
theorem law3 (hp13:pre 13 []) (hf13:fn 13 [] 0 0=.b true)
  (hp14:∀x,pre 14 x) (hf14:∀(w h s:Int) (F:Rows),fn 14 [[.i w,.i h,.i s],[.l F]] 0 0=.l (wtR w h s F)∧fn 14 [[.i w,.i h,.i s],[.l F]] 1 0=.i (wtE w h s F))
  (hp16:∀x,pre 16 x) (hf16:∀(w h s:Int) (F:Rows),fn 16 [[.i w,.i h,.i s],[.l F]] 0 0=.l (wtR w h s F)∧fn 16 [[.i w,.i h,.i s],[.l F]] 1 0=.i (wtE w h s F))
  (hp17:∀a,pre 17 [[.l a],[.l a]]) (hf17:∀a,fn 17 [[.l a],[.l a]] 0 0=.b true)
  (hp18:∀x,pre 18 x) (hf18:∀(w h s T:Int) (f l:Rows),fn 18 [[.i w,.i h,.i s],[.l f],[.l l],[.i T]] 0 0=.l (rbR w h s f l T)∧fn 18 [[.i w,.i h,.i s],[.l f],[.l l],[.i T]] 1 0=.i (rbE w h s f l T))
  (hp19:∀x,pre 19 x) (hf19:∀(w h s T:Int) (f l:Rows),fn 19 [[.i w,.i h,.i s],[.l f],[.l l],[.i T]] 0 0=.l (rbR w h s f l T)∧fn 19 [[.i w,.i h,.i s],[.l f],[.l l],[.i T]] 1 0=.i (rbE w h s f l T))
  (hp20:∀a,pre 20 [[.l a],[.l a]]) (hf20:∀a,fn 20 [[.l a],[.l a]] 0 0=.b true)
  (hp21:∀x,pre 21 x) (hf21:∀(w h s:Int) (l:Rows) (win:Int),fn 21 [[.i w,.i h,.i s],[.l l],[.i win]] 0 0=.l (clnR w h s l win)∧fn 21 [[.i w,.i h,.i s],[.l l],[.i win]] 1 0=.i (clnE w h s l win))
  (hp22:∀x,pre 22 x) (hf22:∀(w h s:Int) (l:Rows) (win:Int),fn 22 [[.i w,.i h,.i s],[.l l],[.i win]] 0 0=.l (clnR w h s l win)∧fn 22 [[.i w,.i h,.i s],[.l l],[.i win]] 1 0=.i (clnE w h s l win))
  {w h s T win:Int} {F f l:Rows} {R:Nat→Nat→D} (hR:R 0 0=.b true):V3 pre fn w h s F f l T win R:=by
 have hi:∀n:Int,(D.i n).int=n:=fun _=>rfl
 have hb:∀n:Bool,(D.b n).boo=n:=fun _=>rfl
 have hr:∀n:Rows,(D.l n).rows=n:=fun _=>rfl
 have loop:∀(_:F.length≤260),V3l0 pre fn w h s F f l T win R:=by
  intro hF
  refine ⟨fun _ i=>∃q:Nat,i=q∧q≤F.length,fun _ i=>(F.length - i).toNat,⟨0,rfl,Nat.zero_le _⟩,?_⟩
  rintro _ i ⟨q,rfl,hq⟩
  constructor
  all_goals (try simp only [vZ3,v3a,v3b,v3c,v3d,v3e,v3f,hf13,hf14,hf16,hf17,hf18,hf19,hf20,hf21,hf22,hi,hb,hr])
  case g12 |g29=>intros;exact hp13
  case g13 |g30=>intros;exact hR
  case g16=>intros;exact hp14 _
  case g17=>intros;exact hp16 _
  case g18 |g28=>intros;exact hp17 _
  case g21=>intros;exact hp18 _
  case g22=>intros;exact hp19 _
  case g23=>intros;exact hp20 _
  case g26=>intros;exact hp21 _
  case g27=>intros;exact hp22 _
  case g19=>intro _ c;cases c
  case g20=>intro _ _ c;exact absurd (by simp) c
  case g24=>intro _ _ _ c;cases c
  case g25=>intro _ _ _ _ c;exact absurd (by simp) c
  case g31=>intro _ _ _ _ _ _ c;exact absurd (by simp) c
  case g32=>intro _ _ _ _ _ c;cases c
  case n15=>intro c _;exact ⟨⟨q+1,by omega,by omega⟩,by omega⟩
  all_goals (intros;omega)
 constructor
 all_goals (try simp only [hf13,hb])
 case l0=>intros;exact loop (by omega)
 case l1=>intros;exact loop (by omega)
 all_goals (intros;first |exact hp13 |exact hR)
end
end HX

namespace HX
open Go Go.Proofs CX
structure V53 (a0:Int) (a1:Int) (a2:Int) (R:Nat→Nat→D)  : Prop where
 g0:(a1≤a0)→R 0 0=D.b (decide (a0≤a2))
 g1:(¬a1≤a0)→R 0 0=D.b false
end HX

namespace HX
open Go Go.Proofs CX
end HX

namespace HX
open Go Go.Proofs CX
end HX

namespace HX
open Go Go.Proofs CX
end HX

namespace HX
open Go Go.Proofs CX
structure V40 (pre:Nat→List (List D)→Prop) (fn:Nat→List (List D)→Nat→Nat→D) (a0_0:Int) (a0_1:Int) (a1_0:Int) (a1_1:Int) (a2:Bool) (R:Nat→Nat→D)  : Prop where
 g0:pre 53 [[D.i a1_0],[D.i 0],[D.i 1073741824]]
 g1:(D.boo (fn 53 [[D.i a1_0],[D.i 0],[D.i 1073741824]] 0 0)=false)→R 0 0=D.i 3
 g2:(D.boo (fn 53 [[D.i a1_0],[D.i 0],[D.i 1073741824]] 0 0)=true)→pre 53 [[D.i a1_1],[D.i 0],[D.i 65535]]
 g3:(D.boo (fn 53 [[D.i a1_0],[D.i 0],[D.i 1073741824]] 0 0)=true)→(D.boo (fn 53 [[D.i a1_1],[D.i 0],[D.i 65535]] 0 0)=false)→R 0 0=D.i 3
 g4:(D.boo (fn 53 [[D.i a1_0],[D.i 0],[D.i 1073741824]] 0 0)=true)→(D.boo (fn 53 [[D.i a1_1],[D.i 0],[D.i 65535]] 0 0)=true)→(a2=false)→(a1_0 < a0_0)→R 0 0=D.i 2
 g5:(D.boo (fn 53 [[D.i a1_0],[D.i 0],[D.i 1073741824]] 0 0)=true)→(D.boo (fn 53 [[D.i a1_1],[D.i 0],[D.i 65535]] 0 0)=true)→(a2=false)→(¬a1_0 < a0_0)→(a1_0=a0_0)→(a1_1≤a0_1)→R 0 0=D.i 2
 g6:(D.boo (fn 53 [[D.i a1_0],[D.i 0],[D.i 1073741824]] 0 0)=true)→(D.boo (fn 53 [[D.i a1_1],[D.i 0],[D.i 65535]] 0 0)=true)→(a2=false)→(¬a1_0 < a0_0)→(a1_0=a0_0)→(¬a1_1≤a0_1)→R 0 0=D.i 0
 g7:(D.boo (fn 53 [[D.i a1_0],[D.i 0],[D.i 1073741824]] 0 0)=true)→(D.boo (fn 53 [[D.i a1_1],[D.i 0],[D.i 65535]] 0 0)=true)→(a2=false)→(¬a1_0 < a0_0)→(¬a1_0=a0_0)→R 0 0=D.i 0
 g8:(D.boo (fn 53 [[D.i a1_0],[D.i 0],[D.i 1073741824]] 0 0)=true)→(D.boo (fn 53 [[D.i a1_1],[D.i 0],[D.i 65535]] 0 0)=true)→(a2=true)→R 0 0=D.i 0
end HX

namespace HX
open Go Go.Proofs CX
structure V54 (pre:Nat→List (List D)→Prop) (fn:Nat→List (List D)→Nat→Nat→D) (a0:Rows) (R:Nat→Nat→D) (I0:Int→Int→Prop) (m0:Int→Int→Nat):Prop where
 g0:(65536 < (a0.length:Int))→R 0 0=D.i 9
 i0:(¬65536 < (a0.length:Int))→I0 0 0
 g2:∀x0_0 x0_1,I0 x0_0 x0_1→(¬65536 < (a0.length:Int))→(x0_1 < (a0.length:Int))→(0 < x0_1)→-9223372036854775808≤(x0_1 - 1)∧(x0_1 - 1)≤9223372036854775807
 g3:∀x0_0 x0_1,I0 x0_0 x0_1→(¬65536 < (a0.length:Int))→(x0_1 < (a0.length:Int))→(0 < x0_1)→0≤(x0_1 - 1)
 g4:∀x0_0 x0_1,I0 x0_0 x0_1→(¬65536 < (a0.length:Int))→(x0_1 < (a0.length:Int))→(0 < x0_1)→(x0_1 - 1) < (a0.length:Int)
 g5:∀x0_0 x0_1,I0 x0_0 x0_1→(¬65536 < (a0.length:Int))→(x0_1 < (a0.length:Int))→(0 < x0_1)→(((Int.toNat (x0_1 - 1):Nat):Int)) < (a0.length:Int)
 g6:∀x0_0 x0_1,I0 x0_0 x0_1→(¬65536 < (a0.length:Int))→(x0_1 < (a0.length:Int))→(0 < x0_1)→0≤x0_1
 g7:∀x0_0 x0_1,I0 x0_0 x0_1→(¬65536 < (a0.length:Int))→(x0_1 < (a0.length:Int))→(0 < x0_1)→x0_1 < (a0.length:Int)
 g8:∀x0_0 x0_1,I0 x0_0 x0_1→(¬65536 < (a0.length:Int))→(x0_1 < (a0.length:Int))→(0 < x0_1)→(((Int.toNat x0_1:Nat):Int)) < (a0.length:Int)
 g9:∀x0_0 x0_1,I0 x0_0 x0_1→(¬65536 < (a0.length:Int))→(x0_1 < (a0.length:Int))→(0 < x0_1)→pre 40 [[D.i (D.int (gt a0 (Int.toNat (x0_1 - 1)) 0)),D.i (D.int (gt a0 (Int.toNat (x0_1 - 1)) 1))],[D.i (D.int (gt a0 x0_1.toNat 0)),D.i (D.int (gt a0 x0_1.toNat 1))],[D.b (decide (x0_1=0))]]
 g10:∀x0_0 x0_1,I0 x0_0 x0_1→(¬65536 < (a0.length:Int))→(x0_1 < (a0.length:Int))→(0 < x0_1)→(¬(D.int (fn 40 [[D.i (D.int (gt a0 (Int.toNat (x0_1 - 1)) 0)),D.i (D.int (gt a0 (Int.toNat (x0_1 - 1)) 1))],[D.i (D.int (gt a0 x0_1.toNat 0)),D.i (D.int (gt a0 x0_1.toNat 1))],[D.b (decide (x0_1=0))]] 0 0))=0)→R 0 0=D.i (D.int (fn 40 [[D.i (D.int (gt a0 (Int.toNat (x0_1 - 1)) 0)),D.i (D.int (gt a0 (Int.toNat (x0_1 - 1)) 1))],[D.i (D.int (gt a0 x0_1.toNat 0)),D.i (D.int (gt a0 x0_1.toNat 1))],[D.b (decide (x0_1=0))]] 0 0))
 g11:∀x0_0 x0_1,I0 x0_0 x0_1→(¬65536 < (a0.length:Int))→(x0_1 < (a0.length:Int))→(0 < x0_1)→((D.int (fn 40 [[D.i (D.int (gt a0 (Int.toNat (x0_1 - 1)) 0)),D.i (D.int (gt a0 (Int.toNat (x0_1 - 1)) 1))],[D.i (D.int (gt a0 x0_1.toNat 0)),D.i (D.int (gt a0 x0_1.toNat 1))],[D.b (decide (x0_1=0))]] 0 0))=0)→-9223372036854775808≤(x0_1+1)∧(x0_1+1)≤9223372036854775807
 n12:∀x0_0 x0_1,I0 x0_0 x0_1→(¬65536 < (a0.length:Int))→(x0_1 < (a0.length:Int))→(0 < x0_1)→((D.int (fn 40 [[D.i (D.int (gt a0 (Int.toNat (x0_1 - 1)) 0)),D.i (D.int (gt a0 (Int.toNat (x0_1 - 1)) 1))],[D.i (D.int (gt a0 x0_1.toNat 0)),D.i (D.int (gt a0 x0_1.toNat 1))],[D.b (decide (x0_1=0))]] 0 0))=0)→I0 x0_0 (x0_1+1)∧m0 x0_0 (x0_1+1) < m0 x0_0 x0_1
 g13:∀x0_0 x0_1,I0 x0_0 x0_1→(¬65536 < (a0.length:Int))→(x0_1 < (a0.length:Int))→(¬0 < x0_1)→0≤x0_1
 g14:∀x0_0 x0_1,I0 x0_0 x0_1→(¬65536 < (a0.length:Int))→(x0_1 < (a0.length:Int))→(¬0 < x0_1)→x0_1 < (a0.length:Int)
 g15:∀x0_0 x0_1,I0 x0_0 x0_1→(¬65536 < (a0.length:Int))→(x0_1 < (a0.length:Int))→(¬0 < x0_1)→(((Int.toNat x0_1:Nat):Int)) < (a0.length:Int)
 g16:∀x0_0 x0_1,I0 x0_0 x0_1→(¬65536 < (a0.length:Int))→(x0_1 < (a0.length:Int))→(¬0 < x0_1)→pre 40 [[D.i 0,D.i 0],[D.i (D.int (gt a0 x0_1.toNat 0)),D.i (D.int (gt a0 x0_1.toNat 1))],[D.b (decide (x0_1=0))]]
 g17:∀x0_0 x0_1,I0 x0_0 x0_1→(¬65536 < (a0.length:Int))→(x0_1 < (a0.length:Int))→(¬0 < x0_1)→(¬(D.int (fn 40 [[D.i 0,D.i 0],[D.i (D.int (gt a0 x0_1.toNat 0)),D.i (D.int (gt a0 x0_1.toNat 1))],[D.b (decide (x0_1=0))]] 0 0))=0)→R 0 0=D.i (D.int (fn 40 [[D.i 0,D.i 0],[D.i (D.int (gt a0 x0_1.toNat 0)),D.i (D.int (gt a0 x0_1.toNat 1))],[D.b (decide (x0_1=0))]] 0 0))
 g18:∀x0_0 x0_1,I0 x0_0 x0_1→(¬65536 < (a0.length:Int))→(x0_1 < (a0.length:Int))→(¬0 < x0_1)→((D.int (fn 40 [[D.i 0,D.i 0],[D.i (D.int (gt a0 x0_1.toNat 0)),D.i (D.int (gt a0 x0_1.toNat 1))],[D.b (decide (x0_1=0))]] 0 0))=0)→-9223372036854775808≤(x0_1+1)∧(x0_1+1)≤9223372036854775807
 n19:∀x0_0 x0_1,I0 x0_0 x0_1→(¬65536 < (a0.length:Int))→(x0_1 < (a0.length:Int))→(¬0 < x0_1)→((D.int (fn 40 [[D.i 0,D.i 0],[D.i (D.int (gt a0 x0_1.toNat 0)),D.i (D.int (gt a0 x0_1.toNat 1))],[D.b (decide (x0_1=0))]] 0 0))=0)→I0 x0_0 (x0_1+1)∧m0 x0_0 (x0_1+1) < m0 x0_0 x0_1
 g20:∀x0_0 x0_1,I0 x0_0 x0_1→(¬65536 < (a0.length:Int))→(¬x0_1 < (a0.length:Int))→R 0 0=D.i 0
end HX

namespace HX
open Go Go.Proofs CX
theorem law53 {a b c:Int} {R:Nat→Nat→D} (hR:R 0 0=.b (inB a b c)):V53 a b c R:=by
 constructor
 ·intro h;rw [hR,inB];congr 1;exact decide_eq_decide.2 ⟨fun h=>h.2,fun h2=>⟨h,h2⟩⟩
 ·intro h;rw [hR,inB,decide_eq_false fun h2=>h h2.1]
def folF (t i t2 i2:Int) (first:Bool):Int:=
 if ¬(inB t2 0 1073741824=true∧inB i2 0 65535=true) then 3 else if first=false∧(t2 < t∨(t2=t∧i2≤i)) then 2 else 0
theorem law40 {pre:Nat→List (List D)→Prop} {fn:Nat→List (List D)→Nat→Nat→D} (hp53:∀x,pre 53 x) (hf53:∀a b c,fn 53 [[.i a],[.i b],[.i c]] 0 0=.b (inB a b c))
  {t i t2 i2:Int} {f:Bool} {R:Nat→Nat→D} (hR:R 0 0=.i (folF t i t2 i2 f)):V40 pre fn t i t2 i2 f R:=by
 have hb:∀n:Bool,(D.b n).boo=n:=fun _=>rfl
 constructor
 all_goals (try simp only [hf53,hb])
 case g0=>exact hp53 _
 case g1=>intro h;rw [hR,folF,if_pos fun h2=>by rw [h] at h2;cases h2.1]
 case g2=>intro _;exact hp53 _
 case g3=>intro _ h;rw [hR,folF,if_pos fun h2=>by rw [h] at h2;cases h2.2]
 all_goals (intro h1 h2 h3;rw [hR,folF,if_neg fun h=>h ⟨h1,h2⟩])
 case g4=>intro h;rw [if_pos ⟨h3,.inl h⟩]
 case g5=>intro _ h h5;rw [if_pos ⟨h3,.inr ⟨h,h5⟩⟩]
 case g6=>intro h4 h5 h6;rw [if_neg fun h=>by omega]
 case g7=>intro h4 h5;rw [if_neg fun h=>by omega]
 case g8=>rw [if_neg fun h=>by rw [h3] at h;cases h.1]
theorem fol_eq {l:Rows} {t2 i2:Int} {t i:Int} (h:0 < l.length→t=eT l (l.length - 1)∧i=eI l (l.length - 1)):folF t i t2 i2 (decide (l.length=0))=folE l t2 i2:=by
 unfold folF folE
 split
 ·rfl
 ·by_cases hl:0 < l.length
  ·obtain ⟨rfl,rfl⟩:=h hl
   have d:decide (l.length=0)=false:=decide_eq_false (by omega)
   rw [d]
   by_cases c:t2 < eT l (l.length - 1)∨(t2=eT l (l.length - 1)∧i2≤eI l (l.length - 1))
   ·rw [if_pos ⟨rfl,c⟩,if_pos]
    refine ⟨hl,?_⟩
    simp only [cmpE,cmpI]
    repeat' split
    all_goals omega
   ·rw [if_neg fun h=>c h.2,if_neg]
    intro ⟨_,h⟩
    simp only [cmpE,cmpI] at h
    repeat' (split at h)
    all_goals omega
  ·rw [if_neg fun h=>by have:=of_decide_eq_false h.1;omega,if_neg fun h=>hl h.1]
end HX

namespace HX
open Go Go.Proofs CX
end HX

namespace HX
open Go Go.Proofs CX
def bitsR (v:Int):Nat→Rows→Rows
 |0,B=>B
 |n+1,B=>bitsR v n (B++[[.i (v / 2 ^ n % 2)]])
def ones (n:Nat) (B:Rows):Rows:=B++List.replicate n [.i 1]
noncomputable def wrR (m:Int×Int) (v:Int) (B:Rows):Rows:=
 if Ar.std.shr .i64 v (lowK m:Int) < 24 then bitsR v (lowK m) (ones (Ar.std.shr .i64 v (lowK m:Int)).toNat B++[[.i 0]]) else bitsR v 31 (ones 24 B)
structure LR (v:Int) (N:Nat) (B0:Rows) (k:Int) (B:Rows):Prop where
 lo:-1≤k
 hi:k+1≤N
 len:(B.length:Int)+(k+1)=B0.length+N
 to:bitsR v (k+1).toNat B=bitsR v N B0
theorem LR.start (v:Int) {N:Nat} (B0:Rows) {k:Int} (e:k+1=N):LR v N B0 k B0:=⟨by omega,by omega,by omega,by rw [show (k+1).toNat=N by omega]⟩
theorem LR.step {v:Int} {N:Nat} {B0:Rows} {k:Int} {B:Rows} (h:LR v N B0 k B) (hk:0≤k):LR v N B0 (k - 1) (B++[[.i (v / 2 ^ k.toNat % 2)]]):=by
 obtain ⟨h1,h2,h3,h4⟩:=h
 refine ⟨by omega,by omega,by simp;omega,?_⟩
 rw [←h4,show (k+1).toNat=(k - 1+1).toNat+1 by omega,bitsR,show (k - 1+1).toNat=k.toNat by omega]
theorem LR.stop {v:Int} {N:Nat} {B0:Rows} {k:Int} {B:Rows} (h:LR v N B0 k B) (hk:¬0≤k):B=bitsR v N B0:=by
 have:=h.lo
 rw [←h.to,show (k+1).toNat=0 by omega,bitsR]
end HX

namespace HX
open Go Go.Proofs CX
structure Rel (s:Rows×Int) (B:Rows):Prop where
 len:(B.length:Int)=bitsN s - 40
 bit:∀p,p < B.length→gt B p 0=.i (bAt s.1 (40+p))
theorem gtAp {A B:Rows} {t c:Nat}:gt (A++B) (A.length+t) c=gt B t c:=by
 rw [gt_eq,gt_eq,List.getElem?_append_right (by omega),Nat.add_sub_cancel_left]
theorem gtAl {A B:Rows} {t c:Nat} (h:t < A.length):gt (A++B) t c=gt A t c:=by
 rw [gt_eq,gt_eq,List.getElem?_append_left h]
theorem Rel.put {s:Rows×Int} {B:Rows} (h:Rel s B) (w:Wb s) (hb:40≤bitsN s) {v:Int} {n:Nat} (hv:0≤v) (hv2:v≤9223372036854775807) (hn:n≤64):Rel (put1 s v n) (B++[[.i (v / 2 ^ n % 2)]]):=by
 obtain ⟨a1,a2,a3,a4⟩:=put1_ok w (k:=(n:Int)) hv hv2 (by omega) (by omega)
 have a5:=(put1_wf w.wf v n).2
 have hl:=h.len
 refine ⟨by rw [a5];simp;omega,fun p hp=>?_⟩
 by_cases e:p < B.length
 ·rw [gtAl e,h.bit p e,a2 _ (by omega)]
 ·have e:p=B.length:=by simp at hp;omega
  subst e
  rw [gtN,show 40+B.length=(bitsN s).toNat by omega,a3,Int.toNat_natCast]
  rfl
theorem Rel.putN {v:Int} (hv:0≤v) (hv2:v≤9223372036854775807):∀(n:Nat) {s:Rows×Int} {B:Rows},n≤64→Rel s B→Wb s→40≤bitsN s→Rel (HX.putN v n s) (bitsR v n B)
 |0,_,_,_,h,_,_=>h
 |n+1,s,B,hn,h,w,hb=>by
  obtain ⟨a1,_⟩:=put1_ok w (k:=(n:Int)) hv hv2 (by omega) (by omega)
  have a5:=(put1_wf w.wf v n).2
  exact Rel.putN hv hv2 n (by omega) (h.put w hb hv hv2 (by omega)) a1 (by omega)
theorem Rel.many {s:Rows×Int} {B C:Rows} (h:Rel s B) (w:Wb s) (hb:40≤bitsN s) {v:Int} (hv:0≤v) (hv2:v≤9223372036854775807) {n:Nat} (hn:n≤64) (hC:C.length=n) (hc:∀t,t < n→gt C t 0=.i (v / 2 ^ (n - 1 - t) % 2)):Rel (HX.putN v n s) (B++C):=by
 obtain ⟨a1,a2,a3⟩:=putN_ok hv hv2 n hn w
 have a5:=(putN_wf v n w.wf).2
 have hl:=h.len
 refine ⟨by rw [a5,List.length_append,hC];omega,fun p hp=>?_⟩
 by_cases e:p < B.length
 ·rw [gtAl e,h.bit p e,a2.bit _ (by omega)]
 ·obtain ⟨t,rfl⟩:∃t,p=B.length+t:=⟨p - B.length,by omega⟩
  have ht:t < n:=by rw [List.length_append,hC] at hp;omega
  rw [gtAp,hc t ht,←a3 t ht]
  congr 2
  omega
theorem Rel.wr {m:Int×Int} {v:Int} (hv:0≤v) (hv2:v≤2147483647) {s:Rows×Int} {B:Rows} (h:Rel s B) (w:Wb s) (hb:40≤bitsN s):Rel (wrS m v s) (wrR m v B):=by
 have hk:=lowK_le m
 obtain ⟨K,hK⟩:∃K,lowK m=K:=⟨_,rfl⟩
 have hq:=shr_bd (v:=v) (k:=(lowK m:Int)) hv (by omega) (by omega)
 rw [hK] at hk hq
 unfold wrS wrR
 rw [hK]
 obtain ⟨q,hqq⟩:∃q,Ar.std.shr .i64 v (K:Int)=q:=⟨_,rfl⟩
 rw [hqq] at hq ⊢
 split
 ·rename_i h24
  obtain ⟨Q,rfl⟩:∃Q:Nat,q=Q:=⟨q.toNat,by omega⟩
  have hw:Ar.std.shl .i64 1 ((Q:Int)+1) - 2=2 ^ (Q+1) - 2:=by
   rw [shl_one (by omega) (by omega),show ((Q:Int)+1).toNat=Q+1 by omega]
  rw [hw,show ((Q:Int)+1).toNat=Q+1 by omega,Int.toNat_natCast]
  have pl:=pow_le (Q+1) (by omega)
  have p2:(2:Int)≤2 ^ (Q+1):=by rw [Int.pow_succ];have:=(pow_le Q (by omega)).1;omega
  have e:ones Q B++[[.i 0]]=B++(List.replicate Q [.i 1]++[[.i 0]]):=by rw [ones,List.append_assoc]
  rw [e]
  have r1:=h.many (C:=List.replicate Q [.i 1]++[[.i 0]]) w hb (v:=2 ^ (Q+1) - 2) (by omega) (by omega) (n:=Q+1) (by omega) (by simp) fun t ht=>by
   by_cases c:t < Q
   ·rw [gtAl (by simpa using c),onesq Q (by omega) t c,gt_eq,List.getElem?_replicate,if_pos c]
    rfl
   ·have c:t=(List.replicate Q [D.i 1]).length+0:=by simp;omega
    rw [c,gtAp]
    have z:=zeroq Q (by omega)
    simp only [List.length_replicate,Nat.add_zero]
    rw [z]
    rfl
  obtain ⟨a1,a2,_⟩:=putN_ok (v:=2 ^ (Q+1) - 2) (by omega) (by omega) (Q+1) (by omega) w
  exact Rel.putN hv (by omega) K (by omega) r1 a1 (Int.le_trans hb a2.le)
 ·obtain ⟨N,hN⟩:∃N:Nat,N=24:=⟨_,rfl⟩
  obtain ⟨M,hM⟩:∃M:Nat,M=31:=⟨_,rfl⟩
  obtain ⟨W,hW⟩:∃W:Int,W=16777215:=⟨_,rfl⟩
  rw [←hN,←hM,←hW]
  have r1:=h.many (C:=List.replicate N [.i 1]) w hb (v:=W) (by omega) (by omega) (n:=N) (by omega) (by simp) fun t ht=>by
   rw [gt_eq,List.getElem?_replicate,if_pos ht]
   have:=ones24 t (by omega)
   rw [hN,hW,this]
   rfl
  obtain ⟨a1,a2,_⟩:=putN_ok (v:=W) (by omega) (by omega) N (by omega) w
  exact Rel.putN hv (by omega) M (by omega) r1 a1 (Int.le_trans hb a2.le)
end HX

namespace HX
open Go Go.Proofs CX
end HX

namespace HX
open Go Go.Proofs CX
theorem fol_at {l:Rows} {q:Nat} (hq:q < l.length) {t i:Int} (h:0 < q→t=eT l (q - 1)∧i=eI l (q - 1)) {f:Bool} (hf:f=decide (q=0)):folF t i (eT l q) (eI l q) f=folE (l.take q) (eT l q) (eI l q):=by
 have lq:(l.take q).length=q:=by rw [List.length_take];omega
 rw [←fol_eq (l:=l.take q) (t:=t) (i:=i),lq,hf]
 intro hp
 rw [lq] at hp ⊢
 obtain ⟨rfl,rfl⟩:=h hp
 unfold eT eI
 rw [gt_take (by omega),gt_take (by omega)]
 exact ⟨rfl,rfl⟩
theorem law54 {pre:Nat→List (List D)→Prop} {fn:Nat→List (List D)→Nat→Nat→D} (hp40:∀x,pre 40 x) (hf40:∀t i t2 i2 f,fn 40 [[.i t,.i i],[.i t2,.i i2],[.b f]] 0 0=.i (folF t i t2 i2 f)) {l:Rows} {R:Nat→Nat→D} (hR:R 0 0=.i (chkE l)) :
  V54 pre fn l R (fun _ i=>∃f:Nat,f≤l.length∧i=(l.length - f:Nat)∧chkG l l.length=chkG l f) (fun _ i=>(l.length - i).toNat):=by
 have hi:∀n:Int,(D.i n).int=n:=fun _=>rfl
 have e0:∀q,(gt l q 0).int=eT l q:=fun _=>rfl
 have e1:∀q,(gt l q 1).int=eI l q:=fun _=>rfl
 constructor
 all_goals (try simp only [hf40,hi,e0,e1])
 case g0=>intro h;rw [hR,chkE,if_pos (by omega)]
 case i0=>exact fun _=>⟨l.length,Nat.le_refl _,by omega,rfl⟩
 all_goals (intro e i hI;obtain ⟨f,hf,hq,hc⟩:=hI;subst hq;(try simp only [Int.toNat_natCast]);intro hl hx)
 case g9 |g16=>intros;exact hp40 _
 case g20=>
  obtain rfl:f=0:=by omega
  rw [hR,chkE,if_neg (by omega),hc];rfl
 case g10 |g17=>
  intro h0 h
  obtain ⟨g,rfl⟩:∃g,f=g+1:=⟨f - 1,by omega⟩
  rw [fol_at (q:=l.length - (g+1)) (by omega) (fun hp=>by first |(exfalso;omega;done) |(rw [show (((l.length - (g+1):Nat):Int) - 1).toNat=l.length - (g+1) - 1 by omega];exact ⟨rfl,rfl⟩)) (decide_eq_decide.2 (by omega))] at h ⊢
  rw [hR,chkE,if_neg (by omega),hc,chkG,if_neg h]
 case n12 |n19=>
  intro h0 h
  obtain ⟨g,rfl⟩:∃g,f=g+1:=⟨f - 1,by omega⟩
  rw [fol_at (q:=l.length - (g+1)) (by omega) (fun hp=>by first |(exfalso;omega;done) |(rw [show (((l.length - (g+1):Nat):Int) - 1).toNat=l.length - (g+1) - 1 by omega];exact ⟨rfl,rfl⟩)) (decide_eq_decide.2 (by omega))] at h
  refine ⟨⟨g,by omega,by omega,?_⟩,by omega⟩
  rw [hc,chkG,if_pos h]
 all_goals omega
end HX

namespace HX
open Go Go.Proofs CX
set_option maxHeartbeats 4000000 in
set_option maxRecDepth 100000 in
theorem walk50 {ro A pre fn} (hE:EnvOk ⟨A,(cxE ro),ksF,sigL [],pre,fn⟩) {P:List (List D)→Prop} {res:List (List D)→Nat→Nat→D}
  (hv:∀(a0:Int) (a1:Int) (a2:Int),P [[.i a0],[.i a1],[.i a2]]→V50 a0 a1 a2 (res [[.i a0],[.i a1],[.i a2]]) ) :
  PureC (cxE ro) 50 ⟨[(false,[.int .i64]),(false,[.int .i64]),(false,[.int .i64])],[(false,[.bool])],false⟩ P res:=by
 have h:=hE.A
 simp only [] at h
 have hinl:∀f fn,inlL [] f=some fn→(cxE ro).fn f=some fn∧(cxE ro).ext f=none:=Inls.ok (by repeat (first |exact .nil |refine .cons rfl rfl ?_))
 refine PureC.of_vc hE hinl 6 (f:=50) (fn:=Try.f50) ⟨rfl,rfl⟩ ?_
 intro a0 a1 a2 hP
 obtain ⟨R,hR⟩:∃R,res [[.i a0],[.i a1],[.i a2]]=R:=⟨_,rfl⟩
 rw [hR]
 have hV:=hv a0 a1 a2  hP
 rw [hR] at hV
 clear hR hP hv
 cbv
 repeat' first|(refine Br.mk (fun _=>?_) (fun _=>?_)<;>cbv)|(refine NilB.mk (fun _=>?_) ?_<;>cbv)|refine And.intro ?_ ?_|exact True.intro
 ·rename_i hp0_0
  subst h;exact hV.g0 (dt hp0_0)
 ·rename_i hp1_0
  subst h;exact hV.g1 (df hp1_0)
end HX

namespace HX
open Go Go.Proofs CX
set_option maxHeartbeats 4000000 in
set_option maxRecDepth 100000 in
theorem walk53 {ro A pre fn} (hE:EnvOk ⟨A,(cxE ro),ksF,sigL [],pre,fn⟩) {P:List (List D)→Prop} {res:List (List D)→Nat→Nat→D}
  (hv:∀(a0:Int) (a1:Int) (a2:Int),P [[.i a0],[.i a1],[.i a2]]→V53 a0 a1 a2 (res [[.i a0],[.i a1],[.i a2]]) ) :
  PureC (cxE ro) 53 ⟨[(false,[.int .i64]),(false,[.int .i64]),(false,[.int .i64])],[(false,[.bool])],false⟩ P res:=by
 have h:=hE.A
 simp only [] at h
 have hinl:∀f fn,inlL [] f=some fn→(cxE ro).fn f=some fn∧(cxE ro).ext f=none:=Inls.ok (by repeat (first |exact .nil |refine .cons rfl rfl ?_))
 refine PureC.of_vc hE hinl 6 (f:=53) (fn:=Try.f53) ⟨rfl,rfl⟩ ?_
 intro a0 a1 a2 hP
 obtain ⟨R,hR⟩:∃R,res [[.i a0],[.i a1],[.i a2]]=R:=⟨_,rfl⟩
 rw [hR]
 have hV:=hv a0 a1 a2  hP
 rw [hR] at hV
 clear hR hP hv
 cbv
 repeat' first|(refine Br.mk (fun _=>?_) (fun _=>?_)<;>cbv)|(refine NilB.mk (fun _=>?_) ?_<;>cbv)|refine And.intro ?_ ?_|exact True.intro
 ·rename_i hp0_0
  subst h;exact hV.g0 (dt hp0_0)
 ·rename_i hp1_0
  subst h;exact hV.g1 (df hp1_0)
end HX

namespace HX
open Go Go.Proofs CX
set_option maxHeartbeats 4000000 in
set_option maxRecDepth 100000 in
theorem walk100 {ro A pre fn} (hE:EnvOk ⟨A,(cxE ro),ksF,sigL [],pre,fn⟩) {P:List (List D)→Prop} {res:List (List D)→Nat→Nat→D}
  (hv:∀(a0:Int) (a1:Int),P [[.i a0],[.i a1]]→V100 a0 a1 (res [[.i a0],[.i a1]]) ) :
  PureC (cxE ro) 100 ⟨[(false,[.int .i64]),(false,[.int .i64])],[(false,[.int .i64])],false⟩ P res:=by
 have h:=hE.A
 simp only [] at h
 have hinl:∀f fn,inlL [(112,Try.f112)] f=some fn→(cxE ro).fn f=some fn∧(cxE ro).ext f=none:=Inls.ok (by repeat (first |exact .nil |refine .cons rfl rfl ?_))
 refine PureC.of_vc hE hinl 6 (f:=100) (fn:=Try.f100) ⟨rfl,rfl⟩ ?_
 intro a0 a1 hP
 obtain ⟨R,hR⟩:∃R,res [[.i a0],[.i a1]]=R:=⟨_,rfl⟩
 rw [hR]
 have hV:=hv a0 a1  hP
 rw [hR] at hV
 clear hR hP hv
 cbv
 repeat' first|(refine Br.mk (fun _=>?_) (fun _=>?_)<;>cbv)|(refine NilB.mk (fun _=>?_) ?_<;>cbv)|refine And.intro ?_ ?_|exact True.intro
 ·rename_i hp0_0 hp0_1
  subst h;exact hV.g0 (df (nt hp0_0)) (df (nt hp0_1))
 ·rename_i hp1_0 hp1_1
  subst h;exact hV.g1 (df (nt hp1_0)) (dt (nf hp1_1))
 ·rename_i hp2_0 hp2_1
  subst h;exact hV.g2 (dt (nf hp2_0)) (df (nt hp2_1))
 ·rename_i hp3_0 hp3_1 hp3_2
  subst h;exact hV.g3 (dt (nf hp3_0)) (dt (nf hp3_1)) (dt hp3_2)
 ·rename_i hp4_0 hp4_1 hp4_2 hp4_3
  subst h;exact hV.g4 (dt (nf hp4_0)) (dt (nf hp4_1)) (df hp4_2) (dt hp4_3)
 ·rename_i hp5_0 hp5_1 hp5_2 hp5_3
  subst h;exact hV.g5 (dt (nf hp5_0)) (dt (nf hp5_1)) (df hp5_2) (df hp5_3)
end HX

namespace HX
open Go Go.Proofs CX
set_option maxHeartbeats 4000000 in
set_option maxRecDepth 100000 in
theorem walk76 {ro A pre fn} (hE:EnvOk ⟨A,(cxE ro),ksF,sigL [(100,⟨[(false,[.int .i64]),(false,[.int .i64])],[(false,[.int .i64])],false⟩)],pre,fn⟩) {P:List (List D)→Prop} {res:List (List D)→Nat→Nat→D}
  (hv:∀(a0_0:Int) (a0_1:Int) (a1_0:Int) (a1_1:Int),P [[.i a0_0,.i a0_1],[.i a1_0,.i a1_1]]→∃(I0:Int→Int→Prop) (m0:Int→Int→Nat),V76 pre fn a0_0 a0_1 a1_0 a1_1 (res [[.i a0_0,.i a0_1],[.i a1_0,.i a1_1]]) I0 m0) :
  PureC (cxE ro) 76 ⟨[(true,[.int .i64,.int .i64]),(true,[.int .i64,.int .i64])],[(false,[.int .i64])],false⟩ P res:=by
 have h:=hE.A
 simp only [] at h
 have hinl:∀f fn,inlL [(99,Try.f99)] f=some fn→(cxE ro).fn f=some fn∧(cxE ro).ext f=none:=Inls.ok (by repeat (first |exact .nil |refine .cons rfl rfl ?_))
 refine PureC.of_vc hE hinl 6 (f:=76) (fn:=Try.f76) ⟨rfl,rfl⟩ ?_
 intro a0_0 a0_1 a1_0 a1_1 hP
 obtain ⟨R,hR⟩:∃R,res [[.i a0_0,.i a0_1],[.i a1_0,.i a1_1]]=R:=⟨_,rfl⟩
 rw [hR]
 obtain ⟨I0,m0,hV⟩:=hv a0_0 a0_1 a1_0 a1_1  hP
 rw [hR] at hV
 clear hR hP hv
 cbv
 repeat' first|(refine Br.mk (fun _=>?_) (fun _=>?_)<;>cbv)|(refine NilB.mk (fun _=>?_) ?_<;>cbv)|refine And.intro ?_ ?_|exact True.intro
 ·subst h;exact hV.g0
 ·subst h;exact hV.g1
 ·refine Leaf.gen fun σz hσz=>?_
  refine loopB hE hinl 6 [] [] [] (fun x:Int×Int=>[.i x.1,.i x.2]) (fun x=>I0 x.1 x.2) (fun x=>m0 x.1 x.2) (0,0) (by subst h;exact hV.i0) ?_ ?_<;>subst hσz
  ·clear hE hinl hV;cbv;(try repeat' first|rfl|assumption|constructor)
  ·intro ⟨x0_0,x0_1⟩ hI0 K0 hK0
   cbv
   repeat' first|(refine Br.mk (fun _=>?_) (fun _=>?_)<;>cbv)|(refine NilB.mk (fun _=>?_) ?_<;>cbv)|refine And.intro ?_ ?_|exact True.intro
   ·next a=>subst h;exact hV.g3 _ _ hI0 (dt a)
   ·next a=>subst h;exact hV.g4 _ _ hI0 (dt a)
   ·next a=>subst h;exact hV.g5 _ _ hI0 (dt a)
   ·next a b=>subst h;exact hV.g6 _ _ hI0 (dt a) (df (nt b))
   ·next a b=>subst h;exact hV.g7 _ _ hI0 (dt a) (dt (nf b))
   ·rename_i p8a p8b
    refine hK0 (x0_0,A.add x0_1 1) _ ?_ ?_ ?_
    ·subst h;exact (hV.n8 _ _ hI0 (dt p8a) (dt (nf p8b))).1
    ·subst h;exact (hV.n8 _ _ hI0 (dt p8a) (dt (nf p8b))).2
    ·clear hE hinl hV hK0;cbv;(try repeat' first|rfl|assumption|constructor)
   ·next a=>subst h;exact hV.g9 _ _ hI0 (df a)
end HX

namespace HX
open Go Go.Proofs CX
set_option maxHeartbeats 4000000 in
set_option maxRecDepth 100000 in
theorem walk71 {ro A pre fn} (hE:EnvOk ⟨A,(cxE ro),ksF,sigL [(50,⟨[(false,[.int .i64]),(false,[.int .i64]),(false,[.int .i64])],[(false,[.bool])],false⟩),(76,⟨[(true,[.int .i64,.int .i64]),(true,[.int .i64,.int .i64])],[(false,[.int .i64])],false⟩)],pre,fn⟩) {P:List (List D)→Prop} {res:List (List D)→Nat→Nat→D}
  (hv:∀(a0:Rows) (a1_0:Int) (a1_1:Int),ShR [.int .i64,.int .i64] a0→P [[.l a0],[.i a1_0,.i a1_1]]→V71 pre fn a0 a1_0 a1_1 (res [[.l a0],[.i a1_0,.i a1_1]]) ) :
  PureC (cxE ro) 71 ⟨[(false,[.sl [.int .i64,.int .i64]]),(true,[.int .i64,.int .i64])],[(false,[.int .i64])],false⟩ P res:=by
 have h:=hE.A
 simp only [] at h
 have hinl:∀f fn,inlL [] f=some fn→(cxE ro).fn f=some fn∧(cxE ro).ext f=none:=Inls.ok (by repeat (first |exact .nil |refine .cons rfl rfl ?_))
 refine PureC.of_vc hE hinl 6 (f:=71) (fn:=Try.f71) ⟨rfl,rfl⟩ ?_
 intro a0 ha0 a1_0 a1_1 hP
 obtain ⟨R,hR⟩:∃R,res [[.l a0],[.i a1_0,.i a1_1]]=R:=⟨_,rfl⟩
 rw [hR]
 have hV:=hv a0 a1_0 a1_1 ha0 hP
 rw [hR] at hV
 clear hR hP hv
 cbv
 repeat' first|(refine Br.mk (fun _=>?_) (fun _=>?_)<;>cbv)|(refine NilB.mk (fun _=>?_) ?_<;>cbv)|refine And.intro ?_ ?_|exact True.intro
 ·subst h;exact hV.g0
 ·next a=>subst h;exact hV.g1 (nt a)
 ·next a=>subst h;exact hV.g2 (nf a)
 ·next a b=>subst h;exact hV.g3 (nf a) (nt b)
 ·next a b c=>subst h;exact hV.g4 (nf a) (nf b) (dt c)
 ·next a b c=>subst h;exact hV.g5 (nf a) (nf b) (dt c)
 ·next a b c=>subst h;exact hV.g6 (nf a) (nf b) (dt c)
 ·next a b c=>subst h;exact hV.g7 (nf a) (nf b) (dt c)
 ·next a b c=>subst h;exact hV.g8 (nf a) (nf b) (dt c)
 ·next a b c d=>subst h;exact hV.g9 (nf a) (nf b) (dt c) (dt d)
 ·next a b c d=>subst h;exact hV.g10 (nf a) (nf b) (dt c) (df d)
 ·next a b c=>subst h;exact hV.g11 (nf a) (nf b) (df c)
end HX

namespace HX
open Go Go.Proofs CX
set_option maxHeartbeats 4000000 in
set_option maxRecDepth 100000 in
theorem walk51 {ro A pre fn} (hE:EnvOk ⟨A,(cxE ro),ksF,sigL [(71,⟨[(false,[.sl [.int .i64,.int .i64]]),(true,[.int .i64,.int .i64])],[(false,[.int .i64])],false⟩)],pre,fn⟩) {P:List (List D)→Prop} {res:List (List D)→Nat→Nat→D}
  (hv:∀(a0:Rows),ShR [.int .i64,.int .i64] a0→P [[.l a0]]→∃(I0:Int→Int→Prop) (m0:Int→Int→Nat),V51 pre fn a0 (res [[.l a0]]) I0 m0) :
  PureC (cxE ro) 51 ⟨[(false,[.sl [.int .i64,.int .i64]])],[(false,[.int .i64])],false⟩ P res:=by
 have h:=hE.A
 simp only [] at h
 have hinl:∀f fn,inlL [] f=some fn→(cxE ro).fn f=some fn∧(cxE ro).ext f=none:=Inls.ok (by repeat (first |exact .nil |refine .cons rfl rfl ?_))
 refine PureC.of_vc hE hinl 6 (f:=51) (fn:=Try.f51) ⟨rfl,rfl⟩ ?_
 intro a0 ha0 hP
 obtain ⟨R,hR⟩:∃R,res [[.l a0]]=R:=⟨_,rfl⟩
 rw [hR]
 obtain ⟨I0,m0,hV⟩:=hv a0 ha0 hP
 rw [hR] at hV
 clear hR hP hv
 cbv
 repeat' first|(refine Br.mk (fun _=>?_) (fun _=>?_)<;>cbv)|(refine NilB.mk (fun _=>?_) ?_<;>cbv)|refine And.intro ?_ ?_|exact True.intro
 ·next a=>subst h;exact hV.g0 (dt a)
 ·rename_i p1a
  refine Leaf.gen fun σz hσz=>?_
  refine loopB hE hinl 6 [] [] [] (fun x:Int×Int=>[.i x.1,.i x.2]) (fun x=>I0 x.1 x.2) (fun x=>m0 x.1 x.2) (0,0) (by subst h;exact hV.i0 (df p1a)) ?_ ?_<;>subst hσz
  ·clear hE hinl hV;cbv;(try repeat' first|rfl|assumption|constructor)
  ·intro ⟨x0_0,x0_1⟩ hI0 K0 hK0
   cbv
   repeat' first|(refine Br.mk (fun _=>?_) (fun _=>?_)<;>cbv)|(refine NilB.mk (fun _=>?_) ?_<;>cbv)|refine And.intro ?_ ?_|exact True.intro
   ·next a=>subst h;exact hV.g2 _ _ hI0 (df p1a) (dt a)
   ·next a=>subst h;exact hV.g3 _ _ hI0 (df p1a) (dt a)
   ·next a=>subst h;exact hV.g4 _ _ hI0 (df p1a) (dt a)
   ·next a=>subst h;exact hV.g2 _ _ hI0 (df p1a) (dt a)
   ·next a=>subst h;exact hV.g6 _ _ hI0 (df p1a) (dt a)
   ·next a=>subst h;exact hV.g7 _ _ hI0 (df p1a) (dt a)
   ·next a b=>subst h;exact hV.g8 _ _ hI0 (df p1a) (dt a) (df (nt b))
   ·next a b=>subst h;exact hV.g9 _ _ hI0 (df p1a) (dt a) (dt (nf b))
   ·rename_i p10a p10b
    refine hK0 (x0_0,A.add x0_1 1) _ ?_ ?_ ?_
    ·subst h;exact (hV.n10 _ _ hI0 (df p1a) (dt p10a) (dt (nf p10b))).1
    ·subst h;exact (hV.n10 _ _ hI0 (df p1a) (dt p10a) (dt (nf p10b))).2
    ·clear hE hinl hV hK0;cbv;(try repeat' first|rfl|assumption|constructor)
   ·next a=>subst h;exact hV.g11 _ _ hI0 (df p1a) (df a)
end HX

namespace HX
open Go Go.Proofs CX
set_option maxHeartbeats 4000000 in
set_option maxRecDepth 100000 in
theorem walk40 {ro A pre fn} (hE:EnvOk ⟨A,(cxE ro),ksF,sigL [(53,⟨[(false,[.int .i64]),(false,[.int .i64]),(false,[.int .i64])],[(false,[.bool])],false⟩)],pre,fn⟩) {P:List (List D)→Prop} {res:List (List D)→Nat→Nat→D}
  (hv:∀(a0_0:Int) (a0_1:Int) (a1_0:Int) (a1_1:Int) (a2:Bool),P [[.i a0_0,.i a0_1],[.i a1_0,.i a1_1],[.b a2]]→V40 pre fn a0_0 a0_1 a1_0 a1_1 a2 (res [[.i a0_0,.i a0_1],[.i a1_0,.i a1_1],[.b a2]]) ) :
  PureC (cxE ro) 40 ⟨[(true,[.int .i64,.int .i64]),(true,[.int .i64,.int .i64]),(false,[.bool])],[(false,[.int .i64])],false⟩ P res:=by
 have h:=hE.A
 simp only [] at h
 have hinl:∀f fn,inlL [] f=some fn→(cxE ro).fn f=some fn∧(cxE ro).ext f=none:=Inls.ok (by repeat (first |exact .nil |refine .cons rfl rfl ?_))
 refine PureC.of_vc hE hinl 6 (f:=40) (fn:=Try.f40) ⟨rfl,rfl⟩ ?_
 intro a0_0 a0_1 a1_0 a1_1 a2 hP
 obtain ⟨R,hR⟩:∃R,res [[.i a0_0,.i a0_1],[.i a1_0,.i a1_1],[.b a2]]=R:=⟨_,rfl⟩
 rw [hR]
 have hV:=hv a0_0 a0_1 a1_0 a1_1 a2  hP
 rw [hR] at hV
 clear hR hP hv
 cbv
 repeat' first|(refine Br.mk (fun _=>?_) (fun _=>?_)<;>cbv)|(refine NilB.mk (fun _=>?_) ?_<;>cbv)|refine And.intro ?_ ?_|exact True.intro
 ·subst h;exact hV.g0
 ·rename_i hp1_0
  subst h;exact hV.g1 (nt hp1_0)
 ·rename_i hp2_0
  subst h;exact hV.g2 (nf hp2_0)
 ·rename_i hp3_0 hp3_1
  subst h;exact hV.g3 (nf hp3_0) (nt hp3_1)
 ·rename_i hp4_0 hp4_1 hp4_2 hp4_3
  subst h;exact hV.g4 (nf hp4_0) (nf hp4_1) (nt hp4_2) (dt hp4_3)
 ·rename_i hp5_0 hp5_1 hp5_2 hp5_3 hp5_4 hp5_5
  subst h;exact hV.g5 (nf hp5_0) (nf hp5_1) (nt hp5_2) (df hp5_3) (dt hp5_4) (dt hp5_5)
 ·rename_i hp6_0 hp6_1 hp6_2 hp6_3 hp6_4 hp6_5
  subst h;exact hV.g6 (nf hp6_0) (nf hp6_1) (nt hp6_2) (df hp6_3) (dt hp6_4) (df hp6_5)
 ·rename_i hp7_0 hp7_1 hp7_2 hp7_3 hp7_4
  subst h;exact hV.g7 (nf hp7_0) (nf hp7_1) (nt hp7_2) (df hp7_3) (df hp7_4)
 ·rename_i hp8_0 hp8_1 hp8_2
  subst h;exact hV.g8 (nf hp8_0) (nf hp8_1) (nf hp8_2)
end HX

namespace HX
open Go Go.Proofs CX
set_option maxHeartbeats 4000000 in
set_option maxRecDepth 100000 in
theorem walk54 {ro A pre fn} (hE:EnvOk ⟨A,(cxE ro),ksF,sigL [(40,⟨[(true,[.int .i64,.int .i64]),(true,[.int .i64,.int .i64]),(false,[.bool])],[(false,[.int .i64])],false⟩)],pre,fn⟩) {P:List (List D)→Prop} {res:List (List D)→Nat→Nat→D}
  (hv:∀(a0:Rows),ShR [.int .i64,.int .i64] a0→P [[.l a0]]→∃(I0:Int→Int→Prop) (m0:Int→Int→Nat),V54 pre fn a0 (res [[.l a0]]) I0 m0) :
  PureC (cxE ro) 54 ⟨[(false,[.sl [.int .i64,.int .i64]])],[(false,[.int .i64])],false⟩ P res:=by
 have h:=hE.A
 simp only [] at h
 have hinl:∀f fn,inlL [] f=some fn→(cxE ro).fn f=some fn∧(cxE ro).ext f=none:=Inls.ok (by repeat (first |exact .nil |refine .cons rfl rfl ?_))
 refine PureC.of_vc hE hinl 6 (f:=54) (fn:=Try.f54) ⟨rfl,rfl⟩ ?_
 intro a0 ha0 hP
 obtain ⟨R,hR⟩:∃R,res [[.l a0]]=R:=⟨_,rfl⟩
 rw [hR]
 obtain ⟨I0,m0,hV⟩:=hv a0 ha0 hP
 rw [hR] at hV
 clear hR hP hv
 cbv
 repeat' first|(refine Br.mk (fun _=>?_) (fun _=>?_)<;>cbv)|(refine NilB.mk (fun _=>?_) ?_<;>cbv)|refine And.intro ?_ ?_|exact True.intro
 ·rename_i hp0_0
  subst h;exact hV.g0 (dt hp0_0)
 ·rename_i hp1_0
  refine Leaf.gen fun σz hσz=>?_
  refine loopB hE hinl 6 [] [] [] (fun x:Int×Int=>[.i x.1,.i x.2]) (fun x=>I0 x.1 x.2) (fun x=>m0 x.1 x.2) (0,0) (by subst h;exact hV.i0 (df hp1_0)) ?_ ?_<;>subst hσz
  ·clear hE hinl hV;cbv;(try repeat' first|rfl|assumption|constructor)
  ·intro ⟨x0_0,x0_1⟩ hI0 K0 hK0
   cbv
   repeat' first|(refine Br.mk (fun _=>?_) (fun _=>?_)<;>cbv)|(refine NilB.mk (fun _=>?_) ?_<;>cbv)|refine And.intro ?_ ?_|exact True.intro
   ·rename_i hp2_0 hp2_1
    subst h;exact hV.g2 _ _ hI0 (df hp1_0) (dt hp2_0) (dt hp2_1)
   ·rename_i hp3_0 hp3_1
    subst h;exact hV.g3 _ _ hI0 (df hp1_0) (dt hp3_0) (dt hp3_1)
   ·rename_i hp4_0 hp4_1
    subst h;exact hV.g4 _ _ hI0 (df hp1_0) (dt hp4_0) (dt hp4_1)
   ·rename_i hp5_0 hp5_1
    subst h;exact hV.g5 _ _ hI0 (df hp1_0) (dt hp5_0) (dt hp5_1)
   ·rename_i hp6_0 hp6_1
    subst h;exact hV.g6 _ _ hI0 (df hp1_0) (dt hp6_0) (dt hp6_1)
   ·rename_i hp7_0 hp7_1
    subst h;exact hV.g7 _ _ hI0 (df hp1_0) (dt hp7_0) (dt hp7_1)
   ·rename_i hp8_0 hp8_1
    subst h;exact hV.g8 _ _ hI0 (df hp1_0) (dt hp8_0) (dt hp8_1)
   ·rename_i hp9_0 hp9_1
    subst h;exact hV.g9 _ _ hI0 (df hp1_0) (dt hp9_0) (dt hp9_1)
   ·rename_i hp10_0 hp10_1 hp10_2
    subst h;exact hV.g10 _ _ hI0 (df hp1_0) (dt hp10_0) (dt hp10_1) (df (nt hp10_2))
   ·rename_i hp11_0 hp11_1 hp11_2
    subst h;exact hV.g11 _ _ hI0 (df hp1_0) (dt hp11_0) (dt hp11_1) (dt (nf hp11_2))
   ·rename_i hp12_0 hp12_1 hp12_2
    refine hK0 (x0_0,A.add x0_1 1) _ ?_ ?_ ?_
    ·subst h;exact (hV.n12 _ _ hI0 (df hp1_0) (dt hp12_0) (dt hp12_1) (dt (nf hp12_2))).1
    ·subst h;exact (hV.n12 _ _ hI0 (df hp1_0) (dt hp12_0) (dt hp12_1) (dt (nf hp12_2))).2
    ·clear hE hinl hV hK0;cbv;(try repeat' first|rfl|assumption|constructor)
   ·rename_i hp13_0 hp13_1
    subst h;exact hV.g13 _ _ hI0 (df hp1_0) (dt hp13_0) (df hp13_1)
   ·rename_i hp14_0 hp14_1
    subst h;exact hV.g14 _ _ hI0 (df hp1_0) (dt hp14_0) (df hp14_1)
   ·rename_i hp15_0 hp15_1
    subst h;exact hV.g15 _ _ hI0 (df hp1_0) (dt hp15_0) (df hp15_1)
   ·rename_i hp16_0 hp16_1
    subst h;exact hV.g16 _ _ hI0 (df hp1_0) (dt hp16_0) (df hp16_1)
   ·rename_i hp17_0 hp17_1 hp17_2
    subst h;exact hV.g17 _ _ hI0 (df hp1_0) (dt hp17_0) (df hp17_1) (df (nt hp17_2))
   ·rename_i hp18_0 hp18_1 hp18_2
    subst h;exact hV.g18 _ _ hI0 (df hp1_0) (dt hp18_0) (df hp18_1) (dt (nf hp18_2))
   ·rename_i hp19_0 hp19_1 hp19_2
    refine hK0 (x0_0,A.add x0_1 1) _ ?_ ?_ ?_
    ·subst h;exact (hV.n19 _ _ hI0 (df hp1_0) (dt hp19_0) (df hp19_1) (dt (nf hp19_2))).1
    ·subst h;exact (hV.n19 _ _ hI0 (df hp1_0) (dt hp19_0) (df hp19_1) (dt (nf hp19_2))).2
    ·clear hE hinl hV hK0;cbv;(try repeat' first|rfl|assumption|constructor)
   ·rename_i hp20_0
    subst h;exact hV.g20 _ _ hI0 (df hp1_0) (df hp20_0)
end HX

namespace HX
open Go Go.Proofs CX
set_option maxHeartbeats 4000000 in
set_option maxRecDepth 100000 in
theorem walk52 {ro A pre fn} (hE:EnvOk ⟨A,(cxE ro),ksF,sigL [],pre,fn⟩) {P:List (List D)→Prop} {res:List (List D)→Nat→Nat→D}
  (hv:∀(a0_0:Int) (a0_1:Int) (a0_2:Int),P [[.i a0_0,.i a0_1,.i a0_2]]→V52 a0_0 a0_1 a0_2 (res [[.i a0_0,.i a0_1,.i a0_2]]) ) :
  PureC (cxE ro) 52 ⟨[(true,[.int .i64,.int .i64,.int .i64])],[(false,[.int .i64])],false⟩ P res:=by
 have h:=hE.A
 simp only [] at h
 have hinl:∀f fn,inlL [] f=some fn→(cxE ro).fn f=some fn∧(cxE ro).ext f=none:=Inls.ok (by repeat (first |exact .nil |refine .cons rfl rfl ?_))
 refine PureC.of_vc hE hinl 6 (f:=52) (fn:=Try.f52) ⟨rfl,rfl⟩ ?_
 intro a0_0 a0_1 a0_2 hP
 obtain ⟨R,hR⟩:∃R,res [[.i a0_0,.i a0_1,.i a0_2]]=R:=⟨_,rfl⟩
 rw [hR]
 have hV:=hv a0_0 a0_1 a0_2  hP
 rw [hR] at hV
 clear hR hP hv
 cbv
 repeat' first|(refine Br.mk (fun _=>?_) (fun _=>?_)<;>cbv)|(refine NilB.mk (fun _=>?_) ?_<;>cbv)|refine And.intro ?_ ?_|exact True.intro
 ·subst h;exact hV.g0
 ·subst h;exact hV.g1
end HX

namespace HX
open Go Go.Proofs CX
set_option maxHeartbeats 4000000 in
set_option maxRecDepth 100000 in
theorem walk46 {ro A pre fn} (hE:EnvOk ⟨A,(cxE ro),ksF,sigL [(50,⟨[(false,[.int .i64]),(false,[.int .i64]),(false,[.int .i64])],[(false,[.bool])],false⟩),(52,⟨[(true,[.int .i64,.int .i64,.int .i64])],[(false,[.int .i64])],false⟩)],pre,fn⟩) {P:List (List D)→Prop} {res:List (List D)→Nat→Nat→D}
  (hv:∀(a0_0:Int) (a0_1:Int) (a0_2:Int) (a1:Rows),ShR [.int .i64] a1→P [[.i a0_0,.i a0_1,.i a0_2],[.l a1]]→∃(I0:Int→Int→Prop) (m0:Int→Int→Nat),V46 pre fn a0_0 a0_1 a0_2 a1 (res [[.i a0_0,.i a0_1,.i a0_2],[.l a1]]) I0 m0) :
  PureC (cxE ro) 46 ⟨[(true,[.int .i64,.int .i64,.int .i64]),(false,[.sl [.int .i64]])],[(false,[.int .i64])],false⟩ P res:=by
 have h:=hE.A
 simp only [] at h
 have hinl:∀f fn,inlL [(60,Try.f60),(61,Try.f61),(85,Try.f85),(86,Try.f86)] f=some fn→(cxE ro).fn f=some fn∧(cxE ro).ext f=none:=Inls.ok (by repeat (first |exact .nil |refine .cons rfl rfl ?_))
 refine PureC.of_vc hE hinl 6 (f:=46) (fn:=Try.f46) ⟨rfl,rfl⟩ ?_
 intro a0_0 a0_1 a0_2 a1 ha1 hP
 obtain ⟨R,hR⟩:∃R,res [[.i a0_0,.i a0_1,.i a0_2],[.l a1]]=R:=⟨_,rfl⟩
 rw [hR]
 obtain ⟨I0,m0,hV⟩:=hv a0_0 a0_1 a0_2 a1 ha1 hP
 rw [hR] at hV
 clear hR hP hv
 cbv
 repeat' first|(refine Br.mk (fun _=>?_) (fun _=>?_)<;>cbv)|(refine NilB.mk (fun _=>?_) ?_<;>cbv)|refine And.intro ?_ ?_|exact True.intro
 ·subst h;exact hV.g0
 ·rename_i hp1_0
  subst h;exact hV.g1 (df (nt hp1_0))
 ·rename_i hp2_0
  refine Leaf.gen fun σz hσz=>?_
  refine loopB hE hinl 6 [] [] [] (fun x:Int×Int=>[.i x.1,.i x.2]) (fun x=>I0 x.1 x.2) (fun x=>m0 x.1 x.2) (0,0) (by subst h;exact hV.i0 (dt (nf hp2_0))) ?_ ?_<;>subst hσz
  ·clear hE hinl hV;cbv;(try repeat' first|rfl|assumption|constructor)
  ·intro ⟨x0_0,x0_1⟩ hI0 K0 hK0
   cbv
   repeat' first|(refine Br.mk (fun _=>?_) (fun _=>?_)<;>cbv)|(refine NilB.mk (fun _=>?_) ?_<;>cbv)|refine And.intro ?_ ?_|exact True.intro
   ·rename_i hp3_0
    subst h;exact hV.g3 _ _ hI0 (dt (nf hp2_0)) (dt hp3_0)
   ·rename_i hp4_0
    subst h;exact hV.g4 _ _ hI0 (dt (nf hp2_0)) (dt hp4_0)
   ·rename_i hp5_0
    subst h;exact hV.g5 _ _ hI0 (dt (nf hp2_0)) (dt hp5_0)
   ·rename_i hp6_0
    subst h;exact hV.g6 _ _ hI0 (dt (nf hp2_0)) (dt hp6_0)
   ·rename_i hp7_0 hp7_1 hp7_2
    subst h;exact hV.g7 _ _ hI0 (dt (nf hp2_0)) (dt hp7_0) (nt hp7_1) (dt hp7_2)
   ·rename_i hp8_0 hp8_1 hp8_2
    subst h;exact hV.g8 _ _ hI0 (dt (nf hp2_0)) (dt hp8_0) (nt hp8_1) (df hp8_2)
   ·rename_i hp9_0 hp9_1
    subst h;exact hV.g9 _ _ hI0 (dt (nf hp2_0)) (dt hp9_0) (nf hp9_1)
   ·rename_i hp10_0 hp10_1
    refine hK0 (x0_0,A.add x0_1 1) _ ?_ ?_ ?_
    ·subst h;exact (hV.n10 _ _ hI0 (dt (nf hp2_0)) (dt hp10_0) (nf hp10_1)).1
    ·subst h;exact (hV.n10 _ _ hI0 (dt (nf hp2_0)) (dt hp10_0) (nf hp10_1)).2
    ·clear hE hinl hV hK0;cbv;(try repeat' first|rfl|assumption|constructor)
   ·rename_i hp11_0 hp11_1
    exfalso;subst h;simp [Ar.std] at hp11_1
   ·rename_i hp12_0 hp12_1
    subst h;exact hV.g12 _ _ hI0 (dt (nf hp2_0)) (df hp12_0)
end HX

namespace HX
open Go Go.Proofs CX
set_option maxHeartbeats 4000000 in
set_option maxRecDepth 100000 in
theorem walk48 {ro A pre fn} (hE:EnvOk ⟨A,(cxE ro),ksF,sigL [(53,⟨[(false,[.int .i64]),(false,[.int .i64]),(false,[.int .i64])],[(false,[.bool])],false⟩)],pre,fn⟩) {P:List (List D)→Prop} {res:List (List D)→Nat→Nat→D}
  (hv:∀(a0_0:Int) (a0_1:Int) (a0_2:Int),P [[.i a0_0,.i a0_1,.i a0_2]]→V48 pre fn a0_0 a0_1 a0_2 (res [[.i a0_0,.i a0_1,.i a0_2]]) ) :
  PureC (cxE ro) 48 ⟨[(true,[.int .i64,.int .i64,.int .i64])],[(false,[.int .i64])],false⟩ P res:=by
 have h:=hE.A
 simp only [] at h
 have hinl:∀f fn,inlL [] f=some fn→(cxE ro).fn f=some fn∧(cxE ro).ext f=none:=Inls.ok (by repeat (first |exact .nil |refine .cons rfl rfl ?_))
 refine PureC.of_vc hE hinl 6 (f:=48) (fn:=Try.f48) ⟨rfl,rfl⟩ ?_
 intro a0_0 a0_1 a0_2 hP
 obtain ⟨R,hR⟩:∃R,res [[.i a0_0,.i a0_1,.i a0_2]]=R:=⟨_,rfl⟩
 rw [hR]
 have hV:=hv a0_0 a0_1 a0_2  hP
 rw [hR] at hV
 clear hR hP hv
 cbv
 repeat' first|(refine Br.mk (fun _=>?_) (fun _=>?_)<;>cbv)|(refine NilB.mk (fun _=>?_) ?_<;>cbv)|refine And.intro ?_ ?_|exact True.intro
 ·subst h;exact hV.g0
 ·rename_i hp1_0
  subst h;exact hV.g1 (nt hp1_0)
 ·rename_i hp2_0
  subst h;exact hV.g2 (nf hp2_0)
 ·rename_i hp3_0 hp3_1
  subst h;exact hV.g3 (nf hp3_0) (nt hp3_1)
 ·rename_i hp4_0 hp4_1
  subst h;exact hV.g4 (nf hp4_0) (nf hp4_1)
 ·rename_i hp5_0 hp5_1 hp5_2
  subst h;exact hV.g5 (nf hp5_0) (nf hp5_1) (nt hp5_2)
 ·rename_i hp6_0 hp6_1 hp6_2
  subst h;exact hV.g6 (nf hp6_0) (nf hp6_1) (nf hp6_2)
end HX

namespace HX
open Go Go.Proofs CX
set_option maxHeartbeats 4000000 in
set_option maxRecDepth 100000 in
theorem walk49 {ro A pre fn} (hE:EnvOk ⟨A,(cxE ro),ksF,sigL [(53,⟨[(false,[.int .i64]),(false,[.int .i64]),(false,[.int .i64])],[(false,[.bool])],false⟩)],pre,fn⟩) {P:List (List D)→Prop} {res:List (List D)→Nat→Nat→D}
  (hv:∀(a0_0:Int) (a0_1:Int) (a0_2:Int) (a1:Rows),ShR [.int .i64] a1→P [[.i a0_0,.i a0_1,.i a0_2],[.l a1]]→∃(I0:Int→Int→Prop) (m0:Int→Int→Nat),V49 pre fn a0_0 a0_1 a0_2 a1 (res [[.i a0_0,.i a0_1,.i a0_2],[.l a1]]) I0 m0) :
  PureC (cxE ro) 49 ⟨[(true,[.int .i64,.int .i64,.int .i64]),(false,[.sl [.int .i64]])],[(false,[.int .i64])],false⟩ P res:=by
 have h:=hE.A
 simp only [] at h
 have hinl:∀f fn,inlL [] f=some fn→(cxE ro).fn f=some fn∧(cxE ro).ext f=none:=Inls.ok (by repeat (first |exact .nil |refine .cons rfl rfl ?_))
 refine PureC.of_vc hE hinl 6 (f:=49) (fn:=Try.f49) ⟨rfl,rfl⟩ ?_
 intro a0_0 a0_1 a0_2 a1 ha1 hP
 obtain ⟨R,hR⟩:∃R,res [[.i a0_0,.i a0_1,.i a0_2],[.l a1]]=R:=⟨_,rfl⟩
 rw [hR]
 obtain ⟨I0,m0,hV⟩:=hv a0_0 a0_1 a0_2 a1 ha1 hP
 rw [hR] at hV
 clear hR hP hv
 cbv
 repeat' first|(refine Br.mk (fun _=>?_) (fun _=>?_)<;>cbv)|(refine NilB.mk (fun _=>?_) ?_<;>cbv)|refine And.intro ?_ ?_|exact True.intro
 ·subst h;exact hV.g0
 ·rename_i hp1_0
  subst h;exact hV.g1 (df (nt hp1_0))
 ·rename_i hp2_0
  refine Leaf.gen fun σz hσz=>?_
  refine loopB hE hinl 6 [] [] [] (fun x:Int×Int=>[.i x.1,.i x.2]) (fun x=>I0 x.1 x.2) (fun x=>m0 x.1 x.2) (0,0) (by subst h;exact hV.i0 (dt (nf hp2_0))) ?_ ?_<;>subst hσz
  ·clear hE hinl hV;cbv;(try repeat' first|rfl|assumption|constructor)
  ·intro ⟨x0_0,x0_1⟩ hI0 K0 hK0
   cbv
   repeat' first|(refine Br.mk (fun _=>?_) (fun _=>?_)<;>cbv)|(refine NilB.mk (fun _=>?_) ?_<;>cbv)|refine And.intro ?_ ?_|exact True.intro
   ·rename_i hp3_0
    subst h;exact hV.g3 _ _ hI0 (dt (nf hp2_0)) (dt hp3_0)
   ·rename_i hp4_0
    subst h;exact hV.g4 _ _ hI0 (dt (nf hp2_0)) (dt hp4_0)
   ·rename_i hp5_0
    subst h;exact hV.g5 _ _ hI0 (dt (nf hp2_0)) (dt hp5_0)
   ·rename_i hp6_0
    subst h;exact hV.g6 _ _ hI0 (dt (nf hp2_0)) (dt hp6_0)
   ·rename_i hp7_0 hp7_1
    subst h;exact hV.g7 _ _ hI0 (dt (nf hp2_0)) (dt hp7_0) (nt hp7_1)
   ·rename_i hp8_0 hp8_1
    subst h;exact hV.g8 _ _ hI0 (dt (nf hp2_0)) (dt hp8_0) (nf hp8_1)
   ·rename_i hp9_0 hp9_1
    refine hK0 (x0_0,A.add x0_1 1) _ ?_ ?_ ?_
    ·subst h;exact (hV.n9 _ _ hI0 (dt (nf hp2_0)) (dt hp9_0) (nf hp9_1)).1
    ·subst h;exact (hV.n9 _ _ hI0 (dt (nf hp2_0)) (dt hp9_0) (nf hp9_1)).2
    ·clear hE hinl hV hK0;cbv;(try repeat' first|rfl|assumption|constructor)
   ·rename_i hp10_0
    subst h;exact hV.g10 _ _ hI0 (dt (nf hp2_0)) (df hp10_0)
end HX

namespace HX
open Go Go.Proofs CX
set_option maxHeartbeats 4000000 in
set_option maxRecDepth 100000 in
theorem walk59 {ro A pre fn} (hE:EnvOk ⟨A,(cxE ro),ksF,sigL [(53,⟨[(false,[.int .i64]),(false,[.int .i64]),(false,[.int .i64])],[(false,[.bool])],false⟩)],pre,fn⟩) {P:List (List D)→Prop} {res:List (List D)→Nat→Nat→D}
  (hv:∀(a0_0:Int) (a0_1:Int) (a0_2:Int) (a1:Int) (a2:Int),P [[.i a0_0,.i a0_1,.i a0_2],[.i a1],[.i a2]]→V59 pre fn a0_0 a0_1 a0_2 a1 a2 (res [[.i a0_0,.i a0_1,.i a0_2],[.i a1],[.i a2]]) ) :
  PureC (cxE ro) 59 ⟨[(true,[.int .i64,.int .i64,.int .i64]),(false,[.int .i64]),(false,[.int .i64])],[(false,[.bool])],false⟩ P res:=by
 have h:=hE.A
 simp only [] at h
 have hinl:∀f fn,inlL [] f=some fn→(cxE ro).fn f=some fn∧(cxE ro).ext f=none:=Inls.ok (by repeat (first |exact .nil |refine .cons rfl rfl ?_))
 refine PureC.of_vc hE hinl 6 (f:=59) (fn:=Try.f59) ⟨rfl,rfl⟩ ?_
 intro a0_0 a0_1 a0_2 a1 a2 hP
 obtain ⟨R,hR⟩:∃R,res [[.i a0_0,.i a0_1,.i a0_2],[.i a1],[.i a2]]=R:=⟨_,rfl⟩
 rw [hR]
 have hV:=hv a0_0 a0_1 a0_2 a1 a2  hP
 rw [hR] at hV
 clear hR hP hv
 cbv
 repeat' first|(refine Br.mk (fun _=>?_) (fun _=>?_)<;>cbv)|(refine NilB.mk (fun _=>?_) ?_<;>cbv)|refine And.intro ?_ ?_|exact True.intro
 ·subst h;exact hV.g0
 ·subst h;exact hV.g0
 ·subst h;exact hV.g2
 ·subst h;exact hV.g0
 ·subst h;exact hV.g4
 ·subst h;exact hV.g0
 ·subst h;exact hV.g6
 ·subst h;exact hV.g7
 ·rename_i hp8_0
  subst h;exact hV.g8 (df (nt hp8_0))
 ·rename_i hp9_0 hp9_1
  subst h;exact hV.g9 (df (nt hp9_0)) hp9_1
 ·rename_i hp10_0 hp10_1
  subst h;exact hV.g10 (df (nt hp10_0)) hp10_1
 ·rename_i hp11_0 hp11_1
  subst h;exact hV.g11 (df (nt hp11_0)) hp11_1
 ·rename_i hp12_0
  subst h;exact hV.g12 (dt (nf hp12_0))
end HX

namespace HX
open Go Go.Proofs CX
set_option maxHeartbeats 4000000 in
set_option maxRecDepth 100000 in
theorem walk17 {ro A pre fn} (hE:EnvOk ⟨A,(cxE ro),ksF,sigL [],pre,fn⟩) {P:List (List D)→Prop} {res:List (List D)→Nat→Nat→D}
  (hv:∀(a0:Rows) (a1:Rows),ShR [.int .i64,.int .i64] a0→ShR [.int .i64,.int .i64] a1→P [[.l a0],[.l a1]]→∃(I0:Bool→Int→Prop) (m0:Bool→Int→Nat),V17 a0 a1 (res [[.l a0],[.l a1]]) I0 m0) :
  PureC (cxE ro) 17 ⟨[(false,[.sl [.int .i64,.int .i64]]),(false,[.sl [.int .i64,.int .i64]])],[(false,[.bool])],false⟩ P res:=by
 have h:=hE.A
 simp only [] at h
 have hinl:∀f fn,inlL [] f=some fn→(cxE ro).fn f=some fn∧(cxE ro).ext f=none:=Inls.ok (by repeat (first |exact .nil |refine .cons rfl rfl ?_))
 refine PureC.of_vc hE hinl 6 (f:=17) (fn:=Try.f17) ⟨rfl,rfl⟩ ?_
 intro a0 ha0 a1 ha1 hP
 obtain ⟨R,hR⟩:∃R,res [[.l a0],[.l a1]]=R:=⟨_,rfl⟩
 rw [hR]
 obtain ⟨I0,m0,hV⟩:=hv a0 a1 ha0 ha1 hP
 rw [hR] at hV
 clear hR hP hv
 cbv
 repeat' first|(refine Br.mk (fun _=>?_) (fun _=>?_)<;>cbv)|(refine NilB.mk (fun _=>?_) ?_<;>cbv)|refine And.intro ?_ ?_|exact True.intro
 ·next a=>subst h;exact hV.g0 (df (nt a))
 ·rename_i p1a
  refine Leaf.gen fun σz hσz=>?_
  refine loopB hE hinl 6 [] [] [] (fun x:Bool×Int=>[.b x.1,.i x.2]) (fun x=>I0 x.1 x.2) (fun x=>m0 x.1 x.2) (false,0) (by subst h;exact hV.i0 (dt (nf p1a))) ?_ ?_<;>subst hσz
  ·clear hE hinl hV;cbv;(try repeat' first|rfl|assumption|constructor)
  ·intro ⟨x0_0,x0_1⟩ hI0 K0 hK0
   cbv
   repeat' first|(refine Br.mk (fun _=>?_) (fun _=>?_)<;>cbv)|(refine NilB.mk (fun _=>?_) ?_<;>cbv)|refine And.intro ?_ ?_|exact True.intro
   ·next a=>subst h;exact hV.g2 _ _ hI0 (dt (nf p1a)) (dt a)
   ·next a=>subst h;exact hV.g3 _ _ hI0 (dt (nf p1a)) (dt a)
   ·next a=>subst h;exact hV.g4 _ _ hI0 (dt (nf p1a)) (dt a)
   ·next a=>subst h;exact hV.g2 _ _ hI0 (dt (nf p1a)) (dt a)
   ·next a=>subst h;exact hV.g6 _ _ hI0 (dt (nf p1a)) (dt a)
   ·next a=>subst h;exact hV.g7 _ _ hI0 (dt (nf p1a)) (dt a)
   ·next a b=>subst h;exact hV.g8 _ _ hI0 (dt (nf p1a)) (dt a) ((and_f (nt b)).imp (fun h=>(df h)) (fun h=>(df h)))
   ·next a b=>subst h;exact hV.g9 _ _ hI0 (dt (nf p1a)) (dt a) ⟨(dt (and_t (nf b)).1),(dt (and_t (nf b)).2)⟩
   ·rename_i p10a p10b
    refine hK0 (x0_0,A.add x0_1 1) _ ?_ ?_ ?_
    ·subst h;exact (hV.n10 _ _ hI0 (dt (nf p1a)) (dt p10a) ⟨(dt (and_t (nf p10b)).1),(dt (and_t (nf p10b)).2)⟩).1
    ·subst h;exact (hV.n10 _ _ hI0 (dt (nf p1a)) (dt p10a) ⟨(dt (and_t (nf p10b)).1),(dt (and_t (nf p10b)).2)⟩).2
    ·clear hE hinl hV hK0;cbv;(try repeat' first|rfl|assumption|constructor)
   ·next a=>subst h;exact hV.g11 _ _ hI0 (dt (nf p1a)) (df a)
end HX

namespace HX
open Go Go.Proofs CX
set_option maxHeartbeats 4000000 in
set_option maxRecDepth 100000 in
theorem walk55 {ro A pre fn} (hE:EnvOk ⟨A,(cxE ro),ksF,sigL [],pre,fn⟩) {P:List (List D)→Prop} {res:List (List D)→Nat→Nat→D}
  (hv:∀(a0:Rows) (a1:Rows),ShR [.int .i64] a0→ShR [.int .i64] a1→P [[.l a0],[.l a1]]→∃(I0:Bool→Int→Prop) (m0:Bool→Int→Nat),V55 a0 a1 (res [[.l a0],[.l a1]]) I0 m0) :
  PureC (cxE ro) 55 ⟨[(false,[.sl [.int .i64]]),(false,[.sl [.int .i64]])],[(false,[.bool])],false⟩ P res:=by
 have h:=hE.A
 simp only [] at h
 have hinl:∀f fn,inlL [] f=some fn→(cxE ro).fn f=some fn∧(cxE ro).ext f=none:=Inls.ok (by repeat (first |exact .nil |refine .cons rfl rfl ?_))
 refine PureC.of_vc hE hinl 6 (f:=55) (fn:=Try.f55) ⟨rfl,rfl⟩ ?_
 intro a0 ha0 a1 ha1 hP
 obtain ⟨R,hR⟩:∃R,res [[.l a0],[.l a1]]=R:=⟨_,rfl⟩
 rw [hR]
 obtain ⟨I0,m0,hV⟩:=hv a0 a1 ha0 ha1 hP
 rw [hR] at hV
 clear hR hP hv
 cbv
 repeat' first|(refine Br.mk (fun _=>?_) (fun _=>?_)<;>cbv)|(refine NilB.mk (fun _=>?_) ?_<;>cbv)|refine And.intro ?_ ?_|exact True.intro
 ·rename_i hp0_0
  subst h;exact hV.g0 (df (nt hp0_0))
 ·rename_i hp1_0
  refine Leaf.gen fun σz hσz=>?_
  refine loopB hE hinl 6 [] [] [] (fun x:Bool×Int=>[.b x.1,.i x.2]) (fun x=>I0 x.1 x.2) (fun x=>m0 x.1 x.2) (false,0) (by subst h;exact hV.i0 (dt (nf hp1_0))) ?_ ?_<;>subst hσz
  ·clear hE hinl hV;cbv;(try repeat' first|rfl|assumption|constructor)
  ·intro ⟨x0_0,x0_1⟩ hI0 K0 hK0
   cbv
   repeat' first|(refine Br.mk (fun _=>?_) (fun _=>?_)<;>cbv)|(refine NilB.mk (fun _=>?_) ?_<;>cbv)|refine And.intro ?_ ?_|exact True.intro
   ·rename_i hp2_0
    subst h;exact hV.g2 _ _ hI0 (dt (nf hp1_0)) (dt hp2_0)
   ·rename_i hp3_0
    subst h;exact hV.g3 _ _ hI0 (dt (nf hp1_0)) (dt hp3_0)
   ·rename_i hp4_0
    subst h;exact hV.g4 _ _ hI0 (dt (nf hp1_0)) (dt hp4_0)
   ·rename_i hp5_0
    subst h;exact hV.g2 _ _ hI0 (dt (nf hp1_0)) (dt hp5_0)
   ·rename_i hp6_0
    subst h;exact hV.g6 _ _ hI0 (dt (nf hp1_0)) (dt hp6_0)
   ·rename_i hp7_0
    subst h;exact hV.g7 _ _ hI0 (dt (nf hp1_0)) (dt hp7_0)
   ·rename_i hp8_0 hp8_1
    subst h;exact hV.g8 _ _ hI0 (dt (nf hp1_0)) (dt hp8_0) (df (nt hp8_1))
   ·rename_i hp9_0 hp9_1
    subst h;exact hV.g9 _ _ hI0 (dt (nf hp1_0)) (dt hp9_0) (dt (nf hp9_1))
   ·rename_i hp10_0 hp10_1
    refine hK0 (x0_0,A.add x0_1 1) _ ?_ ?_ ?_
    ·subst h;exact (hV.n10 _ _ hI0 (dt (nf hp1_0)) (dt hp10_0) (dt (nf hp10_1))).1
    ·subst h;exact (hV.n10 _ _ hI0 (dt (nf hp1_0)) (dt hp10_0) (dt (nf hp10_1))).2
    ·clear hE hinl hV hK0;cbv;(try repeat' first|rfl|assumption|constructor)
   ·rename_i hp11_0
    subst h;exact hV.g11 _ _ hI0 (dt (nf hp1_0)) (df hp11_0)
end HX

namespace HX
open Go Go.Proofs CX
set_option maxHeartbeats 4000000 in
set_option maxRecDepth 100000 in
theorem walk20 {ro A pre fn} (hE:EnvOk ⟨A,(cxE ro),ksF,sigL [(55,⟨[(false,[.sl [.int .i64]]),(false,[.sl [.int .i64]])],[(false,[.bool])],false⟩)],pre,fn⟩) {P:List (List D)→Prop} {res:List (List D)→Nat→Nat→D}
  (hv:∀(a0:Rows) (a1:Rows),ShR [.sl [.int .i64]] a0→ShR [.sl [.int .i64]] a1→P [[.l a0],[.l a1]]→∃(I0:Bool→Int→Prop) (m0:Bool→Int→Nat),V20 pre fn a0 a1 (res [[.l a0],[.l a1]]) I0 m0) :
  PureC (cxE ro) 20 ⟨[(false,[.sl [.sl [.int .i64]]]),(false,[.sl [.sl [.int .i64]]])],[(false,[.bool])],false⟩ P res:=by
 have h:=hE.A
 simp only [] at h
 have hinl:∀f fn,inlL [] f=some fn→(cxE ro).fn f=some fn∧(cxE ro).ext f=none:=Inls.ok (by repeat (first |exact .nil |refine .cons rfl rfl ?_))
 refine PureC.of_vc hE hinl 6 (f:=20) (fn:=Try.f20) ⟨rfl,rfl⟩ ?_
 intro a0 ha0 a1 ha1 hP
 obtain ⟨R,hR⟩:∃R,res [[.l a0],[.l a1]]=R:=⟨_,rfl⟩
 rw [hR]
 obtain ⟨I0,m0,hV⟩:=hv a0 a1 ha0 ha1 hP
 rw [hR] at hV
 clear hR hP hv
 cbv
 repeat' first|(refine Br.mk (fun _=>?_) (fun _=>?_)<;>cbv)|(refine NilB.mk (fun _=>?_) ?_<;>cbv)|refine And.intro ?_ ?_|exact True.intro
 ·rename_i hp0_0
  subst h;exact hV.g0 (df (nt hp0_0))
 ·rename_i hp1_0
  refine Leaf.gen fun σz hσz=>?_
  refine loopB hE hinl 6 [] [] [] (fun x:Bool×Int=>[.b x.1,.i x.2]) (fun x=>I0 x.1 x.2) (fun x=>m0 x.1 x.2) (false,0) (by subst h;exact hV.i0 (dt (nf hp1_0))) ?_ ?_<;>subst hσz
  ·clear hE hinl hV;cbv;(try repeat' first|rfl|assumption|constructor)
  ·intro ⟨x0_0,x0_1⟩ hI0 K0 hK0
   cbv
   repeat' first|(refine Br.mk (fun _=>?_) (fun _=>?_)<;>cbv)|(refine NilB.mk (fun _=>?_) ?_<;>cbv)|refine And.intro ?_ ?_|exact True.intro
   ·rename_i hp2_0
    subst h;exact hV.g2 _ _ hI0 (dt (nf hp1_0)) (dt hp2_0)
   ·rename_i hp3_0
    subst h;exact hV.g3 _ _ hI0 (dt (nf hp1_0)) (dt hp3_0)
   ·rename_i hp4_0
    subst h;exact hV.g4 _ _ hI0 (dt (nf hp1_0)) (dt hp4_0)
   ·rename_i hp5_0
    subst h;exact hV.g2 _ _ hI0 (dt (nf hp1_0)) (dt hp5_0)
   ·rename_i hp6_0
    subst h;exact hV.g6 _ _ hI0 (dt (nf hp1_0)) (dt hp6_0)
   ·rename_i hp7_0
    subst h;exact hV.g7 _ _ hI0 (dt (nf hp1_0)) (dt hp7_0)
   ·rename_i hp8_0
    subst h;exact hV.g8 _ _ hI0 (dt (nf hp1_0)) (dt hp8_0)
   ·rename_i hp9_0 hp9_1
    subst h;exact hV.g9 _ _ hI0 (dt (nf hp1_0)) (dt hp9_0) (nt hp9_1)
   ·rename_i hp10_0 hp10_1
    subst h;exact hV.g10 _ _ hI0 (dt (nf hp1_0)) (dt hp10_0) (nf hp10_1)
   ·rename_i hp11_0 hp11_1
    refine hK0 (x0_0,A.add x0_1 1) _ ?_ ?_ ?_
    ·subst h;exact (hV.n11 _ _ hI0 (dt (nf hp1_0)) (dt hp11_0) (nf hp11_1)).1
    ·subst h;exact (hV.n11 _ _ hI0 (dt (nf hp1_0)) (dt hp11_0) (nf hp11_1)).2
    ·clear hE hinl hV hK0;cbv;(try repeat' first|rfl|assumption|constructor)
   ·rename_i hp12_0
    subst h;exact hV.g12 _ _ hI0 (dt (nf hp1_0)) (df hp12_0)
end HX

namespace HX
open Go Go.Proofs CX
set_option maxHeartbeats 4000000 in
set_option maxRecDepth 100000 in
theorem walk14 {ro A pre fn} (hE:EnvOk ⟨A,(cxE ro),ksF,sigL [(46,⟨[(true,[.int .i64,.int .i64,.int .i64]),(false,[.sl [.int .i64]])],[(false,[.int .i64])],false⟩),(50,⟨[(false,[.int .i64]),(false,[.int .i64]),(false,[.int .i64])],[(false,[.bool])],false⟩)],pre,fn⟩) {P:List (List D)→Prop} {res:List (List D)→Nat→Nat→D}
  (hv:∀(a0_0:Int) (a0_1:Int) (a0_2:Int) (a1:Rows),ShR [.sl [.int .i64]] a1→P [[.i a0_0,.i a0_1,.i a0_2],[.l a1]]→V14 pre fn a0_0 a0_1 a0_2 a1 (res [[.i a0_0,.i a0_1,.i a0_2],[.l a1]])) :
  PureC (cxE ro) 14 ⟨[(true,[.int .i64,.int .i64,.int .i64]),(false,[.sl [.sl [.int .i64]]])],[(false,[.sl [.int .i64,.int .i64]]),(false,[.int .i64])],false⟩ P res:=by
 have h:=hE.A
 simp only [] at h
 have hinl:∀f fn,inlL [(45,Try.f45),(47,Try.f47)] f=some fn→(cxE ro).fn f=some fn∧(cxE ro).ext f=none:=Inls.ok (by repeat (first |exact .nil |refine .cons rfl rfl ?_))
 refine PureC.of_vc hE hinl 6 (f:=14) (fn:=Try.f14) ⟨rfl,rfl⟩ ?_
 intro a0_0 a0_1 a0_2 a1 ha1 hP
 obtain ⟨R,hR⟩:∃R,res [[.i a0_0,.i a0_1,.i a0_2],[.l a1]]=R:=⟨_,rfl⟩
 rw [hR]
 have hV:=hv a0_0 a0_1 a0_2 a1 ha1 hP
 rw [hR] at hV
 clear hR hP hv
 cbv
 repeat' first|(refine Br.mk (fun _=>?_) (fun _=>?_)<;>cbv)|(refine NilB.mk (fun _=>?_) ?_<;>cbv)|refine And.intro ?_ ?_|exact True.intro
 ·subst h;exact hV.g0
 ·next a b=>subst h;exact hV.g1 (nt a)
 ·next a b=>subst h;exact hV.g2 (nt a)
 ·rename_i p3a p3b p3c
  exfalso;subst h;simp [Ar.std] at p3b
 ·rename_i p4a p4b p4c
  exfalso;subst h;simp [Ar.std] at p4b
 ·rename_i p5a p5b p5c
  exfalso;subst h;simp [Ar.std] at p5b
 ·next a=>subst h;exact hV.g6 (nf a)
 ·next a b c=>subst h;exact hV.g7 (nf a) (nt b)
 ·next a b c=>subst h;exact hV.g8 (nf a) (nt b)
 ·rename_i p9a p9b p9c p9d
  exfalso;subst h;simp [Ar.std] at p9c
 ·rename_i p10a p10b p10c p10d
  exfalso;subst h;simp [Ar.std] at p10c
 ·rename_i p11a p11b p11c p11d
  exfalso;subst h;simp [Ar.std] at p11c
 ·next a b=>subst h;exact hV.g12 (nf a) (nf b)
 ·next a b c d=>subst h;exact hV.g13 (nf a) (nf b) (nt c)
 ·next a b c d=>subst h;exact hV.g14 (nf a) (nf b) (nt c)
 ·rename_i p15a p15b p15c p15d p15e
  exfalso;subst h;simp [Ar.std] at p15d
 ·rename_i p16a p16b p16c p16d p16e
  exfalso;subst h;simp [Ar.std] at p16d
 ·rename_i p17a p17b p17c p17d p17e
  exfalso;subst h;simp [Ar.std] at p17d
 ·rename_i p18a p18b p18c p18d
  exfalso;subst h;simp [Ar.std] at p18d
 ·rename_i p19a p19b p19c p19d
  exfalso;subst h;simp [Ar.std] at p19d
 ·next a b c d e=>subst h;exact hV.g20 (nf a) (nf b) (nf c) (dt e)
 ·next a b c d e=>subst h;exact hV.g21 (nf a) (nf b) (nf c) (dt e)
 ·rename_i p22a p22b p22c p22d p22e
  refine Leaf.gen fun σz hσz=>?_
  obtain ⟨I0,m0,i0,c0⟩:V14l0 pre fn a0_0 a0_1 a0_2 a1 R:=by subst h;exact hV.l0 (nf p22a) (nf p22b) (nf p22c) (df p22e)
  refine loopB hE hinl 6 [] [] [] (fun x:Rows×Int×Int=>[.l x.1,.i x.2.1,.i x.2.2]) (fun x=>I0 x.1 x.2.1 x.2.2) (fun x=>m0 x.1 x.2.1 x.2.2) ([],0,0) (by subst h;exact i0) ?_ ?_<;>subst hσz
  ·clear hE hinl hV;cbv;(try repeat' first|rfl|assumption|constructor)
  ·intro ⟨b0,b1,b2⟩ hI0 K0 hK0
   have h0:=c0 _ _ _ hI0
   cbv
   repeat' first|(refine Br.mk (fun _=>?_) (fun _=>?_)<;>cbv)|(refine NilB.mk (fun _=>?_) ?_<;>cbv)|refine And.intro ?_ ?_|exact True.intro
   ·next a=>subst h;exact h0.g23 (dt a)
   ·next a=>subst h;exact h0.g24 (dt a)
   ·next a=>subst h;exact h0.g25 (dt a)
   ·next a=>subst h;exact h0.g26 (dt a)
   ·next a b=>subst h;exact h0.g27 (dt a) (df (nt b))
   ·next a b=>subst h;exact h0.g28 (dt a) (df (nt b))
   ·next a b=>subst h;exact h0.g29 (dt a) (dt (nf b))
   ·rename_i p30a p30b
    refine hK0 (b0,b1,A.add b2 1) _ ?_ ?_ ?_
    ·subst h;exact (h0.n30 (dt p30a) (dt (nf p30b))).1
    ·subst h;exact (h0.n30 (dt p30a) (dt (nf p30b))).2
    ·clear hE hinl hV hK0;cbv;(try repeat' first|rfl|assumption|constructor)
   ·next a b=>subst h;exact h0.g31 (df a) (dt b)
   ·next a b=>subst h;exact h0.g32 (df a) (dt b)
   ·next a b=>subst h;exact h0.g33 (df a) (df b)
   ·next a b=>subst h;exact h0.g34 (df a) (df b)
   ·next a b=>subst h;exact h0.g35 (df a) (df b)
   ·rename_i p36a p36b p36c
    refine Leaf.gen fun σz hσz=>?_
    obtain ⟨I1,m1,i1,c1⟩:V14l1 a1 R:=by subst h;exact h0.l1 (df p36a) (df p36b) p36c
    refine loopB hE hinl 6 [] [] [] (fun x:Rows×Int=>[.l x.1,.i x.2]) (fun x=>I1 x.1 x.2) (fun x=>m1 x.1 x.2) ([],0) (by subst h;exact i1) ?_ ?_<;>subst hσz
    ·clear hE hinl hV;cbv;(try repeat' first|rfl|assumption|constructor)
    ·intro ⟨d0,d1⟩ hI1 K1 hK1
     have h1:=c1 _ _ hI1
     cbv
     repeat' first|(refine Br.mk (fun _=>?_) (fun _=>?_)<;>cbv)|(refine NilB.mk (fun _=>?_) ?_<;>cbv)|refine And.intro ?_ ?_|exact True.intro
     ·next a=>subst h;exact h1.g37 (dt a)
     ·next a=>subst h;exact h1.g38 (dt a)
     ·next a=>subst h;exact h1.g39 (dt a)
     ·rename_i p40a
      refine Leaf.gen fun σz hσz=>?_
      obtain ⟨I2,m2,i2,c2⟩:V14l2 a1 d0 d1 I1 m1:=by subst h;exact h1.l2 (dt p40a)
      refine loopB hE hinl 6 [] [] [] (fun x:Rows×Int=>[.l x.1,.i x.2]) (fun x=>I2 x.1 x.2) (fun x=>m2 x.1 x.2) (d0,0) (by subst h;exact i2) ?_ ?_<;>subst hσz
      ·clear hE hinl hV;cbv;(try repeat' first|rfl|assumption|constructor)
      ·intro ⟨e0,e1⟩ hI2 K2 hK2
       have h2:=c2 _ _ hI2
       cbv
       repeat' first|(refine Br.mk (fun _=>?_) (fun _=>?_)<;>cbv)|(refine NilB.mk (fun _=>?_) ?_<;>cbv)|refine And.intro ?_ ?_|exact True.intro
       ·next a=>subst h;exact h2.g41 (dt a)
       ·next a=>subst h;exact h2.g42 (dt a)
       ·next a=>subst h;exact h2.g43 (dt a)
       ·next a=>subst h;exact (h2.g44 (dt a)).elim
       ·next a=>subst h;exact h2.g45 (df a)
       ·rename_i p46a
        refine hK1 (e0,A.add d1 1) _ ?_ ?_ ?_
        ·subst h;exact (h2.n46 (df p46a)).1
        ·subst h;exact (h2.n46 (df p46a)).2
        ·clear hE hinl hV hK1;cbv;(try repeat' first|rfl|assumption|constructor)
     ·next a b=>subst h;exact h1.g47 (df a) (dt b)
     ·next a b=>subst h;exact h1.g48 (df a) (dt b)
     ·next a b=>subst h;exact h1.g49 (df a) (df b)
     ·next a b=>subst h;exact h1.g50 (df a) (df b)
   ·next a b=>subst h;exact h0.g51 (df a) (df b)
   ·rename_i p52a p52b
    refine Leaf.gen fun σz hσz=>?_
    obtain ⟨I3,m3,i3,c3⟩:V14l3 a0_2 a1 R:=by subst h;exact h0.l3 (df p52a) (df p52b)
    refine loopB hE hinl 6 [] [] [(9,[])] (fun x:Rows×Int×Rows=>[.l x.1,.i x.2.1,.l x.2.2]) (fun x=>I3 x.1 x.2.1 x.2.2) (fun x=>m3 x.1 x.2.1 x.2.2) ([],0,A.app [] (A.dl (A.get a1 (A.toNat 0) 0))) (by subst h;exact i3) ?_ ?_<;>subst hσz
    ·clear hE hinl hV;cbv;(try repeat' first|rfl|assumption|constructor)
    ·intro ⟨f0,f1,f2⟩ hI3 K3 hK3
     have h3:=c3 _ _ _ hI3
     cbv
     repeat' first|(refine Br.mk (fun _=>?_) (fun _=>?_)<;>cbv)|(refine NilB.mk (fun _=>?_) ?_<;>cbv)|refine And.intro ?_ ?_|exact True.intro
     ·next a=>subst h;exact h3.g53 (dt a)
     ·next a=>subst h;exact h3.g54 (dt a)
     ·next a=>subst h;exact h3.g55 (dt a)
     ·rename_i p56a
      refine Leaf.gen fun σz hσz=>?_
      obtain ⟨I4,m4,i4,c4⟩:V14l4 a0_2 a1 f0 f1 f2 I3 m3:=by subst h;exact h3.l4 (dt p56a)
      refine loopB hE hinl 6 [] [] [(9,[])] (fun x:Rows×Int×Rows=>[.l x.1,.i x.2.1,.l x.2.2]) (fun x=>I4 x.1 x.2.1 x.2.2) (fun x=>m4 x.1 x.2.1 x.2.2) (f0,0,f2) (by subst h;exact i4) ?_ ?_<;>subst hσz
      ·clear hE hinl hV;cbv;(try repeat' first|rfl|assumption|constructor)
      ·intro ⟨j0,j1,j2⟩ hI4 K4 hK4
       have h4:=c4 _ _ _ hI4
       cbv
       repeat' first|(refine Br.mk (fun _=>?_) (fun _=>?_)<;>cbv)|(refine NilB.mk (fun _=>?_) ?_<;>cbv)|refine And.intro ?_ ?_|exact True.intro
       ·next a=>subst h;exact h4.g57 (dt a)
       ·next a=>subst h;exact h4.g58 (dt a)
       ·next a=>subst h;exact h4.g59 (dt a)
       ·next a=>subst h;exact h4.g57 (dt a)
       ·next a=>subst h;exact h4.g61 (dt a)
       ·next a=>subst h;exact h4.g62 (dt a)
       ·next a=>subst h;exact h4.g62 (dt a)
       ·next a=>subst h;exact h4.g64 (dt a)
       ·next a b=>subst h;exact h4.g65 (dt a) (dt b)
       ·next a b=>subst h;exact h4.g66 (dt a) (dt b)
       ·next a b=>subst h;exact h4.g67 (dt a) (dt b)
       ·next a b=>subst h;exact h4.g68 (dt a) (dt b)
       ·next a b=>subst h;exact h4.g69 (dt a) (dt b)
       ·next a b=>subst h;exact h4.g70 (dt a) (dt b)
       ·next a b=>subst h;exact h4.g70 (dt a) (dt b)
       ·next a b=>subst h;exact h4.g72 (dt a) (dt b)
       ·next a b=>subst h;exact h4.g68 (dt a) (dt b)
       ·next a b=>subst h;exact h4.g69 (dt a) (dt b)
       ·next a b=>subst h;exact h4.g70 (dt a) (dt b)
       ·next a b=>subst h;exact h4.g76 (dt a) (dt b)
       ·rename_i p77a p77b
        refine hK4 (A.app j0 [[D.i f1,D.i (A.add (A.mul 2 j1) 1)]],A.add j1 1,A.set j2 (A.toNat j1) [D.i (A.add (A.di (A.get j2 (A.toNat j1) 0)) a0_2)]) _ ?_ ?_ ?_
        ·subst h;exact (h4.n77 (dt p77a) (dt p77b)).1
        ·subst h;exact (h4.n77 (dt p77a) (dt p77b)).2
        ·clear hE hinl hV hK4;cbv;(try repeat' first|rfl|assumption|constructor)
       ·next a b=>subst h;exact h4.g78 (dt a) (df b)
       ·next a b=>subst h;exact h4.g79 (dt a) (df b)
       ·next a b=>subst h;exact h4.g80 (dt a) (df b)
       ·next a b=>subst h;exact h4.g80 (dt a) (df b)
       ·next a b=>subst h;exact h4.g82 (dt a) (df b)
       ·next a b c=>subst h;exact h4.g83 (dt a) (df b) (dt c)
       ·next a b c=>subst h;exact h4.g84 (dt a) (df b) (dt c)
       ·next a b c=>subst h;exact h4.g85 (dt a) (df b) (dt c)
       ·next a b c=>subst h;exact h4.g86 (dt a) (df b) (dt c)
       ·next a b c=>subst h;exact h4.g87 (dt a) (df b) (dt c)
       ·next a b c=>subst h;exact h4.g87 (dt a) (df b) (dt c)
       ·next a b c=>subst h;exact h4.g89 (dt a) (df b) (dt c)
       ·next a b c=>subst h;exact h4.g85 (dt a) (df b) (dt c)
       ·next a b c=>subst h;exact h4.g86 (dt a) (df b) (dt c)
       ·next a b c=>subst h;exact h4.g87 (dt a) (df b) (dt c)
       ·next a b c=>subst h;exact h4.g93 (dt a) (df b) (dt c)
       ·rename_i p94a p94b p94c
        refine hK4 (A.app j0 [[D.i f1,D.i (A.mul 2 j1)]],A.add j1 1,A.set j2 (A.toNat j1) [D.i (A.sub (A.di (A.get j2 (A.toNat j1) 0)) a0_2)]) _ ?_ ?_ ?_
        ·subst h;exact (h4.n94 (dt p94a) (df p94b) (dt p94c)).1
        ·subst h;exact (h4.n94 (dt p94a) (df p94b) (dt p94c)).2
        ·clear hE hinl hV hK4;cbv;(try repeat' first|rfl|assumption|constructor)
       ·next a b c=>subst h;exact h4.g95 (dt a) (df b) (df c)
       ·rename_i p96a p96b p96c
        refine hK4 (j0,A.add j1 1,j2) _ ?_ ?_ ?_
        ·subst h;exact (h4.n96 (dt p96a) (df p96b) (df p96c)).1
        ·subst h;exact (h4.n96 (dt p96a) (df p96b) (df p96c)).2
        ·clear hE hinl hV hK4;cbv;(try repeat' first|rfl|assumption|constructor)
       ·next a=>subst h;exact h4.g97 (df a)
       ·rename_i p98a
        refine hK3 (j0,A.add f1 1,j2) _ ?_ ?_ ?_
        ·subst h;exact (h4.n98 (df p98a)).1
        ·subst h;exact (h4.n98 (df p98a)).2
        ·clear hE hinl hV hK3;cbv;(try repeat' first|rfl|assumption|constructor)
     ·next a b=>subst h;exact h3.g99 (df a) (dt b)
     ·next a b=>subst h;exact h3.g100 (df a) (dt b)
     ·next a b=>subst h;exact h3.g101 (df a) (df b)
     ·next a b=>subst h;exact h3.g102 (df a) (df b)
end HX

namespace HX
open Go CX
def headId:Code→Nat
 |.region id _ _=>id
 |.seq a _=>headId a
 |.block _ b=>headId b
 |_=>0
def memB:List Nat→Nat→Bool
 |[],_=>false
 |a :: r,x=>match beqN a x with
  |true=>true
  |false=>memB r x
def vcJ (E:Env) (rd:Option Nat) (lo:Nat) (ci:CI) (js:List Nat):Code→(Ex→St→Prop)→St→Prop
 |.seq a b,Q,σ=>vcJ E rd lo ci js a (thenQ (fun σ'=>vcJ E rd lo ci js b Q σ') Q) σ
 |.block id b,Q,σ=>vcJ E rd lo ci js b (inBlockQ id Q) σ
 |.cond c a b,Q,σ=>match memB js (headId a) with
  |true=>Leaf E.E rd lo (.cond c a b) Q σ
  |false=>match evR σ.regs c with
   |.bool true=>vcJ E rd lo ci js a Q σ
   |.bool false=>vcJ E rd lo ci js b Q σ
   |.sym p=>Br p (fun _=>vcJ E rd lo ci js a Q (knowO σ c true)) (fun _=>vcJ E rd lo ci js b Q (knowO σ c false))
   |_=>StuckC (.cond c .skip .skip) σ
 |.region id ops draw,Q,σ=>match memB js id with
  |true=>Leaf E.E rd lo (.region id ops draw) Q σ
  |false=>vc E rd lo ci (.region id ops draw) Q σ
 |c,Q,σ=>vc E rd lo ci c Q σ
section
variable {E:Env} (hE:EnvOk E)
include hE
theorem vcJ_ok {ci:CI} (hci:CIOk E.E ci) (js:List Nat) {rd:Option Nat} {lo:Nat}:∀(c:Code) (Q:Ex→St→Prop) (σ:St),vcJ E rd lo ci js c Q σ→SWP E.E rd lo c Q σ
 |.seq a b,Q,σ,h=>fun C S hS hlo hrd=>by
  obtain ⟨e,S1,C1,σ1,k1,k2,k3,k4⟩:=vcJ_ok hci js a _ σ h C S hS hlo hrd
  cases e with
  |normal=>
   obtain ⟨e,S2,C2,σ2,l1,l2,l3,l4⟩:=vcJ_ok hci js b Q σ1 k4 C1 S1 k2 k3.m.le hrd
   refine ⟨e,S2,C2,σ2,(k1.and l1).succ fun n hn=>?_,l2,k3.trans l3,l4⟩
   show cxBody E.E (cx E.E n) (rd.map C.ids) (.seq a b) S=_
   have hn2:=hn.2
   rw [rd_ag hE hrd k3.m.ag] at hn2
   simp only [cxBody,hn.1,hn2]
  |ret=>
   refine ⟨.ret,S1,C1,σ1,k1.succ fun n hn=>?_,k2,k3,k4⟩
   show cxBody E.E (cx E.E n) (rd.map C.ids) (.seq a b) S=_
   simp only [cxBody,hn]
  |exit i=>
   refine ⟨.exit i,S1,C1,σ1,k1.succ fun n hn=>?_,k2,k3,k4⟩
   show cxBody E.E (cx E.E n) (rd.map C.ids) (.seq a b) S=_
   simp only [cxBody,hn]
 |.block id b,Q,σ,h=>fun C S hS hlo hrd=>by
  obtain ⟨e,S1,C1,σ1,k1,k2,k3,k4⟩:=vcJ_ok hci js b _ σ h C S hS hlo hrd
  cases e with
  |normal=>
   refine ⟨.normal,S1,C1,σ1,k1.succ fun n hn=>?_,k2,k3,k4⟩
   show cxBody E.E (cx E.E n) (rd.map C.ids) (.block id b) S=_
   simp only [cxBody,hn]
  |ret=>
   refine ⟨.ret,S1,C1,σ1,k1.succ fun n hn=>?_,k2,k3,k4⟩
   show cxBody E.E (cx E.E n) (rd.map C.ids) (.block id b) S=_
   simp only [cxBody,hn]
  |exit i=>
   simp only [inBlockQ] at k4
   split at k4
   ·rename_i hb
    simp only [beqN_iff] at hb
    refine ⟨.normal,S1,C1,σ1,k1.succ fun n hn=>?_,k2,k3,k4⟩
    show cxBody E.E (cx E.E n) (rd.map C.ids) (.block id b) S=_
    simp only [cxBody,hn,hb,Nat.beq_refl]
   ·rename_i hb
    simp only [beqN_not] at hb
    refine ⟨.exit i,S1,C1,σ1,k1.succ fun n hn=>?_,k2,k3,k4⟩
    show cxBody E.E (cx E.E n) (rd.map C.ids) (.block id b) S=_
    have hne:Nat.beq i id=false:=by
     cases he:Nat.beq i id with
     |true=>exact absurd (Nat.eq_of_beq_eq_true he) hb
     |false=>rfl
    simp only [cxBody,hn,hne]
 |.cond c a b,Q,σ,h=>fun C S hS hlo hrd=>by
  simp only [vcJ] at h
  split at h
  ·exact h.out C S hS hlo hrd
  have hx:=evR_ok hS.regs
  have go:∀(bb:Bool) (σ:St),Sim C σ S→lo≤σ.next→CX.evR S.regs c=some (.bool bb)→(match bb with |true=>vcJ E rd lo ci js a Q σ |false=>vcJ E rd lo ci js b Q σ)→∃e S' C' σ',Evt (fun n=>cx E.E n (rd.map C.ids) (.cond c a b) S=some (e,S'))∧Sim C' σ' S'∧Ext lo C σ S C' σ' S'∧Q e σ':=by
   intro bb σ hS hlo hb h
   cases bb with
   |true=>
    obtain ⟨e,S1,C1,σ1,k1,k2,k3,k4⟩:=vcJ_ok hci js a Q σ h C S hS hlo hrd
    refine ⟨e,S1,C1,σ1,k1.succ fun n hn=>?_,k2,k3,k4⟩
    show cxBody E.E (cx E.E n) (rd.map C.ids) (.cond c a b) S=_
    simp only [cxBody,hb,hn]
   |false=>
    obtain ⟨e,S1,C1,σ1,k1,k2,k3,k4⟩:=vcJ_ok hci js b Q σ h C S hS hlo hrd
    refine ⟨e,S1,C1,σ1,k1.succ fun n hn=>?_,k2,k3,k4⟩
    show cxBody E.E (cx E.E n) (rd.map C.ids) (.cond c a b) S=_
    simp only [cxBody,hb,hn]
  have kn:∀bb,CX.evR S.regs c=some (.bool bb)→Sim C (knowO σ c bb) S∧lo≤(knowO σ c bb).next∧Ext lo C σ S C (knowO σ c bb) S:=by
   intro bb hb
   unfold knowO
   split
   ·exact ⟨⟨hS.nt,know_ok hS.regs hb,hS.m,hS.df,hS.dflt⟩,hlo,(MExt.refl _ _ _ _ _).less hlo,rfl,fun _ h=>.inl h⟩
   ·exact ⟨hS,hlo,Ext.refl _ _ _ hlo⟩
  split at h
  ·rename_i he
   obtain ⟨v,v1,v2⟩:=hx.get he (by intro e;cases e)
   simp only [RvS] at v2
   subst v2
   exact go true σ hS hlo v1 h
  ·rename_i he
   obtain ⟨v,v1,v2⟩:=hx.get he (by intro e;cases e)
   simp only [RvS] at v2
   subst v2
   exact go false σ hS hlo v1 h
  ·rename_i p he
   obtain ⟨v,v1,v2⟩:=hx.get he (by intro e;cases e)
   simp only [RvS] at v2
   subst v2
   cases hp:p with
   |true=>rw [hp] at v1;exact let ⟨e,S',C',σ',k1,k2,k3,k4⟩:=go true (knowO σ c true) (kn true v1).1 (kn true v1).2.1 v1 (h.t hp);⟨e,S',C',σ',k1,k2,(kn true v1).2.2.trans k3,k4⟩
   |false=>rw [hp] at v1;exact let ⟨e,S',C',σ',k1,k2,k3,k4⟩:=go false (knowO σ c false) (kn false v1).1 (kn false v1).2.1 v1 (h.e hp);⟨e,S',C',σ',k1,k2,(kn false v1).2.2.trans k3,k4⟩
  ·exact h.out.elim
 |.region id ops draw,Q,σ,h=>by
  simp only [vcJ] at h
  split at h
  ·exact h.out
  ·exact vc_ok hE hci _ Q σ h
 |.skip,Q,σ,h=>vc_ok hE hci _ Q σ h
 |.label _,Q,σ,h=>vc_ok hE hci _ Q σ h
 |.ret,Q,σ,h=>vc_ok hE hci _ Q σ h
 |.exit _,Q,σ,h=>vc_ok hE hci _ Q σ h
 |.loop _,Q,σ,h=>vc_ok hE hci _ Q σ h
 |.rangeFunc ..,Q,σ,h=>vc_ok hE hci _ Q σ h
 |.scope ..,Q,σ,h=>vc_ok hE hci _ Q σ h
 |.goto ..,Q,σ,h=>vc_ok hE hci _ Q σ h
 |.refuse ..,Q,σ,h=>vc_ok hE hci _ Q σ h
end
def killL (kl:List Nat):List (Nat×SV)→List (Nat×SV)
 |[]=>[]
 |(t,v) :: r=>match memB kl t with
  |true=>killL kl r
  |false=>(t,v) :: killL kl r
def killR (kl:List Nat) (σ:St):St:=⟨σ.nt,killL kl σ.regs,σ.objs,σ.next,σ.df⟩
theorem joinB {E:Env} (hE:EnvOk E) {inl:Nat→Option Func} (hinl:∀f fn,inl f=some fn→E.E.fn f=some fn∧E.E.ext f=none) {rd:Option Nat} {lo:Nat} (n:Nat) (kl fz drop:List Nat) (names:List (Nat×List Nat)) {c:Code} {Q:Ex→St→Prop} {σ:St} {X:Type} (vals:X→List D) (J:X→Prop)
  (run:∀K:St→Prop,(∀x σ',J x→subP lo (frzT fz σ') (updT E lo c (killR kl (frzT fz σ)) drop names (vals x))→K σ')→vc E rd lo (ciN E inl n) c (thenQ K Q) σ)
  (cont:∀x,J x→Q .normal (updT E lo c (killR kl (frzT fz σ)) drop names (vals x))):Leaf E.E rd lo c Q σ:=by
 refine ⟨fun C S hS hlo hrd=>?_⟩
 obtain ⟨e,S1,C1,σ1,k1,k2,k3,k4⟩:=vc_ok hE (ciN_ok hE hinl n) c _ σ (run (fun σ'=>∃x,J x∧Sub lo σ' (updT E lo c (killR kl (frzT fz σ)) drop names (vals x))) fun x σ' h1 h2=>⟨x,h1,(subP_ok h2).frz fz⟩) C S hS hlo hrd
 cases e with
 |normal=>
  obtain ⟨x,hx,hs⟩:=k4
  obtain ⟨C2,s1,s2⟩:=hs _ C1 S1 k2 k3.m.le
  exact ⟨.normal,S1,C2,_,k1,s1,k3.trans s2,cont x hx⟩
 |ret=>exact ⟨_,S1,C1,σ1,k1,k2,k3,k4⟩
 |exit i=>exact ⟨_,S1,C1,σ1,k1,k2,k3,k4⟩
def addR (nr:List (Nat×SV)) (σ:St):St:=⟨σ.nt,nr++σ.regs,σ.objs,σ.next,σ.df⟩
theorem joinR {E:Env} (hE:EnvOk E) {inl:Nat→Option Func} (hinl:∀f fn,inl f=some fn→E.E.fn f=some fn∧E.E.ext f=none) {rd:Option Nat} {lo:Nat} (n:Nat) (kl fz drop:List Nat) (nr:List (Nat×SV)) (names:List (Nat×List Nat)) {c:Code} {Q:Ex→St→Prop} {σ:St} {X:Type} (vals:X→List D) (J:X→Prop)
  (run:∀K:St→Prop,(∀x σ',J x→subP lo (frzT fz σ') (updT E lo c (addR nr (killR kl (frzT fz σ))) drop names (vals x))→K σ')→vc E rd lo (ciN E inl n) c (thenQ K Q) σ)
  (cont:∀x,J x→Q .normal (updT E lo c (addR nr (killR kl (frzT fz σ))) drop names (vals x))):Leaf E.E rd lo c Q σ:=by
 refine ⟨fun C S hS hlo hrd=>?_⟩
 obtain ⟨e,S1,C1,σ1,k1,k2,k3,k4⟩:=vc_ok hE (ciN_ok hE hinl n) c _ σ (run (fun σ'=>∃x,J x∧Sub lo σ' (updT E lo c (addR nr (killR kl (frzT fz σ))) drop names (vals x))) fun x σ' h1 h2=>⟨x,h1,(subP_ok h2).frz fz⟩) C S hS hlo hrd
 cases e with
 |normal=>
  obtain ⟨x,hx,hs⟩:=k4
  obtain ⟨C2,s1,s2⟩:=hs _ C1 S1 k2 k3.m.le
  exact ⟨.normal,S1,C2,_,k1,s1,k3.trans s2,cont x hx⟩
 |ret=>exact ⟨_,S1,C1,σ1,k1,k2,k3,k4⟩
 |exit i=>exact ⟨_,S1,C1,σ1,k1,k2,k3,k4⟩
theorem loopBJ {E:Env} (hE:EnvOk E) (js:List Nat) {inl:Nat→Option Func} (hinl:∀f fn,inl f=some fn→E.E.fn f=some fn∧E.E.ext f=none) {rd:Option Nat} {lo:Nat} (n:Nat) (fz drop:List Nat) (names:List (Nat×List Nat)) {c:Code} {Q:Ex→St→Prop} {σ:St} {X:Type} (vals:X→List D) (Inv:X→Prop) (μ:X→Nat) (x0:X) (h0:Inv x0)
  (hs:subP lo (frzT fz σ) (updT E lo c (frzT fz σ) drop names (vals x0)))
  (round:∀x,Inv x→∀K:St→Prop,(∀x' σ',Inv x'→μ x' < μ x→subP lo (frzT fz σ') (updT E lo c (frzT fz σ) drop names (vals x'))→K σ')→vcJ E rd lo (ciN E inl n) js c (endQ K Q) (updT E lo c (frzT fz σ) drop names (vals x))) :
  Leaf E.E rd lo (.loop c) Q σ:=by
 refine ⟨loop_ok (fun x=>updT E lo c (frzT fz σ) drop names (vals x)) Inv μ x0 h0 ((subP_ok hs).frz fz) (fun _=>updT_lo) fun x hx=>?_⟩
 have e:loopQ lo (fun x=>updT E lo c (frzT fz σ) drop names (vals x)) Inv μ Q x=endQ (fun σ'=>∃x',Inv x'∧μ x' < μ x∧Sub lo σ' (updT E lo c (frzT fz σ) drop names (vals x'))) Q:=by
  funext e σ'
  cases e<;>rfl
 rw [e]
 exact vcJ_ok hE (ciN_ok hE hinl n) js c _ _ (round x hx _ fun x' σ' h1 h2 h3=>⟨x',h1,h2,(subP_ok h3).frz fz⟩)
def fnVCJ (js:List Nat) (b0 n0:Nat) (E:Env) (inl:Nat→Option Func) (n:Nat) (fn:Func) (sg:Sig) (r:Nat→Nat→D) (ds:List (List D)):Prop:=
 match fn.body with
 |some c=>match argsSV b0 sg.params ds with
  |some vs=>match bleN vs.length fn.ntmps with
   |true=>vcJ E none 0 (ciN E inl n) js c (retX E fn sg r) ⟨fn.ntmps,enterS 0 vs,[],n0,[]⟩
   |false=>False
  |none=>False
 |none=>False
theorem of_vcGJ {E:Env} (hE:EnvOk E) (js:List Nat) {inl:Nat→Option Func} (hinl:∀f fn,inl f=some fn→E.E.fn f=some fn∧E.E.ext f=none) (n:Nat) {f:Nat} {fn:Func} {sg:Sig} {pre:List (List D)→Prop} {res:List (List D)→Nat→Nat→D} (hf:E.E.fn f=some fn∧E.E.ext f=none)
  (b0 n0:Nat) (hb0:b0≤n0) (h:allA sg.params fun ds=>pre ds→fnVCJ js b0 n0 E inl n fn sg (res ds) ds) {ds:List (List D)} (hpre:pre ds) {g:Nat→Option O} {bar nx:Nat} {hp:T O} {args:List V} (C:Cx E.E.ro) (hCg:C.g=g) (hM:MSim C [] n0 bar hp.get nx)
  (hargs:ArgsFz E.E.ro C.g (C.bd b0) sg.params ds args) :
  ∃(vs:List V) (h':T O) (nx':Nat) (g':Nat→Option O),Evt (fun n=>∀k,callF E.E (cx E.E n) bar hp nx f args k=k (CX.one vs) h' nx')∧nx≤nx'∧(∀id,id < nx→h'.get id=hp.get id)∧(∀id o,g id=some o→g' id=some o)∧
   (∀id o,g' id=some o→(id < nx'∧h'.get id=some o)∧(g id=some o∨nx≤id))∧ResFz E.E.ro g' nx' (res ds) sg.results 0 vs:=by
 subst hCg
 have hvc:=allA_ok h hargs hpre
 unfold fnVCJ at hvc
 split at hvc
 ·rename_i c hc
  split at hvc
  ·rename_i vs hvs
   split at hvc
   ·rename_i hle
    simp only [bleN_iff] at hle
    have hrel:RvSL C n0 vs args:=argsSV_ok hb0 hvs hargs
    obtain ⟨t',t1,t2⟩:=enter_ok (C:=C) (n:=n0) _ _ 0 .e [] hrel (fun t s h=>by simp [look] at h) (fun j s h=>by simp [look] at h)
    obtain ⟨e,S',C',σ',k1,k2,k3,k4⟩:=vcJ_ok hE (ciN_ok hE hinl n) js (rd:=none) (lo:=0) c _ _ hvc C ⟨fn.ntmps,bar,t',hp,nx,[]⟩ ⟨rfl,fun j s hl=>.inr (t2 j s hl),hM,.nil,fun d hd=>by cases hd⟩ (Nat.zero_le _) (fun l hl=>by cases hl)
    have none0:∀id,¬OwnId C [] id:=fun id h=>by obtain ⟨_,_,hl,_⟩:=h;simp [look] at hl
    have fin:retRP E fn sg (res ds) σ'→(e=.normal∨e=.ret)→∃(vs:List V) (h':T O) (nx':Nat) (g':Nat→Option O),Evt (fun n=>∀k,callF E.E (cx E.E n) bar hp nx f args k=k (CX.one vs) h' nx')∧nx≤nx'∧(∀id,id < nx→h'.get id=hp.get id)∧(∀id o,C.g id=some o→g' id=some o)∧
      (∀id o,g' id=some o→(id < nx'∧h'.get id=some o)∧(C.g id=some o∨nx≤id))∧ResFz E.E.ro g' nx' (res ds) sg.results 0 vs:=by
     intro hr he
     unfold retRP at hr
     split at hr
     ·rename_i objs ho
      split at hr
      ·rename_i rs hrs
       unfold retD at hr
       split at hr
       ·rename_i ds' hds
        obtain ⟨h',t1',t2',t3'⟩:=take_ok S'.df σ'.df σ'.objs objs S'.h ho k2.m k2.df k2.dflt
        obtain ⟨x,x1,x2⟩:=resAll_ok (σ:=σ'.mem objs σ'.next) hE t2' k2.regs fn.results.toList hrs
        obtain ⟨C2,m2,e2⟩:=t2'.frzL rs
        have hA:=argsD_ok (σ:=σ'.mem (frzL objs rs) σ'.next) m2 (fun _ _ h=>h) (fun e=>by cases e) hds (RvSL.ag e2.ag (Nat.le_refl _) _ _ x1)
        have hext:MExt C [] 0 hp.get nx C2 (frzL objs rs) σ'.next h'.get S'.nx:=yext (k3.m.took t3' (fun i hi=>(k3.df i hi).resolve_left (by intro h;cases h))) (MExt.refl _ _ _ _ _) ((MExt.refl _ _ _ _ _).less (Nat.zero_le _)) e2
        have hbar':S'.bar=bar:=k3.bar
        refine ⟨x,h',S'.nx,C2.g,k1.mono fun n hn k=>?_,hext.nxle,fun id hid=>hext.keep id hid (none0 id),fun id o hgo=>hext.ag.g id o hgo,fun id o hgo=>⟨m2.fz id o hgo,?_⟩,eqRes_ok (allP_ok _ hr) hA⟩
        ·have hlen:Nat.ble (CX.len args) fn.ntmps=true:=bleT (by rw [len_eq,hrel.length];exact hle)
         have hn':cx E.E n none c ⟨fn.ntmps,bar,t',hp,nx,[]⟩=some (e,S'):=hn
         have hrun:outV (takeDf bar S'.df S'.h fun h=>resultsX E.E S'.regs h fn.results.toList fun l=>retV (CX.one l) h S'.nx) k=k (CX.one x) h' S'.nx:=by
          rw [←hbar',t1',x2];rfl
         simp only [callF,hf.1,hf.2,hc,hlen,t1,hn']
         rcases he with rfl |rfl<;>exact hrun
        ·rcases hext.g id o hgo with h |h |h
         ·exact .inl h
         ·exact absurd h (none0 id)
         ·exact .inr h
       ·exact hr.out.elim
      ·exact hr.out.elim
     ·exact hr.out.elim
    cases e with
    |normal=>exact fin k4 (.inl rfl)
    |ret=>exact fin k4 (.inr rfl)
    |exit i=>exact (StuckR.out k4).elim
   ·exact hvc.elim
  ·exact hvc.elim
 ·exact hvc.elim
theorem PureC.of_vcJ {E:Env} (hE:EnvOk E) (js:List Nat) {inl:Nat→Option Func} (hinl:∀f fn,inl f=some fn→E.E.fn f=some fn∧E.E.ext f=none) (n:Nat) {f:Nat} {fn:Func} {sg:Sig} {pre:List (List D)→Prop} {res:List (List D)→Nat→Nat→D} (hf:E.E.fn f=some fn∧E.E.ext f=none)
  (h:allA sg.params fun ds=>pre ds→fnVCJ js 1 1 E inl n fn sg (res ds) ds):PureC E.E f sg pre res:=by
 intro ds hpre g bar nx hp args hg hbar hargs
 refine of_vcGJ hE js hinl n hf 1 1 (Nat.le_refl _) h hpre (bar:=bar) ⟨fun _=>0,fun _=>.nils,g,fun b=>if b=0 then 0 else nx⟩ rfl ?_ hargs
 exact ⟨fun _ _ h=>by simp [look] at h,fun _ _ h=>by simp [look] at h,fun _ _ h=>by simp [look] at h,fun _ _ _ _ h=>by simp [look] at h,hg,fun b _=>by show (if b=0 then 0 else nx)≤nx;split<;>omega,rfl,hbar,rfl⟩
theorem PureC0.of_vcJ {E:Env} (hE:EnvOk E) (js:List Nat) {inl:Nat→Option Func} (hinl:∀f fn,inl f=some fn→E.E.fn f=some fn∧E.E.ext f=none) (n:Nat) {f:Nat} {fn:Func} {sg:Sig} {pre:List (List D)→Prop} {res:List (List D)→Nat→Nat→D} (hf:E.E.fn f=some fn∧E.E.ext f=none)
  (h:allA sg.params fun ds=>pre ds→fnVCJ js 0 0 E inl n fn sg (res ds) ds):PureC0 E.E f sg pre res:=by
 intro ds hpre args hargs
 obtain ⟨vs,h',nx',g',c1,_,_,_,_,c6⟩:=of_vcGJ hE js hinl n hf 0 0 (Nat.le_refl _) h hpre (bar:=0) (hp:=.e) (nx:=0) ⟨fun _=>0,fun _=>.nils,fun _=>none,fun _=>0⟩ rfl
  ⟨fun _ _ h=>by simp [look] at h,fun _ _ h=>by simp [look] at h,fun _ _ h=>by simp [look] at h,fun _ _ _ _ h=>by simp [look] at h,fun _ _ h=>(by cases h),fun _ _=>Nat.le_refl _,rfl,Nat.le_refl _,rfl⟩ hargs
 exact ⟨vs,h',nx',g',c1,c6⟩
end HX

namespace HX
open Go Go.Proofs CX
set_option maxHeartbeats 4000000 in
set_option maxRecDepth 100000 in
theorem walk16 {ro A pre fn} (hE:EnvOk ⟨A,(cxE ro),ksF,sigL [(48,⟨[(true,[.int .i64,.int .i64,.int .i64])],[(false,[.int .i64])],false⟩),(49,⟨[(true,[.int .i64,.int .i64,.int .i64]),(false,[.sl [.int .i64]])],[(false,[.int .i64])],false⟩)],pre,fn⟩) {P:List (List D)→Prop} {res:List (List D)→Nat→Nat→D}
  (hv:∀(a0_0:Int) (a0_1:Int) (a0_2:Int) (a1:Rows),ShR [.sl [.int .i64]] a1→P [[.i a0_0,.i a0_1,.i a0_2],[.l a1]]→V16 pre fn a0_0 a0_1 a0_2 a1 (res [[.i a0_0,.i a0_1,.i a0_2],[.l a1]])) :
  PureC (cxE ro) 16 ⟨[(true,[.int .i64,.int .i64,.int .i64]),(false,[.sl [.sl [.int .i64]]])],[(false,[.sl [.int .i64,.int .i64]]),(false,[.int .i64])],false⟩ P res:=by
 have h:=hE.A
 simp only [] at h
 have hinl:∀f fn,inlL [] f=some fn→(cxE ro).fn f=some fn∧(cxE ro).ext f=none:=Inls.ok (by repeat (first |exact .nil |refine .cons rfl rfl ?_))
 refine PureC.of_vcJ hE [18] hinl 6 (f:=16) (fn:=Try.f16) ⟨rfl,rfl⟩ ?_
 intro a0_0 a0_1 a0_2 a1 ha1 hP
 obtain ⟨R,hR⟩:∃R,res [[.i a0_0,.i a0_1,.i a0_2],[.l a1]]=R:=⟨_,rfl⟩
 rw [hR]
 have hV:=hv a0_0 a0_1 a0_2 a1 ha1 hP
 rw [hR] at hV
 clear hR hP hv
 cbv
 repeat' first|(refine Br.mk (fun _=>?_) (fun _=>?_)<;>cbv)|(refine NilB.mk (fun _=>?_) ?_<;>cbv)|refine And.intro ?_ ?_|exact True.intro
 ·subst h;exact hV.g0
 ·rename_i p1a
  subst h;exact hV.g1 (df (nt p1a))
 ·rename_i p2a
  subst h;exact hV.g2 (df (nt p2a))
 ·rename_i p3a p3b
  subst h;exact hV.g3 (dt (nf p3a)) (dt p3b)
 ·rename_i p4a p4b
  subst h;exact hV.g4 (dt (nf p4a)) (dt p4b)
 ·rename_i p5a p5b
  refine Leaf.gen fun σz hσz=>?_
  obtain ⟨I0,m0,i0,c0⟩:V16l0 pre fn a0_0 a0_1 a0_2 a1 R:=by subst h;exact hV.l0 (dt (nf p5a)) (df p5b)
  refine loopBJ hE [18] hinl 6 [] [] [] (fun x:Rows×Int×Int=>[.l x.1,.i x.2.1,.i x.2.2]) (fun x=>I0 x.1 x.2.1 x.2.2) (fun x=>m0 x.1 x.2.1 x.2.2) ([],0,0) (by subst h;exact i0) ?_ ?_<;>subst hσz
  ·clear hE hinl hV;cbv;(try repeat' first|rfl|assumption|constructor)
  ·intro ⟨b0,b1,b2⟩ hI0 K0 hK0
   have h0:=c0 _ _ _ hI0
   cbv
   repeat' first|(refine Br.mk (fun _=>?_) (fun _=>?_)<;>cbv)|(refine NilB.mk (fun _=>?_) ?_<;>cbv)|refine And.intro ?_ ?_|exact True.intro
   ·rename_i p6a
    subst h;exact h0.g6 (dt p6a)
   ·rename_i p7a
    subst h;exact h0.g7 (dt p7a)
   ·rename_i p8a
    subst h;exact h0.g8 (dt p8a)
   ·rename_i p9a
    subst h;exact h0.g9 (dt p9a)
   ·rename_i p10a p10b
    subst h;exact h0.g10 (dt p10a) (df (nt p10b))
   ·rename_i p11a p11b
    subst h;exact h0.g11 (dt p11a) (df (nt p11b))
   ·rename_i p12a p12b
    subst h;exact h0.g12 (dt p12a) (dt (nf p12b))
   ·rename_i p13a p13b
    refine hK0 (b0,b1,A.add b2 1) _ ?_ ?_ ?_
    ·subst h;exact (h0.n13 (dt p13a) (dt (nf p13b))).1
    ·subst h;exact (h0.n13 (dt p13a) (dt (nf p13b))).2
    ·clear hE hinl hV hK0;cbv;(try repeat' first|rfl|assumption|constructor)
   ·rename_i p14a
    refine Leaf.gen fun σz hσz=>?_
    obtain ⟨I1,m1,i1,c1⟩:V16l1 a0_2 a1 R:=by subst h;exact h0.l1 (df p14a)
    refine loopBJ hE [18] hinl 6 [] [] [] (fun x:Rows×Rows×Int=>[.l x.1,.l x.2.1,.i x.2.2]) (fun x=>I1 x.1 x.2.1 x.2.2) (fun x=>m1 x.1 x.2.1 x.2.2) ([],[],0) (by subst h;exact i1) ?_ ?_<;>subst hσz
    ·clear hE hinl hV;cbv;(try repeat' first|rfl|assumption|constructor)
    ·intro ⟨d0,d1,d2⟩ hI1 K1 hK1
     have h1:=c1 _ _ _ hI1
     cbv
     repeat' first|(refine Br.mk (fun _=>?_) (fun _=>?_)<;>cbv)|(refine NilB.mk (fun _=>?_) ?_<;>cbv)|refine And.intro ?_ ?_|exact True.intro
     ·rename_i p15a
      refine Leaf.gen fun σz hσz=>?_
      obtain ⟨I2,r2,c2⟩:V16j2 a0_2 a1 d0 d1 d2 I1 m1:=by subst h;exact h1.l2 (dt p15a)
      refine joinB hE hinl 6 [44] [] [] [] (fun x:Rows=>[.l x]) (fun x=>I2 x) ?_ ?_<;>subst hσz
      ·intro K2 hK2
       cbv
       repeat' first|(refine Br.mk (fun _=>?_) (fun _=>?_)<;>cbv)|(refine NilB.mk (fun _=>?_) ?_<;>cbv)|refine And.intro ?_ ?_|exact True.intro
       ·rename_i p16a
        subst h;exact r2.g16 (dt p16a)
       ·rename_i p17a
        subst h;exact r2.g17 (dt p17a)
       ·rename_i p18a
        subst h;exact r2.g18 (dt p18a)
       ·rename_i p19a
        subst h;exact r2.g19 (dt p19a)
       ·rename_i p20a
        refine hK2 (A.app d0 (A.dl (A.get a1 (A.toNat 0) 0))) _ ?_ ?_
        ·subst h;exact r2.n20 (dt p20a)
        ·clear hE hinl hV hK2;cbv;(try repeat' first|rfl|assumption|constructor)
       ·rename_i p21a
        refine hK2 (d0) _ ?_ ?_
        ·subst h;exact r2.n21 (df p21a)
        ·clear hE hinl hV hK2;cbv;(try repeat' first|rfl|assumption|constructor)
      ·intro e0 hI2
       have h2:=c2 _ hI2
       cbv
       repeat' first|(refine Br.mk (fun _=>?_) (fun _=>?_)<;>cbv)|(refine NilB.mk (fun _=>?_) ?_<;>cbv)|refine And.intro ?_ ?_|exact True.intro
       ·refine Leaf.gen fun σz hσz=>?_
        obtain ⟨I3,m3,i3,c3⟩:V16l3 a0_2 a1 d0 d1 d2 e0 I1 m1:=by subst h;exact h2.l3
        refine loopBJ hE [18] hinl 6 [] [] [(9,[])] (fun x:Rows×Int×Rows=>[.l x.1,.i x.2.1,.l x.2.2]) (fun x=>I3 x.1 x.2.1 x.2.2) (fun x=>m3 x.1 x.2.1 x.2.2) (d1,0,e0) (by subst h;exact i3) ?_ ?_<;>subst hσz
        ·clear hE hinl hV;cbv;(try repeat' first|rfl|assumption|constructor)
        ·intro ⟨f0,f1,f2⟩ hI3 K3 hK3
         have h3:=c3 _ _ _ hI3
         cbv
         repeat' first|(refine Br.mk (fun _=>?_) (fun _=>?_)<;>cbv)|(refine NilB.mk (fun _=>?_) ?_<;>cbv)|refine And.intro ?_ ?_|exact True.intro
         ·rename_i p23a
          subst h;exact h3.g23 (dt p23a)
         ·rename_i p24a
          subst h;exact h3.g24 (dt p24a)
         ·rename_i p25a
          subst h;exact h3.g25 (dt p25a)
         ·rename_i p26a
          subst h;exact h3.g26 (dt p26a)
         ·rename_i p27a
          subst h;exact h3.g27 (dt p27a)
         ·rename_i p28a
          subst h;exact h3.g28 (dt p28a)
         ·rename_i p29a
          subst h;exact h3.g26 (dt p29a)
         ·rename_i p30a
          subst h;exact h3.g30 (dt p30a)
         ·rename_i p31a
          subst h;exact h3.g31 (dt p31a)
         ·rename_i p32a
          subst h;exact h3.g31 (dt p32a)
         ·rename_i p33a
          subst h;exact h3.g33 (dt p33a)
         ·rename_i p34a p34b
          subst h;exact h3.g34 (dt p34a) (dt p34b)
         ·rename_i p35a p35b
          subst h;exact h3.g35 (dt p35a) (dt p35b)
         ·rename_i p36a p36b
          subst h;exact h3.g36 (dt p36a) (dt p36b)
         ·rename_i p37a p37b
          subst h;exact h3.g37 (dt p37a) (dt p37b)
         ·rename_i p38a p38b
          subst h;exact h3.g38 (dt p38a) (dt p38b)
         ·rename_i p39a p39b
          subst h;exact h3.g39 (dt p39a) (dt p39b)
         ·rename_i p40a p40b
          subst h;exact h3.g39 (dt p40a) (dt p40b)
         ·rename_i p41a p41b
          subst h;exact h3.g41 (dt p41a) (dt p41b)
         ·rename_i p42a p42b
          subst h;exact h3.g37 (dt p42a) (dt p42b)
         ·rename_i p43a p43b
          subst h;exact h3.g38 (dt p43a) (dt p43b)
         ·rename_i p44a p44b
          subst h;exact h3.g39 (dt p44a) (dt p44b)
         ·rename_i p45a p45b
          subst h;exact h3.g45 (dt p45a) (dt p45b)
         ·rename_i p46a p46b
          refine hK3 (A.app f0 [[D.i d2,D.i (A.add (A.mul 2 f1) 1)]],A.add f1 1,A.set f2 (A.toNat f1) [D.i (A.add (A.di (A.get f2 (A.toNat f1) 0)) a0_2)]) _ ?_ ?_ ?_
          ·subst h;exact (h3.n46 (dt p46a) (dt p46b)).1
          ·subst h;exact (h3.n46 (dt p46a) (dt p46b)).2
          ·clear hE hinl hV hK3;cbv;(try repeat' first|rfl|assumption|constructor)
         ·rename_i p47a p47b
          subst h;exact h3.g47 (dt p47a) (df p47b)
         ·rename_i p48a p48b p48c
          subst h;exact h3.g48 (dt p48a) (df p48b) (dt p48c)
         ·rename_i p49a p49b p49c
          subst h;exact h3.g49 (dt p49a) (df p49b) (dt p49c)
         ·rename_i p50a p50b p50c
          subst h;exact h3.g50 (dt p50a) (df p50b) (dt p50c)
         ·rename_i p51a p51b p51c
          subst h;exact h3.g51 (dt p51a) (df p51b) (dt p51c)
         ·rename_i p52a p52b p52c
          subst h;exact h3.g52 (dt p52a) (df p52b) (dt p52c)
         ·rename_i p53a p53b p53c
          subst h;exact h3.g52 (dt p53a) (df p53b) (dt p53c)
         ·rename_i p54a p54b p54c
          subst h;exact h3.g54 (dt p54a) (df p54b) (dt p54c)
         ·rename_i p55a p55b p55c
          subst h;exact h3.g50 (dt p55a) (df p55b) (dt p55c)
         ·rename_i p56a p56b p56c
          subst h;exact h3.g51 (dt p56a) (df p56b) (dt p56c)
         ·rename_i p57a p57b p57c
          subst h;exact h3.g52 (dt p57a) (df p57b) (dt p57c)
         ·rename_i p58a p58b p58c
          subst h;exact h3.g58 (dt p58a) (df p58b) (dt p58c)
         ·rename_i p59a p59b p59c
          refine hK3 (A.app f0 [[D.i d2,D.i (A.mul 2 f1)]],A.add f1 1,A.set f2 (A.toNat f1) [D.i (A.sub (A.di (A.get f2 (A.toNat f1) 0)) a0_2)]) _ ?_ ?_ ?_
          ·subst h;exact (h3.n59 (dt p59a) (df p59b) (dt p59c)).1
          ·subst h;exact (h3.n59 (dt p59a) (df p59b) (dt p59c)).2
          ·clear hE hinl hV hK3;cbv;(try repeat' first|rfl|assumption|constructor)
         ·rename_i p60a p60b p60c
          subst h;exact h3.g60 (dt p60a) (df p60b) (df p60c)
         ·rename_i p61a p61b p61c
          refine hK3 (f0,A.add f1 1,f2) _ ?_ ?_ ?_
          ·subst h;exact (h3.n61 (dt p61a) (df p61b) (df p61c)).1
          ·subst h;exact (h3.n61 (dt p61a) (df p61b) (df p61c)).2
          ·clear hE hinl hV hK3;cbv;(try repeat' first|rfl|assumption|constructor)
         ·rename_i p62a
          subst h;exact h3.g62 (df p62a)
         ·rename_i p63a
          refine hK1 (f2,f0,A.add d2 1) _ ?_ ?_ ?_
          ·subst h;exact (h3.n63 (df p63a)).1
          ·subst h;exact (h3.n63 (df p63a)).2
          ·clear hE hinl hV hK1;cbv;(try repeat' first|rfl|assumption|constructor)
     ·rename_i p64a p64b
      subst h;exact h1.g64 (df p64a) (dt p64b)
     ·rename_i p65a p65b
      subst h;exact h1.g65 (df p65a) (dt p65b)
     ·rename_i p66a p66b
      subst h;exact h1.g66 (df p66a) (df p66b)
     ·rename_i p67a p67b
      subst h;exact h1.g67 (df p67a) (df p67b)
end HX
