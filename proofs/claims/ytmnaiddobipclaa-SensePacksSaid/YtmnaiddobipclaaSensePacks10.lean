/-
  Texts of the executors: SpE, V33, SpF, V32, V34, V78, SkD, SkE, SkU, PqL, PqM, W92, W67, W72, W17, W50, W100, W76, W71, W51, HxJoin, W63, W27.
-/
import Derived.Test.YtmnaiddobipclaaSensePacks9
set_option linter.all false
noncomputable section
namespace HX
open Go Go.Proofs CX
def mrgE (a b:Rows):Int:=if chkE a=0 then chkE b else chkE a
def mrgL (a b:Rows):Rows:=if chkE a=0/\chkE b=0 then unprs (mg (prs a) (prs b)) else []
theorem set_take {l:Rows} {q:Nat} (h:q < l.length) (x:List D):(l.set q x).take (q+1)=l.take q++[x]:=by
 rw [List.take_succ,List.take_set_of_le (zB _),List.getElem?_set_self h]
 rfl
section
variable {R:Nat->Nat->D} {e0:Rows} (hn:e0.length<=2048) (h0:R 0 0=.l (unprs (ddt (psort (prs e0)) (psort (prs e0)).length))) (h1:R 1 0=.i 0)
include hn h0 h1
theorem srt_len0:(srtR e0).length=e0.length:=by
 clear hn h0 h1
 rw [srtR,un_len,(psort_perm _).length_eq,prs_len]
theorem law31d {F:Nat} (hF:1<=F) (hFn:F < e0.length) (hp:ddt (psort (prs e0)) F=(psort (prs e0)).take F) (hq:(psort (prs e0)).getD F (0,0)=(psort (prs e0)).getD (F - 1) (0,0)):V31l4 R e0 F:=by
 have sl:(srtR e0).length=e0.length:=srt_len0 hn h0 h1
 have hS:srtR e0=unprs (psort (prs e0)):=rfl
 have pl:(psort (prs e0)).length=e0.length:=by rw [(psort_perm _).length_eq,prs_len]
 generalize psort (prs e0)=S at *
 refine ⟨fun j0 j1 j2=>∃q p:Nat,j0=q/\j1=p/\1<=p/\F+p<=S.length/\q+1<=F+p/\j2.length=S.length/\(∀i,F+p<=i+1->j2[i]?=(unprs S)[i]?)/\j2.take q=unprs (ddt S (F+p)),fun _ j1 _=>(e0.length - (F+j1)).toNat,⟨F,1,rfl,rfl,zB _,by omega,zB _,by rw [hS,un_len],fun i _=>by rw [hS],?_⟩,?_⟩
 ·rw [ddt_eq (by omega) hq,hp,un_take,hS]
 rintro j0 j1 j2 ⟨q,p,rfl,rfl,i1,i2,i3,i4,i5,i6⟩
 have tn:((p:Int) - 1).toNat=p - 1:=by omega
 have get:∀i,F+p<=i+1->i < S.length->gt j2 i 0=.i (S.getD i (0,0)).1/\gt j2 i 1=.i (S.getD i (0,0)).2:=fun i h k=>gt_of ((i5 i h).trans (un_get k))
 have key:p < e0.length - F->(gt j2 (F+p) 0=.i (S.getD (F+p) (0,0)).1/\gt j2 (F+p) 1=.i (S.getD (F+p) (0,0)).2)/\gt j2 (F+(p - 1)) 0=.i (S.getD (F+p - 1) (0,0)).1/\gt j2 (F+(p - 1)) 1=.i (S.getD (F+p - 1) (0,0)).2:=fun h=>by
  have e:F+(p - 1)=F+p - 1:=by omega
  rw [e]
  exact ⟨get _ (by omega) (by omega),get _ (by omega) (by omega)⟩
 have fin:¬p < e0.length - F->F+p=S.length:=fun h=>by omega
 have hi:∀n:Int,(D.i n).int=n:=fun _=>rfl
 constructor
 all_goals (simp only [zW,sl,tn])
 case n72=>
  intro hx hc
  have hx':p < e0.length - F:=by omega
  obtain ⟨⟨k1,k2⟩,k3,k4⟩:=key hx'
  have hc:(¬D.int (gt j2 (F+p) 0)=D.int (gt j2 (F+(p - 1)) 0))\/(¬D.int (gt j2 (F+p) 1)=D.int (gt j2 (F+(p - 1)) 1)):=by
   simpa only [v31a,zW,tn] using hc
  rw [k1,k2,k3,k4] at hc
  simp only [hi] at hc
  have hne:¬S.getD (F+p) (0,0)=S.getD (F+p - 1) (0,0):=fun e=>by rw [pair_eq] at e;omega
  rw [k1,k2]
  refine ⟨⟨q+1,p+1,by omega,by omega,by omega,by omega,by omega,by rw [qL];exact i4,fun i hi'=>?_,?_⟩,by omega⟩
  ·rw [List.getElem?_set_ne (by omega)]
   exact i5 i (by omega)
  rw [set_take (by omega),i6,show F+(p+1)=F+p+1 by omega,ddt_ne hne,un_app]
  rfl
 case n74=>
  intro hx hc
  have hx':p < e0.length - F:=by omega
  obtain ⟨⟨k1,k2⟩,k3,k4⟩:=key hx'
  rw [k1,k2,k3,k4] at hc
  simp only [hi] at hc
  refine ⟨⟨q,p+1,rfl,by omega,by omega,by omega,by omega,i4,fun i hi'=>i5 i (by omega),?_⟩,by omega⟩
  rw [show F+(p+1)=F+p+1 by omega,ddt_eq (by omega) (pair_eq.2 hc)]
  exact i6
 case g82=>
  intro hx _
  have hx':F+p=S.length:=fin (by omega)
  have e:∀T:Rows,List.take q (List.drop 0 (List.take q (List.drop 0 j2)++T))=j2.take q:=fun T=>by
   rw [xU,xU,List.take_append_of_le_length (by rw [zM];omega),List.take_take,Nat.min_self]
  rw [h0,e,i6,hx']
 case g83=>intro _ _;exact h1
 case g79=>
  intro hx
  simp only [zP,zM,xC,xB]
  omega
 all_goals (intros;(try unfold vZ31);(try omega))
theorem law31c:¬(e0.length:Int) < 2->V31l3 R e0:=by
 intro h2
 have sl:(srtR e0).length=e0.length:=srt_len0 hn h0 h1
 have pl:(psort (prs e0)).length=e0.length:=by rw [(psort_perm _).length_eq,prs_len]
 have hi:∀n:Int,(D.i n).int=n:=fun _=>rfl
 refine ⟨fun f0=>∃F:Nat,f0=F/\1<=F/\F<=e0.length/\ddt (psort (prs e0)) F=(psort (prs e0)).take F,fun f0=>(e0.length - f0).toNat,⟨1,rfl,zB _,by omega,?_⟩,?_⟩
 ·rw [show (1:Nat)=0+1 from rfl,take_snoc (by omega)]
  rfl
 rintro f0 ⟨F,rfl,j1,j2,j3⟩
 have tn:((F:Int) - 1).toNat=F - 1:=by omega
 have key:F < e0.length->(gt (srtR e0) F 0=.i ((psort (prs e0)).getD F (0,0)).1/\gt (srtR e0) F 1=.i ((psort (prs e0)).getD F (0,0)).2)/\gt (srtR e0) (F - 1) 0=.i ((psort (prs e0)).getD (F - 1) (0,0)).1/\gt (srtR e0) (F - 1) 1=.i ((psort (prs e0)).getD (F - 1) (0,0)).2:=fun h=>
  ⟨un_gt (by omega),un_gt (by omega)⟩
 constructor
 all_goals (simp only [v31c,zW,sl,tn])
 case n85=>
  intro hx hc
  obtain ⟨⟨k1,k2⟩,k3,k4⟩:=key (by omega)
  rw [k1,k2,k3,k4] at hc
  simp only [hi] at hc
  have hne:¬(psort (prs e0)).getD F (0,0)=(psort (prs e0)).getD (F - 1) (0,0):=fun e=>by rw [pair_eq] at e;omega
  refine ⟨⟨F+1,by omega,by omega,by omega,?_⟩,by omega⟩
  rw [ddt_ne hne,take_snoc (by omega),j3]
 case l4=>
  intro hx hc
  obtain ⟨⟨k1,k2⟩,k3,k4⟩:=key (by omega)
  rw [k1,k2,k3,k4] at hc
  simp only [hi] at hc
  exact law31d hn h0 h1 j1 (by omega) j3 (pair_eq.2 hc)
 case g88=>
  intro hx _
  have e:F=(psort (prs e0)).length:=by omega
  rw [e] at j3
  rw [h0,j3,qH]
  rfl
 case g89=>intro _ _;exact h1
 all_goals (intros;(try unfold vZ31);(try omega))
theorem law31b:(¬(e0.length:Int) < 2->V31l3 R e0)/\((e0.length:Int) < 2->R 0 0=.l (srtR e0)):=by
 refine ⟨law31c hn h0 h1,fun h=>?_⟩
 have pl:(psort (prs e0)).length=e0.length:=by rw [(psort_perm _).length_eq,prs_len]
 rw [h0,srtR]
 generalize psort (prs e0)=S at *
 match S,pl with
 |[],_=>rfl
 |[x],_=>rfl
 |_ :: _ :: _,pl=>simp only [zH] at pl;omega
end
theorem law31 {pre:Nat->List (List D)->Prop} {fn:Nat->List (List D)->Nat->Nat->D} (hp51:∀x,pre 51 x) (hf51:∀l,fn 51 [[.l l]] 0 0=.i (chkE l)) {a0 a1:Rows} (hl:a0.length+a1.length<=2048) {R:Nat->Nat->D} (h0:R 0 0=.l (mrgL a0 a1)) (h1:R 1 0=.i (mrgE a0 a1)) :
  V31 pre fn a0 a1 R:=by
 have hi:∀n:Int,(D.i n).int=n:=fun _=>rfl
 have g0:(gt [[D.l a0],[D.l a1]] 0 0).rows=a0:=rfl
 have g1:(gt [[D.l a0],[D.l a1]] 1 0).rows=a1:=rfl
 have app:chkE a0=0->chkE a1=0->∃(I2:Rows->Int->Prop) (m2:Rows->Int->Nat),I2 [] 0/\∀e0 e1,I2 e0 e1->V31c2 a0 a1 R e0 e1 I2 m2:=fun c0 c1=>by
  refine ⟨fun e0 e1=>(e1=0/\e0=[])\/(e1=1/\e0=a0)\/(e1=2/\e0=a0++a1),fun _ e1=>(2 - e1).toNat,.inl ⟨rfl,rfl⟩,fun e0 e1 hI=>?_⟩
  have r0:e1=2->e0.length<=2048/\R 0 0=.l (unprs (ddt (psort (prs e0)) (psort (prs e0)).length))/\R 1 0=.i 0:=fun h=>by
   rcases hI with ⟨e,_⟩ |⟨e,_⟩ |⟨_,e⟩
   ·omega
   ·omega
   rw [e]
   refine ⟨by rw [zP];exact hl,?_,?_⟩
   ·rw [h0,mrgL,if_pos ⟨c0,c1⟩,mg,prs_app]
   rw [h1,mrgE,if_pos c0,c1]
  have sl:(srtR e0).length=e0.length:=by rw [srtR,un_len,(psort_perm _).length_eq,prs_len]
  have hb:e0.length<=2048:=by rcases hI with ⟨_,rfl⟩ |⟨_,rfl⟩ |⟨_,rfl⟩<;>(try simp only [zK,zP])<;>omega
  have he:e1=0\/e1=1\/e1=2:=by rcases hI with ⟨h,_⟩ |⟨h,_⟩ |⟨h,_⟩<;>omega
  constructor
  all_goals (simp only [v31b,v31c,sl,zH,zK])
  case g31=>
   intro hx
   rcases hI with ⟨rfl,rfl⟩ |⟨rfl,rfl⟩ |⟨rfl,rfl⟩
   ·simp only [Int.toNat_zero,g0,zK];omega
   ·show (e0.length+a1.length) * 16<=_/\e0.length+a1.length<=_
    omega
   omega
  case n33=>
   intro hx
   rcases hI with ⟨rfl,rfl⟩ |⟨rfl,rfl⟩ |⟨rfl,rfl⟩
   ·exact ⟨.inr (.inl ⟨rfl,by simp only [Int.toNat_zero,g0,qA]⟩),by omega⟩
   ·exact ⟨.inr (.inr ⟨rfl,rfl⟩),by omega⟩
   omega
  case g37=>
   intro hx h2 _
   obtain ⟨a,b,c⟩:=r0 (by omega)
   exact (law31b a b c).2 h2
  case g38=>intro hx _ _;exact (r0 (by omega)).2.2
  case l3=>
   intro hx h2
   obtain ⟨a,b,c⟩:=r0 (by omega)
   exact (law31b a b c).1 h2
  all_goals (intros;(try unfold vZ31);(try omega))
 constructor
 refine ⟨fun _ _ b2=>b2=0\/(b2=1/\chkE a0=0)\/(b2=2/\chkE a0=0/\chkE a1=0),fun _ _ b2=>(2 - b2).toNat,.inl rfl,fun b0 b1 b2 hI=>?_⟩
 have hb:b2=0\/b2=1\/b2=2:=by omega
 constructor
 all_goals (simp only [v31b,zH,zK,hf51,hi])
 case g4=>intro _;exact hp51 _
 case g5=>
  intro hx hc
  rw [h0,mrgL,if_neg]
  rintro ⟨c0,c1⟩
  rcases hI with rfl |⟨rfl,e⟩ |⟨rfl,_⟩
  ·exact hc c0
  ·exact hc c1
  omega
 case g6=>
  intro hx hc
  rw [h1,mrgE]
  rcases hI with rfl |⟨rfl,e⟩ |⟨rfl,_⟩
  ·have hc:¬chkE a0=0:=hc
   rw [if_neg hc];rfl
  ·rw [if_pos e];rfl
  omega
 case n8=>
  intro hx hc
  rcases hI with rfl |⟨rfl,e⟩ |⟨rfl,_⟩
  ·exact ⟨.inr (.inl ⟨rfl,hc⟩),by omega⟩
  ·exact ⟨.inr (.inr ⟨rfl,e,hc⟩),by omega⟩
  omega
 case l1=>
  intro hx
  have cc:chkE a0=0/\chkE a1=0:=by
   rcases hI with rfl |⟨rfl,e⟩ |⟨rfl,e⟩
   ·omega
   ·omega
   exact e
  obtain ⟨I2,m2,s2,r2⟩:=app cc.1 cc.2
  refine ⟨fun d0 d1=>(d1=0/\d0=0)\/(d1=1/\d0=a0.length)\/(d1=2/\d0=a0.length+a1.length),fun _ d1=>(2 - d1).toNat,.inl ⟨rfl,rfl⟩,fun d0 d1 hJ=>?_⟩
  have hd:d1=0\/d1=1\/d1=2:=by omega
  have stp:d1 < 2->(d1=0/\d0=0/\v31d d0 a0 a1 d1=a0.length)\/(d1=1/\v31d d0 a0 a1 d1=a0.length+a1.length):=fun h=>by
   rcases hJ with ⟨rfl,rfl⟩ |⟨rfl,rfl⟩ |⟨rfl,rfl⟩
   ·refine .inl ⟨rfl,rfl,?_⟩
    simp only [v31d,Int.toNat_zero,g0];omega
   ·exact .inr ⟨rfl,rfl⟩
   omega
  have e2:List.take (Int.toNat 0) (List.drop 0 (List.replicate (Int.toNat (d0 - (0 - 0))) [D.i 0,D.i 0]))=[]:=by simp
  constructor
  all_goals (simp only [v31b,zH,zK])
  case n16=>
   intro hx _
   rcases stp (by omega) with ⟨rfl,rfl,e⟩ |⟨rfl,e⟩
   ·exact ⟨.inr (.inl ⟨rfl,e⟩),by omega⟩
   exact ⟨.inr (.inr ⟨rfl,e⟩),by omega⟩
  case l2=>
   intro _ _ _
   exact ⟨I2,m2,by rw [e2];exact s2,r2⟩
  case l5=>
   intro _ _ _
   exact ⟨I2,m2,s2,r2⟩
  case g13=>intro hx;unfold vZ31;rcases stp (by omega) with ⟨_,_,e⟩ |⟨_,e⟩<;>rw [e]<;>omega
  case g14=>intro hx;rcases stp (by omega) with ⟨_,_,e⟩ |⟨_,e⟩<;>rw [e]<;>omega
  case g23=>intro _ _ _;show _ * (2:Int)<=_;omega
  case g26=>intro _ _ _;exact kU _
  all_goals (intros;(try unfold vZ31);(try omega))
 all_goals (intros;(try unfold vZ31);(try omega))
end HX

namespace HX
open Go Go.Proofs CX
abbrev vZ33 (x:Int):=-9223372036854775808<=x/\x<=9223372036854775807
abbrev v33a (a0:Rows) (d1:Int):=(D.int (gt ([]++a0) d1.toNat 0))
abbrev v33b (a0:Rows):=((([]++a0)).length:Int)
abbrev v33c (e2:Rows) (e1:Int):=(D.int (gt e2 e1.toNat 0))
structure V33c0 (R:Nat->Nat->D) (b1:Int):Prop where
 g6:(b1 < 0)->False
 g7:(¬b1 < 0)->R 0 0=D.l []
 g8:(¬b1 < 0)->R 1 0=D.i 0
abbrev V33l0 (R:Nat->Nat->D):Prop:=∃(I0:Int->Int->Prop) (m0:Int->Int->Nat),I0 0 0/\∀b0 b1,I0 b0 b1->V33c0 R b1
structure V33c2 (a1:Int) (a2:Int) (R:Nat->Nat->D) (e0:Int) (e1:Int) (e2:Rows) (I2:Int->Int->Rows->Prop) (m2:Int->Int->Rows->Nat):Prop where
 g20:(e1 < (e2.length:Int))->0<=e1
 g21:(e1 < (e2.length:Int))->e1 < (e2.length:Int)
 g22:(e1 < (e2.length:Int))->(((Int.toNat e1:Nat):Int)) < (e2.length:Int)
 g23:(e1 < (e2.length:Int))->((v33c e2 e1) < a1)->vZ33 ((e1+1))
 n24:(e1 < (e2.length:Int))->((v33c e2 e1) < a1)->I2 e0 (e1+1) e2/\m2 e0 (e1+1) e2 < m2 e0 e1 e2
 g25:(e1 < (e2.length:Int))->(¬(v33c e2 e1) < a1)->(¬a2<=(v33c e2 e1))->0<=e0
 g26:(e1 < (e2.length:Int))->(¬(v33c e2 e1) < a1)->(¬a2<=(v33c e2 e1))->e0 < (e2.length:Int)
 g27:(e1 < (e2.length:Int))->(¬(v33c e2 e1) < a1)->(¬a2<=(v33c e2 e1))->(((Int.toNat e0:Nat):Int)) < (e2.length:Int)
 g28:(e1 < (e2.length:Int))->(¬(v33c e2 e1) < a1)->(¬a2<=(v33c e2 e1))->vZ33 ((e0+1))
 g29:(e1 < (e2.length:Int))->(¬(v33c e2 e1) < a1)->(¬a2<=(v33c e2 e1))->vZ33 ((e1+1))
 n30:(e1 < (e2.length:Int))->(¬(v33c e2 e1) < a1)->(¬a2<=(v33c e2 e1))->I2 (e0+1) (e1+1) (List.set e2 e0.toNat [D.i (v33c e2 e1),D.i (D.int (gt e2 e1.toNat 1))])/\m2 (e0+1) (e1+1) (List.set e2 e0.toNat [D.i (v33c e2 e1),D.i (D.int (gt e2 e1.toNat 1))]) < m2 e0 e1 e2
 g31:(e1 < (e2.length:Int))->(¬(v33c e2 e1) < a1)->(a2<=(v33c e2 e1))->vZ33 ((e1+1))
 n32:(e1 < (e2.length:Int))->(¬(v33c e2 e1) < a1)->(a2<=(v33c e2 e1))->I2 e0 (e1+1) e2/\m2 e0 (e1+1) e2 < m2 e0 e1 e2
 g33:(¬e1 < (e2.length:Int))->0<=e0
 g34:(¬e1 < (e2.length:Int))->e0<=(e2.length:Int)
 g35:(¬e1 < (e2.length:Int))->(e0.toNat+(e2.length - e0.toNat))<=e2.length
 g37:(¬e1 < (e2.length:Int))->e0<=(((((List.take e0.toNat (List.drop 0 e2))++((List.replicate (e2.length - e0.toNat) [D.i 0,D.i 0])++(List.take (e2.length - (e0.toNat+(e2.length - e0.toNat))) (List.drop (e0.toNat+(e2.length - e0.toNat)) e2))))).length:Int))
 g38:(¬e1 < (e2.length:Int))->R 0 0=D.l (List.take e0.toNat (List.drop 0 ((List.take e0.toNat (List.drop 0 e2))++((List.replicate (e2.length - e0.toNat) [D.i 0,D.i 0])++(List.take (e2.length - (e0.toNat+(e2.length - e0.toNat))) (List.drop (e0.toNat+(e2.length - e0.toNat)) e2))))))
 g39:(¬e1 < (e2.length:Int))->R 1 0=D.i 0
abbrev V33l2 (a0:Rows) (a1:Int) (a2:Int) (R:Nat->Nat->D) (d1:Int):Prop:=∃(I2:Int->Int->Rows->Prop) (m2:Int->Int->Rows->Nat),I2 d1 (d1+1) ([]++a0)/\∀e0 e1 e2,I2 e0 e1 e2->V33c2 a1 a2 R e0 e1 e2 I2 m2
structure V33c1 (a0:Rows) (a1:Int) (a2:Int) (R:Nat->Nat->D) (d0:Int) (d1:Int) (I1:Int->Int->Prop) (m1:Int->Int->Nat):Prop where
 g13:(d1 < (v33b a0))->0<=d1
 g14:(d1 < (v33b a0))->d1 < (v33b a0)
 g15:(d1 < (v33b a0))->(((Int.toNat d1:Nat):Int)) < (v33b a0)
 g16:(d1 < (v33b a0))->((v33a a0 d1) < a1)->(d1=(-1))->R 0 0=D.l ([]++a0)
 g17:(d1 < (v33b a0))->((v33a a0 d1) < a1)->(d1=(-1))->R 1 0=D.i 0
 g18:(d1 < (v33b a0))->((v33a a0 d1) < a1)->(¬d1=(-1))->vZ33 ((d1+1))
 g40:(d1 < (v33b a0))->(¬(v33a a0 d1) < a1)->(a2<=(v33a a0 d1))->(d1=(-1))->R 0 0=D.l ([]++a0)
 g41:(d1 < (v33b a0))->(¬(v33a a0 d1) < a1)->(a2<=(v33a a0 d1))->(d1=(-1))->R 1 0=D.i 0
 g42:(d1 < (v33b a0))->(¬(v33a a0 d1) < a1)->(a2<=(v33a a0 d1))->(¬d1=(-1))->vZ33 ((d1+1))
 g64:(d1 < (v33b a0))->(¬(v33a a0 d1) < a1)->(¬a2<=(v33a a0 d1))->vZ33 ((d1+1))
 n65:(d1 < (v33b a0))->(¬(v33a a0 d1) < a1)->(¬a2<=(v33a a0 d1))->I1 d0 (d1+1)/\m1 d0 (d1+1) < m1 d0 d1
 g66:(¬d1 < (v33b a0))->R 0 0=D.l ([]++a0)
 g67:(¬d1 < (v33b a0))->R 1 0=D.i 0
 l2:(d1 < (v33b a0))->((v33a a0 d1) < a1)->(¬d1=(-1))->V33l2 a0 a1 a2 R d1
 l3:(d1 < (v33b a0))->(¬(v33a a0 d1) < a1)->(a2<=(v33a a0 d1))->(¬d1=(-1))->V33l2 a0 a1 a2 R d1
abbrev V33l1 (a0:Rows) (a1:Int) (a2:Int) (R:Nat->Nat->D):Prop:=∃(I1:Int->Int->Prop) (m1:Int->Int->Nat),I1 0 0/\∀d0 d1,I1 d0 d1->V33c1 a0 a1 a2 R d0 d1 I1 m1
structure V33 (pre:Nat->List (List D)->Prop) (fn:Nat->List (List D)->Nat->Nat->D) (a0:Rows) (a1:Int) (a2:Int) (R:Nat->Nat->D):Prop where
 g0:pre 51 [[D.l a0]]
 g1:(¬(D.int (fn 51 [[D.l a0]] 0 0))=0)->R 0 0=D.l []
 g2:(¬(D.int (fn 51 [[D.l a0]] 0 0))=0)->R 1 0=D.i (D.int (fn 51 [[D.l a0]] 0 0))
 g3:((D.int (fn 51 [[D.l a0]] 0 0))=0)->(a2 < a1)->R 0 0=D.l []
 g4:((D.int (fn 51 [[D.l a0]] 0 0))=0)->(a2 < a1)->R 1 0=D.i 3
 g11:((D.int (fn 51 [[D.l a0]] 0 0))=0)->(¬a2 < a1)->((List.length ([]:Rows))+a0.length) * 16<=4294967296/\((List.length ([]:Rows))+a0.length)<=4294967296
 l0:((D.int (fn 51 [[D.l a0]] 0 0))=0)->(¬a2 < a1)->(a0.length<=0)->V33l0 R
 l1:((D.int (fn 51 [[D.l a0]] 0 0))=0)->(¬a2 < a1)->V33l1 a0 a1 a2 R
end HX

namespace HX
open Go Go.Proofs CX
def cutP (s:List (Int×Int)) (f t:Int):List (Int×Int):=s.filter fun x=>decide (f<=x.1/\x.1 < t)
def cutE (a:Rows) (f t:Int):Int:=if chkE a=0 then (if t < f then 3 else 0) else chkE a
def cutL (a:Rows) (f t:Int):Rows:=if chkE a=0/\¬t < f then unprs (cutP (prs a) f t) else []
theorem cut_snoc {s:List (Int×Int)} {m:Nat} (h:m < s.length) (f t:Int):cutP (s.take (m+1)) f t=cutP (s.take m) f t++(if f<=(s.getD m (0,0)).1/\(s.getD m (0,0)).1 < t then [s.getD m (0,0)] else []):=by
 rw [take_snoc h,cutP,List.filter_append]
 congr 1
 simp only [List.filter_cons,List.filter_nil,xQ]
theorem law33b {s:List (Int×Int)} {f t:Int} {R:Nat->Nat->D} (hn:s.length<=65536) (h0:R 0 0=.l (unprs (cutP s f t))) (h1:R 1 0=.i 0) {F:Nat} (hF:F < s.length) (hp:cutP (s.take F) f t=s.take F) (hk:¬(f<=(s.getD F (0,0)).1/\(s.getD F (0,0)).1 < t)):V33l2 (unprs s) f t R F:=by
 refine ⟨fun e0 e1 e2=>∃q p:Nat,e0=q/\e1=p/\q+1<=p/\p<=s.length/\e2.length=s.length/\(∀i,p<=i->e2[i]?=(unprs s)[i]?)/\e2.take q=unprs (cutP (s.take p) f t),fun _ e1 e2=>(e2.length - e1).toNat,⟨F,F+1,rfl,rfl,by omega,by omega,by rw [qA,un_len],fun i _=>rfl,?_⟩,?_⟩
 ·rw [qA,cut_snoc hF,if_neg hk,kO,hp,un_take]
 rintro e0 e1 e2 ⟨q,p,rfl,rfl,i1,i2,i3,i4,i5⟩
 have hi:∀n:Int,(D.i n).int=n:=fun _=>rfl
 have key:p < s.length->gt e2 p 0=.i (s.getD p (0,0)).1/\gt e2 p 1=.i (s.getD p (0,0)).2:=fun h=>gt_of ((i4 p (zB _)).trans (un_get h))
 constructor
 all_goals (try simp only [v33c,zW])
 case n24=>
  intro hx hc
  rw [(key (by omega)).1,hi] at hc
  refine ⟨⟨q,p+1,rfl,by omega,by omega,by omega,i3,fun i h=>i4 i (by omega),?_⟩,by omega⟩
  rw [cut_snoc (by omega),if_neg (by omega),kO];exact i5
 case n32=>
  intro hx _ hc
  rw [(key (by omega)).1,hi] at hc
  refine ⟨⟨q,p+1,rfl,by omega,by omega,by omega,i3,fun i h=>i4 i (by omega),?_⟩,by omega⟩
  rw [cut_snoc (by omega),if_neg (by omega),kO];exact i5
 case n30=>
  intro hx hc hc2
  rw [(key (by omega)).1,hi] at hc hc2
  rw [(key (by omega)).1,(key (by omega)).2]
  refine ⟨⟨q+1,p+1,by omega,by omega,by omega,by omega,by rw [qL];exact i3,fun i h=>?_,?_⟩,by rw [qL];omega⟩
  ·rw [List.getElem?_set_ne (by omega)]
   exact i4 i (by omega)
  rw [set_take (by omega),i5,cut_snoc (by omega),if_pos (by omega),un_app]
  rfl
 case g38=>
  intro hx
  have e:∀T:Rows,List.take q (List.drop 0 (List.take q (List.drop 0 e2)++T))=e2.take q:=fun T=>by
   rw [xU,xU,List.take_append_of_le_length (by rw [zM];omega),List.take_take,Nat.min_self]
  rw [h0,e,i5,show p=s.length by omega,qH]
 case g39=>intro _;exact h1
 case g37=>
  intro hx
  simp only [zP,zM,xC,xB]
  omega
 all_goals (intros;(try unfold vZ33);(try omega))
theorem law33 {pre:Nat->List (List D)->Prop} {fn:Nat->List (List D)->Nat->Nat->D} (hp51:∀x,pre 51 x) (hf51:∀l,fn 51 [[.l l]] 0 0=.i (chkE l)) {a0:Rows} (hcan:Can a0) {f t:Int} {R:Nat->Nat->D} (h0:R 0 0=.l (cutL a0 f t)) (h1:R 1 0=.i (cutE a0 f t)) :
  V33 pre fn a0 f t R:=by
 have hi:∀n:Int,(D.i n).int=n:=fun _=>rfl
 obtain ⟨s,rfl⟩:∃s,a0=unprs s:=⟨prs a0,(can_un hcan).symm⟩
 have ok:chkE (unprs s)=0->¬t < f->s.length<=65536/\R 0 0=.l (unprs (cutP s f t))/\R 1 0=.i 0:=fun c h=>by
  refine ⟨?_,?_,?_⟩
  ·have:=(chk_ev c).1
   rw [un_len] at this;exact this
  ·rw [h0,cutL,if_pos ⟨c,h⟩,prs_un]
  rw [h1,cutE,if_pos c,if_neg h]
 constructor
 all_goals (try simp only [hf51,hi])
 case g0=>exact hp51 _
 case g1=>intro h;rw [h0,cutL,if_neg fun x=>h x.1]
 case g2=>intro h;rw [h1,cutE,if_neg h]
 case g3=>intro _ h;rw [h0,cutL,if_neg fun x=>x.2 h]
 case g4=>intro c h;rw [h1,cutE,if_pos c,if_pos h]
 case g11=>
  intro c h
  have:=(ok c h).1
  rw [un_len,zK]
  omega
 case l0=>
  intro c h hl
  obtain ⟨k1,k2,k3⟩:=ok c h
  rw [un_len] at hl
  have:s=[]:=xA.1 (by omega)
  subst this
  refine ⟨fun _ b1=>b1=0,fun _ _=>0,rfl,?_⟩
  rintro b0 b1 rfl
  exact ⟨fun h=>by omega,fun _=>k2,fun _=>k3⟩
 case l1=>
  intro c h
  obtain ⟨k1,k2,k3⟩:=ok c h
  refine ⟨fun _ d1=>∃F:Nat,d1=F/\F<=s.length/\cutP (s.take F) f t=s.take F,fun _ d1=>(s.length - d1).toNat,⟨0,rfl,xZ _,by rw [List.take_zero];rfl⟩,?_⟩
  rintro d0 d1 ⟨F,rfl,j1,j2⟩
  have key:F < s.length->gt ([]++unprs s) F 0=.i (s.getD F (0,0)).1:=fun h=>by rw [qA];exact (un_gt h).1
  have vl:([]++unprs s).length=s.length:=by rw [qA,un_len]
  constructor
  all_goals (try simp only [v33a,v33b,zW,vl])
  case n65=>
   intro hx hc hc2
   rw [key (by omega),hi] at hc hc2
   refine ⟨⟨F+1,by omega,by omega,?_⟩,by omega⟩
   rw [cut_snoc (by omega),if_pos (by omega),j2,take_snoc (by omega)]
  case l2=>
   intro hx hc _
   rw [key (by omega),hi] at hc
   exact law33b k1 k2 k3 (by omega) j2 (by omega)
  case l3=>
   intro hx _ hc _
   rw [key (by omega),hi] at hc
   exact law33b k1 k2 k3 (by omega) j2 (by omega)
  case g66=>
   intro hx
   have e:F=s.length:=by omega
   rw [e,qH] at j2
   rw [k2,j2,qA]
  case g67=>intro _;exact k3
  all_goals (intros;(try unfold vZ33);(try omega))
theorem cut_len (p:List (Int×Int)) (f t:Int):(cutP p f t).length<=p.length:=List.length_filter_le _ _
theorem cut_mem {p:List (Int×Int)} {f t:Int} {x:Int×Int}:x∈cutP p f t↔x∈p/\f<=x.1/\x.1 < t:=by
 rw [cutP,List.mem_filter,decide_eq_true_iff]
theorem parts {p:List (Int×Int)} (hp:Ok2 p) {lo hi:Int} (_:0<=lo) (h1:lo<=hi):mg (mg (cutP p lo hi) (cutP p hi 1073741825)) (cutP p 0 lo)=p:=by
 refine srt_uniq _ _ (mg_ok _ _).1 hp.up fun x=>?_
 rw [(mg_ok _ _).2,(mg_ok _ _).2,cut_mem,cut_mem,cut_mem]
 constructor
 ·rintro ((h |h) |h)<;>exact h.1
 intro h
 have:=(hp.rg x h).1
 by_cases a:x.1 < lo
 ·exact .inr ⟨h,by omega,a⟩
 by_cases b:x.1 < hi
 ·exact .inl (.inl ⟨h,by omega,b⟩)
 exact .inl (.inr ⟨h,by omega,by omega⟩)
end HX

namespace HX
open Go Go.Proofs CX
abbrev v32a (d1:Rows):=(D.int (gt d1 (Int.toNat 0) 0))
abbrev v32b (d1:Rows):=(D.int (gt d1 (Int.toNat 0) 1))
structure V32r0 (pre:Nat->List (List D)->Prop) (fn:Nat->List (List D)->Nat->Nat->D) (a0:Rows) (a1:Rows) (I0:Int->Prop):Prop where
 g2:((D.int (fn 54 [[D.l a0]] 0 0))=0)->pre 54 [[D.l a1]]
 n3:((D.int (fn 54 [[D.l a0]] 0 0))=0)->I0 (D.int (fn 54 [[D.l a1]] 0 0))
 n4:(¬(D.int (fn 54 [[D.l a0]] 0 0))=0)->I0 (D.int (fn 54 [[D.l a0]] 0 0))
structure V32r2 (d1:Rows) (d2:Rows) (I2:Bool->Prop):Prop where
 n9:(0 < (d1.length:Int))->I2 true
 n10:(¬0 < (d1.length:Int))->I2 (decide (0 < (d2.length:Int)))
structure V32r3 (pre:Nat->List (List D)->Prop) (fn:Nat->List (List D)->Nat->Nat->D) (d1:Rows) (d2:Rows) (I3:Bool->Prop):Prop where
 n12:((d2.length:Int)=0)->I3 true
 g13:(¬(d2.length:Int)=0)->(0 < (d1.length:Int))->(0:Int)<=0
 g14:(¬(d2.length:Int)=0)->(0 < (d1.length:Int))->0 < (d1.length:Int)
 g15:(¬(d2.length:Int)=0)->(0 < (d1.length:Int))->(((Int.toNat 0:Nat):Int)) < (d1.length:Int)
 g17:(¬(d2.length:Int)=0)->(0 < (d1.length:Int))->0 < (d2.length:Int)
 g18:(¬(d2.length:Int)=0)->(0 < (d1.length:Int))->(((Int.toNat 0:Nat):Int)) < (d2.length:Int)
 g19:(¬(d2.length:Int)=0)->(0 < (d1.length:Int))->pre 78 [[D.i (v32a d1),D.i (v32b d1)],[D.i (D.int (gt d2 (Int.toNat 0) 0)),D.i (D.int (gt d2 (Int.toNat 0) 1))]]
 n20:(¬(d2.length:Int)=0)->(0 < (d1.length:Int))->I3 (D.boo (fn 78 [[D.i (v32a d1),D.i (v32b d1)],[D.i (D.int (gt d2 (Int.toNat 0) 0)),D.i (D.int (gt d2 (Int.toNat 0) 1))]] 0 0))
 n21:(¬(d2.length:Int)=0)->(¬0 < (d1.length:Int))->I3 false
structure V32r4 (pre:Nat->List (List D)->Prop) (fn:Nat->List (List D)->Nat->Nat->D) (d1:Rows) (d2:Rows) (I4:Bool->Prop):Prop where
 n30:((d1.length:Int)=0)->I4 true
 g31:(¬(d1.length:Int)=0)->(0:Int)<=0
 g32:(¬(d1.length:Int)=0)->0 < (d2.length:Int)
 g33:(¬(d1.length:Int)=0)->(((Int.toNat 0:Nat):Int)) < (d2.length:Int)
 g35:(¬(d1.length:Int)=0)->0 < (d1.length:Int)
 g36:(¬(d1.length:Int)=0)->(((Int.toNat 0:Nat):Int)) < (d1.length:Int)
 g37:(¬(d1.length:Int)=0)->pre 78 [[D.i (D.int (gt d2 (Int.toNat 0) 0)),D.i (D.int (gt d2 (Int.toNat 0) 1))],[D.i (v32a d1),D.i (v32b d1)]]
 n38:(¬(d1.length:Int)=0)->I4 (D.boo (fn 78 [[D.i (D.int (gt d2 (Int.toNat 0) 0)),D.i (D.int (gt d2 (Int.toNat 0) 1))],[D.i (v32a d1),D.i (v32b d1)]] 0 0))
structure V32c4 (d0:Rows) (d1:Rows) (d2:Rows) (j0:Bool) (I1:Rows->Rows->Rows->Prop) (m1:Rows->Rows->Rows->Nat):Prop where
 g39:(j0=true)->(0:Int)<=0
 g40:(j0=true)->0 < (d2.length:Int)
 g41:(j0=true)->(((Int.toNat 0:Nat):Int)) < (d2.length:Int)
 g42:(j0=true)->(d0.length+(List.length ([[D.i (D.int (gt d2 (Int.toNat 0) 0)),D.i (D.int (gt d2 (Int.toNat 0) 1))]]:Rows))) * 16<=4294967296/\(d0.length+(List.length ([[D.i (D.int (gt d2 (Int.toNat 0) 0)),D.i (D.int (gt d2 (Int.toNat 0) 1))]]:Rows)))<=4294967296
 g43:(j0=true)->(0:Int)<=1
 g44:(j0=true)->1<=(d2.length:Int)
 n45:(j0=true)->I1 (d0++[[D.i (D.int (gt d2 (Int.toNat 0) 0)),D.i (D.int (gt d2 (Int.toNat 0) 1))]]) d1 (List.take (d2.length - (Int.toNat 1)) (List.drop (Int.toNat 1) d2))/\m1 (d0++[[D.i (D.int (gt d2 (Int.toNat 0) 0)),D.i (D.int (gt d2 (Int.toNat 0) 1))]]) d1 (List.take (d2.length - (Int.toNat 1)) (List.drop (Int.toNat 1) d2)) < m1 d0 d1 d2
 g46:(j0=false)->(0:Int)<=0
 g47:(j0=false)->0 < (d1.length:Int)
 g48:(j0=false)->(((Int.toNat 0:Nat):Int)) < (d1.length:Int)
 g49:(j0=false)->(d0.length+(List.length ([[D.i (v32a d1),D.i (v32b d1)]]:Rows))) * 16<=4294967296/\(d0.length+(List.length ([[D.i (v32a d1),D.i (v32b d1)]]:Rows)))<=4294967296
 g50:(j0=false)->(0:Int)<=1
 g51:(j0=false)->1<=(d1.length:Int)
 g53:(j0=false)->1<=(d2.length:Int)
 n54:(j0=false)->I1 (d0++[[D.i (v32a d1),D.i (v32b d1)]]) (List.take (d1.length - (Int.toNat 1)) (List.drop (Int.toNat 1) d1)) (List.take (d2.length - (Int.toNat 1)) (List.drop (Int.toNat 1) d2))/\m1 (d0++[[D.i (v32a d1),D.i (v32b d1)]]) (List.take (d1.length - (Int.toNat 1)) (List.drop (Int.toNat 1) d1)) (List.take (d2.length - (Int.toNat 1)) (List.drop (Int.toNat 1) d2)) < m1 d0 d1 d2
abbrev V32j4 (pre:Nat->List (List D)->Prop) (fn:Nat->List (List D)->Nat->Nat->D) (d0:Rows) (d1:Rows) (d2:Rows) (I1:Rows->Rows->Rows->Prop) (m1:Rows->Rows->Rows->Nat):Prop:=∃(I4:Bool->Prop),V32r4 pre fn d1 d2 I4/\∀j0,I4 j0->V32c4 d0 d1 d2 j0 I1 m1
structure V32c3 (pre:Nat->List (List D)->Prop) (fn:Nat->List (List D)->Nat->Nat->D) (d0:Rows) (d1:Rows) (d2:Rows) (f0:Bool) (I1:Rows->Rows->Rows->Prop) (m1:Rows->Rows->Rows->Nat):Prop where
 g22:(f0=true)->(0:Int)<=0
 g23:(f0=true)->0 < (d1.length:Int)
 g24:(f0=true)->(((Int.toNat 0:Nat):Int)) < (d1.length:Int)
 g25:(f0=true)->(d0.length+(List.length ([[D.i (v32a d1),D.i (v32b d1)]]:Rows))) * 16<=4294967296/\(d0.length+(List.length ([[D.i (v32a d1),D.i (v32b d1)]]:Rows)))<=4294967296
 g26:(f0=true)->(0:Int)<=1
 g27:(f0=true)->1<=(d1.length:Int)
 n28:(f0=true)->I1 (d0++[[D.i (v32a d1),D.i (v32b d1)]]) (List.take (d1.length - (Int.toNat 1)) (List.drop (Int.toNat 1) d1)) d2/\m1 (d0++[[D.i (v32a d1),D.i (v32b d1)]]) (List.take (d1.length - (Int.toNat 1)) (List.drop (Int.toNat 1) d1)) d2 < m1 d0 d1 d2
 l4:(f0=false)->V32j4 pre fn d0 d1 d2 I1 m1
abbrev V32j3 (pre:Nat->List (List D)->Prop) (fn:Nat->List (List D)->Nat->Nat->D) (d0:Rows) (d1:Rows) (d2:Rows) (I1:Rows->Rows->Rows->Prop) (m1:Rows->Rows->Rows->Nat):Prop:=∃(I3:Bool->Prop),V32r3 pre fn d1 d2 I3/\∀f0,I3 f0->V32c3 pre fn d0 d1 d2 f0 I1 m1
structure V32c2 (pre:Nat->List (List D)->Prop) (fn:Nat->List (List D)->Nat->Nat->D) (R:Nat->Nat->D) (d0:Rows) (d1:Rows) (d2:Rows) (e0:Bool) (I1:Rows->Rows->Rows->Prop) (m1:Rows->Rows->Rows->Nat):Prop where
 g55:(e0=false)->(65536 < (d0.length:Int))->R 0 0=D.l []
 g56:(e0=false)->(65536 < (d0.length:Int))->R 1 0=D.i 9
 g57:(e0=false)->(¬65536 < (d0.length:Int))->R 0 0=D.l d0
 g58:(e0=false)->(¬65536 < (d0.length:Int))->R 1 0=D.i 0
 l3:(e0=true)->V32j3 pre fn d0 d1 d2 I1 m1
abbrev V32j2 (pre:Nat->List (List D)->Prop) (fn:Nat->List (List D)->Nat->Nat->D) (R:Nat->Nat->D) (d0:Rows) (d1:Rows) (d2:Rows) (I1:Rows->Rows->Rows->Prop) (m1:Rows->Rows->Rows->Nat):Prop:=∃(I2:Bool->Prop),V32r2 d1 d2 I2/\∀e0,I2 e0->V32c2 pre fn R d0 d1 d2 e0 I1 m1
structure V32c1 (pre:Nat->List (List D)->Prop) (fn:Nat->List (List D)->Nat->Nat->D) (R:Nat->Nat->D) (d0:Rows) (d1:Rows) (d2:Rows) (I1:Rows->Rows->Rows->Prop) (m1:Rows->Rows->Rows->Nat):Prop where
 l2:V32j2 pre fn R d0 d1 d2 I1 m1
abbrev V32l1 (pre:Nat->List (List D)->Prop) (fn:Nat->List (List D)->Nat->Nat->D) (a0:Rows) (a1:Rows) (R:Nat->Nat->D):Prop:=∃(I1:Rows->Rows->Rows->Prop) (m1:Rows->Rows->Rows->Nat),I1 [] a0 a1/\∀d0 d1 d2,I1 d0 d1 d2->V32c1 pre fn R d0 d1 d2 I1 m1
structure V32c0 (pre:Nat->List (List D)->Prop) (fn:Nat->List (List D)->Nat->Nat->D) (a0:Rows) (a1:Rows) (R:Nat->Nat->D) (b0:Int):Prop where
 g5:(¬b0=0)->R 0 0=D.l []
 g6:(¬b0=0)->R 1 0=D.i b0
 l1:(b0=0)->V32l1 pre fn a0 a1 R
abbrev V32j0 (pre:Nat->List (List D)->Prop) (fn:Nat->List (List D)->Nat->Nat->D) (a0:Rows) (a1:Rows) (R:Nat->Nat->D):Prop:=∃(I0:Int->Prop),V32r0 pre fn a0 a1 I0/\∀b0,I0 b0->V32c0 pre fn a0 a1 R b0
structure V32 (pre:Nat->List (List D)->Prop) (fn:Nat->List (List D)->Nat->Nat->D) (a0:Rows) (a1:Rows) (R:Nat->Nat->D):Prop where
 g0:pre 54 [[D.l a0]]
 l0:V32j0 pre fn a0 a1 R
end HX

namespace HX
open Go Go.Proofs CX
abbrev vZ34 (x:Int):=-9223372036854775808<=x/\x<=9223372036854775807
structure V34c0 (a0:Rows) (a1:Int) (a2:Int) (R:Nat->Nat->D) (b0:Rows) (b1:Int) (I0:Rows->Int->Prop) (m0:Rows->Int->Nat):Prop where
 g6:(b1 < (a0.length:Int))->0<=b1
 g7:(b1 < (a0.length:Int))->b1 < (a0.length:Int)
 g8:(b1 < (a0.length:Int))->(((Int.toNat b1:Nat):Int)) < (a0.length:Int)
 g9:(b1 < (a0.length:Int))->(a1<=(D.int (gt a0 b1.toNat 0)))->0<=b1
 g10:(b1 < (a0.length:Int))->(a1<=(D.int (gt a0 b1.toNat 0)))->b1 < (a0.length:Int)
 g11:(b1 < (a0.length:Int))->(a1<=(D.int (gt a0 b1.toNat 0)))->(((Int.toNat b1:Nat):Int)) < (a0.length:Int)
 g12:(b1 < (a0.length:Int))->(a1<=(D.int (gt a0 b1.toNat 0)))->((D.int (gt a0 b1.toNat 0)) < a2)->0<=b1
 g13:(b1 < (a0.length:Int))->(a1<=(D.int (gt a0 b1.toNat 0)))->((D.int (gt a0 b1.toNat 0)) < a2)->b1 < (a0.length:Int)
 g14:(b1 < (a0.length:Int))->(a1<=(D.int (gt a0 b1.toNat 0)))->((D.int (gt a0 b1.toNat 0)) < a2)->(((Int.toNat b1:Nat):Int)) < (a0.length:Int)
 g15:(b1 < (a0.length:Int))->(a1<=(D.int (gt a0 b1.toNat 0)))->((D.int (gt a0 b1.toNat 0)) < a2)->(b0.length+(List.length ([[D.i (D.int (gt a0 b1.toNat 0)),D.i (D.int (gt a0 b1.toNat 1))]]:Rows))) * 16<=4294967296/\(b0.length+(List.length ([[D.i (D.int (gt a0 b1.toNat 0)),D.i (D.int (gt a0 b1.toNat 1))]]:Rows)))<=4294967296
 g16:(b1 < (a0.length:Int))->(a1<=(D.int (gt a0 b1.toNat 0)))->((D.int (gt a0 b1.toNat 0)) < a2)->vZ34 ((b1+1))
 n17:(b1 < (a0.length:Int))->(a1<=(D.int (gt a0 b1.toNat 0)))->((D.int (gt a0 b1.toNat 0)) < a2)->I0 (b0++[[D.i (D.int (gt a0 b1.toNat 0)),D.i (D.int (gt a0 b1.toNat 1))]]) (b1+1)/\m0 (b0++[[D.i (D.int (gt a0 b1.toNat 0)),D.i (D.int (gt a0 b1.toNat 1))]]) (b1+1) < m0 b0 b1
 g18:(b1 < (a0.length:Int))->(a1<=(D.int (gt a0 b1.toNat 0)))->(¬(D.int (gt a0 b1.toNat 0)) < a2)->vZ34 ((b1+1))
 n19:(b1 < (a0.length:Int))->(a1<=(D.int (gt a0 b1.toNat 0)))->(¬(D.int (gt a0 b1.toNat 0)) < a2)->I0 b0 (b1+1)/\m0 b0 (b1+1) < m0 b0 b1
 g20:(b1 < (a0.length:Int))->(¬a1<=(D.int (gt a0 b1.toNat 0)))->vZ34 ((b1+1))
 n21:(b1 < (a0.length:Int))->(¬a1<=(D.int (gt a0 b1.toNat 0)))->I0 b0 (b1+1)/\m0 b0 (b1+1) < m0 b0 b1
 g22:(¬b1 < (a0.length:Int))->R 0 0=D.l b0
 g23:(¬b1 < (a0.length:Int))->R 1 0=D.i 0
abbrev V34l0 (a0:Rows) (a1:Int) (a2:Int) (R:Nat->Nat->D):Prop:=∃(I0:Rows->Int->Prop) (m0:Rows->Int->Nat),I0 [] 0/\∀b0 b1,I0 b0 b1->V34c0 a0 a1 a2 R b0 b1 I0 m0
structure V34 (pre:Nat->List (List D)->Prop) (fn:Nat->List (List D)->Nat->Nat->D) (a0:Rows) (a1:Int) (a2:Int) (R:Nat->Nat->D):Prop where
 g0:pre 54 [[D.l a0]]
 g1:(¬(D.int (fn 54 [[D.l a0]] 0 0))=0)->R 0 0=D.l []
 g2:(¬(D.int (fn 54 [[D.l a0]] 0 0))=0)->R 1 0=D.i (D.int (fn 54 [[D.l a0]] 0 0))
 g3:((D.int (fn 54 [[D.l a0]] 0 0))=0)->(a2 < a1)->R 0 0=D.l []
 g4:((D.int (fn 54 [[D.l a0]] 0 0))=0)->(a2 < a1)->R 1 0=D.i 3
 l0:((D.int (fn 54 [[D.l a0]] 0 0))=0)->(¬a2 < a1)->V34l0 a0 a1 a2 R
end HX

namespace HX
open Go Go.Proofs CX
structure V78 (a0_0:Int) (a0_1:Int) (a1_0:Int) (a1_1:Int) (R:Nat->Nat->D)  : Prop where
 g0:(a0_0 < a1_0)->R 0 0=D.b true
 g1:(¬a0_0 < a1_0)->(a0_0=a1_0)->R 0 0=D.b (decide (a0_1 < a1_1))
 g2:(¬a0_0 < a1_0)->(¬a0_0=a1_0)->R 0 0=D.b false
end HX

namespace HX
open Go Go.Proofs CX
theorem law78 {a b c d:Int} {R:Nat->Nat->D} (hR:R 0 0=.b (ltP (a,b) (c,d))):V78 a b c d R:=by
 constructor
 ·intro h;rw [hR];congr 1;exact qI (.inl h)
 ·intro h h2;rw [hR];congr 1;unfold ltP;rw [qT];simp only;omega
 intro h h2;rw [hR];congr 1;unfold ltP;rw [decide_eq_false_iff_not];simp only;omega
structure Mst (M O p q:List (Int×Int)):Prop where
 up:O.Pairwise Plt
 pp:p.Pairwise Plt
 qq:q.Pairwise Plt
 lt:∀x∈O,∀y,y∈p\/y∈q->Plt x y
 mem:∀x,x∈M↔x∈O\/x∈p\/x∈q
theorem Mst.swap {M O p q:List (Int×Int)} (h:Mst M O p q):Mst M O q p:=⟨h.up,h.qq,h.pp,fun x hx y hy=>h.lt x hx y hy.symm,fun x=>by rw [h.mem x,or_comm (a:=x∈p)]⟩
theorem snoc_up {O:List (Int×Int)} {x:Int×Int} (h:O.Pairwise Plt) (k:∀y∈O,Plt y x):(O++[x]).Pairwise Plt:=
 List.pairwise_append.2 ⟨h,List.pairwise_singleton _ _,fun y hy z hz=>by rw [xE.1 hz];exact k y hy⟩
theorem Mst.left {M O p q:List (Int×Int)} {x:Int×Int} (h:Mst M O (x :: p) q) (hx:∀y∈q,Plt x y):Mst M (O++[x]) p q:=by
 have pp:=qW.1 h.pp
 refine ⟨snoc_up h.up fun y hy=>h.lt y hy x (.inl (.head _)),pp.2,h.qq,fun y hy z hz=>?_,fun z=>?_⟩
 ·rcases xN.1 hy with hy |hy
  ·exact h.lt y hy z (hz.imp (.tail _) id)
  rw [xE.1 hy]
  exact hz.elim (pp.1 z) (hx z)
 rw [h.mem z,zT,xN,xE,or_assoc,or_assoc]
theorem Mst.both {M O p q:List (Int×Int)} {x:Int×Int} (h:Mst M O (x :: p) (x :: q)):Mst M (O++[x]) p q:=by
 have pp:=qW.1 h.pp
 have qq:=qW.1 h.qq
 refine ⟨snoc_up h.up fun y hy=>h.lt y hy x (.inl (.head _)),pp.2,qq.2,fun y hy z hz=>?_,fun z=>?_⟩
 ·rcases xN.1 hy with hy |hy
  ·exact h.lt y hy z (hz.imp (.tail _) (.tail _))
  rw [xE.1 hy]
  exact hz.elim (pp.1 z) (qq.1 z)
 rw [h.mem z,zT,zT,xN,xE]
 constructor
 ·rintro (h |(h |h) |(h |h))
  ·exact .inl (.inl h)
  ·exact .inl (.inr h)
  ·exact .inr (.inl h)
  ·exact .inl (.inr h)
  exact .inr (.inr h)
 rintro ((h |h) |h |h)
 ·exact .inl h
 ·exact .inr (.inl (.inl h))
 ·exact .inr (.inl (.inr h))
 exact .inr (.inr (.inr h))
theorem hd_lt {x y:Int×Int} {q:List (Int×Int)} (hq:(y :: q).Pairwise Plt) (h:Plt x y):∀z∈y :: q,Plt x z:=fun z hz=>by
 rcases zT.1 hz with e |hz
 ·rw [e];exact h
 exact h.trans ((qW.1 hq).1 z hz)
theorem un_tail (x:Int×Int) (p:List (Int×Int)):List.take ((unprs (x :: p)).length - Int.toNat 1) (List.drop (Int.toNat 1) (unprs (x :: p)))=unprs p:=by
 show List.take ((unprs p).length+1 - 1) (unprs p)=unprs p
 rw [qJ,qH]
theorem un_snoc (O:List (Int×Int)) (x:Int×Int):unprs O++[[D.i x.1,D.i x.2]]=unprs (O++[x]):=by rw [un_app];rfl
theorem law32b {pre:Nat->List (List D)->Prop} {fn:Nat->List (List D)->Nat->Nat->D} (hp78:∀x,pre 78 x) (hf78:∀a b c d,fn 78 [[.i a,.i b],[.i c,.i d]] 0 0=.b (ltP (a,b) (c,d)))
  {M p0 q0:List (Int×Int)} {R:Nat->Nat->D} (hM:M.Pairwise Plt) (hl:p0.length+q0.length<=2048) (h0:R 0 0=.l (unprs M)) (h1:R 1 0=.i 0) (hs:Mst M [] p0 q0):V32l1 pre fn (unprs p0) (unprs q0) R:=by
 have hi:∀n:Int,(D.i n).int=n:=fun _=>rfl
 have hb:∀n:Bool,(D.b n).boo=n:=fun _=>rfl
 refine ⟨fun d0 d1 d2=>∃O p q:List (Int×Int),d0=unprs O/\d1=unprs p/\d2=unprs q/\O.length+p.length+q.length<=2048/\Mst M O p q,fun _ d1 d2=>d1.length+d2.length,⟨[],p0,q0,rfl,rfl,rfl,by simpa using hl,hs⟩,?_⟩
 rintro d0 d1 d2 ⟨O,p,q,rfl,rfl,rfl,hlen,hm⟩
 refine ⟨⟨fun e0=>e0=decide (p≠[]\/q≠[]),⟨fun h=>?_,fun h=>?_⟩,?_⟩⟩
 ·rw [un_len] at h
  exact (qI (.inl fun e=>by rw [e] at h;simp at h)).symm
 ·rw [un_len] at h ⊢
  have hp:p=[]:=xA.1 (by omega)
  subst hp
  rw [qT]
  cases q with
  |nil=>simp
  |cons y q=>simp only [zH];exact ⟨fun _=>.inr (by simp),fun _=>by omega⟩
 rintro e0 rfl
 constructor
 case g55 |g56=>
  intro _ h
  rw [un_len] at h
  omega
 case g57=>
  intro h _
  rw [decide_eq_false_iff_not] at h
  have hp:p=[]:=Classical.not_not.1 fun e=>h (.inl e)
  have hq:q=[]:=Classical.not_not.1 fun e=>h (.inr e)
  subst hp hq
  rw [h0,srt_uniq M O hM hm.up fun x=>by rw [hm.mem x];simp]
 case g58=>intro _ _;exact h1
 case l3=>
  intro he
  have he:=zQ he
  have bl:∀{l:List (Int×Int)},(l.length:Int)=0↔l=[]:=fun {l}=>⟨fun h=>xA.1 (by omega),fun h=>by rw [h];rfl⟩
  refine ⟨fun f0=>(f0=true->∃x p',p=x :: p'/\∀y∈q,Plt x y)/\(f0=false->∃y q',q=y :: q'/\∀x p',p=x :: p'->¬Plt x y),?_,?_⟩
  ·constructor
   all_goals (simp only [un_len])
   case n12=>
    intro h
    have h:=bl.1 h
    subst h
    refine ⟨fun _=>?_,fun h=>by cases h⟩
    match p,he with
    |x :: p',_=>exact ⟨x,p',rfl,fun y hy=>by cases hy⟩
    |[],he=>simp at he
   case n20=>
    intro hq hp
    match p,q,hp,hq,hm with
    |x :: p',y :: q',_,_,hm=>
     show (D.boo (fn 78 [[.i x.1,.i x.2],[.i y.1,.i y.2]] 0 0)=true->_)/\(D.boo (fn 78 [[.i x.1,.i x.2],[.i y.1,.i y.2]] 0 0)=false->_)
     rw [hf78,hb]
     refine ⟨fun h=>⟨x,p',rfl,hd_lt hm.qq (ltP_iff.1 h)⟩,fun h=>⟨y,q',rfl,fun x' p'' e=>?_⟩⟩
     cases e
     intro hc
     rw [ltP_iff.2 hc] at h
     cases h
    |[],_,hp,_,_=>simp at hp
    |_ :: _,[],_,hq,_=>exact absurd rfl hq
   case n21=>
    intro hq hp
    have hp:p=[]:=bl.1 (by omega)
    subst hp
    refine ⟨fun h=>(by cases h),fun _=>?_⟩
    match q,hq with
    |y :: q',_=>exact ⟨y,q',rfl,fun x p' e=>by cases e⟩
    |[],hq=>exact absurd rfl hq
   case g19=>intros;exact hp78 _
   all_goals (intros;omega)
  rintro f0 ⟨i1,i2⟩
  have pos:f0=true->0 < p.length:=fun h=>by obtain ⟨x,p',rfl,_⟩:=i1 h;simp
  constructor
  all_goals (try simp only [un_len])
  case n28=>
   intro h
   obtain ⟨x,p',rfl,hx⟩:=i1 h
   have e:=un_tail x p'
   rw [un_len] at e
   rw [e]
   refine ⟨⟨O++[x],p',q,un_snoc O x,rfl,rfl,?_,hm.left hx⟩,?_⟩
   ·simp only [zP,zH,zK] at hlen ⊢;omega
   simp only [un_len,zH];omega
  case l4=>
   intro h
   obtain ⟨y,q',rfl,hn⟩:=i2 h
   refine ⟨fun j0=>(j0=true->∀x∈p,Plt y x)/\(j0=false->∃p',p=y :: p'),?_,?_⟩
   ·constructor
    all_goals (simp only [un_len,zH])
    case n30=>
     intro h
     have h:=bl.1 h
     subst h
     exact ⟨fun _ x hx=>(by cases hx),fun h=>by cases h⟩
    case n38=>
     intro hp
     match p,hp,hn,hm with
     |x :: p',_,hn,hm=>
      show (D.boo (fn 78 [[.i y.1,.i y.2],[.i x.1,.i x.2]] 0 0)=true->_)/\(D.boo (fn 78 [[.i y.1,.i y.2],[.i x.1,.i x.2]] 0 0)=false->_)
      rw [hf78,hb]
      refine ⟨fun h=>hd_lt hm.pp (ltP_iff.1 h),fun h=>⟨p',?_⟩⟩
      have a:¬Plt x y:=hn x p' rfl
      have b:¬Plt y x:=fun hc=>by rw [ltP_iff.2 hc] at h;cases h
      rw [Classical.not_not.1 fun e=>a (Plt.tot b e)]
     |[],hp,_,_=>exact absurd rfl hp
    case g37=>intros;exact hp78 _
    all_goals (intros;omega)
   rintro j0 ⟨k1,k2⟩
   have pos2:j0=false->0 < p.length:=fun h=>by obtain ⟨p',rfl⟩:=k2 h;simp
   constructor
   all_goals (try simp only [un_len,zH])
   case n45=>
    intro h
    have e:=un_tail y q'
    rw [un_len,zH] at e
    rw [e]
    refine ⟨⟨O++[y],p,q',un_snoc O y,rfl,rfl,?_,(hm.swap.left (k1 h)).swap⟩,?_⟩
    ·simp only [zP,zH,zK] at hlen ⊢;omega
    simp only [un_len];omega
   case n54=>
    intro h
    obtain ⟨p',rfl⟩:=k2 h
    have e:=un_tail y q'
    have e2:=un_tail y p'
    rw [un_len,zH] at e e2
    rw [zH,e,e2]
    refine ⟨⟨O++[y],p',q',un_snoc O y,rfl,rfl,?_,hm.both⟩,?_⟩
    ·simp only [zP,zH,zK] at hlen ⊢;omega
    simp only [un_len];omega
   case g42=>intros;simp only [zH,zK] at hlen ⊢;omega
   case g49=>intros;simp only [zH,zK] at hlen ⊢;omega
   all_goals (intros;(try (have:=pos2 (by assumption)));omega)
  case g25=>intros;simp only [zH,zK] at hlen ⊢;omega
  all_goals (intros;(try (have:=pos (by assumption)));omega)
theorem law32 {pre:Nat->List (List D)->Prop} {fn:Nat->List (List D)->Nat->Nat->D} (hp54:∀x,pre 54 x) (hf54:∀l,fn 54 [[.l l]] 0 0=.i (chkE l)) (hp78:∀x,pre 78 x) (hf78:∀a b c d,fn 78 [[.i a,.i b],[.i c,.i d]] 0 0=.b (ltP (a,b) (c,d)))
  {a0 a1:Rows} (c0:Can a0) (c1:Can a1) (hl:a0.length+a1.length<=2048) {R:Nat->Nat->D} (h0:R 0 0=.l (mrgL a0 a1)) (h1:R 1 0=.i (mrgE a0 a1)):V32 pre fn a0 a1 R:=by
 have hi:∀n:Int,(D.i n).int=n:=fun _=>rfl
 refine ⟨hp54 _,fun b0=>b0=mrgE a0 a1/\(b0=0->chkE a0=0/\chkE a1=0),⟨fun _=>hp54 _,fun h=>?_,fun h=>?_⟩,?_⟩
 ·rw [hf54,hi] at h ⊢
  exact ⟨by rw [mrgE,if_pos h],fun h2=>⟨h,h2⟩⟩
 ·rw [hf54,hi] at h ⊢
  exact ⟨by rw [mrgE,if_neg h],fun h2=>absurd h2 h⟩
 rintro b0 ⟨rfl,hz⟩
 refine ⟨fun h=>?_,fun _=>h1,fun h=>?_⟩
 ·rw [h0,mrgL,if_neg fun h2=>h (by rw [mrgE,if_pos h2.1,h2.2])]
 obtain ⟨k0,k1⟩:=hz h
 rw [mrgL,if_pos ⟨k0,k1⟩] at h0
 rw [h] at h1
 rw [<-can_un c0,<-can_un c1]
 have s0:=(ev_ok2 (chk_ev k0).2).up
 have s1:=(ev_ok2 (chk_ev k1).2).up
 exact law32b hp78 hf78 (mg_ok _ _).1 (by rw [prs_len,prs_len];exact hl) h0 h1 ⟨.nil,s0,s1,fun x hx=>(by cases hx),fun x=>by rw [(mg_ok _ _).2];simp⟩
theorem law34 {pre:Nat->List (List D)->Prop} {fn:Nat->List (List D)->Nat->Nat->D} (hp54:∀x,pre 54 x) (hf54:∀l,fn 54 [[.l l]] 0 0=.i (chkE l)) {a0:Rows} (hcan:Can a0) {f t:Int} {R:Nat->Nat->D} (h0:R 0 0=.l (cutL a0 f t)) (h1:R 1 0=.i (cutE a0 f t)) :
  V34 pre fn a0 f t R:=by
 have hi:∀n:Int,(D.i n).int=n:=fun _=>rfl
 obtain ⟨s,rfl⟩:∃s,a0=unprs s:=⟨prs a0,(can_un hcan).symm⟩
 constructor
 all_goals (try simp only [hf54,hi])
 case g0=>exact hp54 _
 case g1=>intro h;rw [h0,cutL,if_neg fun x=>h x.1]
 case g2=>intro h;rw [h1,cutE,if_neg h]
 case g3=>intro _ h;rw [h0,cutL,if_neg fun x=>x.2 h]
 case g4=>intro c h;rw [h1,cutE,if_pos c,if_pos h]
 case l0=>
  intro c h
  have k1:s.length<=65536:=by have:=(chk_ev c).1;rw [un_len] at this;exact this
  rw [cutL,if_pos ⟨c,h⟩,prs_un] at h0
  rw [cutE,if_pos c,if_neg h] at h1
  refine ⟨fun b0 b1=>∃F:Nat,b1=F/\F<=s.length/\b0=unprs (cutP (s.take F) f t),fun _ b1=>(s.length - b1).toNat,⟨0,rfl,xZ _,by rw [List.take_zero];rfl⟩,?_⟩
  rintro b0 b1 ⟨F,rfl,j1,rfl⟩
  have key:F < s.length->gt (unprs s) F 0=.i (s.getD F (0,0)).1/\gt (unprs s) F 1=.i (s.getD F (0,0)).2:=fun h=>un_gt h
  have ln:(unprs (cutP (s.take F) f t)).length<=s.length:=by
   rw [un_len]
   refine zY (cut_len _ _ _) ?_
   rw [zM];omega
  constructor
  all_goals (try simp only [un_len,zW])
  case n17=>
   intro hx hc hc2
   rw [(key (by omega)).1,hi] at hc hc2
   rw [(key (by omega)).1,(key (by omega)).2]
   refine ⟨⟨F+1,by omega,by omega,?_⟩,by omega⟩
   rw [cut_snoc (by omega),if_pos (by omega),un_app]
   rfl
  case n19=>
   intro hx hc hc2
   rw [(key (by omega)).1,hi] at hc hc2
   refine ⟨⟨F+1,by omega,by omega,?_⟩,by omega⟩
   rw [cut_snoc (by omega),if_neg (by omega),kO]
  case n21=>
   intro hx hc
   rw [(key (by omega)).1,hi] at hc
   refine ⟨⟨F+1,by omega,by omega,?_⟩,by omega⟩
   rw [cut_snoc (by omega),if_neg (by omega),kO]
  case g22=>
   intro hx
   rw [show F=s.length by omega,qH]
   exact h0
  case g23=>intro _;exact h1
  case g15=>
   intros
   rw [un_len] at ln
   simp only [zH,zK]
   omega
  all_goals (intros;(try unfold vZ34);(try omega))
end HX

namespace HX
open Go Go.Proofs CX
theorem pac_u8 (a:Rows):Ar.std.pU8 (pacL a):=by
 rw [pacL]
 split
 next h=>
  exact pack_by (chk_ev h).2
 intro i hi;simp at hi
theorem law5 {pre:Nat->List (List D)->Prop} {fn:Nat->List (List D)->Nat->Nat->D} (hp13:pre 13 []) (hf13:fn 13 [] 0 0=.b true)
  (hp17:∀a b,b=a->pre 17 [[.l a],[.l b]]) (hf17:∀x,fn 17 x 0 0=.b true)
  (hp27:∀x,pre 27 x) (hf27:∀a,fn 27 [[.l a]] 0 0=.l (pacL a)/\fn 27 [[.l a]] 1 0=.i (chkE a))
  (hp28:∀x,pre 28 x) (hf28:∀a,fn 28 [[.l a]] 0 0=.l (pacL a)/\fn 28 [[.l a]] 1 0=.i (chkE a))
  (hp29:∀a:Rows,byL a->a.length<=600->pre 29 [[.l a]]) (hf29:∀a,fn 29 [[.l a]] 0 0=.l (unpR a).2/\fn 29 [[.l a]] 1 0=.i (unpR a).1)
  (hp30:∀a:Rows,byL a->a.length<=600->pre 30 [[.l a]]) (hf30:∀a,fn 30 [[.l a]] 0 0=.l (unpR a).2/\fn 30 [[.l a]] 1 0=.i (unpR a).1)
  (hp31:∀a b:Rows,a.length+b.length<=2048->pre 31 [[.l a],[.l b]]) (hf31:∀a b,fn 31 [[.l a],[.l b]] 0 0=.l (mrgL a b)/\fn 31 [[.l a],[.l b]] 1 0=.i (mrgE a b))
  (hp32:∀a b:Rows,a.length+b.length<=2048->pre 32 [[.l a],[.l b]]) (hf32:∀a b,fn 32 [[.l a],[.l b]] 0 0=.l (mrgL a b)/\fn 32 [[.l a],[.l b]] 1 0=.i (mrgE a b))
  (hp33:∀x,pre 33 x) (hf33:∀a f t,fn 33 [[.l a],[.i f],[.i t]] 0 0=.l (cutL a f t)/\fn 33 [[.l a],[.i f],[.i t]] 1 0=.i (cutE a f t))
  (hp34:∀x,pre 34 x) (hf34:∀a f t,fn 34 [[.l a],[.i f],[.i t]] 0 0=.l (cutL a f t)/\fn 34 [[.l a],[.i f],[.i t]] 1 0=.i (cutE a f t))
  {a0 a1 a2:Rows} {a3 a4:Int} (hb:byL a2) {R:Nat->Nat->D} (h0:R 0 0=.b true):V5 pre fn a0 a1 a2 a3 a4 R:=by
 have hr:∀l:Rows,(D.l l).rows=l:=fun _=>rfl
 have hi:∀n:Int,(D.i n).int=n:=fun _=>rfl
 have hbo:∀n:Bool,(D.b n).boo=n:=fun _=>rfl
 constructor
 all_goals (try simp only [v5a,v5b,v5c,v5d,v5e,v5i,v5j,(hf27 _).1,(hf27 _).2,(hf28 _).1,(hf28 _).2,(hf29 _).1,(hf29 _).2,(hf30 _).1,(hf30 _).2,(hf31 _ _).1,(hf31 _ _).2,(hf32 _ _).1,(hf32 _ _).2,(hf33 _ _ _).1,(hf33 _ _ _).2,(hf34 _ _ _).1,(hf34 _ _ _).2,hf17,hf13,hr,hi,hbo])
 case g0 |g2 |g4=>intros;exact hp13
 case g1 |g3 |g5=>intros;exact h0
 case g6=>intros;exact hp27 _
 case g7=>intros;exact hp28 _
 case g8=>intros;exact pac_u8 _
 case g9=>intros;exact pac_u8 _
 case g12=>intro _ _ h;intros;exact hp29 _ hb (by omega)
 case g13=>intro _ _ h;intros;exact hp30 _ hb (by omega)
 case g14 |g19 |g24=>intros;exact hp17 _ _ rfl
 case g17=>intro h1 h2;intros;exact hp31 _ _ (by omega)
 case g18=>intro h1 h2;intros;exact hp32 _ _ (by omega)
 case g22=>intros;exact hp33 _
 case g23=>intros;exact hp34 _
 case g25=>intros;exact hp13
 case g26=>intros;exact h0
 all_goals (intros;rename_i h;first |exact absurd trivial h |exact absurd rfl h |cases h)
end HX

namespace HX
open Go Go.Proofs CX
theorem shr_canb {l:Rows} (h:ShR [.int .u8] l):CanB l:=fun i hi=>by
 have:=h.1 l[i] (kD hi)
 have e:gt l i 0=l[i].getD 0 .nil:=by rw [gt_eq,zE hi];rfl
 match hr:l[i],this with
 |[a],h2=>
  simp only [ShL,ShK] at h2
  obtain ⟨⟨n,rfl⟩,_⟩:=h2
  rw [hr] at e
  rw [e]
  rfl
 |[],h2=>simp [ShL] at h2
 |_ :: _ :: _,h2=>simp [ShL] at h2
structure DI (d:Rows) (cnt:Int) (G:Option Rows) (out:Rows) (i:Int) (rows:Rows) (at_:Int) (bad:Bool) (ta tn ia in_:Int):Prop where
 rw_:rows=d
 il:i=out.length
 ic:i<=16777215
 at0:0<=at_/\at_<=8 * d.length
 can:Can out
 bd:∀j,j < out.length->(0<=eT out j/\eT out j<=1073741824)/\0<=eI out j/\eI out j<=65535
 mt:MOk (ta,tn)
 mi:MOk (ia,in_)
 y:bad=false->∀l,G=some l->unpG d (cnt - i).toNat out at_.toNat (ta,tn) (ia,in_)=some l
 no:bad=true->G=none
section
variable {d:Rows} {cnt:Int} {G:Option Rows} {out:Rows} {i:Int} {at_:Int} {ta tn ia in_:Int}
theorem DI.key (h:DI d cnt G out i d at_ false ta tn ia in_) (hi:i < cnt) {g v at1 at2:Int} {r1 r2:Rows} {b1 b2:Bool} (j1:RJD d (ta,tn) at_ false g r1 at1 b1) (j2:RJD d (ia,in_) at1 b1 v r2 at2 b2) {l:Rows} (hG:G=some l) :
  b2=false/\folE out (nxT out g) (nxI out g v)=0/\unpG d (cnt - (i+1)).toNat (out++[[.i (nxT out g),.i (nxI out g v)]]) at2.toNat (lrn (ta,tn) g) (lrn (ia,in_) v)=some l:=by
 have u:=h.y rfl l hG
 rw [show (cnt - i).toNat=(cnt - (i+1)).toNat+1 by omega,unpG] at u
 cases b1 with
 |true=>rw [j1.no rfl rfl] at u;cases u
 |false=>
  rw [j1.y rfl rfl] at u
  simp only [] at u
  cases b2 with
  |true=>rw [j2.no rfl rfl] at u;cases u
  |false=>
   rw [j2.y rfl rfl] at u
   simp only [] at u
   split at u
   next hf=>
    exact ⟨rfl,hf,u⟩
   cases u
theorem can_push {l:Rows} (h:Can l) (t i:Int):Can (l++[[.i t,.i i]]):=fun j hj=>by
 by_cases c:j < l.length
 ·rw [List.getElem_append_left c,h j c]
  unfold eT eI
  rw [gtA c,gtA c]
 have c:j=l.length:=by simp at hj;omega
 subst c
 unfold eT eI
 rw [gtN,gtN]
 simp [D.int]
theorem DI.push (h:DI d cnt G out i d at_ false ta tn ia in_) (hi:i < cnt) (hc:cnt<=16777215) {g v at1 at2:Int} {r1 r2:Rows} {b1 b2:Bool} (j1:RJD d (ta,tn) at_ false g r1 at1 b1) (j2:RJD d (ia,in_) at1 b1 v r2 at2 b2) {t2 i2:Int} (et:t2=nxT out g) (ei:i2=nxI out g v)
  (rt:0<=t2/\t2<=1073741824) (ri:0<=i2/\i2<=65535) :
  DI d cnt G (out++[[.i t2,.i i2]]) (i+1) r2 at2 b2 (lrn (ta,tn) g).1 (lrn (ta,tn) g).2 (lrn (ia,in_) v).1 (lrn (ia,in_) v).2:=by
 subst et ei
 have v1:=j1.v0;have v2:=j2.v0
 have p1:=j1.at0;have p2:=j2.at0;have p0:=h.at0
 have len:(out++[[D.i (nxT out g),D.i (nxI out g v)]]).length=out.length+1:=by simp
 refine ⟨j2.rw_,by rw [len,h.il];omega,by omega,by omega,can_push h.can _ _,fun j hj=>?_,h.mt.lrn v1.1 (by omega),h.mi.lrn v2.1 (by omega),fun hb l hG=>(h.key hi j1 j2 hG).2.2,fun hb=>?_⟩
 ·rw [len] at hj
  by_cases c:j < out.length
  ·unfold eT eI
   rw [gtA c,gtA c]
   exact h.bd j c
  have c:j=out.length:=by omega
  subst c
  unfold eT eI
  rw [gtN,gtN]
  exact ⟨rt,ri⟩
 cases hG:G with
 |none=>rfl
 |some l=>have:=(h.key hi j1 j2 hG).1;rw [hb] at this;cases this
theorem DI.oor (h:DI d cnt G out i d at_ false ta tn ia in_) (hi:i < cnt) {g v at1 at2:Int} {r1 r2:Rows} {b1 b2:Bool} (j1:RJD d (ta,tn) at_ false g r1 at1 b1) (j2:RJD d (ia,in_) at1 b1 v r2 at2 b2) {t2 i2:Int} (et:t2=nxT out g) (ei:i2=nxI out g v)
  (hn:¬((0<=t2/\t2<=1073741824)/\0<=i2/\i2<=65535)):G=none:=by
 subst et ei
 cases hG:G with
 |none=>rfl
 |some l=>
  have:=folE_0 (h.key hi j1 j2 hG).2.1
  exact absurd ⟨this.1,this.2.1⟩ hn
end
theorem law30 {pre:Nat->List (List D)->Prop} {fn:Nat->List (List D)->Nat->Nat->D} (hp89:∀x,pre 89 x) (hf89:∀a n,fn 89 [[.i a,.i n]] 0 0=.i (lowK (a,n)))
  (hp53:∀x,pre 53 x) (hf53:∀a b c,fn 53 [[.i a],[.i b],[.i c]] 0 0=.b (inB a b c))
  (hp65:∀a n v,MOk (a,n)->0<=v->v<=8589934592->pre 65 [[.i a,.i n],[.i v]]) (hf65:∀a n v,fn 65 [[.i a,.i n],[.i v]] 0 0=.i (lrn (a,n) v).1/\fn 65 [[.i a,.i n],[.i v]] 0 1=.i (lrn (a,n) v).2)
  (hp66:∀l:Rows,byL l->l.length<=4000000000->pre 66 [[.l l]]) (hf66:∀l:Rows,fn 66 [[.l l]] 0 0=.i (sumS l l.length).1/\fn 66 [[.l l]] 1 0=.i (sumS l l.length).2)
  (hp28:∀x,pre 28 x) (hf28:∀a,fn 28 [[.l a]] 0 0=.l (pacL a)/\fn 28 [[.l a]] 1 0=.i (chkE a))
  {a0:Rows} (ca:CanB a0) (hb:byL a0) (hl:a0.length<=3000000) {R:Nat->Nat->D} (h0:R 0 0=.l (unpR a0).2) (h1:R 1 0=.i (unpR a0).1):V30 pre fn a0 R:=by
 have hi:∀n:Int,(D.i n).int=n:=fun _=>rfl
 have hbo:∀n:Bool,(D.b n).boo=n:=fun _=>rfl
 have hrw:∀n:Rows,(D.l n).rows=n:=fun _=>rfl
 have u19:(a0.length:Int) < 7->unpR a0=(19,[]):=fun h=>by rw [unpR,if_pos (by omega)]
 have u18:¬(a0.length:Int) < 7->¬sumOk a0->unpR a0=(18,[]):=fun h h2=>by rw [unpR,if_neg (by omega),if_pos h2]
 have byC:byL (v30o a0):=by
  intro i hi
  simp only [v30o,xU,zM] at hi
  rw [show gt (v30o a0) i 0=gt a0 i 0 by rw [v30o,xU];exact gt_take (by omega)]
  exact hb i (by omega)
 have sb:=sumS_bd byC (v30o a0).length (zB _)
 have s0:sum0 (v30o a0)=(sumS (v30o a0) (v30o a0).length).1:=wrapU8 sb.1.1 (by omega)
 have s1:sum1 (v30o a0)=(sumS (v30o a0) (v30o a0).length).2:=wrapU8 sb.2.1 (by omega)
 have sumOf:¬(a0.length:Int) < 7->(sumOk a0↔(gt a0 (Int.toNat ((a0.length:Int) - 2)) 0).int=(sumS (v30o a0) (v30o a0).length).1/\(gt a0 (Int.toNat ((a0.length:Int) - 1)) 0).int=(sumS (v30o a0) (v30o a0).length).2):=fun h=>by
  have e0:gt (v29a a0) 0 0=gt a0 (Int.toNat ((a0.length:Int) - 2)) 0:=by rw [v29a,gt_take (by omega),gt_drop];rfl
  have e1:gt (v29a a0) 1 0=gt a0 (Int.toNat ((a0.length:Int) - 1)) 0:=by rw [v29a,gt_take (by omega),gt_drop,show Int.toNat ((a0.length:Int) - 2)+1=Int.toNat ((a0.length:Int) - 1) by omega]
  rw [sumOk,e0,e1,<-s0,<-s1]
 have byt:∀j,j < a0.length->0<=(gt a0 j 0).int/\(gt a0 j 0).int<=255:=fun j hj=>hb j hj
 constructor
 case g0=>intro h;rw [h0,u19 h]
 case g1=>intro h;rw [h1,u19 h]
 all_goals (intro hx)
 all_goals (have hx:¬(a0.length:Int) < 7:=hx)
 all_goals (try simp only [v30a,v30c,(hf66 _).1,(hf66 _).2,hi])
 case g5=>exact hp66 _ byC (by simp only [v30o,xU,zM];omega)
 case g11=>intro h;rw [h0,u18 hx fun h2=>h ((sumOf hx).1 h2).1]
 case g12=>intro h;rw [h1,u18 hx fun h2=>h ((sumOf hx).1 h2).1]
 case g18=>intro _ h;rw [h0,u18 hx fun h2=>h ((sumOf hx).1 h2).2]
 case g19=>intro _ h;rw [h1,u18 hx fun h2=>h ((sumOf hx).1 h2).2]
 case g10=>have:=byt (Int.toNat ((a0.length:Int) - 2)) (by omega);unfold vZ30;omega
 case g17=>intro _;have:=byt (Int.toNat ((a0.length:Int) - 1)) (by omega);unfold vZ30;omega
 all_goals (have b2:=byt 2 (by omega);have b3:=byt 3 (by omega);have b4:=byt 4 (by omega))
 all_goals (have k16:Ar.std.shl .i64 (gt a0 (Int.toNat 2) 0).int 16=(gt a0 2 0).int * 65536:=shl_i64 (k:=16) b2.1 (by omega) b2.2)
 all_goals (have k8:Ar.std.shl .i64 (gt a0 (Int.toNat 3) 0).int 8=(gt a0 3 0).int * 256:=shl_i64 (k:=8) b3.1 (by omega) b3.2)
 case g23=>intro _ _;show vZ30 (gt a0 2 0).int;unfold vZ30;omega
 case g28=>intro _ _;show vZ30 (gt a0 3 0).int;unfold vZ30;omega
 case g34=>intro _ _;show vZ30 (gt a0 4 0).int;unfold vZ30;omega
 case g30=>intro _ _;rw [k16,k8];unfold vZ30;omega
 case g35=>intro _ _;show vZ30 (Ar.std.shl .i64 (gt a0 (Int.toNat 2) 0).int 16+Ar.std.shl .i64 (gt a0 (Int.toNat 3) 0).int 8+(gt a0 4 0).int);rw [k16,k8];unfold vZ30;omega
 case l0=>
  intro hs hs2
  have hsum:sumOk a0:=(sumOf hx).2 ⟨hs,hs2⟩
  have ecnt:v30b a0=cntS a0:=by
   show Ar.std.shl .i64 (gt a0 (Int.toNat 2) 0).int 16+Ar.std.shl .i64 (gt a0 (Int.toNat 3) 0).int 8+(gt a0 4 0).int=_
   rw [k16,k8];rfl
  have cb:0<=cntS a0/\cntS a0<=16777215:=by unfold cntS;omega
  have eU:cntU a0=cntS a0:=cnt_eq b2 b3 b4
  obtain ⟨cnt,hcn⟩:∃c,cntS a0=c:=⟨_,rfl⟩
  rw [hcn] at ecnt cb eU
  obtain ⟨d,hd⟩:∃d,v29i a0=d:=⟨_,rfl⟩
  obtain ⟨G,hG⟩:∃G,unpG d cnt.toNat [] 0 (4,1) (4,1)=G:=⟨_,rfl⟩
  have dl:d.length<=3000000:=by rw [<-hd];simp only [v29i,zM,xC];omega
  have db:byL d:=by
   intro i hi
   rw [<-hd] at hi ⊢
   simp only [v29i,zM,xC] at hi
   have e:gt (v29i a0) i 0=gt a0 (5+i) 0:=by
    rw [v29i,gt_take (by omega),gt_drop]
    rfl
   rw [e]
   exact hb (5+i) (by omega)
  have G7:(∀l,G=some l->¬(chkE l=0/\Ar.std.strD (pacL l)=Ar.std.strD a0))->R 0 0=.l []/\R 1 0=.i 7:=fun h=>by
   have:=unpR_7 (a:=a0) (by omega) hsum fun l hu=>h l (by rw [<-hG,<-hd,<-eU];exact hu)
   rw [h0,h1,this]
   exact ⟨rfl,rfl⟩
  have bad7:G=none->R 0 0=.l []/\R 1 0=.i 7:=fun h=>G7 fun l hl=>by rw [h] at hl;cases hl
  refine ⟨fun out i rows at_ bad ta tn ia in_=>DI d cnt G out i rows at_ bad ta tn ia in_,fun _ i _ _ _ _ _ _ _=>(cnt - i).toNat,?_,?_⟩
  ·show DI d cnt G [] 0 (v29i a0) 0 false 4 1 4 1
   exact ⟨hd,rfl,by omega,by omega,fun j hj=>by simp at hj,fun j hj=>by simp at hj,⟨by decide,by decide,by decide,by decide⟩,⟨by decide,by decide,by decide,by decide⟩,fun _ l hl=>by rw [Int.sub_zero];exact hG.trans hl,fun h=>by cases h⟩
  intro out i rows at_ bad ta tn ia in_ hI
  have rd:=hI.rw_
  subst rd
  have rej:(¬i < cnt\/bad=true)->(¬chkE out=0\/bad=true\/¬Ar.std.strD (pacL out)=Ar.std.strD a0)->R 0 0=.l []/\R 1 0=.i 7:=fun he hr=>G7 fun l hl hc=>by
   cases bad with
   |true=>rw [hI.no rfl] at hl;cases hl
   |false=>
    have hn:¬i < cnt:=by rcases he with h |h;exact h;cases h
    have:=hI.y rfl l hl
    rw [show (cnt - i).toNat=0 by omega,unpG] at this
    cases this
    rcases hr with h |h |h
    ·exact h hc.1
    ·cases h
    exact h hc.2
  have acc:chkE out=0->Ar.std.strD (pacL out)=Ar.std.strD a0->R 0 0=.l out/\R 1 0=.i 0:=fun h2 h3=>by
   rw [h0,h1,acc_ok ca hb hI.can h2 h3]
   exact ⟨rfl,rfl⟩
  constructor
  all_goals (try simp only [ecnt,v30i,(hf28 _).1,(hf28 _).2,hi,hrw])
  case g389 |g400=>intros;exact hp28 _
  case g390=>intro _ hb2 h;exact (rej (.inr hb2) (.inl h)).1
  case g391=>intro _ hb2 h;exact (rej (.inr hb2) (.inl h)).2
  case g392=>intro _ hb2 _ h;exact (rej (.inr hb2) (.inr (.inl h))).1
  case g393=>intro _ hb2 _ h;exact (rej (.inr hb2) (.inr (.inl h))).2
  case g401=>intro hn h;exact (rej (.inl hn) (.inl h)).1
  case g402=>intro hn h;exact (rej (.inl hn) (.inl h)).2
  case g403=>intro hn _ h;exact (rej (.inl hn) (.inr (.inl h))).1
  case g404=>intro hn _ h;exact (rej (.inl hn) (.inr (.inl h))).2
  case g394 |g405=>intros;exact pac_u8 _
  case g395 |g406=>intros;exact hb
  case g396=>intro _ hb2 _ _ h;exact (rej (.inr hb2) (.inr (.inr h))).1
  case g397=>intro _ hb2 _ _ h;exact (rej (.inr hb2) (.inr (.inr h))).2
  case g407=>intro hn _ _ h;exact (rej (.inl hn) (.inr (.inr h))).1
  case g408=>intro hn _ _ h;exact (rej (.inl hn) (.inr (.inr h))).2
  case g398=>intro _ _ hc _ h;exact (acc hc h).1
  case g399=>intro _ _ hc _ h;exact (acc hc h).2
  case g409=>intro _ hc _ h;exact (acc hc h).1
  case g410=>intro _ hc _ h;exact (acc hc h).2
  case l1=>
   intro hlt hf
   subst hf
   have p0:=hI.at0
   refine ⟨_,law30r (d:=rows) db (by omega) hp89 hf89 (p:=at_) (by omega) (b0:=false) (a:=ta) (n:=tn),?_⟩
   intro g r1 at1 b1 j1
   have e1:=j1.rw_
   subst e1
   have v1:=j1.v0;have q1:=j1.at0
   refine ⟨hp65 _ _ _ hI.mt v1.1 (by omega),_,law30r (d:=r1) db (by omega) hp89 hf89 (p:=at1) (by omega) (b0:=b1) (a:=ia) (n:=in_),?_⟩
   intro v r2 at2 b2 j2
   have v2:=j2.v0
   have il:=hI.il
   have ic:=hI.ic
   have lastT:0 < i->(gt out (Int.toNat (i - 1)) 0).int=eT out (out.length - 1):=fun h=>by rw [show Int.toNat (i - 1)=out.length - 1 by omega];rfl
   have lastI:0 < i->(gt out (Int.toNat (i - 1)) 1).int=eI out (out.length - 1):=fun h=>by rw [show Int.toNat (i - 1)=out.length - 1 by omega];rfl
   have bl:0 < i->_:=fun h=>hI.bd (out.length - 1) (by omega)
   have nT:nxT out g=if 0 < i then g+eT out (out.length - 1) else g:=by
    rw [nxT]
    by_cases h:0 < i
    ·rw [if_pos h,if_pos (by omega)]
    rw [if_neg h,if_neg (by omega)]
   have nI:nxI out g v=if 0 < i/\g=0 then v+(eI out (out.length - 1)+1) else v:=by
    rw [nxI]
    by_cases h:0 < i/\g=0
    ·rw [if_pos h,if_pos ⟨by omega,h.2⟩]
    rw [if_neg h,if_neg fun h2=>h ⟨by omega,h2.2⟩]
   have inT:∀x,inB x 0 1073741824=true↔0<=x/\x<=1073741824:=fun x=>by unfold inB;exact decide_eq_true_iff
   have inF:∀{x a b},inB x a b=false->¬(a<=x/\x<=b):=fun {x a b} h=>by unfold inB at h;exact of_decide_eq_false h
   have inY:∀{x a b},inB x a b=true->a<=x/\x<=b:=fun {x a b} h=>by unfold inB at h;exact zQ h
   have oor:=fun (t2 i2:Int) (et:t2=nxT out g) (ei:i2=nxI out g v) hn=>bad7 (hI.oor hlt j1 j2 et ei hn)
   have push:=fun (t2 i2:Int) (et:t2=nxT out g) (ei:i2=nxI out g v) rt ri=>hI.push hlt cb.2 j1 j2 et ei rt ri
   constructor
   all_goals (try simp only [v30d,v30h,v30k,v30l,v30p,hf53,(hf65 _ _ _).1,(hf65 _ _ _).2,hi,hbo])
   case g348=>exact hp65 _ _ _ hI.mi v2.1 (by omega)
   case g362 |g365 |g371 |g374 |g380 |g383=>intros;exact hp53 _
   case g354=>intro h;have:=bl h;rw [lastT h];unfold vZ30;omega
   case g360=>intro h _;have:=bl h;rw [lastI h];unfold vZ30;omega
   case g361=>intro h _;have:=bl h;rw [lastI h];unfold vZ30;omega
   case g363=>intro h hz hF;rw [lastT h] at hF;exact (oor _ _ (by rw [nT,if_pos h]) rfl fun k=>inF hF k.1).1
   case g364=>intro h hz hF;rw [lastT h] at hF;exact (oor _ _ (by rw [nT,if_pos h]) rfl fun k=>inF hF k.1).2
   case g366=>intro h hz _ hF;rw [lastI h] at hF;exact (oor _ _ rfl (by rw [nI,if_pos ⟨h,hz⟩]) fun k=>inF hF k.2).1
   case g367=>intro h hz _ hF;rw [lastI h] at hF;exact (oor _ _ rfl (by rw [nI,if_pos ⟨h,hz⟩]) fun k=>inF hF k.2).2
   case g372=>intro h hz hF;rw [lastT h] at hF;exact (oor _ _ (by rw [nT,if_pos h]) rfl fun k=>inF hF k.1).1
   case g373=>intro h hz hF;rw [lastT h] at hF;exact (oor _ _ (by rw [nT,if_pos h]) rfl fun k=>inF hF k.1).2
   case g375=>intro h hz _ hF;exact (oor _ _ rfl (by rw [nI,if_neg fun k=>hz k.2]) fun k=>inF hF k.2).1
   case g376=>intro h hz _ hF;exact (oor _ _ rfl (by rw [nI,if_neg fun k=>hz k.2]) fun k=>inF hF k.2).2
   case g381=>intro h hF;exact (oor _ _ (by rw [nT,if_neg h]) rfl fun k=>inF hF k.1).1
   case g382=>intro h hF;exact (oor _ _ (by rw [nT,if_neg h]) rfl fun k=>inF hF k.1).2
   case g384=>intro h _ hF;exact (oor _ _ rfl (by rw [nI,if_neg fun k=>h k.1]) fun k=>inF hF k.2).1
   case g385=>intro h _ hF;exact (oor _ _ rfl (by rw [nI,if_neg fun k=>h k.1]) fun k=>inF hF k.2).2
   case n370=>
    intro h hz hT hF
    rw [lastT h,lastI h] at *
    exact ⟨push _ _ (by rw [nT,if_pos h]) (by rw [nI,if_pos ⟨h,hz⟩]) (inY hT) (inY hF),by omega⟩
   case n379=>
    intro h hz hT hF
    rw [lastT h] at *
    exact ⟨push _ _ (by rw [nT,if_pos h]) (by rw [nI,if_neg fun k=>hz k.2]) (inY hT) (inY hF),by omega⟩
   case n388=>
    intro h hT hF
    exact ⟨push _ _ (by rw [nT,if_neg h]) (by rw [nI,if_neg fun k=>h k.1]) (inY hT) (inY hF),by omega⟩
   case g368 |g377 |g386=>intros;simp only [zH,zK];omega
   all_goals (intros;(try unfold vZ30);(try omega))
 all_goals (intros;(try unfold vZ30);(try omega))
end HX

namespace HX
open Go Go.Proofs CX
theorem law66 {a0 : Rows} (hb : byL a0) (hl : a0.length <= 4000000000) {R : Nat -> Nat -> D} (h0 : R 0 0 = .i (sumS a0 a0.length).1) (h1 : R 1 0 = .i (sumS a0 a0.length).2) :
    V66 a0 R (fun s t i=>∃q:Nat,i=q/\q<=a0.length/\(s,t)=sumS a0 q) (fun _ _ i=>(a0.length - i).toNat):=by
  constructor
  case i0=>exact ⟨0,rfl,by omega,rfl⟩
  all_goals (intro s t i hI; obtain ⟨q, hq, hql, e⟩ := hI; subst hq; have bd := sumS_bd hb q hql; have e1 : (sumS a0 q).1 = s := by rw [<- e]
             have e2:(sumS a0 q).2=t:=by rw [<-e]
             rw [e1,e2] at bd;(try simp only [zW]);intro hx)
  case g11=>rw [h0,<-e1,show q=a0.length by omega]
  case g12=>rw [h1,<-e2,show q=a0.length by omega]
  case n10=>exact ⟨⟨q+1,by omega,by omega,by rw [sumS,e1,e2]⟩,by omega⟩
  all_goals (try (have c:=hb q (by omega)))
  case g7=>
    rw [xR (by omega)]
    omega
  all_goals omega
theorem fol_at {l:Rows} {q:Nat} (hq:q < l.length) {t i:Int} (h:0 < q->t=eT l (q - 1)/\i=eI l (q - 1)) {f:Bool} (hf:f=decide (q=0)):folF t i (eT l q) (eI l q) f=folE (l.take q) (eT l q) (eI l q):=by
 have lq:(l.take q).length=q:=by rw [zM];omega
 rw [<-fol_eq (l:=l.take q) (t:=t) (i:=i),lq,hf]
 intro hp
 rw [lq] at hp ⊢
 obtain ⟨rfl,rfl⟩:=h hp
 unfold eT eI
 rw [gt_take (by omega),gt_take (by omega)]
 exact ⟨rfl,rfl⟩
theorem law54 {pre:Nat->List (List D)->Prop} {fn:Nat->List (List D)->Nat->Nat->D} (hp40:∀x,pre 40 x) (hf40:∀t i t2 i2 f,fn 40 [[.i t,.i i],[.i t2,.i i2],[.b f]] 0 0=.i (folF t i t2 i2 f)) {l:Rows} {R:Nat->Nat->D} (hR:R 0 0=.i (chkE l)) :
  V54 pre fn l R (fun _ i=>∃f:Nat,f<=l.length/\i=(l.length - f:Nat)/\chkG l l.length=chkG l f) (fun _ i=>(l.length - i).toNat):=by
 have hi:∀n:Int,(D.i n).int=n:=fun _=>rfl
 have e0:∀q,(gt l q 0).int=eT l q:=fun _=>rfl
 have e1:∀q,(gt l q 1).int=eI l q:=fun _=>rfl
 constructor
 all_goals (try simp only [hf40,hi,e0,e1])
 case g0=>intro h;rw [hR,chkE,if_pos (by omega)]
 case i0=>exact fun _=>⟨l.length,zB _,by omega,rfl⟩
 all_goals (intro e i hI;obtain ⟨f,hf,hq,hc⟩:=hI;subst hq;(try simp only [zW]);intro hl hx)
 case g9 |g16=>intros;exact hp40 _
 case g20=>
  obtain rfl:f=0:=by omega
  rw [hR,chkE,if_neg (by omega),hc];rfl
 case g10 |g17=>
  intro h0 h
  obtain ⟨g,rfl⟩:∃g,f=g+1:=⟨f - 1,by omega⟩
  rw [fol_at (q:=l.length - (g+1)) (by omega) (fun hp=>by first |(exfalso;omega;done) |(rw [show (((l.length - (g+1):Nat):Int) - 1).toNat=l.length - (g+1) - 1 by omega];exact ⟨rfl,rfl⟩)) (qT.2 (by omega))] at h ⊢
  rw [hR,chkE,if_neg (by omega),hc,chkG,if_neg h]
 case n12 |n19=>
  intro h0 h
  obtain ⟨g,rfl⟩:∃g,f=g+1:=⟨f - 1,by omega⟩
  rw [fol_at (q:=l.length - (g+1)) (by omega) (fun hp=>by first |(exfalso;omega;done) |(rw [show (((l.length - (g+1):Nat):Int) - 1).toNat=l.length - (g+1) - 1 by omega];exact ⟨rfl,rfl⟩)) (qT.2 (by omega))] at h
  refine ⟨⟨g,by omega,by omega,?_⟩,by omega⟩
  rw [hc,chkG,if_pos h]
 all_goals omega
end HX

namespace HX
open Go Go.Proofs CX
theorem law28 {pre:Nat->List (List D)->Prop} {fn:Nat->List (List D)->Nat->Nat->D} (hp89:∀x,pre 89 x) (hf89:∀a n,fn 89 [[.i a,.i n]] 0 0=.i (lowK (a,n)))
  (hp54:∀x,pre 54 x) (hf54:∀l,fn 54 [[.l l]] 0 0=.i (chkE l))
  (hp65:∀a n v,MOk (a,n)->0<=v->v<=8589934592->pre 65 [[.i a,.i n],[.i v]]) (hf65:∀a n v,fn 65 [[.i a,.i n],[.i v]] 0 0=.i (lrn (a,n) v).1/\fn 65 [[.i a,.i n],[.i v]] 0 1=.i (lrn (a,n) v).2)
  (hp66:∀l:Rows,byL l->l.length<=4000000000->pre 66 [[.l l]]) (hf66:∀l,fn 66 [[.l l]] 0 0=.i (sumS l l.length).1/\fn 66 [[.l l]] 1 0=.i (sumS l l.length).2)
  {a0:Rows} {R:Nat->Nat->D} (h0:R 0 0=.l (pacL a0)) (h1:R 1 0=.i (chkE a0)):V28 pre fn a0 R:=by
 have hi:∀n:Int,(D.i n).int=n:=fun _=>rfl
 constructor
 all_goals (try simp only [hf54,hi])
 case g0=>exact hp54 _
 case g1=>intro h;rw [h0,pacL,if_neg h]
 case g2=>intro h;rw [h1]
 case l0=>
  intro hc
  obtain ⟨hl,he⟩:=chk_ev hc
  have h0:R 0 0=.l (packP a0):=by rw [h0,pacL,if_pos hc]
  have h1:R 1 0=.i 0:=by rw [h1,hc]
  refine ⟨fun B i ta tn da dn=>∃q:Nat,i=q/\q<=a0.length/\B=pkB a0 q/\(ta,tn)=(pkS a0 q).t/\(da,dn)=(pkS a0 q).d,fun _ i _ _ _ _=>(a0.length - i).toNat,⟨0,rfl,by omega,rfl,rfl,rfl⟩,?_⟩
  intro B i ta tn da dn hI
  obtain ⟨q,hq,hql,hB,ht,hd⟩:=hI
  subst hq hB
  obtain ⟨_,b1,b2,m1,m2⟩:=pk_ok he q hql
  obtain ⟨w,wb,wh⟩:=pk_step he q hql
  have rel:=rel_all he q hql
  have rl:=rel.len
  rw [<-ht] at m1
  rw [<-hd] at m2
  have b2:bitsN (stP a0 q)<=40+110 * q:=b2
  constructor
  case l1=>
   intro hx
   obtain ⟨g1,g2⟩:=gap_bd he (q:=q) (by omega)
   obtain ⟨bb1,bb2⟩:=pk_before a0 q
   have tq:=he.rt q (by omega)
   have iq:=he.ri q (by omega)
   obtain ⟨g,hg⟩:∃g,gapE a0 q (pkS a0 q).bt=g:=⟨_,rfl⟩
   obtain ⟨v,hv⟩:∃v,plcE a0 q (pkS a0 q).bt (pkS a0 q).bi=v:=⟨_,rfl⟩
   rw [hg] at g1
   rw [hv] at g2
   have hg':=hg
   have hv':=hv
   rw [gapE,bb1] at hg
   rw [plcE,bb1,bb2] at hv
   have tn0:((q:Int)).toNat=q:=zW q
   have tp:0 < (q:Int)->0<=eT a0 (q - 1)/\eT a0 (q - 1)<=1073741824:=fun h=>he.rt (q - 1) (by omega)
   have ip:0 < (q:Int)->0<=eI a0 (q - 1)/\eI a0 (q - 1)<=65535:=fun h=>he.ri (q - 1) (by omega)
   have sb:0 < (q:Int)->((q:Int) - 1).toNat=q - 1:=fun h=>by omega
   have e0:∀j,(D.int (gt a0 j 0))=eT a0 j:=fun _=>rfl
   have e1:∀j,(D.int (gt a0 j 1))=eI a0 j:=fun _=>rfl
   have gp:0 < (q:Int)->eT a0 q - eT a0 (q - 1)=g:=fun h=>by rw [<-hg,if_pos (by omega),if_neg (by omega)]
   have gz:¬0 < (q:Int)->eT a0 q=g:=fun h=>by rw [<-hg,if_neg (by omega)]
   have vp:0 < (q:Int)->g=0->eI a0 q - (eI a0 (q - 1)+1)=v:=fun h h2=>by
    have:=gp h
    rw [<-hv,if_neg (show ¬q=0 by omega),if_neg (show ¬q=0 by omega),if_pos (by omega)]
   have vn:0 < (q:Int)->¬g=0->eI a0 q=v:=fun h h2=>by
    have:=gp h
    rw [<-hv,if_neg (show ¬q=0 by omega),if_neg (show ¬q=0 by omega),if_neg (by omega)]
   have vz:¬0 < (q:Int)->eI a0 q=v:=fun h=>by
    rw [<-hv,if_pos (show q=0 by omega),if_pos (show q=0 by omega),if_neg (by omega)]
   have blen:(pkB a0 q).length<=100000000:=by omega
   obtain ⟨w2,wb2,_⟩:=wr_ok (m:=(pkS a0 q).t) g1.1 (by omega) w wb
   have r2:=(Rel.wr (m:=(pkS a0 q).t) g1.1 (by omega) rel w wb)
   have b3:=(wrS_wf (m:=(pkS a0 q).t) g1.1 w.wf).2.2
   refine ⟨fun g' v'=>g'=g/\v'=v,?_,fun g' v' hgv=>⟨⟨fun B'=>B'=wrR (ta,tn) g (pkB a0 q),?_,fun B' hB'=>?_⟩⟩⟩
   ·constructor
    all_goals (try simp only [vZ28,v28b,tn0,e0,e1])
    case n22=>intro h;rw [sb h,gp h];intro hz;exact ⟨rfl,vp h hz⟩
    case n23=>intro h;rw [sb h,gp h];intro hz;exact ⟨rfl,vn h hz⟩
    case n24=>intro h;exact ⟨gz h,vz h⟩
    all_goals (intro h;have tp:=tp h;have ip:=ip h;(try rw [sb h]))
    all_goals (intros;omega)
   ·rw [hgv.1]
    exact law28r hp89 hf89 blen g1.1 (by omega)
   rw [hgv.1,hgv.2]
   subst hB'
   have bl2:(wrR (ta,tn) g (pkB a0 q)).length<=100000000:=by
    have l2:=r2.len
    rw [<-ht] at l2 b3
    omega
   constructor
   case g66=>exact hp65 _ _ _ m1 g1.1 (by omega)
   case l8=>
    refine ⟨fun B2=>B2=wrR (da,dn) v (wrR (ta,tn) g (pkB a0 q)),law28r hp89 hf89 bl2 g2.1 (by omega),fun B2 hB2=>?_⟩
    subst hB2
    constructor
    case g108=>exact hp65 _ _ _ m2 g2.1 (by omega)
    case g109=>simp only [vZ28];omega
    case n110=>
     simp only [(hf65 _ _ _).1,(hf65 _ _ _).2,hi]
     refine ⟨⟨q+1,by omega,by omega,?_,?_,?_⟩,by omega⟩
     ·rw [pkB,hg',hv',<-ht,<-hd]
     ·show lrn (ta,tn) g=_
      rw [pkS];simp only [];rw [hg',<-ht]
     show lrn (da,dn) v=_
     rw [pkS];simp only [];rw [hv',<-hd]
  case l14=>
   intro hx
   obtain rfl:q=a0.length:=by omega
   obtain ⟨o,ho⟩:∃o,(stP a0 a0.length).1=o:=⟨_,rfl⟩
   have can:=can_pk a0 a0.length
   have oby:=w.by_
   have r0:=w.wf.r0
   have r7:=w.wf.r7
   obtain ⟨rr,hrr⟩:∃r:Nat,(stP a0 a0.length).2=r:=⟨(stP a0 a0.length).2.toNat,by omega⟩
   have ol:(pkB a0 a0.length).length+rr=8 * (o.length - 5)/\5<=o.length:=by
    simp only [bitsN] at rl wb
    rw [ho] at rl wb
    omega
   have pb:∀t,t<=rr->∀p,p < (pkB a0 a0.length).length+t->gt (pkB a0 a0.length++List.replicate t [D.i 0]) p 0=.i (bAt o (40+p)):=fun t h p hp=>by
    have:=pad_bit rel w wb (t:=t) (by omega) p (by simp;omega)
    rw [ho] at this;exact this
   rw [ho] at can oby
   have o2:o.length<=1000000:=by
    simp only [bitsN] at b2
    rw [ho] at b2
    omega
   have hd5:o.take 5=hdrP a0:=by
    have s0:=wh.hd (by simp [stP,pkS,hdrP,bitsN])
    have c0:=can_pk a0 0
    refine List.ext_getElem (by rw [zM];simp [hdrP];omega) fun j j1 j2=>?_
    have j5:j < 5:=by rw [zM] at j1;omega
    rw [List.getElem_take,can j (by omega),<-ho,s0 j j5]
    exact (c0 j j2).symm
   refine ⟨fun x=>∃t:Nat,t<=rr/\x=pkB a0 a0.length++List.replicate t [D.i 0],fun x=>8 * o.length - x.length,⟨0,by omega,by simp⟩,fun x hI=>?_⟩
   obtain ⟨t,ht8,hxx⟩:=hI
   subst hxx
   have xl:(pkB a0 a0.length++List.replicate t [D.i 0]).length=(pkB a0 a0.length).length+t:=by simp
   have md:Int.tmod (((pkB a0 a0.length).length+t:Nat):Int) 8=(((pkB a0 a0.length).length+t:Nat):Int) % 8:=xR (by omega)
   constructor
   all_goals (try simp only [xl,md])
   case g114=>decide
   case g115=>intros;simp only [zH,zK];omega
   case n116=>
    intro h
    have:t+1<=rr:=by omega
    refine ⟨⟨t+1,this,?_⟩,?_⟩
    ·rw [qN,<-List.replicate_succ']
    simp only [zP,xB,zH,zK];omega
   case l15=>
    intro h
    obtain rfl:t=rr:=by omega
    obtain ⟨P,hP⟩:∃P,pkB a0 a0.length++List.replicate t [D.i 0]=P:=⟨_,rfl⟩
    have pb:=pb t (zB _)
    rw [hP] at pb xl ⊢
    refine ⟨fun x i=>∃c:Nat,i=(8 * c:Nat)/\c+5<=o.length/\x=o.take (5+c),fun _ i=>(8 * o.length - i).toNat,⟨0,rfl,by omega,by rw [kB];exact hd5.symm⟩,fun x i hI=>?_⟩
    obtain ⟨c,hi8,hc5,hxx⟩:=hI
    subst hi8 hxx
    constructor
    case l16=>
     intro hlt
     have cl:c+6<=o.length:=by rw [xl] at hlt;omega
     have xb:=oby (5+c) (by omega)
     obtain ⟨X,hX⟩:∃X,(gt o (5+c) 0).int=X:=⟨_,rfl⟩
     rw [hX] at xb
     refine ⟨fun b j=>∃J:Nat,j=J/\J<=8/\b=X / 2 ^ (8 - J),fun _ j=>(8 - j).toNat,⟨0,rfl,by omega,by rw [pw.2.2.2.2.2.2.2.2];omega⟩,fun b j hI=>?_⟩
     obtain ⟨J,hj,hJ8,hb⟩:=hI
     subst hj
     have bit:J < 8->(D.int (gt P (((8 * c:Nat):Int)+J).toNat 0))=X / 2 ^ (7 - J) % 2:=fun h=>by
      rw [show (((8 * c:Nat):Int)+J).toNat=8 * c+J by omega,pb _ (by omega)]
      show bAt o (40+(8 * c+J))=_
      unfold bAt
      rw [show (40+(8 * c+J)) / 8=5+c by omega,show (40+(8 * c+J)) % 8=J by omega,hX]
     have b0:0<=b/\b<=255:=by
      rw [hb]
      exact ⟨Int.ediv_nonneg xb.1 (kP (kX (by omega))),kQ (Int.ediv_le_self _ xb.1) xb.2⟩
     constructor
     case n126=>
      intro h
      have h:J < 8:=by omega
      rw [bit h]
      refine ⟨⟨J+1,by omega,by omega,?_⟩,by omega⟩
      rw [hb]
      have:J=0\/J=1\/J=2\/J=3\/J=4\/J=5\/J=6\/J=7:=by omega
      rcases this with rfl |rfl |rfl |rfl |rfl |rfl |rfl |rfl<;>simp only [pw,Nat.reduceSub,Nat.reduceAdd]<;>omega
     case g124=>intro h;rw [bit (by omega)];simp only [vZ28];omega
     case n129=>
      intro h
      obtain rfl:J=8:=by omega
      have hb:b=X:=by rw [hb,qK,pw.1];omega
      refine ⟨⟨c+1,by omega,by omega,?_⟩,by omega⟩
      rw [show 5+(c+1)=5+c+1 by omega,List.take_succ_eq_append_getElem (by omega),can (5+c) (by omega)]
      rw [hX]
      have:Ar.std.wrap .u8 b=X:=by rw [hb];exact wrapU8 xb.1 xb.2
      rw [this]
     all_goals (try simp only [vZ28,zH,zK,zM])
     all_goals (intros;omega)
    all_goals intro hlt
    all_goals (obtain rfl:c=o.length - 5:=by omega)
    all_goals (try rw [show o.take (5+(o.length - 5))=o from List.take_of_length_le (by omega)])
    case g130=>exact hp66 _ oby (by omega)
    case g131=>simp only [zH,zK];omega
    case g132=>
     rw [(hf66 o).1,(hf66 o).2,h0,packP,sum0,sum1]
     have:(pkS a0 a0.length).o=o:=ho
     rw [this]
     rfl
    case g133=>exact h1
  all_goals (intros;omega)
end HX

namespace HX
open Go Go.Proofs CX
set_option maxHeartbeats 4000000 in
set_option maxRecDepth 100000 in
theorem walk92 {ro A pre fn} (hE:EnvOk ⟨A,(cxE ro),ksF,sigL [],pre,fn⟩) {P:List (List D)->Prop} {res:List (List D)->Nat->Nat->D}
  (hv:∀(a0_0:Int) (a0_1:Int),P [[.i a0_0,.i a0_1]]->∃(I0:Int->Prop) (m0:Int->Nat),V92 a0_0 a0_1 (res [[.i a0_0,.i a0_1]]) I0 m0) :
  PureC (cxE ro) 92 ⟨[(true,[.int .i64,.int .i64])],[(false,[.int .i64])],false⟩ P res:=by
 have h:=hE.A
 simp only [] at h
 have hinl:∀f fn,inlL [] f=some fn->(cxE ro).fn f=some fn/\(cxE ro).ext f=none:=Inls.ok (by repeat (first |exact .nil |refine .cons rfl rfl ?_))
 refine PureC.of_vc hE hinl 6 (f:=92) (fn:=Try.f92) ⟨rfl,rfl⟩ ?_
 intro a0_0 a0_1 hP
 obtain ⟨R,hR⟩:∃R,res [[.i a0_0,.i a0_1]]=R:=⟨_,rfl⟩
 rw [hR]
 obtain ⟨I0,m0,hV⟩:=hv a0_0 a0_1  hP
 rw [hR] at hV
 clear hR hP hv
 cbv
 repeat' first|(refine Br.mk (fun _=>?_) (fun _=>?_)<;>cbv)|(refine NilB.mk (fun _=>?_) ?_<;>cbv)|refine And.intro ?_ ?_|exact True.intro
 refine Leaf.gen fun σz hσz=>?_
 refine loopB hE hinl 6 [] [] [] (fun x:Int=>[.i x]) (fun x=>I0 x) (fun x=>m0 x) (0) (by subst h;exact hV.i0) ?_ ?_<;>subst hσz
 ·clear hE hinl hV;cbv;(try repeat' first|rfl|assumption|constructor)
 intro x0_0 hI0 K0 hK0
 cbv
 repeat' first|(refine Br.mk (fun _=>?_) (fun _=>?_)<;>cbv)|(refine NilB.mk (fun _=>?_) ?_<;>cbv)|refine And.intro ?_ ?_|exact True.intro
 next hp1_0=>
  subst h;exact hV.g1 _ hI0 (dt hp1_0)
 next hp2_0 hp2_1=>
  subst h;exact hV.g2 _ hI0 (dt hp2_0) (dt hp2_1)
 next hp3_0 hp3_1=>
  refine hK0 (A.add x0_0 1) _ ?_ ?_ ?_
  ·subst h;exact (hV.n3 _ hI0 (dt hp3_0) (dt hp3_1)).1
  ·subst h;exact (hV.n3 _ hI0 (dt hp3_0) (dt hp3_1)).2
  clear hE hinl hV hK0;cbv;(try repeat' first|rfl|assumption|constructor)
 next hp4_0 hp4_1=>
  subst h;exact hV.g4 _ hI0 (dt hp4_0) (df hp4_1)
 rename_i hp5_0
 subst h;exact hV.g5 _ hI0 (df hp5_0)
end HX

namespace HX
open Go Go.Proofs CX
set_option maxHeartbeats 4000000 in
set_option maxRecDepth 100000 in
theorem walk67 {ro A pre fn} (hE:EnvOk ⟨A,(cxE ro),ksF,sigL [],pre,fn⟩) {P:List (List D)->Prop} {res:List (List D)->Nat->Nat->D}
  (hv:∀(a0:Rows),ShR [.int .u8] a0->P [[.l a0]]->∃(I0:Int->Int->Int->Prop) (m0:Int->Int->Int->Nat),V67 a0 (res [[.l a0]]) I0 m0) :
  PureC (cxE ro) 67 ⟨[(false,[.sl [.int .u8]])],[(true,[.int .u8,.int .u8])],false⟩ P res:=by
 have h:=hE.A
 simp only [] at h
 have hinl:∀f fn,inlL [] f=some fn->(cxE ro).fn f=some fn/\(cxE ro).ext f=none:=Inls.ok (by repeat (first |exact .nil |refine .cons rfl rfl ?_))
 refine PureC.of_vc hE hinl 6 (f:=67) (fn:=Try.f67) ⟨rfl,rfl⟩ ?_
 intro a0 ha0 hP
 obtain ⟨R,hR⟩:∃R,res [[.l a0]]=R:=⟨_,rfl⟩
 rw [hR]
 obtain ⟨I0,m0,hV⟩:=hv a0 ha0 hP
 rw [hR] at hV
 clear hR hP hv
 cbv
 repeat' first|(refine Br.mk (fun _=>?_) (fun _=>?_)<;>cbv)|(refine NilB.mk (fun _=>?_) ?_<;>cbv)|refine And.intro ?_ ?_|exact True.intro
 refine Leaf.gen fun σz hσz=>?_
 refine loopB hE hinl 6 [] [] [] (fun x:Int×Int×Int=>[.i x.1,.i x.2.1,.i x.2.2]) (fun x=>I0 x.1 x.2.1 x.2.2) (fun x=>m0 x.1 x.2.1 x.2.2) (0,0,0) (by subst h;exact hV.i0) ?_ ?_<;>subst hσz
 ·clear hE hinl hV;cbv;(try repeat' first|rfl|assumption|constructor)
 intro ⟨x0_0,x0_1,x0_2⟩ hI0 K0 hK0
 cbv
 repeat' first|(refine Br.mk (fun _=>?_) (fun _=>?_)<;>cbv)|(refine NilB.mk (fun _=>?_) ?_<;>cbv)|refine And.intro ?_ ?_|exact True.intro
 ·next a=>subst h;exact hV.g1 _ _ _ hI0 (dt a)
 ·next a=>subst h;exact hV.g2 _ _ _ hI0 (dt a)
 ·next a=>subst h;exact hV.g3 _ _ _ hI0 (dt a)
 ·next a=>subst h;exact hV.g4 _ _ _ hI0 (dt a)
 ·next a=>subst h;exact hV.g5 _ _ _ hI0 (dt a)
 ·next a=>subst h;exact hV.g6 _ _ _ hI0 (dt a)
 ·next a=>subst h;exact hV.g7 _ _ _ hI0 (dt a)
 ·next a=>subst h;exact hV.g6 _ _ _ hI0 (dt a)
 ·next a=>subst h;exact hV.g9 _ _ _ hI0 (dt a)
 next p10a=>
  refine hK0 (A.tmod (A.add x0_0 (A.di (A.get a0 (A.toNat x0_2) 0))) 255,A.tmod (A.add x0_1 (A.tmod (A.add x0_0 (A.di (A.get a0 (A.toNat x0_2) 0))) 255)) 255,A.add x0_2 1) _ ?_ ?_ ?_
  ·subst h;exact (hV.n10 _ _ _ hI0 (dt p10a)).1
  ·subst h;exact (hV.n10 _ _ _ hI0 (dt p10a)).2
  clear hE hinl hV hK0;cbv;(try repeat' first|rfl|assumption|constructor)
 ·next a=>subst h;exact hV.g11 _ _ _ hI0 (df a)
 next a=>subst h;exact hV.g12 _ _ _ hI0 (df a)
end HX

namespace HX
open Go Go.Proofs CX
set_option maxHeartbeats 4000000 in
set_option maxRecDepth 100000 in
theorem walk72 {ro A pre fn} (hE:EnvOk ⟨A,(cxE ro),ksF,sigL [],pre,fn⟩) {P:List (List D)->Prop} {res:List (List D)->Nat->Nat->D}
  (hv:∀(a0:Rows) (a1:Rows),ShR [.int .u8] a0->ShR [.int .u8] a1->P [[.l a0],[.l a1]]->∃(I0:Bool->Int->Prop) (m0:Bool->Int->Nat),V72 a0 a1 (res [[.l a0],[.l a1]]) I0 m0) :
  PureC (cxE ro) 72 ⟨[(false,[.sl [.int .u8]]),(false,[.sl [.int .u8]])],[(false,[.bool])],false⟩ P res:=by
 have h:=hE.A
 simp only [] at h
 have hinl:∀f fn,inlL [] f=some fn->(cxE ro).fn f=some fn/\(cxE ro).ext f=none:=Inls.ok (by repeat (first |exact .nil |refine .cons rfl rfl ?_))
 refine PureC.of_vc hE hinl 6 (f:=72) (fn:=Try.f72) ⟨rfl,rfl⟩ ?_
 intro a0 ha0 a1 ha1 hP
 obtain ⟨R,hR⟩:∃R,res [[.l a0],[.l a1]]=R:=⟨_,rfl⟩
 rw [hR]
 obtain ⟨I0,m0,hV⟩:=hv a0 a1 ha0 ha1 hP
 rw [hR] at hV
 clear hR hP hv
 cbv
 repeat' first|(refine Br.mk (fun _=>?_) (fun _=>?_)<;>cbv)|(refine NilB.mk (fun _=>?_) ?_<;>cbv)|refine And.intro ?_ ?_|exact True.intro
 ·next a=>subst h;exact hV.g0 (df (nt a))
 rename_i p1a
 refine Leaf.gen fun σz hσz=>?_
 refine loopB hE hinl 6 [] [] [] (fun x:Bool×Int=>[.b x.1,.i x.2]) (fun x=>I0 x.1 x.2) (fun x=>m0 x.1 x.2) (false,0) (by subst h;exact hV.i0 (dt (nf p1a))) ?_ ?_<;>subst hσz
 ·clear hE hinl hV;cbv;(try repeat' first|rfl|assumption|constructor)
 intro ⟨x0_0,x0_1⟩ hI0 K0 hK0
 cbv
 repeat' first|(refine Br.mk (fun _=>?_) (fun _=>?_)<;>cbv)|(refine NilB.mk (fun _=>?_) ?_<;>cbv)|refine And.intro ?_ ?_|exact True.intro
 ·next a=>subst h;exact hV.g2 _ _ hI0 (dt (nf p1a)) (dt a)
 ·next a=>subst h;exact hV.g3 _ _ hI0 (dt (nf p1a)) (dt a)
 ·next a=>subst h;exact hV.g4 _ _ hI0 (dt (nf p1a)) (dt a)
 ·next a=>subst h;exact hV.g2 _ _ hI0 (dt (nf p1a)) (dt a)
 ·next a=>subst h;exact hV.g6 _ _ hI0 (dt (nf p1a)) (dt a)
 ·next a=>subst h;exact hV.g7 _ _ hI0 (dt (nf p1a)) (dt a)
 ·next a b=>subst h;exact hV.g8 _ _ hI0 (dt (nf p1a)) (dt a) (df (nt b))
 ·next a b=>subst h;exact hV.g9 _ _ hI0 (dt (nf p1a)) (dt a) (dt (nf b))
 next p10a p10b=>
  refine hK0 (x0_0,A.add x0_1 1) _ ?_ ?_ ?_
  ·subst h;exact (hV.n10 _ _ hI0 (dt (nf p1a)) (dt p10a) (dt (nf p10b))).1
  ·subst h;exact (hV.n10 _ _ hI0 (dt (nf p1a)) (dt p10a) (dt (nf p10b))).2
  clear hE hinl hV hK0;cbv;(try repeat' first|rfl|assumption|constructor)
 next a=>subst h;exact hV.g11 _ _ hI0 (dt (nf p1a)) (df a)
end HX

namespace HX
open Go Go.Proofs CX
set_option maxHeartbeats 4000000 in
set_option maxRecDepth 100000 in
theorem walk17 {ro A pre fn} (hE:EnvOk ⟨A,(cxE ro),ksF,sigL [],pre,fn⟩) {P:List (List D)->Prop} {res:List (List D)->Nat->Nat->D}
  (hv:∀(a0:Rows) (a1:Rows),ShR [.int .i64,.int .i64] a0->ShR [.int .i64,.int .i64] a1->P [[.l a0],[.l a1]]->∃(I0:Bool->Int->Prop) (m0:Bool->Int->Nat),V17 a0 a1 (res [[.l a0],[.l a1]]) I0 m0) :
  PureC (cxE ro) 17 ⟨[(false,[.sl [.int .i64,.int .i64]]),(false,[.sl [.int .i64,.int .i64]])],[(false,[.bool])],false⟩ P res:=by
 have h:=hE.A
 simp only [] at h
 have hinl:∀f fn,inlL [] f=some fn->(cxE ro).fn f=some fn/\(cxE ro).ext f=none:=Inls.ok (by repeat (first |exact .nil |refine .cons rfl rfl ?_))
 refine PureC.of_vc hE hinl 6 (f:=17) (fn:=Try.f17) ⟨rfl,rfl⟩ ?_
 intro a0 ha0 a1 ha1 hP
 obtain ⟨R,hR⟩:∃R,res [[.l a0],[.l a1]]=R:=⟨_,rfl⟩
 rw [hR]
 obtain ⟨I0,m0,hV⟩:=hv a0 a1 ha0 ha1 hP
 rw [hR] at hV
 clear hR hP hv
 cbv
 repeat' first|(refine Br.mk (fun _=>?_) (fun _=>?_)<;>cbv)|(refine NilB.mk (fun _=>?_) ?_<;>cbv)|refine And.intro ?_ ?_|exact True.intro
 ·next a=>subst h;exact hV.g0 (df (nt a))
 rename_i p1a
 refine Leaf.gen fun σz hσz=>?_
 refine loopB hE hinl 6 [] [] [] (fun x:Bool×Int=>[.b x.1,.i x.2]) (fun x=>I0 x.1 x.2) (fun x=>m0 x.1 x.2) (false,0) (by subst h;exact hV.i0 (dt (nf p1a))) ?_ ?_<;>subst hσz
 ·clear hE hinl hV;cbv;(try repeat' first|rfl|assumption|constructor)
 intro ⟨x0_0,x0_1⟩ hI0 K0 hK0
 cbv
 repeat' first|(refine Br.mk (fun _=>?_) (fun _=>?_)<;>cbv)|(refine NilB.mk (fun _=>?_) ?_<;>cbv)|refine And.intro ?_ ?_|exact True.intro
 ·next a=>subst h;exact hV.g2 _ _ hI0 (dt (nf p1a)) (dt a)
 ·next a=>subst h;exact hV.g3 _ _ hI0 (dt (nf p1a)) (dt a)
 ·next a=>subst h;exact hV.g4 _ _ hI0 (dt (nf p1a)) (dt a)
 ·next a=>subst h;exact hV.g2 _ _ hI0 (dt (nf p1a)) (dt a)
 ·next a=>subst h;exact hV.g6 _ _ hI0 (dt (nf p1a)) (dt a)
 ·next a=>subst h;exact hV.g7 _ _ hI0 (dt (nf p1a)) (dt a)
 ·next a b=>subst h;exact hV.g8 _ _ hI0 (dt (nf p1a)) (dt a) ((and_f (nt b)).imp (fun h=>(df h)) (fun h=>(df h)))
 ·next a b=>subst h;exact hV.g9 _ _ hI0 (dt (nf p1a)) (dt a) ⟨(dt (and_t (nf b)).1),(dt (and_t (nf b)).2)⟩
 next p10a p10b=>
  refine hK0 (x0_0,A.add x0_1 1) _ ?_ ?_ ?_
  ·subst h;exact (hV.n10 _ _ hI0 (dt (nf p1a)) (dt p10a) ⟨(dt (and_t (nf p10b)).1),(dt (and_t (nf p10b)).2)⟩).1
  ·subst h;exact (hV.n10 _ _ hI0 (dt (nf p1a)) (dt p10a) ⟨(dt (and_t (nf p10b)).1),(dt (and_t (nf p10b)).2)⟩).2
  clear hE hinl hV hK0;cbv;(try repeat' first|rfl|assumption|constructor)
 next a=>subst h;exact hV.g11 _ _ hI0 (dt (nf p1a)) (df a)
end HX

namespace HX
open Go Go.Proofs CX
set_option maxHeartbeats 4000000 in
set_option maxRecDepth 100000 in
theorem walk50 {ro A pre fn} (hE:EnvOk ⟨A,(cxE ro),ksF,sigL [],pre,fn⟩) {P:List (List D)->Prop} {res:List (List D)->Nat->Nat->D}
  (hv:∀(a0:Int) (a1:Int) (a2:Int),P [[.i a0],[.i a1],[.i a2]]->V50 a0 a1 a2 (res [[.i a0],[.i a1],[.i a2]]) ) :
  PureC (cxE ro) 50 ⟨[(false,[.int .i64]),(false,[.int .i64]),(false,[.int .i64])],[(false,[.bool])],false⟩ P res:=by
 have h:=hE.A
 simp only [] at h
 have hinl:∀f fn,inlL [] f=some fn->(cxE ro).fn f=some fn/\(cxE ro).ext f=none:=Inls.ok (by repeat (first |exact .nil |refine .cons rfl rfl ?_))
 refine PureC.of_vc hE hinl 6 (f:=50) (fn:=Try.f50) ⟨rfl,rfl⟩ ?_
 intro a0 a1 a2 hP
 obtain ⟨R,hR⟩:∃R,res [[.i a0],[.i a1],[.i a2]]=R:=⟨_,rfl⟩
 rw [hR]
 have hV:=hv a0 a1 a2  hP
 rw [hR] at hV
 clear hR hP hv
 cbv
 repeat' first|(refine Br.mk (fun _=>?_) (fun _=>?_)<;>cbv)|(refine NilB.mk (fun _=>?_) ?_<;>cbv)|refine And.intro ?_ ?_|exact True.intro
 next hp0_0=>
  subst h;exact hV.g0 (dt hp0_0)
 rename_i hp1_0
 subst h;exact hV.g1 (df hp1_0)
end HX

namespace HX
open Go Go.Proofs CX
set_option maxHeartbeats 4000000 in
set_option maxRecDepth 100000 in
theorem walk100 {ro A pre fn} (hE:EnvOk ⟨A,(cxE ro),ksF,sigL [],pre,fn⟩) {P:List (List D)->Prop} {res:List (List D)->Nat->Nat->D}
  (hv:∀(a0:Int) (a1:Int),P [[.i a0],[.i a1]]->V100 a0 a1 (res [[.i a0],[.i a1]]) ) :
  PureC (cxE ro) 100 ⟨[(false,[.int .i64]),(false,[.int .i64])],[(false,[.int .i64])],false⟩ P res:=by
 have h:=hE.A
 simp only [] at h
 have hinl:∀f fn,inlL [(112,Try.f112)] f=some fn->(cxE ro).fn f=some fn/\(cxE ro).ext f=none:=Inls.ok (by repeat (first |exact .nil |refine .cons rfl rfl ?_))
 refine PureC.of_vc hE hinl 6 (f:=100) (fn:=Try.f100) ⟨rfl,rfl⟩ ?_
 intro a0 a1 hP
 obtain ⟨R,hR⟩:∃R,res [[.i a0],[.i a1]]=R:=⟨_,rfl⟩
 rw [hR]
 have hV:=hv a0 a1  hP
 rw [hR] at hV
 clear hR hP hv
 cbv
 repeat' first|(refine Br.mk (fun _=>?_) (fun _=>?_)<;>cbv)|(refine NilB.mk (fun _=>?_) ?_<;>cbv)|refine And.intro ?_ ?_|exact True.intro
 next hp0_0 hp0_1=>
  subst h;exact hV.g0 (df (nt hp0_0)) (df (nt hp0_1))
 next hp1_0 hp1_1=>
  subst h;exact hV.g1 (df (nt hp1_0)) (dt (nf hp1_1))
 next hp2_0 hp2_1=>
  subst h;exact hV.g2 (dt (nf hp2_0)) (df (nt hp2_1))
 next hp3_0 hp3_1 hp3_2=>
  subst h;exact hV.g3 (dt (nf hp3_0)) (dt (nf hp3_1)) (dt hp3_2)
 next hp4_0 hp4_1 hp4_2 hp4_3=>
  subst h;exact hV.g4 (dt (nf hp4_0)) (dt (nf hp4_1)) (df hp4_2) (dt hp4_3)
 rename_i hp5_0 hp5_1 hp5_2 hp5_3
 subst h;exact hV.g5 (dt (nf hp5_0)) (dt (nf hp5_1)) (df hp5_2) (df hp5_3)
end HX

namespace HX
open Go Go.Proofs CX
set_option maxHeartbeats 4000000 in
set_option maxRecDepth 100000 in
theorem walk76 {ro A pre fn} (hE:EnvOk ⟨A,(cxE ro),ksF,sigL [(100,⟨[(false,[.int .i64]),(false,[.int .i64])],[(false,[.int .i64])],false⟩)],pre,fn⟩) {P:List (List D)->Prop} {res:List (List D)->Nat->Nat->D}
  (hv:∀(a0_0:Int) (a0_1:Int) (a1_0:Int) (a1_1:Int),P [[.i a0_0,.i a0_1],[.i a1_0,.i a1_1]]->∃(I0:Int->Int->Prop) (m0:Int->Int->Nat),V76 pre fn a0_0 a0_1 a1_0 a1_1 (res [[.i a0_0,.i a0_1],[.i a1_0,.i a1_1]]) I0 m0) :
  PureC (cxE ro) 76 ⟨[(true,[.int .i64,.int .i64]),(true,[.int .i64,.int .i64])],[(false,[.int .i64])],false⟩ P res:=by
 have h:=hE.A
 simp only [] at h
 have hinl:∀f fn,inlL [(99,Try.f99)] f=some fn->(cxE ro).fn f=some fn/\(cxE ro).ext f=none:=Inls.ok (by repeat (first |exact .nil |refine .cons rfl rfl ?_))
 refine PureC.of_vc hE hinl 6 (f:=76) (fn:=Try.f76) ⟨rfl,rfl⟩ ?_
 intro a0_0 a0_1 a1_0 a1_1 hP
 obtain ⟨R,hR⟩:∃R,res [[.i a0_0,.i a0_1],[.i a1_0,.i a1_1]]=R:=⟨_,rfl⟩
 rw [hR]
 obtain ⟨I0,m0,hV⟩:=hv a0_0 a0_1 a1_0 a1_1  hP
 rw [hR] at hV
 clear hR hP hv
 cbv
 repeat' first|(refine Br.mk (fun _=>?_) (fun _=>?_)<;>cbv)|(refine NilB.mk (fun _=>?_) ?_<;>cbv)|refine And.intro ?_ ?_|exact True.intro
 ·subst h;exact hV.g0
 ·subst h;exact hV.g1
 refine Leaf.gen fun σz hσz=>?_
 refine loopB hE hinl 6 [] [] [] (fun x:Int×Int=>[.i x.1,.i x.2]) (fun x=>I0 x.1 x.2) (fun x=>m0 x.1 x.2) (0,0) (by subst h;exact hV.i0) ?_ ?_<;>subst hσz
 ·clear hE hinl hV;cbv;(try repeat' first|rfl|assumption|constructor)
 intro ⟨x0_0,x0_1⟩ hI0 K0 hK0
 cbv
 repeat' first|(refine Br.mk (fun _=>?_) (fun _=>?_)<;>cbv)|(refine NilB.mk (fun _=>?_) ?_<;>cbv)|refine And.intro ?_ ?_|exact True.intro
 ·next a=>subst h;exact hV.g3 _ _ hI0 (dt a)
 ·next a=>subst h;exact hV.g4 _ _ hI0 (dt a)
 ·next a=>subst h;exact hV.g5 _ _ hI0 (dt a)
 ·next a b=>subst h;exact hV.g6 _ _ hI0 (dt a) (df (nt b))
 ·next a b=>subst h;exact hV.g7 _ _ hI0 (dt a) (dt (nf b))
 next p8a p8b=>
  refine hK0 (x0_0,A.add x0_1 1) _ ?_ ?_ ?_
  ·subst h;exact (hV.n8 _ _ hI0 (dt p8a) (dt (nf p8b))).1
  ·subst h;exact (hV.n8 _ _ hI0 (dt p8a) (dt (nf p8b))).2
  clear hE hinl hV hK0;cbv;(try repeat' first|rfl|assumption|constructor)
 next a=>subst h;exact hV.g9 _ _ hI0 (df a)
end HX

namespace HX
open Go Go.Proofs CX
set_option maxHeartbeats 4000000 in
set_option maxRecDepth 100000 in
theorem walk71 {ro A pre fn} (hE:EnvOk ⟨A,(cxE ro),ksF,sigL [(50,⟨[(false,[.int .i64]),(false,[.int .i64]),(false,[.int .i64])],[(false,[.bool])],false⟩),(76,⟨[(true,[.int .i64,.int .i64]),(true,[.int .i64,.int .i64])],[(false,[.int .i64])],false⟩)],pre,fn⟩) {P:List (List D)->Prop} {res:List (List D)->Nat->Nat->D}
  (hv:∀(a0:Rows) (a1_0:Int) (a1_1:Int),ShR [.int .i64,.int .i64] a0->P [[.l a0],[.i a1_0,.i a1_1]]->V71 pre fn a0 a1_0 a1_1 (res [[.l a0],[.i a1_0,.i a1_1]]) ) :
  PureC (cxE ro) 71 ⟨[(false,[.sl [.int .i64,.int .i64]]),(true,[.int .i64,.int .i64])],[(false,[.int .i64])],false⟩ P res:=by
 have h:=hE.A
 simp only [] at h
 have hinl:∀f fn,inlL [] f=some fn->(cxE ro).fn f=some fn/\(cxE ro).ext f=none:=Inls.ok (by repeat (first |exact .nil |refine .cons rfl rfl ?_))
 refine PureC.of_vc hE hinl 6 (f:=71) (fn:=Try.f71) ⟨rfl,rfl⟩ ?_
 intro a0 ha0 a1_0 a1_1 hP
 obtain ⟨R,hR⟩:∃R,res [[.l a0],[.i a1_0,.i a1_1]]=R:=⟨_,rfl⟩
 rw [hR]
 have hV:=hv a0 a1_0 a1_1 ha0 hP
 rw [hR] at hV
 clear hR hP hv
 cbv
 repeat' first|(refine Br.mk (fun _=>?_) (fun _=>?_)<;>cbv)|(refine NilB.mk (fun _=>?_) ?_<;>cbv)|refine And.intro ?_ ?_|exact True.intro
 ·subst h;exact hV.g0
 ·next a=>subst h;exact hV.g1 (nt a)
 ·next a=>subst h;exact hV.g2 (nf a)
 ·next a b=>subst h;exact hV.g3 (nf a) (nt b)
 ·next a b c=>subst h;exact hV.g4 (nf a) (nf b) (dt c)
 ·next a b c=>subst h;exact hV.g5 (nf a) (nf b) (dt c)
 ·next a b c=>subst h;exact hV.g6 (nf a) (nf b) (dt c)
 ·next a b c=>subst h;exact hV.g7 (nf a) (nf b) (dt c)
 ·next a b c=>subst h;exact hV.g8 (nf a) (nf b) (dt c)
 ·next a b c d=>subst h;exact hV.g9 (nf a) (nf b) (dt c) (dt d)
 ·next a b c d=>subst h;exact hV.g10 (nf a) (nf b) (dt c) (df d)
 next a b c=>subst h;exact hV.g11 (nf a) (nf b) (df c)
end HX

namespace HX
open Go Go.Proofs CX
set_option maxHeartbeats 4000000 in
set_option maxRecDepth 100000 in
theorem walk51 {ro A pre fn} (hE:EnvOk ⟨A,(cxE ro),ksF,sigL [(71,⟨[(false,[.sl [.int .i64,.int .i64]]),(true,[.int .i64,.int .i64])],[(false,[.int .i64])],false⟩)],pre,fn⟩) {P:List (List D)->Prop} {res:List (List D)->Nat->Nat->D}
  (hv:∀(a0:Rows),ShR [.int .i64,.int .i64] a0->P [[.l a0]]->∃(I0:Int->Int->Prop) (m0:Int->Int->Nat),V51 pre fn a0 (res [[.l a0]]) I0 m0) :
  PureC (cxE ro) 51 ⟨[(false,[.sl [.int .i64,.int .i64]])],[(false,[.int .i64])],false⟩ P res:=by
 have h:=hE.A
 simp only [] at h
 have hinl:∀f fn,inlL [] f=some fn->(cxE ro).fn f=some fn/\(cxE ro).ext f=none:=Inls.ok (by repeat (first |exact .nil |refine .cons rfl rfl ?_))
 refine PureC.of_vc hE hinl 6 (f:=51) (fn:=Try.f51) ⟨rfl,rfl⟩ ?_
 intro a0 ha0 hP
 obtain ⟨R,hR⟩:∃R,res [[.l a0]]=R:=⟨_,rfl⟩
 rw [hR]
 obtain ⟨I0,m0,hV⟩:=hv a0 ha0 hP
 rw [hR] at hV
 clear hR hP hv
 cbv
 repeat' first|(refine Br.mk (fun _=>?_) (fun _=>?_)<;>cbv)|(refine NilB.mk (fun _=>?_) ?_<;>cbv)|refine And.intro ?_ ?_|exact True.intro
 ·next a=>subst h;exact hV.g0 (dt a)
 rename_i p1a
 refine Leaf.gen fun σz hσz=>?_
 refine loopB hE hinl 6 [] [] [] (fun x:Int×Int=>[.i x.1,.i x.2]) (fun x=>I0 x.1 x.2) (fun x=>m0 x.1 x.2) (0,0) (by subst h;exact hV.i0 (df p1a)) ?_ ?_<;>subst hσz
 ·clear hE hinl hV;cbv;(try repeat' first|rfl|assumption|constructor)
 intro ⟨x0_0,x0_1⟩ hI0 K0 hK0
 cbv
 repeat' first|(refine Br.mk (fun _=>?_) (fun _=>?_)<;>cbv)|(refine NilB.mk (fun _=>?_) ?_<;>cbv)|refine And.intro ?_ ?_|exact True.intro
 ·next a=>subst h;exact hV.g2 _ _ hI0 (df p1a) (dt a)
 ·next a=>subst h;exact hV.g3 _ _ hI0 (df p1a) (dt a)
 ·next a=>subst h;exact hV.g4 _ _ hI0 (df p1a) (dt a)
 ·next a=>subst h;exact hV.g2 _ _ hI0 (df p1a) (dt a)
 ·next a=>subst h;exact hV.g6 _ _ hI0 (df p1a) (dt a)
 ·next a=>subst h;exact hV.g7 _ _ hI0 (df p1a) (dt a)
 ·next a b=>subst h;exact hV.g8 _ _ hI0 (df p1a) (dt a) (df (nt b))
 ·next a b=>subst h;exact hV.g9 _ _ hI0 (df p1a) (dt a) (dt (nf b))
 next p10a p10b=>
  refine hK0 (x0_0,A.add x0_1 1) _ ?_ ?_ ?_
  ·subst h;exact (hV.n10 _ _ hI0 (df p1a) (dt p10a) (dt (nf p10b))).1
  ·subst h;exact (hV.n10 _ _ hI0 (df p1a) (dt p10a) (dt (nf p10b))).2
  clear hE hinl hV hK0;cbv;(try repeat' first|rfl|assumption|constructor)
 next a=>subst h;exact hV.g11 _ _ hI0 (df p1a) (df a)
end HX

namespace HX
open Go CX
def headId:Code->Nat
 |.region id _ _=>id
 |.seq a _=>headId a
 |.block _ b=>headId b
 |_=>0
def memB:List Nat->Nat->Bool
 |[],_=>false
 |a :: r,x=>match beqN a x with
  |true=>true
  |false=>memB r x
def vcJ (E:Env) (rd:Option Nat) (lo:Nat) (ci:CI) (js:List Nat):Code->(Ex->St->Prop)->St->Prop
 |.seq a b,Q,σ=>vcJ E rd lo ci js a (thenQ (fun σ'=>vcJ E rd lo ci js b Q σ') Q) σ
 |.block id b,Q,σ=>vcJ E rd lo ci js b (inBlockQ id Q) σ
 |.cond c a b,Q,σ=>match memB js (headId a) with
  |true=>Leaf E.E rd lo (.cond c a b) Q σ
  |false=>match evR σ.regs c with
   |.bool true=>vcJ E rd lo ci js a Q σ
   |.bool false=>vcJ E rd lo ci js b Q σ
   |.sym p=>Br p (fun _=>vcJ E rd lo ci js a Q (knowO σ c true)) (fun _=>vcJ E rd lo ci js b Q (knowO σ c false))
   |_=>StuckC (.cond c .skip .skip) σ
 |.region id ops draw,Q,σ=>match memB js id with
  |true=>Leaf E.E rd lo (.region id ops draw) Q σ
  |false=>vc E rd lo ci (.region id ops draw) Q σ
 |c,Q,σ=>vc E rd lo ci c Q σ
section
variable {E:Env} (hE:EnvOk E)
include hE
theorem vcJ_ok {ci:CI} (hci:CIOk E.E ci) (js:List Nat) {rd:Option Nat} {lo:Nat}:∀(c:Code) (Q:Ex->St->Prop) (σ:St),vcJ E rd lo ci js c Q σ->SWP E.E rd lo c Q σ
 |.seq a b,Q,σ,h=>fun C S hS hlo hrd=>by
  obtain ⟨e,S1,C1,σ1,k1,k2,k3,k4⟩:=vcJ_ok hci js a _ σ h C S hS hlo hrd
  cases e with
  |normal=>
   obtain ⟨e,S2,C2,σ2,l1,l2,l3,l4⟩:=vcJ_ok hci js b Q σ1 k4 C1 S1 k2 k3.m.le hrd
   refine ⟨e,S2,C2,σ2,(k1.and l1).succ fun n hn=>?_,l2,k3.trans l3,l4⟩
   show cxBody E.E (cx E.E n) (rd.map C.ids) (.seq a b) S=_
   have hn2:=hn.2
   rw [rd_ag hE hrd k3.m.ag] at hn2
   simp only [cxBody,hn.1,hn2]
  |ret=>
   refine ⟨.ret,S1,C1,σ1,k1.succ fun n hn=>?_,k2,k3,k4⟩
   show cxBody E.E (cx E.E n) (rd.map C.ids) (.seq a b) S=_
   simp only [cxBody,hn]
  |exit i=>
   refine ⟨.exit i,S1,C1,σ1,k1.succ fun n hn=>?_,k2,k3,k4⟩
   show cxBody E.E (cx E.E n) (rd.map C.ids) (.seq a b) S=_
   simp only [cxBody,hn]
 |.block id b,Q,σ,h=>fun C S hS hlo hrd=>by
  obtain ⟨e,S1,C1,σ1,k1,k2,k3,k4⟩:=vcJ_ok hci js b _ σ h C S hS hlo hrd
  cases e with
  |normal=>
   refine ⟨.normal,S1,C1,σ1,k1.succ fun n hn=>?_,k2,k3,k4⟩
   show cxBody E.E (cx E.E n) (rd.map C.ids) (.block id b) S=_
   simp only [cxBody,hn]
  |ret=>
   refine ⟨.ret,S1,C1,σ1,k1.succ fun n hn=>?_,k2,k3,k4⟩
   show cxBody E.E (cx E.E n) (rd.map C.ids) (.block id b) S=_
   simp only [cxBody,hn]
  |exit i=>
   simp only [inBlockQ] at k4
   split at k4
   next hb=>
    simp only [beqN_iff] at hb
    refine ⟨.normal,S1,C1,σ1,k1.succ fun n hn=>?_,k2,k3,k4⟩
    show cxBody E.E (cx E.E n) (rd.map C.ids) (.block id b) S=_
    simp only [cxBody,hn,hb,xH]
   rename_i hb
   simp only [beqN_not] at hb
   refine ⟨.exit i,S1,C1,σ1,k1.succ fun n hn=>?_,k2,k3,k4⟩
   show cxBody E.E (cx E.E n) (rd.map C.ids) (.block id b) S=_
   have hne:Nat.beq i id=false:=by
    cases he:Nat.beq i id with
    |true=>exact absurd (zS he) hb
    |false=>rfl
   simp only [cxBody,hn,hne]
 |.cond c a b,Q,σ,h=>fun C S hS hlo hrd=>by
  simp only [vcJ] at h
  split at h
  ·exact h.out C S hS hlo hrd
  have hx:=evR_ok hS.regs
  have go:∀(bb:Bool) (σ:St),Sim C σ S->lo<=σ.next->CX.evR S.regs c=some (.bool bb)->(match bb with |true=>vcJ E rd lo ci js a Q σ |false=>vcJ E rd lo ci js b Q σ)->∃e S' C' σ',Evt (fun n=>cx E.E n (rd.map C.ids) (.cond c a b) S=some (e,S'))/\Sim C' σ' S'/\Ext lo C σ S C' σ' S'/\Q e σ':=by
   intro bb σ hS hlo hb h
   cases bb with
   |true=>
    obtain ⟨e,S1,C1,σ1,k1,k2,k3,k4⟩:=vcJ_ok hci js a Q σ h C S hS hlo hrd
    refine ⟨e,S1,C1,σ1,k1.succ fun n hn=>?_,k2,k3,k4⟩
    show cxBody E.E (cx E.E n) (rd.map C.ids) (.cond c a b) S=_
    simp only [cxBody,hb,hn]
   |false=>
    obtain ⟨e,S1,C1,σ1,k1,k2,k3,k4⟩:=vcJ_ok hci js b Q σ h C S hS hlo hrd
    refine ⟨e,S1,C1,σ1,k1.succ fun n hn=>?_,k2,k3,k4⟩
    show cxBody E.E (cx E.E n) (rd.map C.ids) (.cond c a b) S=_
    simp only [cxBody,hb,hn]
  have kn:∀bb,CX.evR S.regs c=some (.bool bb)->Sim C (knowO σ c bb) S/\lo<=(knowO σ c bb).next/\Ext lo C σ S C (knowO σ c bb) S:=by
   intro bb hb
   unfold knowO
   split
   ·exact ⟨⟨hS.nt,know_ok hS.regs hb,hS.m,hS.df,hS.dflt⟩,hlo,(MExt.refl _ _ _ _ _).less hlo,rfl,fun _ h=>.inl h⟩
   exact ⟨hS,hlo,Ext.refl _ _ _ hlo⟩
  split at h
  next he=>
   obtain ⟨v,v1,v2⟩:=hx.get he (by intro e;cases e)
   simp only [RvS] at v2
   subst v2
   exact go true σ hS hlo v1 h
  next he=>
   obtain ⟨v,v1,v2⟩:=hx.get he (by intro e;cases e)
   simp only [RvS] at v2
   subst v2
   exact go false σ hS hlo v1 h
  next p he=>
   obtain ⟨v,v1,v2⟩:=hx.get he (by intro e;cases e)
   simp only [RvS] at v2
   subst v2
   cases hp:p with
   |true=>rw [hp] at v1;exact let ⟨e,S',C',σ',k1,k2,k3,k4⟩:=go true (knowO σ c true) (kn true v1).1 (kn true v1).2.1 v1 (h.t hp);⟨e,S',C',σ',k1,k2,(kn true v1).2.2.trans k3,k4⟩
   |false=>rw [hp] at v1;exact let ⟨e,S',C',σ',k1,k2,k3,k4⟩:=go false (knowO σ c false) (kn false v1).1 (kn false v1).2.1 v1 (h.e hp);⟨e,S',C',σ',k1,k2,(kn false v1).2.2.trans k3,k4⟩
  exact h.out.elim
 |.region id ops draw,Q,σ,h=>by
  simp only [vcJ] at h
  split at h
  ·exact h.out
  exact vc_ok hE hci _ Q σ h
 |.skip,Q,σ,h=>vc_ok hE hci _ Q σ h
 |.label _,Q,σ,h=>vc_ok hE hci _ Q σ h
 |.ret,Q,σ,h=>vc_ok hE hci _ Q σ h
 |.exit _,Q,σ,h=>vc_ok hE hci _ Q σ h
 |.loop _,Q,σ,h=>vc_ok hE hci _ Q σ h
 |.rangeFunc ..,Q,σ,h=>vc_ok hE hci _ Q σ h
 |.scope ..,Q,σ,h=>vc_ok hE hci _ Q σ h
 |.goto ..,Q,σ,h=>vc_ok hE hci _ Q σ h
 |.refuse ..,Q,σ,h=>vc_ok hE hci _ Q σ h
end
def killL (kl:List Nat):List (Nat×SV)->List (Nat×SV)
 |[]=>[]
 |(t,v) :: r=>match memB kl t with
  |true=>killL kl r
  |false=>(t,v) :: killL kl r
def killR (kl:List Nat) (σ:St):St:=⟨σ.nt,killL kl σ.regs,σ.objs,σ.next,σ.df⟩
theorem joinB {E:Env} (hE:EnvOk E) {inl:Nat->Option Func} (hinl:∀f fn,inl f=some fn->E.E.fn f=some fn/\E.E.ext f=none) {rd:Option Nat} {lo:Nat} (n:Nat) (kl fz drop:List Nat) (names:List (Nat×List Nat)) {c:Code} {Q:Ex->St->Prop} {σ:St} {X:Type} (vals:X->List D) (J:X->Prop)
  (run:∀K:St->Prop,(∀x σ',J x->subP lo (frzT fz σ') (updT E lo c (killR kl (frzT fz σ)) drop names (vals x))->K σ')->vc E rd lo (ciN E inl n) c (thenQ K Q) σ)
  (cont:∀x,J x->Q .normal (updT E lo c (killR kl (frzT fz σ)) drop names (vals x))):Leaf E.E rd lo c Q σ:=by
 refine ⟨fun C S hS hlo hrd=>?_⟩
 obtain ⟨e,S1,C1,σ1,k1,k2,k3,k4⟩:=vc_ok hE (ciN_ok hE hinl n) c _ σ (run (fun σ'=>∃x,J x/\Sub lo σ' (updT E lo c (killR kl (frzT fz σ)) drop names (vals x))) fun x σ' h1 h2=>⟨x,h1,(subP_ok h2).frz fz⟩) C S hS hlo hrd
 cases e with
 |normal=>
  obtain ⟨x,hx,hs⟩:=k4
  obtain ⟨C2,s1,s2⟩:=hs _ C1 S1 k2 k3.m.le
  exact ⟨.normal,S1,C2,_,k1,s1,k3.trans s2,cont x hx⟩
 |ret=>exact ⟨_,S1,C1,σ1,k1,k2,k3,k4⟩
 |exit i=>exact ⟨_,S1,C1,σ1,k1,k2,k3,k4⟩
def addR (nr:List (Nat×SV)) (σ:St):St:=⟨σ.nt,nr++σ.regs,σ.objs,σ.next,σ.df⟩
theorem joinR {E:Env} (hE:EnvOk E) {inl:Nat->Option Func} (hinl:∀f fn,inl f=some fn->E.E.fn f=some fn/\E.E.ext f=none) {rd:Option Nat} {lo:Nat} (n:Nat) (kl fz drop:List Nat) (nr:List (Nat×SV)) (names:List (Nat×List Nat)) {c:Code} {Q:Ex->St->Prop} {σ:St} {X:Type} (vals:X->List D) (J:X->Prop)
  (run:∀K:St->Prop,(∀x σ',J x->subP lo (frzT fz σ') (updT E lo c (addR nr (killR kl (frzT fz σ))) drop names (vals x))->K σ')->vc E rd lo (ciN E inl n) c (thenQ K Q) σ)
  (cont:∀x,J x->Q .normal (updT E lo c (addR nr (killR kl (frzT fz σ))) drop names (vals x))):Leaf E.E rd lo c Q σ:=by
 refine ⟨fun C S hS hlo hrd=>?_⟩
 obtain ⟨e,S1,C1,σ1,k1,k2,k3,k4⟩:=vc_ok hE (ciN_ok hE hinl n) c _ σ (run (fun σ'=>∃x,J x/\Sub lo σ' (updT E lo c (addR nr (killR kl (frzT fz σ))) drop names (vals x))) fun x σ' h1 h2=>⟨x,h1,(subP_ok h2).frz fz⟩) C S hS hlo hrd
 cases e with
 |normal=>
  obtain ⟨x,hx,hs⟩:=k4
  obtain ⟨C2,s1,s2⟩:=hs _ C1 S1 k2 k3.m.le
  exact ⟨.normal,S1,C2,_,k1,s1,k3.trans s2,cont x hx⟩
 |ret=>exact ⟨_,S1,C1,σ1,k1,k2,k3,k4⟩
 |exit i=>exact ⟨_,S1,C1,σ1,k1,k2,k3,k4⟩
theorem loopBJ {E:Env} (hE:EnvOk E) (js:List Nat) {inl:Nat->Option Func} (hinl:∀f fn,inl f=some fn->E.E.fn f=some fn/\E.E.ext f=none) {rd:Option Nat} {lo:Nat} (n:Nat) (fz drop:List Nat) (names:List (Nat×List Nat)) {c:Code} {Q:Ex->St->Prop} {σ:St} {X:Type} (vals:X->List D) (Inv:X->Prop) (μ:X->Nat) (x0:X) (h0:Inv x0)
  (hs:subP lo (frzT fz σ) (updT E lo c (frzT fz σ) drop names (vals x0)))
  (round:∀x,Inv x->∀K:St->Prop,(∀x' σ',Inv x'->μ x' < μ x->subP lo (frzT fz σ') (updT E lo c (frzT fz σ) drop names (vals x'))->K σ')->vcJ E rd lo (ciN E inl n) js c (endQ K Q) (updT E lo c (frzT fz σ) drop names (vals x))) :
  Leaf E.E rd lo (.loop c) Q σ:=by
 refine ⟨loop_ok (fun x=>updT E lo c (frzT fz σ) drop names (vals x)) Inv μ x0 h0 ((subP_ok hs).frz fz) (fun _=>updT_lo) fun x hx=>?_⟩
 have e:loopQ lo (fun x=>updT E lo c (frzT fz σ) drop names (vals x)) Inv μ Q x=endQ (fun σ'=>∃x',Inv x'/\μ x' < μ x/\Sub lo σ' (updT E lo c (frzT fz σ) drop names (vals x'))) Q:=by
  funext e σ'
  cases e<;>rfl
 rw [e]
 exact vcJ_ok hE (ciN_ok hE hinl n) js c _ _ (round x hx _ fun x' σ' h1 h2 h3=>⟨x',h1,h2,(subP_ok h3).frz fz⟩)
def fnVCJ (js:List Nat) (b0 n0:Nat) (E:Env) (inl:Nat->Option Func) (n:Nat) (fn:Func) (sg:Sig) (r:Nat->Nat->D) (ds:List (List D)):Prop:=
 match fn.body with
 |some c=>match argsSV b0 sg.params ds with
  |some vs=>match bleN vs.length fn.ntmps with
   |true=>vcJ E none 0 (ciN E inl n) js c (retX E fn sg r) ⟨fn.ntmps,enterS 0 vs,[],n0,[]⟩
   |false=>False
  |none=>False
 |none=>False
theorem of_vcGJ {E:Env} (hE:EnvOk E) (js:List Nat) {inl:Nat->Option Func} (hinl:∀f fn,inl f=some fn->E.E.fn f=some fn/\E.E.ext f=none) (n:Nat) {f:Nat} {fn:Func} {sg:Sig} {pre:List (List D)->Prop} {res:List (List D)->Nat->Nat->D} (hf:E.E.fn f=some fn/\E.E.ext f=none)
  (b0 n0:Nat) (hb0:b0<=n0) (h:allA sg.params fun ds=>pre ds->fnVCJ js b0 n0 E inl n fn sg (res ds) ds) {ds:List (List D)} (hpre:pre ds) {g:Nat->Option O} {bar nx:Nat} {hp:T O} {args:List V} (C:Cx E.E.ro) (hCg:C.g=g) (hM:MSim C [] n0 bar hp.get nx)
  (hargs:ArgsFz E.E.ro C.g (C.bd b0) sg.params ds args) :
  ∃(vs:List V) (h':T O) (nx':Nat) (g':Nat->Option O),Evt (fun n=>∀k,callF E.E (cx E.E n) bar hp nx f args k=k (CX.one vs) h' nx')/\nx<=nx'/\(∀id,id < nx->h'.get id=hp.get id)/\(∀id o,g id=some o->g' id=some o)/\
   (∀id o,g' id=some o->(id < nx'/\h'.get id=some o)/\(g id=some o\/nx<=id))/\ResFz E.E.ro g' nx' (res ds) sg.results 0 vs:=by
 subst hCg
 have hvc:=allA_ok h hargs hpre
 unfold fnVCJ at hvc
 split at hvc
 rotate_left
 ·exact hvc.elim
 rename_i c hc
 split at hvc
 rotate_left
 ·exact hvc.elim
 rename_i vs hvs
 split at hvc
 rotate_left
 ·exact hvc.elim
 rename_i hle
 simp only [bleN_iff] at hle
 have hrel:RvSL C n0 vs args:=argsSV_ok hb0 hvs hargs
 obtain ⟨t',t1,t2⟩:=enter_ok (C:=C) (n:=n0) _ _ 0 .e [] hrel (fun t s h=>by simp [look] at h) (fun j s h=>by simp [look] at h)
 obtain ⟨e,S',C',σ',k1,k2,k3,k4⟩:=vcJ_ok hE (ciN_ok hE hinl n) js (rd:=none) (lo:=0) c _ _ hvc C ⟨fn.ntmps,bar,t',hp,nx,[]⟩ ⟨rfl,fun j s hl=>.inr (t2 j s hl),hM,.nil,fun d hd=>by cases hd⟩ (xZ _) (fun l hl=>by cases hl)
 have none0:∀id,¬OwnId C [] id:=fun id h=>by obtain ⟨_,_,hl,_⟩:=h;simp [look] at hl
 have fin:retRP E fn sg (res ds) σ'->(e=.normal\/e=.ret)->∃(vs:List V) (h':T O) (nx':Nat) (g':Nat->Option O),Evt (fun n=>∀k,callF E.E (cx E.E n) bar hp nx f args k=k (CX.one vs) h' nx')/\nx<=nx'/\(∀id,id < nx->h'.get id=hp.get id)/\(∀id o,C.g id=some o->g' id=some o)/\
   (∀id o,g' id=some o->(id < nx'/\h'.get id=some o)/\(C.g id=some o\/nx<=id))/\ResFz E.E.ro g' nx' (res ds) sg.results 0 vs:=by
  intro hr he
  unfold retRP at hr
  split at hr
  rotate_left
  ·exact hr.out.elim
  rename_i objs ho
  split at hr
  rotate_left
  ·exact hr.out.elim
  rename_i rs hrs
  unfold retD at hr
  split at hr
  rotate_left
  ·exact hr.out.elim
  rename_i ds' hds
  obtain ⟨h',t1',t2',t3'⟩:=take_ok S'.df σ'.df σ'.objs objs S'.h ho k2.m k2.df k2.dflt
  obtain ⟨x,x1,x2⟩:=resAll_ok (σ:=σ'.mem objs σ'.next) hE t2' k2.regs fn.results.toList hrs
  obtain ⟨C2,m2,e2⟩:=t2'.frzL (rs.map whole)
  have hA:=argsD_ok hE.A (σ:=σ'.mem (frzL objs (rs.map whole)) σ'.next) m2 (fun _ _ h=>h) (fun e=>by cases e) hds (RvSL.ag e2.ag (zB _) _ _ x1)
  have hext:MExt C [] 0 hp.get nx C2 (frzL objs (rs.map whole)) σ'.next h'.get S'.nx:=yext (k3.m.took t3' (fun i hi=>(k3.df i hi).resolve_left (by intro h;cases h))) (MExt.refl _ _ _ _ _) ((MExt.refl _ _ _ _ _).less (xZ _)) e2
  have hbar':S'.bar=bar:=k3.bar
  refine ⟨x,h',S'.nx,C2.g,k1.mono fun n hn k=>?_,hext.nxle,fun id hid=>hext.keep id hid (none0 id),fun id o hgo=>hext.ag.g id o hgo,fun id o hgo=>⟨m2.fz id o hgo,?_⟩,eqRes_ok (allP_ok _ hr) hA⟩
  ·have hlen:Nat.ble (CX.len args) fn.ntmps=true:=bleT (by rw [len_eq,hrel.length];exact hle)
   have hn':cx E.E n none c ⟨fn.ntmps,bar,t',hp,nx,[]⟩=some (e,S'):=hn
   have hrun:outV (takeDf bar S'.df S'.h fun h=>resultsX E.E S'.regs h fn.results.toList fun l=>retV (CX.one l) h S'.nx) k=k (CX.one x) h' S'.nx:=by
    rw [<-hbar',t1',x2];rfl
   simp only [callF,hf.1,hf.2,hc,hlen,t1,hn']
   rcases he with rfl |rfl<;>exact hrun
  rcases hext.g id o hgo with h |h |h
  ·exact .inl h
  ·exact absurd h (none0 id)
  exact .inr h
 cases e with
 |normal=>exact fin k4 (.inl rfl)
 |ret=>exact fin k4 (.inr rfl)
 |exit i=>exact (StuckR.out k4).elim
theorem PureC.of_vcJ {E:Env} (hE:EnvOk E) (js:List Nat) {inl:Nat->Option Func} (hinl:∀f fn,inl f=some fn->E.E.fn f=some fn/\E.E.ext f=none) (n:Nat) {f:Nat} {fn:Func} {sg:Sig} {pre:List (List D)->Prop} {res:List (List D)->Nat->Nat->D} (hf:E.E.fn f=some fn/\E.E.ext f=none)
  (h:allA sg.params fun ds=>pre ds->fnVCJ js 1 1 E inl n fn sg (res ds) ds):PureC E.E f sg pre res:=by
 intro ds hpre g bar nx hp args hg hbar hargs
 refine of_vcGJ hE js hinl n hf 1 1 (zB _) h hpre (bar:=bar) ⟨fun _=>0,fun _=>.nils,g,fun b=>if b=0 then 0 else nx⟩ rfl ?_ hargs
 exact ⟨fun _ _ h=>by simp [look] at h,fun _ _ h=>by simp [look] at h,fun _ _ h=>by simp [look] at h,fun _ _ _ _ h=>by simp [look] at h,hg,fun b _=>by show (if b=0 then 0 else nx)<=nx;split<;>omega,rfl,hbar,rfl⟩
end HX

namespace HX
open Go Go.Proofs CX
set_option maxHeartbeats 4000000 in
set_option maxRecDepth 100000 in
set_option cbv.maxSteps 3000000 in
theorem walk63 {ro A pre fn} (hE:EnvOk ⟨A,(cxE ro),ksF,sigL [(67,⟨[(false,[.sl [.int .u8]])],[(true,[.int .u8,.int .u8])],false⟩),(92,⟨[(true,[.int .i64,.int .i64])],[(false,[.int .i64])],false⟩)],pre,fn⟩) {P:List (List D)->Prop} {res:List (List D)->Nat->Nat->D}
  (hv:∀(a0:Rows),ShR [.int .i64,.int .i64] a0->P [[.l a0]]->V63 pre fn a0 (res [[.l a0]])) :
  PureC (cxE ro) 63 ⟨[(false,[.sl [.int .i64,.int .i64]])],[(false,[.sl [.int .u8]])],false⟩ P res:=by
 have h:=hE.A
 simp only [] at h
 have hinl:∀f fn,inlL [(69,Try.f69),(87,Try.f87),(88,Try.f88),(93,Try.f93),(101,Try.f101)] f=some fn->(cxE ro).fn f=some fn/\(cxE ro).ext f=none:=Inls.ok (by repeat (first |exact .nil |refine .cons rfl rfl ?_))
 refine PureC.of_vcJ hE [10,12,13,14] hinl 6 (f:=63) (fn:=Try.f63) ⟨rfl,rfl⟩ ?_
 intro a0 ha0 hP
 obtain ⟨R,hR⟩:∃R,res [[.l a0]]=R:=⟨_,rfl⟩
 rw [hR]
 have hV:=hv a0 ha0 hP
 rw [hR] at hV
 clear hR hP hv
 cbv
 repeat' first|(refine Br.mk (fun _=>?_) (fun _=>?_)<;>cbv)|(refine NilB.mk (fun _=>?_) ?_<;>cbv)|refine And.intro ?_ ?_|exact True.intro
 ·subst h;exact hV.g0
 ·subst h;exact hV.g1
 refine Leaf.gen fun σz hσz=>?_
 obtain ⟨I0,m0,i0,c0⟩:V63l0 pre fn a0 R:=by subst h;exact hV.l0
 refine loopBJ hE [10,12,13,14] hinl 6 [] [] [(2,[53]),(4,[0]),(7,[0,0]),(8,[0,0]),(9,[0,0])] (fun x:Int×Rows×Int×Int×Int×Int×Int×Int×Int=>[.i x.1,D.l [[.l x.2.1]],D.l [[.i x.2.2.1]],D.l [[.i x.2.2.2.1,.i x.2.2.2.2.1]],D.l [[.i x.2.2.2.2.2.1,.i x.2.2.2.2.2.2.1]],D.l [[.i x.2.2.2.2.2.2.2.1,.i x.2.2.2.2.2.2.2.2]]]) (fun x=>I0 x.1 x.2.1 x.2.2.1 x.2.2.2.1 x.2.2.2.2.1 x.2.2.2.2.2.1 x.2.2.2.2.2.2.1 x.2.2.2.2.2.2.2.1 x.2.2.2.2.2.2.2.2) (fun x=>m0 x.1 x.2.1 x.2.2.1 x.2.2.2.1 x.2.2.2.2.1 x.2.2.2.2.2.1 x.2.2.2.2.2.2.1 x.2.2.2.2.2.2.2.1 x.2.2.2.2.2.2.2.2) (0,[[D.i 71],[D.i 83],[D.i (A.wrap IntKind.u8 (A.shr IntKind.i64 (A.nat (A.len a0)) 16))],[D.i (A.wrap IntKind.u8 (A.shr IntKind.i64 (A.nat (A.len a0)) 8))],[D.i (A.wrap IntKind.u8 (A.nat (A.len a0)))]],0,4,1,4,1,-1,0) (by subst h;exact i0) ?_ ?_<;>subst hσz
 ·clear hE hinl hV;cbv;(try repeat' first|rfl|assumption|constructor)
 intro ⟨b0,b1,b2,b3,b4,b5,b6,b7,b8⟩ hI0 K0 hK0
 have h0:=c0 _ _ _ _ _ _ _ _ _ hI0
 cbv
 repeat' first|(refine Br.mk (fun _=>?_) (fun _=>?_)<;>cbv)|(refine NilB.mk (fun _=>?_) ?_<;>cbv)|refine And.intro ?_ ?_|exact True.intro
 ·next a=>subst h;exact h0.g3 (dt a)
 ·next a=>subst h;exact h0.g4 (dt a)
 ·next a=>subst h;exact h0.g5 (dt a)
 next p6a=>
  refine Leaf.gen fun σz hσz=>?_
  obtain ⟨I1,r1,c1⟩:V63j1 pre fn a0 b0 b1 b2 b3 b4 b5 b6 b7 b8 I0 m0:=by subst h;exact h0.l1 (dt p6a)
  refine joinB hE hinl 6 [41] [] [] [] (fun x:Int=>[.i x]) (fun x=>I1 x) ?_ ?_<;>subst hσz
  ·intro K1 hK1
   cbv
   repeat' first|(refine Br.mk (fun _=>?_) (fun _=>?_)<;>cbv)|(refine NilB.mk (fun _=>?_) ?_<;>cbv)|refine And.intro ?_ ?_|exact True.intro
   ·next a=>subst h;exact r1.g7 (dt a)
   next p8a=>
    refine hK1 (A.sub (A.di (A.get a0 (A.toNat b0) 0)) b7) _ ?_ ?_
    ·subst h;exact r1.n8 (dt p8a)
    clear hE hinl hV hK1;cbv;(try repeat' first|rfl|assumption|constructor)
   rename_i p9a
   refine hK1 (A.di (A.get a0 (A.toNat b0) 0)) _ ?_ ?_
   ·subst h;exact r1.n9 (df p9a)
   clear hE hinl hV hK1;cbv;(try repeat' first|rfl|assumption|constructor)
  intro d0 hI1
  have h1:=c1 _ hI1
  cbv
  repeat' first|(refine Br.mk (fun _=>?_) (fun _=>?_)<;>cbv)|(refine NilB.mk (fun _=>?_) ?_<;>cbv)|refine And.intro ?_ ?_|exact True.intro
  refine Leaf.gen fun σz hσz=>?_
  obtain ⟨I2,r2,c2⟩:V63j2 pre fn a0 b0 b1 b2 b3 b4 b5 b6 b7 b8 d0 I0 m0:=by subst h;exact h1.l2
  refine joinB hE hinl 6 [50] [] [] [] (fun x:Int=>[.i x]) (fun x=>I2 x) ?_ ?_<;>subst hσz
  ·intro K2 hK2
   cbv
   repeat' first|(refine Br.mk (fun _=>?_) (fun _=>?_)<;>cbv)|(refine NilB.mk (fun _=>?_) ?_<;>cbv)|refine And.intro ?_ ?_|exact True.intro
   ·next a=>subst h;exact r2.g11 (dt a)
   ·next a=>subst h;exact r2.g12 (dt a)
   next p13a=>
    refine hK2 (A.sub (A.di (A.get a0 (A.toNat b0) 1)) (A.add b8 1)) _ ?_ ?_
    ·subst h;exact r2.n13 (dt p13a)
    clear hE hinl hV hK2;cbv;(try repeat' first|rfl|assumption|constructor)
   rename_i p14a
   refine hK2 (A.di (A.get a0 (A.toNat b0) 1)) _ ?_ ?_
   ·subst h;exact r2.n14 (df p14a)
   clear hE hinl hV hK2;cbv;(try repeat' first|rfl|assumption|constructor)
  intro e0 hI2
  have h2:=c2 _ hI2
  cbv
  repeat' first|(refine Br.mk (fun _=>?_) (fun _=>?_)<;>cbv)|(refine NilB.mk (fun _=>?_) ?_<;>cbv)|refine And.intro ?_ ?_|exact True.intro
  refine Leaf.gen fun σz hσz=>?_
  obtain ⟨I3,r3,c3⟩:V63j3 pre fn a0 b0 b1 b2 b3 b4 b5 b6 b7 b8 d0 e0 I0 m0:=by subst h;exact h2.l3
  refine joinB hE hinl 6 [] [] [] [(2,[0]),(4,[0]),(7,[0,0])] (fun x:Rows×Int×Int×Int=>[D.l [[.l x.1]],D.l [[.i x.2.1]],D.l [[.i x.2.2.1,.i x.2.2.2]]]) (fun x=>I3 x.1 x.2.1 x.2.2.1 x.2.2.2) ?_ ?_<;>subst hσz
  ·intro K3 hK3
   cbv
   repeat' first|(refine Br.mk (fun _=>?_) (fun _=>?_)<;>cbv)|(refine NilB.mk (fun _=>?_) ?_<;>cbv)|refine And.intro ?_ ?_|exact True.intro
   ·subst h;exact r3.g16
   ·subst h;exact r3.g17
   ·next a=>subst h;exact r3.g18 (dt a)
   ·next a=>subst h;exact r3.g19 (dt a)
   ·next a=>subst h;exact r3.g20 (dt a)
   ·next a=>subst h;exact r3.g18 (dt a)
   ·next a=>subst h;exact r3.g22 (dt a)
   next p23a=>
    refine Leaf.gen fun σz hσz=>?_
    obtain ⟨I4,m4,i4,c4⟩:V63l4 fn b1 b2 b3 b4 d0 I3:=by subst h;exact r3.l4 (dt p23a)
    refine loopBJ hE [10,12,13,14] hinl 6 [] [] [(2,[0]),(4,[0])] (fun x:Int×Rows×Int=>[.i x.1,D.l [[.l x.2.1]],D.l [[.i x.2.2]]]) (fun x=>I4 x.1 x.2.1 x.2.2) (fun x=>m4 x.1 x.2.1 x.2.2) (A.sub (A.add (A.shr IntKind.i64 d0 (A.di (fn 92 [[D.i b3,D.i b4]] 0 0))) 1) 1,b1,b2) (by subst h;exact i4) ?_ ?_<;>subst hσz
    ·clear hE hinl hV;cbv;(try repeat' first|rfl|assumption|constructor)
    intro ⟨j0,j1,j2⟩ hI4 K4 hK4
    have h4:=c4 _ _ _ hI4
    cbv
    repeat' first|(refine Br.mk (fun _=>?_) (fun _=>?_)<;>cbv)|(refine NilB.mk (fun _=>?_) ?_<;>cbv)|refine And.intro ?_ ?_|exact True.intro
    ·next a b=>subst h;exact h4.g24 (dt a) (dt b)
    ·next a b=>subst h;exact h4.g25 (dt a) (dt b)
    ·next a b=>subst h;exact h4.g26 (dt a) (dt b)
    ·next a b=>subst h;exact h4.g27 (dt a) (dt b)
    ·next a b=>subst h;exact h4.g28 (dt a) (dt b)
    ·next a b=>subst h;exact h4.g29 (dt a) (dt b)
    ·next a b=>subst h;exact h4.g29 (dt a) (dt b)
    ·next a b=>subst h;exact h4.g31 (dt a) (dt b)
    ·next a b=>subst h;exact h4.g32 (dt a) (dt b)
    ·next a b=>subst h;exact h4.g27 (dt a) (dt b)
    ·next a b=>subst h;exact h4.g28 (dt a) (dt b)
    ·next a b=>subst h;exact h4.g29 (dt a) (dt b)
    ·next a b=>subst h;exact h4.g36 (dt a) (dt b)
    next p37a p37b=>
     refine hK4 (A.sub j0 1,A.set (A.app j1 [[D.i 0]]) (A.toNat (A.sub (A.nat (A.len (A.app j1 [[D.i 0]]))) 1)) [D.i (A.bit .or .u8 (A.di (A.get (A.app j1 [[D.i 0]]) (A.toNat (A.sub (A.nat (A.len (A.app j1 [[D.i 0]]))) 1)) 0)) (A.shl .u8 (A.wrap .u8 (A.bit .and .i64 (A.shr .i64 (A.sub (A.shl .i64 1 (A.add (A.shr .i64 d0 (A.di (fn 92 [[D.i b3,D.i b4]] 0 0))) 1)) 2) j0) 1)) (A.sub 8 1)))],A.sub 8 1) _ ?_ ?_ ?_
     ·subst h;exact (h4.n37 (dt p37a) (dt p37b)).1
     ·subst h;exact (h4.n37 (dt p37a) (dt p37b)).2
     clear hE hinl hV hK4;cbv;(try repeat' first|rfl|assumption|constructor)
    ·next a b=>subst h;exact h4.g38 (dt a) (df b)
    ·next a b=>subst h;exact h4.g39 (dt a) (df b)
    ·next a b=>subst h;exact h4.g40 (dt a) (df b)
    ·next a b=>subst h;exact h4.g41 (dt a) (df b)
    ·next a b=>subst h;exact h4.g42 (dt a) (df b)
    ·next a b=>subst h;exact h4.g42 (dt a) (df b)
    ·next a b=>subst h;exact h4.g44 (dt a) (df b)
    ·next a b=>subst h;exact h4.g45 (dt a) (df b)
    ·next a b=>subst h;exact h4.g40 (dt a) (df b)
    ·next a b=>subst h;exact h4.g41 (dt a) (df b)
    ·next a b=>subst h;exact h4.g42 (dt a) (df b)
    ·next a b=>subst h;exact h4.g49 (dt a) (df b)
    next p50a p50b=>
     refine hK4 (A.sub j0 1,A.set j1 (A.toNat (A.sub (A.nat (A.len j1)) 1)) [D.i (A.bit .or .u8 (A.di (A.get j1 (A.toNat (A.sub (A.nat (A.len j1)) 1)) 0)) (A.shl .u8 (A.wrap .u8 (A.bit .and .i64 (A.shr .i64 (A.sub (A.shl .i64 1 (A.add (A.shr .i64 d0 (A.di (fn 92 [[D.i b3,D.i b4]] 0 0))) 1)) 2) j0) 1)) (A.sub j2 1)))],A.sub j2 1) _ ?_ ?_ ?_
     ·subst h;exact (h4.n50 (dt p50a) (df p50b)).1
     ·subst h;exact (h4.n50 (dt p50a) (df p50b)).2
     clear hE hinl hV hK4;cbv;(try repeat' first|rfl|assumption|constructor)
    ·next a=>subst h;exact h4.g51 (df a)
    rename_i p52a
    refine Leaf.gen fun σz hσz=>?_
    obtain ⟨I5,m5,i5,c5⟩:V63l5 fn b3 b4 d0 j1 j2 I3:=by subst h;exact h4.l5 (df p52a)
    refine loopBJ hE [10,12,13,14] hinl 6 [] [] [(2,[0]),(4,[0])] (fun x:Int×Rows×Int=>[.i x.1,D.l [[.l x.2.1]],D.l [[.i x.2.2]]]) (fun x=>I5 x.1 x.2.1 x.2.2) (fun x=>m5 x.1 x.2.1 x.2.2) (A.sub (A.di (fn 92 [[D.i b3,D.i b4]] 0 0)) 1,j1,j2) (by subst h;exact i5) ?_ ?_<;>subst hσz
    ·clear hE hinl hV;cbv;(try repeat' first|rfl|assumption|constructor)
    intro ⟨k0,k1,k2⟩ hI5 K5 hK5
    have h5:=c5 _ _ _ hI5
    cbv
    repeat' first|(refine Br.mk (fun _=>?_) (fun _=>?_)<;>cbv)|(refine NilB.mk (fun _=>?_) ?_<;>cbv)|refine And.intro ?_ ?_|exact True.intro
    ·next a b=>subst h;exact h5.g53 (dt a) (dt b)
    ·next a b=>subst h;exact h5.g54 (dt a) (dt b)
    ·next a b=>subst h;exact h5.g55 (dt a) (dt b)
    ·next a b=>subst h;exact h5.g56 (dt a) (dt b)
    ·next a b=>subst h;exact h5.g57 (dt a) (dt b)
    ·next a b=>subst h;exact h5.g58 (dt a) (dt b)
    ·next a b=>subst h;exact h5.g58 (dt a) (dt b)
    ·next a b=>subst h;exact h5.g60 (dt a) (dt b)
    ·next a b=>subst h;exact h5.g61 (dt a) (dt b)
    ·next a b=>subst h;exact h5.g56 (dt a) (dt b)
    ·next a b=>subst h;exact h5.g57 (dt a) (dt b)
    ·next a b=>subst h;exact h5.g58 (dt a) (dt b)
    ·next a b=>subst h;exact h5.g65 (dt a) (dt b)
    next p66a p66b=>
     refine hK5 (A.sub k0 1,A.set (A.app k1 [[D.i 0]]) (A.toNat (A.sub (A.nat (A.len (A.app k1 [[D.i 0]]))) 1)) [D.i (A.bit .or .u8 (A.di (A.get (A.app k1 [[D.i 0]]) (A.toNat (A.sub (A.nat (A.len (A.app k1 [[D.i 0]]))) 1)) 0)) (A.shl .u8 (A.wrap .u8 (A.bit .and .i64 (A.shr .i64 d0 k0) 1)) (A.sub 8 1)))],A.sub 8 1) _ ?_ ?_ ?_
     ·subst h;exact (h5.n66 (dt p66a) (dt p66b)).1
     ·subst h;exact (h5.n66 (dt p66a) (dt p66b)).2
     clear hE hinl hV hK5;cbv;(try repeat' first|rfl|assumption|constructor)
    ·next a b=>subst h;exact h5.g67 (dt a) (df b)
    ·next a b=>subst h;exact h5.g68 (dt a) (df b)
    ·next a b=>subst h;exact h5.g69 (dt a) (df b)
    ·next a b=>subst h;exact h5.g70 (dt a) (df b)
    ·next a b=>subst h;exact h5.g71 (dt a) (df b)
    ·next a b=>subst h;exact h5.g71 (dt a) (df b)
    ·next a b=>subst h;exact h5.g73 (dt a) (df b)
    ·next a b=>subst h;exact h5.g74 (dt a) (df b)
    ·next a b=>subst h;exact h5.g69 (dt a) (df b)
    ·next a b=>subst h;exact h5.g70 (dt a) (df b)
    ·next a b=>subst h;exact h5.g71 (dt a) (df b)
    ·next a b=>subst h;exact h5.g78 (dt a) (df b)
    next p79a p79b=>
     refine hK5 (A.sub k0 1,A.set k1 (A.toNat (A.sub (A.nat (A.len k1)) 1)) [D.i (A.bit .or .u8 (A.di (A.get k1 (A.toNat (A.sub (A.nat (A.len k1)) 1)) 0)) (A.shl .u8 (A.wrap .u8 (A.bit .and .i64 (A.shr .i64 d0 k0) 1)) (A.sub k2 1)))],A.sub k2 1) _ ?_ ?_ ?_
     ·subst h;exact (h5.n79 (dt p79a) (df p79b)).1
     ·subst h;exact (h5.n79 (dt p79a) (df p79b)).2
     clear hE hinl hV hK5;cbv;(try repeat' first|rfl|assumption|constructor)
    ·next a=>subst h;exact h5.g80 (df a)
    ·next a=>subst h;exact h5.g81 (df a)
    ·next a b=>subst h;exact h5.g82 (df a) (dt b)
    ·next a b=>subst h;exact h5.g83 (df a) (dt b)
    ·next a b=>subst h;exact h5.g82 (df a) (dt b)
    ·next a b=>subst h;exact h5.g85 (df a) (dt b)
    next p86a p86b=>
     refine hK3 (k1,k2,A.tdiv (A.add b3 d0) 2,A.tdiv (A.add b4 1) 2) _ ?_ ?_
     ·subst h;exact h5.n86 (df p86a) (dt p86b)
     clear hE hinl hV hK3;cbv;(try repeat' first|rfl|assumption|constructor)
    rename_i p87a p87b
    refine hK3 (k1,k2,A.add b3 d0,A.add b4 1) _ ?_ ?_
    ·subst h;exact h5.n87 (df p87a) (df p87b)
    clear hE hinl hV hK3;cbv;(try repeat' first|rfl|assumption|constructor)
   ·next a=>subst h;exact r3.g88 (df a)
   rename_i p89a
   refine Leaf.gen fun σz hσz=>?_
   obtain ⟨I6,m6,i6,c6⟩:V63l6 b1 b2 b3 b4 d0 I3:=by subst h;exact r3.l6 (df p89a)
   refine loopBJ hE [10,12,13,14] hinl 6 [] [] [(2,[0]),(4,[0])] (fun x:Int×Rows×Int=>[.i x.1,D.l [[.l x.2.1]],D.l [[.i x.2.2]]]) (fun x=>I6 x.1 x.2.1 x.2.2) (fun x=>m6 x.1 x.2.1 x.2.2) (A.sub 24 1,b1,b2) (by subst h;exact i6) ?_ ?_<;>subst hσz
   ·clear hE hinl hV;cbv;(try repeat' first|rfl|assumption|constructor)
   intro ⟨o0,o1,o2⟩ hI6 K6 hK6
   have h6:=c6 _ _ _ hI6
   cbv
   repeat' first|(refine Br.mk (fun _=>?_) (fun _=>?_)<;>cbv)|(refine NilB.mk (fun _=>?_) ?_<;>cbv)|refine And.intro ?_ ?_|exact True.intro
   ·next a b=>subst h;exact h6.g90 (dt a) (dt b)
   ·next a b=>subst h;exact h6.g91 (dt a) (dt b)
   ·next a b=>subst h;exact h6.g92 (dt a) (dt b)
   ·next a b=>subst h;exact h6.g93 (dt a) (dt b)
   ·next a b=>subst h;exact h6.g94 (dt a) (dt b)
   ·next a b=>subst h;exact h6.g95 (dt a) (dt b)
   ·next a b=>subst h;exact h6.g95 (dt a) (dt b)
   ·next a b=>subst h;exact h6.g97 (dt a) (dt b)
   ·next a b=>subst h;exact h6.g98 (dt a) (dt b)
   ·next a b=>subst h;exact h6.g93 (dt a) (dt b)
   ·next a b=>subst h;exact h6.g94 (dt a) (dt b)
   ·next a b=>subst h;exact h6.g95 (dt a) (dt b)
   ·next a b=>subst h;exact h6.g102 (dt a) (dt b)
   next p103a p103b=>
    refine hK6 (A.sub o0 1,A.set (A.app o1 [[D.i 0]]) (A.toNat (A.sub (A.nat (A.len (A.app o1 [[D.i 0]]))) 1)) [D.i (A.bit .or .u8 (A.di (A.get (A.app o1 [[D.i 0]]) (A.toNat (A.sub (A.nat (A.len (A.app o1 [[D.i 0]]))) 1)) 0)) (A.shl .u8 (A.wrap .u8 (A.bit .and .i64 (A.shr .i64 16777215 o0) 1)) (A.sub 8 1)))],A.sub 8 1) _ ?_ ?_ ?_
    ·subst h;exact (h6.n103 (dt p103a) (dt p103b)).1
    ·subst h;exact (h6.n103 (dt p103a) (dt p103b)).2
    clear hE hinl hV hK6;cbv;(try repeat' first|rfl|assumption|constructor)
   ·next a b=>subst h;exact h6.g104 (dt a) (df b)
   ·next a b=>subst h;exact h6.g105 (dt a) (df b)
   ·next a b=>subst h;exact h6.g106 (dt a) (df b)
   ·next a b=>subst h;exact h6.g107 (dt a) (df b)
   ·next a b=>subst h;exact h6.g108 (dt a) (df b)
   ·next a b=>subst h;exact h6.g108 (dt a) (df b)
   ·next a b=>subst h;exact h6.g110 (dt a) (df b)
   ·next a b=>subst h;exact h6.g111 (dt a) (df b)
   ·next a b=>subst h;exact h6.g106 (dt a) (df b)
   ·next a b=>subst h;exact h6.g107 (dt a) (df b)
   ·next a b=>subst h;exact h6.g108 (dt a) (df b)
   ·next a b=>subst h;exact h6.g115 (dt a) (df b)
   next p116a p116b=>
    refine hK6 (A.sub o0 1,A.set o1 (A.toNat (A.sub (A.nat (A.len o1)) 1)) [D.i (A.bit .or .u8 (A.di (A.get o1 (A.toNat (A.sub (A.nat (A.len o1)) 1)) 0)) (A.shl .u8 (A.wrap .u8 (A.bit .and .i64 (A.shr .i64 16777215 o0) 1)) (A.sub o2 1)))],A.sub o2 1) _ ?_ ?_ ?_
    ·subst h;exact (h6.n116 (dt p116a) (df p116b)).1
    ·subst h;exact (h6.n116 (dt p116a) (df p116b)).2
    clear hE hinl hV hK6;cbv;(try repeat' first|rfl|assumption|constructor)
   ·next a=>subst h;exact h6.g117 (df a)
   rename_i p118a
   refine Leaf.gen fun σz hσz=>?_
   obtain ⟨I7,m7,i7,c7⟩:V63l7 b3 b4 d0 o1 o2 I3:=by subst h;exact h6.l7 (df p118a)
   refine loopBJ hE [10,12,13,14] hinl 6 [] [] [(2,[0]),(4,[0])] (fun x:Int×Rows×Int=>[.i x.1,D.l [[.l x.2.1]],D.l [[.i x.2.2]]]) (fun x=>I7 x.1 x.2.1 x.2.2) (fun x=>m7 x.1 x.2.1 x.2.2) (A.sub 31 1,o1,o2) (by subst h;exact i7) ?_ ?_<;>subst hσz
   ·clear hE hinl hV;cbv;(try repeat' first|rfl|assumption|constructor)
   intro ⟨q0,q1,q2⟩ hI7 K7 hK7
   have h7:=c7 _ _ _ hI7
   cbv
   repeat' first|(refine Br.mk (fun _=>?_) (fun _=>?_)<;>cbv)|(refine NilB.mk (fun _=>?_) ?_<;>cbv)|refine And.intro ?_ ?_|exact True.intro
   ·next a b=>subst h;exact h7.g53 (dt a) (dt b)
   ·next a b=>subst h;exact h7.g54 (dt a) (dt b)
   ·next a b=>subst h;exact h7.g55 (dt a) (dt b)
   ·next a b=>subst h;exact h7.g56 (dt a) (dt b)
   ·next a b=>subst h;exact h7.g57 (dt a) (dt b)
   ·next a b=>subst h;exact h7.g58 (dt a) (dt b)
   ·next a b=>subst h;exact h7.g58 (dt a) (dt b)
   ·next a b=>subst h;exact h7.g60 (dt a) (dt b)
   ·next a b=>subst h;exact h7.g61 (dt a) (dt b)
   ·next a b=>subst h;exact h7.g56 (dt a) (dt b)
   ·next a b=>subst h;exact h7.g57 (dt a) (dt b)
   ·next a b=>subst h;exact h7.g58 (dt a) (dt b)
   ·next a b=>subst h;exact h7.g65 (dt a) (dt b)
   next p132a p132b=>
    refine hK7 (A.sub q0 1,A.set (A.app q1 [[D.i 0]]) (A.toNat (A.sub (A.nat (A.len (A.app q1 [[D.i 0]]))) 1)) [D.i (A.bit .or .u8 (A.di (A.get (A.app q1 [[D.i 0]]) (A.toNat (A.sub (A.nat (A.len (A.app q1 [[D.i 0]]))) 1)) 0)) (A.shl .u8 (A.wrap .u8 (A.bit .and .i64 (A.shr .i64 d0 q0) 1)) (A.sub 8 1)))],A.sub 8 1) _ ?_ ?_ ?_
    ·subst h;exact (h7.n66 (dt p132a) (dt p132b)).1
    ·subst h;exact (h7.n66 (dt p132a) (dt p132b)).2
    clear hE hinl hV hK7;cbv;(try repeat' first|rfl|assumption|constructor)
   ·next a b=>subst h;exact h7.g67 (dt a) (df b)
   ·next a b=>subst h;exact h7.g68 (dt a) (df b)
   ·next a b=>subst h;exact h7.g69 (dt a) (df b)
   ·next a b=>subst h;exact h7.g70 (dt a) (df b)
   ·next a b=>subst h;exact h7.g71 (dt a) (df b)
   ·next a b=>subst h;exact h7.g71 (dt a) (df b)
   ·next a b=>subst h;exact h7.g73 (dt a) (df b)
   ·next a b=>subst h;exact h7.g74 (dt a) (df b)
   ·next a b=>subst h;exact h7.g69 (dt a) (df b)
   ·next a b=>subst h;exact h7.g70 (dt a) (df b)
   ·next a b=>subst h;exact h7.g71 (dt a) (df b)
   ·next a b=>subst h;exact h7.g78 (dt a) (df b)
   next p145a p145b=>
    refine hK7 (A.sub q0 1,A.set q1 (A.toNat (A.sub (A.nat (A.len q1)) 1)) [D.i (A.bit .or .u8 (A.di (A.get q1 (A.toNat (A.sub (A.nat (A.len q1)) 1)) 0)) (A.shl .u8 (A.wrap .u8 (A.bit .and .i64 (A.shr .i64 d0 q0) 1)) (A.sub q2 1)))],A.sub q2 1) _ ?_ ?_ ?_
    ·subst h;exact (h7.n79 (dt p145a) (df p145b)).1
    ·subst h;exact (h7.n79 (dt p145a) (df p145b)).2
    clear hE hinl hV hK7;cbv;(try repeat' first|rfl|assumption|constructor)
   ·next a=>subst h;exact h7.g80 (df a)
   ·next a=>subst h;exact h7.g81 (df a)
   ·next a b=>subst h;exact h7.g82 (df a) (dt b)
   ·next a b=>subst h;exact h7.g83 (df a) (dt b)
   ·next a b=>subst h;exact h7.g82 (df a) (dt b)
   ·next a b=>subst h;exact h7.g85 (df a) (dt b)
   next p152a p152b=>
    refine hK3 (q1,q2,A.tdiv (A.add b3 d0) 2,A.tdiv (A.add b4 1) 2) _ ?_ ?_
    ·subst h;exact h7.n86 (df p152a) (dt p152b)
    clear hE hinl hV hK3;cbv;(try repeat' first|rfl|assumption|constructor)
   rename_i p153a p153b
   refine hK3 (q1,q2,A.add b3 d0,A.add b4 1) _ ?_ ?_
   ·subst h;exact h7.n87 (df p153a) (df p153b)
   clear hE hinl hV hK3;cbv;(try repeat' first|rfl|assumption|constructor)
  intro ⟨f0,f1,f2,f3⟩ hI3
  have h3:=c3 _ _ _ _ hI3
  cbv
  repeat' first|(refine Br.mk (fun _=>?_) (fun _=>?_)<;>cbv)|(refine NilB.mk (fun _=>?_) ?_<;>cbv)|refine And.intro ?_ ?_|exact True.intro
  refine Leaf.gen fun σz hσz=>?_
  obtain ⟨I8,r8,c8⟩:V63j8 pre fn a0 b0 b1 b2 b3 b4 b5 b6 b7 b8 e0 f0 f1 f2 f3 I0 m0:=by subst h;exact h3.l8
  refine joinB hE hinl 6 [] [] [] [(2,[0]),(4,[0]),(8,[0,0])] (fun x:Rows×Int×Int×Int=>[D.l [[.l x.1]],D.l [[.i x.2.1]],D.l [[.i x.2.2.1,.i x.2.2.2]]]) (fun x=>I8 x.1 x.2.1 x.2.2.1 x.2.2.2) ?_ ?_<;>subst hσz
  ·intro K8 hK8
   cbv
   repeat' first|(refine Br.mk (fun _=>?_) (fun _=>?_)<;>cbv)|(refine NilB.mk (fun _=>?_) ?_<;>cbv)|refine And.intro ?_ ?_|exact True.intro
   ·subst h;exact r8.g16
   ·subst h;exact r8.g17
   ·next a=>subst h;exact r8.g18 (dt a)
   ·next a=>subst h;exact r8.g19 (dt a)
   ·next a=>subst h;exact r8.g20 (dt a)
   ·next a=>subst h;exact r8.g18 (dt a)
   ·next a=>subst h;exact r8.g22 (dt a)
   next p162a=>
    refine Leaf.gen fun σz hσz=>?_
    obtain ⟨I9,m9,i9,c9⟩:V63l4 fn f0 f1 b5 b6 e0 I8:=by subst h;exact r8.l4 (dt p162a)
    refine loopBJ hE [10,12,13,14] hinl 6 [] [] [(2,[0]),(4,[0])] (fun x:Int×Rows×Int=>[.i x.1,D.l [[.l x.2.1]],D.l [[.i x.2.2]]]) (fun x=>I9 x.1 x.2.1 x.2.2) (fun x=>m9 x.1 x.2.1 x.2.2) (A.sub (A.add (A.shr IntKind.i64 e0 (A.di (fn 92 [[D.i b5,D.i b6]] 0 0))) 1) 1,f0,f1) (by subst h;exact i9) ?_ ?_<;>subst hσz
    ·clear hE hinl hV;cbv;(try repeat' first|rfl|assumption|constructor)
    intro ⟨s0,s1,s2⟩ hI9 K9 hK9
    have h9:=c9 _ _ _ hI9
    cbv
    repeat' first|(refine Br.mk (fun _=>?_) (fun _=>?_)<;>cbv)|(refine NilB.mk (fun _=>?_) ?_<;>cbv)|refine And.intro ?_ ?_|exact True.intro
    ·next a b=>subst h;exact h9.g24 (dt a) (dt b)
    ·next a b=>subst h;exact h9.g25 (dt a) (dt b)
    ·next a b=>subst h;exact h9.g26 (dt a) (dt b)
    ·next a b=>subst h;exact h9.g27 (dt a) (dt b)
    ·next a b=>subst h;exact h9.g28 (dt a) (dt b)
    ·next a b=>subst h;exact h9.g29 (dt a) (dt b)
    ·next a b=>subst h;exact h9.g29 (dt a) (dt b)
    ·next a b=>subst h;exact h9.g31 (dt a) (dt b)
    ·next a b=>subst h;exact h9.g32 (dt a) (dt b)
    ·next a b=>subst h;exact h9.g27 (dt a) (dt b)
    ·next a b=>subst h;exact h9.g28 (dt a) (dt b)
    ·next a b=>subst h;exact h9.g29 (dt a) (dt b)
    ·next a b=>subst h;exact h9.g36 (dt a) (dt b)
    next p176a p176b=>
     refine hK9 (A.sub s0 1,A.set (A.app s1 [[D.i 0]]) (A.toNat (A.sub (A.nat (A.len (A.app s1 [[D.i 0]]))) 1)) [D.i (A.bit .or .u8 (A.di (A.get (A.app s1 [[D.i 0]]) (A.toNat (A.sub (A.nat (A.len (A.app s1 [[D.i 0]]))) 1)) 0)) (A.shl .u8 (A.wrap .u8 (A.bit .and .i64 (A.shr .i64 (A.sub (A.shl .i64 1 (A.add (A.shr .i64 e0 (A.di (fn 92 [[D.i b5,D.i b6]] 0 0))) 1)) 2) s0) 1)) (A.sub 8 1)))],A.sub 8 1) _ ?_ ?_ ?_
     ·subst h;exact (h9.n37 (dt p176a) (dt p176b)).1
     ·subst h;exact (h9.n37 (dt p176a) (dt p176b)).2
     clear hE hinl hV hK9;cbv;(try repeat' first|rfl|assumption|constructor)
    ·next a b=>subst h;exact h9.g38 (dt a) (df b)
    ·next a b=>subst h;exact h9.g39 (dt a) (df b)
    ·next a b=>subst h;exact h9.g40 (dt a) (df b)
    ·next a b=>subst h;exact h9.g41 (dt a) (df b)
    ·next a b=>subst h;exact h9.g42 (dt a) (df b)
    ·next a b=>subst h;exact h9.g42 (dt a) (df b)
    ·next a b=>subst h;exact h9.g44 (dt a) (df b)
    ·next a b=>subst h;exact h9.g45 (dt a) (df b)
    ·next a b=>subst h;exact h9.g40 (dt a) (df b)
    ·next a b=>subst h;exact h9.g41 (dt a) (df b)
    ·next a b=>subst h;exact h9.g42 (dt a) (df b)
    ·next a b=>subst h;exact h9.g49 (dt a) (df b)
    next p189a p189b=>
     refine hK9 (A.sub s0 1,A.set s1 (A.toNat (A.sub (A.nat (A.len s1)) 1)) [D.i (A.bit .or .u8 (A.di (A.get s1 (A.toNat (A.sub (A.nat (A.len s1)) 1)) 0)) (A.shl .u8 (A.wrap .u8 (A.bit .and .i64 (A.shr .i64 (A.sub (A.shl .i64 1 (A.add (A.shr .i64 e0 (A.di (fn 92 [[D.i b5,D.i b6]] 0 0))) 1)) 2) s0) 1)) (A.sub s2 1)))],A.sub s2 1) _ ?_ ?_ ?_
     ·subst h;exact (h9.n50 (dt p189a) (df p189b)).1
     ·subst h;exact (h9.n50 (dt p189a) (df p189b)).2
     clear hE hinl hV hK9;cbv;(try repeat' first|rfl|assumption|constructor)
    ·next a=>subst h;exact h9.g51 (df a)
    rename_i p191a
    refine Leaf.gen fun σz hσz=>?_
    obtain ⟨I10,m10,i10,c10⟩:V63l5 fn b5 b6 e0 s1 s2 I8:=by subst h;exact h9.l5 (df p191a)
    refine loopBJ hE [10,12,13,14] hinl 6 [] [] [(2,[0]),(4,[0])] (fun x:Int×Rows×Int=>[.i x.1,D.l [[.l x.2.1]],D.l [[.i x.2.2]]]) (fun x=>I10 x.1 x.2.1 x.2.2) (fun x=>m10 x.1 x.2.1 x.2.2) (A.sub (A.di (fn 92 [[D.i b5,D.i b6]] 0 0)) 1,s1,s2) (by subst h;exact i10) ?_ ?_<;>subst hσz
    ·clear hE hinl hV;cbv;(try repeat' first|rfl|assumption|constructor)
    intro ⟨t0,t1,t2⟩ hI10 K10 hK10
    have h10:=c10 _ _ _ hI10
    cbv
    repeat' first|(refine Br.mk (fun _=>?_) (fun _=>?_)<;>cbv)|(refine NilB.mk (fun _=>?_) ?_<;>cbv)|refine And.intro ?_ ?_|exact True.intro
    ·next a b=>subst h;exact h10.g53 (dt a) (dt b)
    ·next a b=>subst h;exact h10.g54 (dt a) (dt b)
    ·next a b=>subst h;exact h10.g55 (dt a) (dt b)
    ·next a b=>subst h;exact h10.g56 (dt a) (dt b)
    ·next a b=>subst h;exact h10.g57 (dt a) (dt b)
    ·next a b=>subst h;exact h10.g58 (dt a) (dt b)
    ·next a b=>subst h;exact h10.g58 (dt a) (dt b)
    ·next a b=>subst h;exact h10.g60 (dt a) (dt b)
    ·next a b=>subst h;exact h10.g61 (dt a) (dt b)
    ·next a b=>subst h;exact h10.g56 (dt a) (dt b)
    ·next a b=>subst h;exact h10.g57 (dt a) (dt b)
    ·next a b=>subst h;exact h10.g58 (dt a) (dt b)
    ·next a b=>subst h;exact h10.g65 (dt a) (dt b)
    next p205a p205b=>
     refine hK10 (A.sub t0 1,A.set (A.app t1 [[D.i 0]]) (A.toNat (A.sub (A.nat (A.len (A.app t1 [[D.i 0]]))) 1)) [D.i (A.bit .or .u8 (A.di (A.get (A.app t1 [[D.i 0]]) (A.toNat (A.sub (A.nat (A.len (A.app t1 [[D.i 0]]))) 1)) 0)) (A.shl .u8 (A.wrap .u8 (A.bit .and .i64 (A.shr .i64 e0 t0) 1)) (A.sub 8 1)))],A.sub 8 1) _ ?_ ?_ ?_
     ·subst h;exact (h10.n66 (dt p205a) (dt p205b)).1
     ·subst h;exact (h10.n66 (dt p205a) (dt p205b)).2
     clear hE hinl hV hK10;cbv;(try repeat' first|rfl|assumption|constructor)
    ·next a b=>subst h;exact h10.g67 (dt a) (df b)
    ·next a b=>subst h;exact h10.g68 (dt a) (df b)
    ·next a b=>subst h;exact h10.g69 (dt a) (df b)
    ·next a b=>subst h;exact h10.g70 (dt a) (df b)
    ·next a b=>subst h;exact h10.g71 (dt a) (df b)
    ·next a b=>subst h;exact h10.g71 (dt a) (df b)
    ·next a b=>subst h;exact h10.g73 (dt a) (df b)
    ·next a b=>subst h;exact h10.g74 (dt a) (df b)
    ·next a b=>subst h;exact h10.g69 (dt a) (df b)
    ·next a b=>subst h;exact h10.g70 (dt a) (df b)
    ·next a b=>subst h;exact h10.g71 (dt a) (df b)
    ·next a b=>subst h;exact h10.g78 (dt a) (df b)
    next p218a p218b=>
     refine hK10 (A.sub t0 1,A.set t1 (A.toNat (A.sub (A.nat (A.len t1)) 1)) [D.i (A.bit .or .u8 (A.di (A.get t1 (A.toNat (A.sub (A.nat (A.len t1)) 1)) 0)) (A.shl .u8 (A.wrap .u8 (A.bit .and .i64 (A.shr .i64 e0 t0) 1)) (A.sub t2 1)))],A.sub t2 1) _ ?_ ?_ ?_
     ·subst h;exact (h10.n79 (dt p218a) (df p218b)).1
     ·subst h;exact (h10.n79 (dt p218a) (df p218b)).2
     clear hE hinl hV hK10;cbv;(try repeat' first|rfl|assumption|constructor)
    ·next a=>subst h;exact h10.g80 (df a)
    ·next a=>subst h;exact h10.g81 (df a)
    ·next a b=>subst h;exact h10.g82 (df a) (dt b)
    ·next a b=>subst h;exact h10.g83 (df a) (dt b)
    ·next a b=>subst h;exact h10.g82 (df a) (dt b)
    ·next a b=>subst h;exact h10.g85 (df a) (dt b)
    next p225a p225b=>
     refine hK8 (t1,t2,A.tdiv (A.add b5 e0) 2,A.tdiv (A.add b6 1) 2) _ ?_ ?_
     ·subst h;exact h10.n86 (df p225a) (dt p225b)
     clear hE hinl hV hK8;cbv;(try repeat' first|rfl|assumption|constructor)
    rename_i p226a p226b
    refine hK8 (t1,t2,A.add b5 e0,A.add b6 1) _ ?_ ?_
    ·subst h;exact h10.n87 (df p226a) (df p226b)
    clear hE hinl hV hK8;cbv;(try repeat' first|rfl|assumption|constructor)
   ·next a=>subst h;exact r8.g88 (df a)
   rename_i p228a
   refine Leaf.gen fun σz hσz=>?_
   obtain ⟨I11,m11,i11,c11⟩:V63l6 f0 f1 b5 b6 e0 I8:=by subst h;exact r8.l6 (df p228a)
   refine loopBJ hE [10,12,13,14] hinl 6 [] [] [(2,[0]),(4,[0])] (fun x:Int×Rows×Int=>[.i x.1,D.l [[.l x.2.1]],D.l [[.i x.2.2]]]) (fun x=>I11 x.1 x.2.1 x.2.2) (fun x=>m11 x.1 x.2.1 x.2.2) (A.sub 24 1,f0,f1) (by subst h;exact i11) ?_ ?_<;>subst hσz
   ·clear hE hinl hV;cbv;(try repeat' first|rfl|assumption|constructor)
   intro ⟨u0,u1,u2⟩ hI11 K11 hK11
   have h11:=c11 _ _ _ hI11
   cbv
   repeat' first|(refine Br.mk (fun _=>?_) (fun _=>?_)<;>cbv)|(refine NilB.mk (fun _=>?_) ?_<;>cbv)|refine And.intro ?_ ?_|exact True.intro
   ·next a b=>subst h;exact h11.g90 (dt a) (dt b)
   ·next a b=>subst h;exact h11.g91 (dt a) (dt b)
   ·next a b=>subst h;exact h11.g92 (dt a) (dt b)
   ·next a b=>subst h;exact h11.g93 (dt a) (dt b)
   ·next a b=>subst h;exact h11.g94 (dt a) (dt b)
   ·next a b=>subst h;exact h11.g95 (dt a) (dt b)
   ·next a b=>subst h;exact h11.g95 (dt a) (dt b)
   ·next a b=>subst h;exact h11.g97 (dt a) (dt b)
   ·next a b=>subst h;exact h11.g98 (dt a) (dt b)
   ·next a b=>subst h;exact h11.g93 (dt a) (dt b)
   ·next a b=>subst h;exact h11.g94 (dt a) (dt b)
   ·next a b=>subst h;exact h11.g95 (dt a) (dt b)
   ·next a b=>subst h;exact h11.g102 (dt a) (dt b)
   next p242a p242b=>
    refine hK11 (A.sub u0 1,A.set (A.app u1 [[D.i 0]]) (A.toNat (A.sub (A.nat (A.len (A.app u1 [[D.i 0]]))) 1)) [D.i (A.bit .or .u8 (A.di (A.get (A.app u1 [[D.i 0]]) (A.toNat (A.sub (A.nat (A.len (A.app u1 [[D.i 0]]))) 1)) 0)) (A.shl .u8 (A.wrap .u8 (A.bit .and .i64 (A.shr .i64 16777215 u0) 1)) (A.sub 8 1)))],A.sub 8 1) _ ?_ ?_ ?_
    ·subst h;exact (h11.n103 (dt p242a) (dt p242b)).1
    ·subst h;exact (h11.n103 (dt p242a) (dt p242b)).2
    clear hE hinl hV hK11;cbv;(try repeat' first|rfl|assumption|constructor)
   ·next a b=>subst h;exact h11.g104 (dt a) (df b)
   ·next a b=>subst h;exact h11.g105 (dt a) (df b)
   ·next a b=>subst h;exact h11.g106 (dt a) (df b)
   ·next a b=>subst h;exact h11.g107 (dt a) (df b)
   ·next a b=>subst h;exact h11.g108 (dt a) (df b)
   ·next a b=>subst h;exact h11.g108 (dt a) (df b)
   ·next a b=>subst h;exact h11.g110 (dt a) (df b)
   ·next a b=>subst h;exact h11.g111 (dt a) (df b)
   ·next a b=>subst h;exact h11.g106 (dt a) (df b)
   ·next a b=>subst h;exact h11.g107 (dt a) (df b)
   ·next a b=>subst h;exact h11.g108 (dt a) (df b)
   ·next a b=>subst h;exact h11.g115 (dt a) (df b)
   next p255a p255b=>
    refine hK11 (A.sub u0 1,A.set u1 (A.toNat (A.sub (A.nat (A.len u1)) 1)) [D.i (A.bit .or .u8 (A.di (A.get u1 (A.toNat (A.sub (A.nat (A.len u1)) 1)) 0)) (A.shl .u8 (A.wrap .u8 (A.bit .and .i64 (A.shr .i64 16777215 u0) 1)) (A.sub u2 1)))],A.sub u2 1) _ ?_ ?_ ?_
    ·subst h;exact (h11.n116 (dt p255a) (df p255b)).1
    ·subst h;exact (h11.n116 (dt p255a) (df p255b)).2
    clear hE hinl hV hK11;cbv;(try repeat' first|rfl|assumption|constructor)
   ·next a=>subst h;exact h11.g117 (df a)
   rename_i p257a
   refine Leaf.gen fun σz hσz=>?_
   obtain ⟨I12,m12,i12,c12⟩:V63l7 b5 b6 e0 u1 u2 I8:=by subst h;exact h11.l7 (df p257a)
   refine loopBJ hE [10,12,13,14] hinl 6 [] [] [(2,[0]),(4,[0])] (fun x:Int×Rows×Int=>[.i x.1,D.l [[.l x.2.1]],D.l [[.i x.2.2]]]) (fun x=>I12 x.1 x.2.1 x.2.2) (fun x=>m12 x.1 x.2.1 x.2.2) (A.sub 31 1,u1,u2) (by subst h;exact i12) ?_ ?_<;>subst hσz
   ·clear hE hinl hV;cbv;(try repeat' first|rfl|assumption|constructor)
   intro ⟨v0,v1,v2⟩ hI12 K12 hK12
   have h12:=c12 _ _ _ hI12
   cbv
   repeat' first|(refine Br.mk (fun _=>?_) (fun _=>?_)<;>cbv)|(refine NilB.mk (fun _=>?_) ?_<;>cbv)|refine And.intro ?_ ?_|exact True.intro
   ·next a b=>subst h;exact h12.g53 (dt a) (dt b)
   ·next a b=>subst h;exact h12.g54 (dt a) (dt b)
   ·next a b=>subst h;exact h12.g55 (dt a) (dt b)
   ·next a b=>subst h;exact h12.g56 (dt a) (dt b)
   ·next a b=>subst h;exact h12.g57 (dt a) (dt b)
   ·next a b=>subst h;exact h12.g58 (dt a) (dt b)
   ·next a b=>subst h;exact h12.g58 (dt a) (dt b)
   ·next a b=>subst h;exact h12.g60 (dt a) (dt b)
   ·next a b=>subst h;exact h12.g61 (dt a) (dt b)
   ·next a b=>subst h;exact h12.g56 (dt a) (dt b)
   ·next a b=>subst h;exact h12.g57 (dt a) (dt b)
   ·next a b=>subst h;exact h12.g58 (dt a) (dt b)
   ·next a b=>subst h;exact h12.g65 (dt a) (dt b)
   next p271a p271b=>
    refine hK12 (A.sub v0 1,A.set (A.app v1 [[D.i 0]]) (A.toNat (A.sub (A.nat (A.len (A.app v1 [[D.i 0]]))) 1)) [D.i (A.bit .or .u8 (A.di (A.get (A.app v1 [[D.i 0]]) (A.toNat (A.sub (A.nat (A.len (A.app v1 [[D.i 0]]))) 1)) 0)) (A.shl .u8 (A.wrap .u8 (A.bit .and .i64 (A.shr .i64 e0 v0) 1)) (A.sub 8 1)))],A.sub 8 1) _ ?_ ?_ ?_
    ·subst h;exact (h12.n66 (dt p271a) (dt p271b)).1
    ·subst h;exact (h12.n66 (dt p271a) (dt p271b)).2
    clear hE hinl hV hK12;cbv;(try repeat' first|rfl|assumption|constructor)
   ·next a b=>subst h;exact h12.g67 (dt a) (df b)
   ·next a b=>subst h;exact h12.g68 (dt a) (df b)
   ·next a b=>subst h;exact h12.g69 (dt a) (df b)
   ·next a b=>subst h;exact h12.g70 (dt a) (df b)
   ·next a b=>subst h;exact h12.g71 (dt a) (df b)
   ·next a b=>subst h;exact h12.g71 (dt a) (df b)
   ·next a b=>subst h;exact h12.g73 (dt a) (df b)
   ·next a b=>subst h;exact h12.g74 (dt a) (df b)
   ·next a b=>subst h;exact h12.g69 (dt a) (df b)
   ·next a b=>subst h;exact h12.g70 (dt a) (df b)
   ·next a b=>subst h;exact h12.g71 (dt a) (df b)
   ·next a b=>subst h;exact h12.g78 (dt a) (df b)
   next p284a p284b=>
    refine hK12 (A.sub v0 1,A.set v1 (A.toNat (A.sub (A.nat (A.len v1)) 1)) [D.i (A.bit .or .u8 (A.di (A.get v1 (A.toNat (A.sub (A.nat (A.len v1)) 1)) 0)) (A.shl .u8 (A.wrap .u8 (A.bit .and .i64 (A.shr .i64 e0 v0) 1)) (A.sub v2 1)))],A.sub v2 1) _ ?_ ?_ ?_
    ·subst h;exact (h12.n79 (dt p284a) (df p284b)).1
    ·subst h;exact (h12.n79 (dt p284a) (df p284b)).2
    clear hE hinl hV hK12;cbv;(try repeat' first|rfl|assumption|constructor)
   ·next a=>subst h;exact h12.g80 (df a)
   ·next a=>subst h;exact h12.g81 (df a)
   ·next a b=>subst h;exact h12.g82 (df a) (dt b)
   ·next a b=>subst h;exact h12.g83 (df a) (dt b)
   ·next a b=>subst h;exact h12.g82 (df a) (dt b)
   ·next a b=>subst h;exact h12.g85 (df a) (dt b)
   next p291a p291b=>
    refine hK8 (v1,v2,A.tdiv (A.add b5 e0) 2,A.tdiv (A.add b6 1) 2) _ ?_ ?_
    ·subst h;exact h12.n86 (df p291a) (dt p291b)
    clear hE hinl hV hK8;cbv;(try repeat' first|rfl|assumption|constructor)
   rename_i p292a p292b
   refine hK8 (v1,v2,A.add b5 e0,A.add b6 1) _ ?_ ?_
   ·subst h;exact h12.n87 (df p292a) (df p292b)
   clear hE hinl hV hK8;cbv;(try repeat' first|rfl|assumption|constructor)
  intro ⟨r0,r1,r2,r3⟩ hI8
  have h8:=c8 _ _ _ _ hI8
  cbv
  repeat' first|(refine Br.mk (fun _=>?_) (fun _=>?_)<;>cbv)|(refine NilB.mk (fun _=>?_) ?_<;>cbv)|refine And.intro ?_ ?_|exact True.intro
  ·subst h;exact h8.g293
  refine hK0 (A.add b0 1,r0,r1,f2,f3,r2,r3,A.di (A.get a0 (A.toNat b0) 0),A.di (A.get a0 (A.toNat b0) 1)) _ ?_ ?_ ?_
  ·subst h;exact (h8.n294).1
  ·subst h;exact (h8.n294).2
  clear hE hinl hV hK0;cbv;(try repeat' first|rfl|assumption|constructor)
 ·next a=>subst h;exact h0.g295 (df a)
 ·next a=>subst h;exact h0.g296 (df a)
 next a=>subst h;exact h0.g297 (df a)
end HX

namespace HX
open Go Go.Proofs CX
set_option maxHeartbeats 4000000 in
set_option maxRecDepth 100000 in
theorem walk27 {ro A pre fn} (hE:EnvOk ⟨A,(cxE ro),ksF,sigL [(51,⟨[(false,[.sl [.int .i64,.int .i64]])],[(false,[.int .i64])],false⟩),(63,⟨[(false,[.sl [.int .i64,.int .i64]])],[(false,[.sl [.int .u8]])],false⟩)],pre,fn⟩) {P:List (List D)->Prop} {res:List (List D)->Nat->Nat->D}
  (hv:∀(a0:Rows),ShR [.int .i64,.int .i64] a0->P [[.l a0]]->V27 pre fn a0 (res [[.l a0]]) ) :
  PureC (cxE ro) 27 ⟨[(false,[.sl [.int .i64,.int .i64]])],[(false,[.sl [.int .u8]]),(false,[.int .i64])],false⟩ P res:=by
 have h:=hE.A
 simp only [] at h
 have hinl:∀f fn,inlL [] f=some fn->(cxE ro).fn f=some fn/\(cxE ro).ext f=none:=Inls.ok (by repeat (first |exact .nil |refine .cons rfl rfl ?_))
 refine PureC.of_vc hE hinl 6 (f:=27) (fn:=Try.f27) ⟨rfl,rfl⟩ ?_
 intro a0 ha0 hP
 obtain ⟨R,hR⟩:∃R,res [[.l a0]]=R:=⟨_,rfl⟩
 rw [hR]
 have hV:=hv a0 ha0 hP
 rw [hR] at hV
 clear hR hP hv
 cbv
 repeat' first|(refine Br.mk (fun _=>?_) (fun _=>?_)<;>cbv)|(refine NilB.mk (fun _=>?_) ?_<;>cbv)|refine And.intro ?_ ?_|exact True.intro
 ·subst h;exact hV.g0
 next hp1_0=>
  subst h;exact hV.g1 (df (nt hp1_0))
 next hp2_0=>
  subst h;exact hV.g2 (df (nt hp2_0))
 next hp3_0=>
  subst h;exact hV.g3 (dt (nf hp3_0))
 next hp4_0=>
  subst h;exact hV.g4 (dt (nf hp4_0))
 rename_i hp5_0
 subst h;exact hV.g5 (dt (nf hp5_0))
end HX
