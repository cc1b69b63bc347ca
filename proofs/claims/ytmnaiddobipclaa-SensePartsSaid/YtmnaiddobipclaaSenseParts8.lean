/-
  Texts of the executors: V10, HxJoin, W10, HxEnv, CxClose, HxBase, HxClose, HxOwn, HxCtr, PkD, PkB, V92, V63, PkL, PkM, V67, V72, V17, V50, V100, V76, V71, V51, V27, V38, PkN.
-/
import Derived.Test.YtmnaiddobipclaaSenseParts7
import Derived.WalkKit
import Derived.ProofKit
import Derived.JoinedCond
import Derived.RowKit3
import Derived.ChangeArms
import Derived.ChangeCalls
import Derived.WideKeyArgs
set_option linter.all false
namespace HX
open Go Go.Proofs CX
abbrev vZ10 (x:Int):=-9223372036854775808≤x∧x≤9223372036854775807
abbrev v10a (fn:Nat→List (List D)→Nat→Nat→D) (a0:Rows) (a1:Rows):=(D.rows (fn 31 [[D.l (D.rows (fn 38 [[D.l a0],[D.i 50]] 0 0))],[D.l (D.rows (fn 38 [[D.l a1],[D.i 50]] 0 0))]] 0 0))
abbrev v10b (fn:Nat→List (List D)→Nat→Nat→D) (a0:Rows):=(D.rows (fn 38 [[D.l a0],[D.i 50]] 0 0))
abbrev v10c (b1:Rows) (fn:Nat→List (List D)→Nat→Nat→D) (a0:Rows) (a1:Rows) (d0:Int):=(D.boo (mgetR b1 [D.i (D.int (gt (v10a fn a0 a1) d0.toNat 0)),D.i (D.int (gt (v10a fn a0 a1) d0.toNat 1))] 0 (D.b false))=true)
abbrev v10d (fn:Nat→List (List D)→Nat→Nat→D) (a0:Rows) (e0:Int) (e1:Int):=(D.rows (fn 31 [[D.l (D.rows (fn 33 [[D.l (v10b fn a0)],[D.i e0],[D.i e1]] 0 0))],[D.l (D.rows (fn 33 [[D.l (v10b fn a0)],[D.i e1],[D.i 1073741825]] 0 0))]] 0 0))
abbrev v10e (fn:Nat→List (List D)→Nat→Nat→D) (a1:Rows):=(D.rows (fn 38 [[D.l a1],[D.i 50]] 0 0))
abbrev v10f (fn:Nat→List (List D)→Nat→Nat→D) (a0:Rows) (a1:Rows) (d0:Int):=(¬(D.int (gt (v10a fn a0 a1) d0.toNat 0)) < (D.int (gt (v10a fn a0 a1) (Int.toNat (d0 - 1)) 0)))
abbrev v10g (fn:Nat→List (List D)→Nat→Nat→D) (a0:Rows) (a1:Rows):=((((v10a fn a0 a1)).length:Int))
abbrev v10h (fn:Nat→List (List D)→Nat→Nat→D) (a0:Rows) (e0:Int) (e1:Int):=(D.int (fn 31 [[D.l (D.rows (fn 33 [[D.l (v10b fn a0)],[D.i e0],[D.i e1]] 0 0))],[D.l (D.rows (fn 33 [[D.l (v10b fn a0)],[D.i e1],[D.i 1073741825]] 0 0))]] 1 0))
abbrev v10i (fn:Nat→List (List D)→Nat→Nat→D) (a0:Rows) (e0:Int):=((D.int (fn 33 [[D.l (v10b fn a0)],[D.i 0],[D.i e0]] 1 0))=0)
abbrev v10j (fn:Nat→List (List D)→Nat→Nat→D) (a0:Rows) (e1:Int):=(D.int (fn 33 [[D.l (v10b fn a0)],[D.i e1],[D.i 1073741825]] 1 0))
abbrev v10k (fn:Nat→List (List D)→Nat→Nat→D) (a0:Rows) (a1:Rows) (d0:Int):=((D.int (gt (v10a fn a0 a1) (Int.toNat (d0 - 1)) 0))=(D.int (gt (v10a fn a0 a1) d0.toNat 0)))
abbrev v10l (fn:Nat→List (List D)→Nat→Nat→D) (a0:Rows) (e0:Int) (e1:Int):=((D.int (fn 33 [[D.l (v10b fn a0)],[D.i e0],[D.i e1]] 1 0))=0)
abbrev v10m (fn:Nat→List (List D)→Nat→Nat→D) (a0:Rows) (e0:Int):=(D.rows (fn 33 [[D.l (v10b fn a0)],[D.i 0],[D.i e0]] 0 0))
abbrev v10n (fn:Nat→List (List D)→Nat→Nat→D) (a0:Rows) (a1:Rows):=((((([]++(v10b fn a0))++(v10e fn a1))).length:Int))
abbrev v10o (fn:Nat→List (List D)→Nat→Nat→D) (a0:Rows) (a1:Rows):=(D.int (fn 31 [[D.l (v10b fn a0)],[D.l (v10e fn a1)]] 1 0))
abbrev v10p (fn:Nat→List (List D)→Nat→Nat→D) (a0:Rows) (a1:Rows):=(fn 17 [[D.l (v10a fn a0 a1)],[D.l (D.rows (fn 31 [[D.l (v10e fn a1)],[D.l (v10b fn a0)]] 0 0))]] 0 0)
abbrev v10q (a0:Rows):=(¬60 < (a0.length:Int))
structure V10r2 (a2:Int) (a3:Int) (I2:Int→Int→Prop):Prop where
 n52:((Int.tmod (mxI a2 a3) 3000) < (Int.tmod (mnI a2 a3) 3000))→I2 (Int.tmod (mxI a2 a3) 3000) (Int.tmod (mnI a2 a3) 3000)
 n53:(¬(Int.tmod (mxI a2 a3) 3000) < (Int.tmod (mnI a2 a3) 3000))→I2 (Int.tmod (mnI a2 a3) 3000) (Int.tmod (mxI a2 a3) 3000)
structure V10c2 (pre:Nat→List (List D)→Prop) (fn:Nat→List (List D)→Nat→Nat→D) (a0:Rows) (a1:Rows) (R:Nat→Nat→D) (b1:Rows) (e0:Int) (e1:Int):Prop where
 g54:pre 33 [[D.l (v10b fn a0)],[D.i 0],[D.i e0]]
 g55:pre 33 [[D.l (v10b fn a0)],[D.i e0],[D.i e1]]
 g56:pre 33 [[D.l (v10b fn a0)],[D.i e1],[D.i 1073741825]]
 g57:(¬(D.int (fn 33 [[D.l (v10b fn a0)],[D.i 0],[D.i e0]] 1 0))=0)→R 0 0=D.b false
 g58:(v10i fn a0 e0)→(¬(D.int (fn 33 [[D.l (v10b fn a0)],[D.i e0],[D.i e1]] 1 0))=0)→R 0 0=D.b false
 g59:(v10i fn a0 e0)→(v10l fn a0 e0 e1)→(¬(v10j fn a0 e1)=0)→R 0 0=D.b false
 g60:(v10i fn a0 e0)→(v10l fn a0 e0 e1)→((v10j fn a0 e1)=0)→(¬(v10g fn a0 a1)=(b1.length:Int))→R 0 0=D.b false
 g61:(v10i fn a0 e0)→(v10l fn a0 e0 e1)→((v10j fn a0 e1)=0)→((v10g fn a0 a1)=(b1.length:Int))→pre 31 [[D.l (D.rows (fn 33 [[D.l (v10b fn a0)],[D.i e0],[D.i e1]] 0 0))],[D.l (D.rows (fn 33 [[D.l (v10b fn a0)],[D.i e1],[D.i 1073741825]] 0 0))]]
 g62:(v10i fn a0 e0)→(v10l fn a0 e0 e1)→((v10j fn a0 e1)=0)→((v10g fn a0 a1)=(b1.length:Int))→pre 31 [[D.l (v10d fn a0 e0 e1)],[D.l (v10m fn a0 e0)]]
 g63:(v10i fn a0 e0)→(v10l fn a0 e0 e1)→((v10j fn a0 e1)=0)→((v10g fn a0 a1)=(b1.length:Int))→((v10h fn a0 e0 e1)=0)→((D.int (fn 31 [[D.l (v10d fn a0 e0 e1)],[D.l (v10m fn a0 e0)]] 1 0))=0)→pre 17 [[D.l (D.rows (fn 31 [[D.l (v10d fn a0 e0 e1)],[D.l (v10m fn a0 e0)]] 0 0))],[D.l (v10b fn a0)]]
 g64:(v10i fn a0 e0)→(v10l fn a0 e0 e1)→((v10j fn a0 e1)=0)→((v10g fn a0 a1)=(b1.length:Int))→((v10h fn a0 e0 e1)=0)→((D.int (fn 31 [[D.l (v10d fn a0 e0 e1)],[D.l (v10m fn a0 e0)]] 1 0))=0)→(D.boo (fn 17 [[D.l (D.rows (fn 31 [[D.l (v10d fn a0 e0 e1)],[D.l (v10m fn a0 e0)]] 0 0))],[D.l (v10b fn a0)]] 0 0)=true)→pre 13 []
 g65:(v10i fn a0 e0)→(v10l fn a0 e0 e1)→((v10j fn a0 e1)=0)→((v10g fn a0 a1)=(b1.length:Int))→((v10h fn a0 e0 e1)=0)→((D.int (fn 31 [[D.l (v10d fn a0 e0 e1)],[D.l (v10m fn a0 e0)]] 1 0))=0)→(D.boo (fn 17 [[D.l (D.rows (fn 31 [[D.l (v10d fn a0 e0 e1)],[D.l (v10m fn a0 e0)]] 0 0))],[D.l (v10b fn a0)]] 0 0)=true)→R 0 0=D.b (D.boo (fn 13 [] 0 0))
 g66:(v10i fn a0 e0)→(v10l fn a0 e0 e1)→((v10j fn a0 e1)=0)→((v10g fn a0 a1)=(b1.length:Int))→((v10h fn a0 e0 e1)=0)→((D.int (fn 31 [[D.l (v10d fn a0 e0 e1)],[D.l (v10m fn a0 e0)]] 1 0))=0)→(D.boo (fn 17 [[D.l (D.rows (fn 31 [[D.l (v10d fn a0 e0 e1)],[D.l (v10m fn a0 e0)]] 0 0))],[D.l (v10b fn a0)]] 0 0)=false)→R 0 0=D.b false
 g67:(v10i fn a0 e0)→(v10l fn a0 e0 e1)→((v10j fn a0 e1)=0)→((v10g fn a0 a1)=(b1.length:Int))→((v10h fn a0 e0 e1)=0)→(¬(D.int (fn 31 [[D.l (v10d fn a0 e0 e1)],[D.l (v10m fn a0 e0)]] 1 0))=0)→R 0 0=D.b false
 g68:(v10i fn a0 e0)→(v10l fn a0 e0 e1)→((v10j fn a0 e1)=0)→((v10g fn a0 a1)=(b1.length:Int))→(¬(v10h fn a0 e0 e1)=0)→R 0 0=D.b false
abbrev V10j2 (pre:Nat→List (List D)→Prop) (fn:Nat→List (List D)→Nat→Nat→D) (a0:Rows) (a1:Rows) (a2:Int) (a3:Int) (R:Nat→Nat→D) (b1:Rows):Prop:=∃(I2:Int→Int→Prop),V10r2 a2 a3 I2∧∀e0 e1,I2 e0 e1→V10c2 pre fn a0 a1 R b1 e0 e1
structure V10c1 (pre:Nat→List (List D)→Prop) (fn:Nat→List (List D)→Nat→Nat→D) (a0:Rows) (a1:Rows) (a2:Int) (a3:Int) (R:Nat→Nat→D) (b1:Rows) (d0:Int) (I1:Int→Prop) (m1:Int→Nat):Prop where
 g21:(d0 < (v10g fn a0 a1))→0≤d0
 g22:(d0 < (v10g fn a0 a1))→d0 < (v10g fn a0 a1)
 g23:(d0 < (v10g fn a0 a1))→(((Int.toNat d0:Nat):Int)) < (v10g fn a0 a1)
 g24:(d0 < (v10g fn a0 a1))→(D.boo (mgetR b1 [D.i (D.int (gt (v10a fn a0 a1) d0.toNat 0)),D.i (D.int (gt (v10a fn a0 a1) d0.toNat 1))] 0 (D.b false))=false)→R 0 0=D.b false
 g25:(d0 < (v10g fn a0 a1))→(v10c b1 fn a0 a1 d0)→(0 < d0)→vZ10 ((d0 - 1))
 g26:(d0 < (v10g fn a0 a1))→(v10c b1 fn a0 a1 d0)→(0 < d0)→0≤(d0 - 1)
 g27:(d0 < (v10g fn a0 a1))→(v10c b1 fn a0 a1 d0)→(0 < d0)→(d0 - 1) < (v10g fn a0 a1)
 g28:(d0 < (v10g fn a0 a1))→(v10c b1 fn a0 a1 d0)→(0 < d0)→(((Int.toNat (d0 - 1):Nat):Int)) < (v10g fn a0 a1)
 g29:(d0 < (v10g fn a0 a1))→(v10c b1 fn a0 a1 d0)→(0 < d0)→((D.int (gt (v10a fn a0 a1) d0.toNat 0)) < (D.int (gt (v10a fn a0 a1) (Int.toNat (d0 - 1)) 0)))→R 0 0=D.b false
 g30:(d0 < (v10g fn a0 a1))→(v10c b1 fn a0 a1 d0)→(0 < d0)→(v10f fn a0 a1 d0)→vZ10 ((d0 - 1))
 g31:(d0 < (v10g fn a0 a1))→(v10c b1 fn a0 a1 d0)→(0 < d0)→(v10f fn a0 a1 d0)→0≤(d0 - 1)
 g32:(d0 < (v10g fn a0 a1))→(v10c b1 fn a0 a1 d0)→(0 < d0)→(v10f fn a0 a1 d0)→(d0 - 1) < (v10g fn a0 a1)
 g33:(d0 < (v10g fn a0 a1))→(v10c b1 fn a0 a1 d0)→(0 < d0)→(v10f fn a0 a1 d0)→(((Int.toNat (d0 - 1):Nat):Int)) < (v10g fn a0 a1)
 g34:(d0 < (v10g fn a0 a1))→(v10c b1 fn a0 a1 d0)→(0 < d0)→(v10f fn a0 a1 d0)→(v10k fn a0 a1 d0)→vZ10 ((d0 - 1))
 g35:(d0 < (v10g fn a0 a1))→(v10c b1 fn a0 a1 d0)→(0 < d0)→(v10f fn a0 a1 d0)→(v10k fn a0 a1 d0)→0≤(d0 - 1)
 g36:(d0 < (v10g fn a0 a1))→(v10c b1 fn a0 a1 d0)→(0 < d0)→(v10f fn a0 a1 d0)→(v10k fn a0 a1 d0)→(d0 - 1) < (v10g fn a0 a1)
 g37:(d0 < (v10g fn a0 a1))→(v10c b1 fn a0 a1 d0)→(0 < d0)→(v10f fn a0 a1 d0)→(v10k fn a0 a1 d0)→(((Int.toNat (d0 - 1):Nat):Int)) < (v10g fn a0 a1)
 g38:(d0 < (v10g fn a0 a1))→(v10c b1 fn a0 a1 d0)→(0 < d0)→(v10f fn a0 a1 d0)→(v10k fn a0 a1 d0)→((D.int (gt (v10a fn a0 a1) d0.toNat 1))≤(D.int (gt (v10a fn a0 a1) (Int.toNat (d0 - 1)) 1)))→R 0 0=D.b false
 g39:(d0 < (v10g fn a0 a1))→(v10c b1 fn a0 a1 d0)→(0 < d0)→(v10f fn a0 a1 d0)→(v10k fn a0 a1 d0)→(¬(D.int (gt (v10a fn a0 a1) d0.toNat 1))≤(D.int (gt (v10a fn a0 a1) (Int.toNat (d0 - 1)) 1)))→vZ10 ((d0+1))
 n40:(d0 < (v10g fn a0 a1))→(v10c b1 fn a0 a1 d0)→(0 < d0)→(v10f fn a0 a1 d0)→(v10k fn a0 a1 d0)→(¬(D.int (gt (v10a fn a0 a1) d0.toNat 1))≤(D.int (gt (v10a fn a0 a1) (Int.toNat (d0 - 1)) 1)))→I1 (d0+1)∧m1 (d0+1) < m1 d0
 g41:(d0 < (v10g fn a0 a1))→(v10c b1 fn a0 a1 d0)→(0 < d0)→(v10f fn a0 a1 d0)→(¬(D.int (gt (v10a fn a0 a1) (Int.toNat (d0 - 1)) 0))=(D.int (gt (v10a fn a0 a1) d0.toNat 0)))→vZ10 ((d0+1))
 n42:(d0 < (v10g fn a0 a1))→(v10c b1 fn a0 a1 d0)→(0 < d0)→(v10f fn a0 a1 d0)→(¬(D.int (gt (v10a fn a0 a1) (Int.toNat (d0 - 1)) 0))=(D.int (gt (v10a fn a0 a1) d0.toNat 0)))→I1 (d0+1)∧m1 (d0+1) < m1 d0
 g43:(d0 < (v10g fn a0 a1))→(v10c b1 fn a0 a1 d0)→(¬0 < d0)→vZ10 ((d0+1))
 n44:(d0 < (v10g fn a0 a1))→(v10c b1 fn a0 a1 d0)→(¬0 < d0)→I1 (d0+1)∧m1 (d0+1) < m1 d0
 g45:(¬d0 < (v10g fn a0 a1))→vZ10 (a2)
 g46:(¬d0 < (v10g fn a0 a1))→vZ10 (a3)
 g47:(¬d0 < (v10g fn a0 a1))→(3000:Int)≠0
 l2:(¬d0 < (v10g fn a0 a1))→V10j2 pre fn a0 a1 a2 a3 R b1
abbrev V10l1 (pre:Nat→List (List D)→Prop) (fn:Nat→List (List D)→Nat→Nat→D) (a0:Rows) (a1:Rows) (a2:Int) (a3:Int) (R:Nat→Nat→D) (b1:Rows):Prop:=∃(I1:Int→Prop) (m1:Int→Nat),I1 0∧∀d0,I1 d0→V10c1 pre fn a0 a1 a2 a3 R b1 d0 I1 m1
structure V10c0 (pre:Nat→List (List D)→Prop) (fn:Nat→List (List D)→Nat→Nat→D) (a0:Rows) (a1:Rows) (a2:Int) (a3:Int) (R:Nat→Nat→D) (b0:Int) (b1:Rows) (I0:Int→Rows→Prop) (m0:Int→Rows→Nat):Prop where
 g15:(b0 < (v10n fn a0 a1))→0≤b0
 g16:(b0 < (v10n fn a0 a1))→b0 < (v10n fn a0 a1)
 g17:(b0 < (v10n fn a0 a1))→(((Int.toNat b0:Nat):Int)) < (v10n fn a0 a1)
 g18:(b0 < (v10n fn a0 a1))→vZ10 ((b0+1))
 n19:(b0 < (v10n fn a0 a1))→I0 (b0+1) (msetR [D.i (D.int (gt (([]++(v10b fn a0))++(v10e fn a1)) b0.toNat 0)),D.i (D.int (gt (([]++(v10b fn a0))++(v10e fn a1)) b0.toNat 1))] [D.b true] b1)∧m0 (b0+1) (msetR [D.i (D.int (gt (([]++(v10b fn a0))++(v10e fn a1)) b0.toNat 0)),D.i (D.int (gt (([]++(v10b fn a0))++(v10e fn a1)) b0.toNat 1))] [D.b true] b1) < m0 b0 b1
 l1:(¬b0 < (v10n fn a0 a1))→V10l1 pre fn a0 a1 a2 a3 R b1
abbrev V10l0 (pre:Nat→List (List D)→Prop) (fn:Nat→List (List D)→Nat→Nat→D) (a0:Rows) (a1:Rows) (a2:Int) (a3:Int) (R:Nat→Nat→D):Prop:=∃(I0:Int→Rows→Prop) (m0:Int→Rows→Nat),I0 0 []∧∀b0 b1,I0 b0 b1→V10c0 pre fn a0 a1 a2 a3 R b0 b1 I0 m0
structure V10 (pre:Nat→List (List D)→Prop) (fn:Nat→List (List D)→Nat→Nat→D) (a0:Rows) (a1:Rows) (a2:Int) (a3:Int) (R:Nat→Nat→D):Prop where
 g0:(60 < (a0.length:Int))→pre 13 []
 g1:(60 < (a0.length:Int))→R 0 0=D.b (D.boo (fn 13 [] 0 0))
 g2:(v10q a0)→(60 < (a1.length:Int))→pre 13 []
 g3:(v10q a0)→(60 < (a1.length:Int))→R 0 0=D.b (D.boo (fn 13 [] 0 0))
 g4:(v10q a0)→(¬60 < (a1.length:Int))→pre 38 [[D.l a0],[D.i 50]]
 g5:(v10q a0)→(¬60 < (a1.length:Int))→pre 38 [[D.l a1],[D.i 50]]
 g6:(v10q a0)→(¬60 < (a1.length:Int))→pre 31 [[D.l (v10b fn a0)],[D.l (v10e fn a1)]]
 g7:(v10q a0)→(¬60 < (a1.length:Int))→pre 31 [[D.l (v10e fn a1)],[D.l (v10b fn a0)]]
 g8:(v10q a0)→(¬60 < (a1.length:Int))→(¬(v10o fn a0 a1)=0)→R 0 0=D.b false
 g9:(v10q a0)→(¬60 < (a1.length:Int))→((v10o fn a0 a1)=0)→(¬(D.int (fn 31 [[D.l (v10e fn a1)],[D.l (v10b fn a0)]] 1 0))=0)→R 0 0=D.b false
 g10:(v10q a0)→(¬60 < (a1.length:Int))→((v10o fn a0 a1)=0)→((D.int (fn 31 [[D.l (v10e fn a1)],[D.l (v10b fn a0)]] 1 0))=0)→pre 17 [[D.l (v10a fn a0 a1)],[D.l (D.rows (fn 31 [[D.l (v10e fn a1)],[D.l (v10b fn a0)]] 0 0))]]
 g11:(v10q a0)→(¬60 < (a1.length:Int))→((v10o fn a0 a1)=0)→((D.int (fn 31 [[D.l (v10e fn a1)],[D.l (v10b fn a0)]] 1 0))=0)→(D.boo (v10p fn a0 a1)=false)→R 0 0=D.b false
 g12:(v10q a0)→(¬60 < (a1.length:Int))→((v10o fn a0 a1)=0)→((D.int (fn 31 [[D.l (v10e fn a1)],[D.l (v10b fn a0)]] 1 0))=0)→(D.boo (v10p fn a0 a1)=true)→((List.length ([]:Rows))+(List.length ((v10b fn a0):Rows))) * 16≤4294967296∧((List.length ([]:Rows))+(List.length ((v10b fn a0):Rows)))≤4294967296
 g13:(v10q a0)→(¬60 < (a1.length:Int))→((v10o fn a0 a1)=0)→((D.int (fn 31 [[D.l (v10e fn a1)],[D.l (v10b fn a0)]] 1 0))=0)→(D.boo (v10p fn a0 a1)=true)→((List.length (([]++(v10b fn a0)):Rows))+(List.length ((v10e fn a1):Rows))) * 16≤4294967296∧((List.length (([]++(v10b fn a0)):Rows))+(List.length ((v10e fn a1):Rows)))≤4294967296
 l0:(v10q a0)→(¬60 < (a1.length:Int))→((v10o fn a0 a1)=0)→((D.int (fn 31 [[D.l (v10e fn a1)],[D.l (v10b fn a0)]] 1 0))=0)→(D.boo (v10p fn a0 a1)=true)→V10l0 pre fn a0 a1 a2 a3 R
end HX

namespace HX
open Go CX
def headId:Code→Nat
 |.region id _ _=>id
 |.seq a _=>headId a
 |.block _ b=>headId b
 |_=>0
def memB:List Nat→Nat→Bool
 |[],_=>false
 |a :: r,x=>match beqN a x with
  |true=>true
  |false=>memB r x
def vcJ (E:Env) (rd:Option Nat) (lo:Nat) (ci:CI) (js:List Nat):Code→(Ex→St→Prop)→St→Prop
 |.seq a b,Q,σ=>vcJ E rd lo ci js a (thenQ (fun σ'=>vcJ E rd lo ci js b Q σ') Q) σ
 |.block id b,Q,σ=>vcJ E rd lo ci js b (inBlockQ id Q) σ
 |.cond c a b,Q,σ=>match memB js (headId a) with
  |true=>Leaf E.E rd lo (.cond c a b) Q σ
  |false=>match evR σ.regs c with
   |.bool true=>vcJ E rd lo ci js a Q σ
   |.bool false=>vcJ E rd lo ci js b Q σ
   |.sym p=>Br p (fun _=>vcJ E rd lo ci js a Q (knowO σ c true)) (fun _=>vcJ E rd lo ci js b Q (knowO σ c false))
   |_=>StuckC (.cond c .skip .skip) σ
 |.region id ops draw,Q,σ=>match memB js id with
  |true=>Leaf E.E rd lo (.region id ops draw) Q σ
  |false=>vc E rd lo ci (.region id ops draw) Q σ
 |c,Q,σ=>vc E rd lo ci c Q σ
section
variable {E:Env} (hE:EnvOk E)
include hE
theorem vcJ_ok {ci:CI} (hci:CIOk E.E ci) (js:List Nat) {rd:Option Nat} {lo:Nat}:∀(c:Code) (Q:Ex→St→Prop) (σ:St),vcJ E rd lo ci js c Q σ→SWP E.E rd lo c Q σ
 |.seq a b,Q,σ,h=>fun C S hS hlo hrd=>by
  obtain ⟨e,S1,C1,σ1,k1,k2,k3,k4⟩:=vcJ_ok hci js a _ σ h C S hS hlo hrd
  cases e with
  |normal=>
   obtain ⟨e,S2,C2,σ2,l1,l2,l3,l4⟩:=vcJ_ok hci js b Q σ1 k4 C1 S1 k2 k3.m.le hrd
   refine ⟨e,S2,C2,σ2,(k1.and l1).succ fun n hn=>?_,l2,k3.trans l3,l4⟩
   show cxBody E.E (cx E.E n) (rd.map C.ids) (.seq a b) S=_
   have hn2:=hn.2
   rw [rd_ag hE hrd k3.m.ag] at hn2
   simp only [cxBody,hn.1,hn2]
  |ret=>
   refine ⟨.ret,S1,C1,σ1,k1.succ fun n hn=>?_,k2,k3,k4⟩
   show cxBody E.E (cx E.E n) (rd.map C.ids) (.seq a b) S=_
   simp only [cxBody,hn]
  |exit i=>
   refine ⟨.exit i,S1,C1,σ1,k1.succ fun n hn=>?_,k2,k3,k4⟩
   show cxBody E.E (cx E.E n) (rd.map C.ids) (.seq a b) S=_
   simp only [cxBody,hn]
 |.block id b,Q,σ,h=>fun C S hS hlo hrd=>by
  obtain ⟨e,S1,C1,σ1,k1,k2,k3,k4⟩:=vcJ_ok hci js b _ σ h C S hS hlo hrd
  cases e with
  |normal=>
   refine ⟨.normal,S1,C1,σ1,k1.succ fun n hn=>?_,k2,k3,k4⟩
   show cxBody E.E (cx E.E n) (rd.map C.ids) (.block id b) S=_
   simp only [cxBody,hn]
  |ret=>
   refine ⟨.ret,S1,C1,σ1,k1.succ fun n hn=>?_,k2,k3,k4⟩
   show cxBody E.E (cx E.E n) (rd.map C.ids) (.block id b) S=_
   simp only [cxBody,hn]
  |exit i=>
   simp only [inBlockQ] at k4
   split at k4
   ·rename_i hb
    simp only [beqN_iff] at hb
    refine ⟨.normal,S1,C1,σ1,k1.succ fun n hn=>?_,k2,k3,k4⟩
    show cxBody E.E (cx E.E n) (rd.map C.ids) (.block id b) S=_
    simp only [cxBody,hn,hb,Nat.beq_refl]
   ·rename_i hb
    simp only [beqN_not] at hb
    refine ⟨.exit i,S1,C1,σ1,k1.succ fun n hn=>?_,k2,k3,k4⟩
    show cxBody E.E (cx E.E n) (rd.map C.ids) (.block id b) S=_
    have hne:Nat.beq i id=false:=by
     cases he:Nat.beq i id with
     |true=>exact absurd (Nat.eq_of_beq_eq_true he) hb
     |false=>rfl
    simp only [cxBody,hn,hne]
 |.cond c a b,Q,σ,h=>fun C S hS hlo hrd=>by
  simp only [vcJ] at h
  split at h
  ·exact h.out C S hS hlo hrd
  have hx:=evR_ok hS.regs
  have go:∀(bb:Bool) (σ:St),Sim C σ S→lo≤σ.next→CX.evR S.regs c=some (.bool bb)→(match bb with |true=>vcJ E rd lo ci js a Q σ |false=>vcJ E rd lo ci js b Q σ)→∃e S' C' σ',Evt (fun n=>cx E.E n (rd.map C.ids) (.cond c a b) S=some (e,S'))∧Sim C' σ' S'∧Ext lo C σ S C' σ' S'∧Q e σ':=by
   intro bb σ hS hlo hb h
   cases bb with
   |true=>
    obtain ⟨e,S1,C1,σ1,k1,k2,k3,k4⟩:=vcJ_ok hci js a Q σ h C S hS hlo hrd
    refine ⟨e,S1,C1,σ1,k1.succ fun n hn=>?_,k2,k3,k4⟩
    show cxBody E.E (cx E.E n) (rd.map C.ids) (.cond c a b) S=_
    simp only [cxBody,hb,hn]
   |false=>
    obtain ⟨e,S1,C1,σ1,k1,k2,k3,k4⟩:=vcJ_ok hci js b Q σ h C S hS hlo hrd
    refine ⟨e,S1,C1,σ1,k1.succ fun n hn=>?_,k2,k3,k4⟩
    show cxBody E.E (cx E.E n) (rd.map C.ids) (.cond c a b) S=_
    simp only [cxBody,hb,hn]
  have kn:∀bb,CX.evR S.regs c=some (.bool bb)→Sim C (knowO σ c bb) S∧lo≤(knowO σ c bb).next∧Ext lo C σ S C (knowO σ c bb) S:=by
   intro bb hb
   unfold knowO
   split
   ·exact ⟨⟨hS.nt,know_ok hS.regs hb,hS.m,hS.df,hS.dflt⟩,hlo,(MExt.refl _ _ _ _ _).less hlo,rfl,fun _ h=>.inl h⟩
   ·exact ⟨hS,hlo,Ext.refl _ _ _ hlo⟩
  split at h
  ·rename_i he
   obtain ⟨v,v1,v2⟩:=hx.get he (by intro e;cases e)
   simp only [RvS] at v2
   subst v2
   exact go true σ hS hlo v1 h
  ·rename_i he
   obtain ⟨v,v1,v2⟩:=hx.get he (by intro e;cases e)
   simp only [RvS] at v2
   subst v2
   exact go false σ hS hlo v1 h
  ·rename_i p he
   obtain ⟨v,v1,v2⟩:=hx.get he (by intro e;cases e)
   simp only [RvS] at v2
   subst v2
   cases hp:p with
   |true=>rw [hp] at v1;exact let ⟨e,S',C',σ',k1,k2,k3,k4⟩:=go true (knowO σ c true) (kn true v1).1 (kn true v1).2.1 v1 (h.t hp);⟨e,S',C',σ',k1,k2,(kn true v1).2.2.trans k3,k4⟩
   |false=>rw [hp] at v1;exact let ⟨e,S',C',σ',k1,k2,k3,k4⟩:=go false (knowO σ c false) (kn false v1).1 (kn false v1).2.1 v1 (h.e hp);⟨e,S',C',σ',k1,k2,(kn false v1).2.2.trans k3,k4⟩
  ·exact h.out.elim
 |.region id ops draw,Q,σ,h=>by
  simp only [vcJ] at h
  split at h
  ·exact h.out
  ·exact vc_ok hE hci _ Q σ h
 |.skip,Q,σ,h=>vc_ok hE hci _ Q σ h
 |.label _,Q,σ,h=>vc_ok hE hci _ Q σ h
 |.ret,Q,σ,h=>vc_ok hE hci _ Q σ h
 |.exit _,Q,σ,h=>vc_ok hE hci _ Q σ h
 |.loop _,Q,σ,h=>vc_ok hE hci _ Q σ h
 |.rangeFunc ..,Q,σ,h=>vc_ok hE hci _ Q σ h
 |.scope ..,Q,σ,h=>vc_ok hE hci _ Q σ h
 |.goto ..,Q,σ,h=>vc_ok hE hci _ Q σ h
 |.refuse ..,Q,σ,h=>vc_ok hE hci _ Q σ h
end
def killL (kl:List Nat):List (Nat×SV)→List (Nat×SV)
 |[]=>[]
 |(t,v) :: r=>match memB kl t with
  |true=>killL kl r
  |false=>(t,v) :: killL kl r
def killR (kl:List Nat) (σ:St):St:=⟨σ.nt,killL kl σ.regs,σ.objs,σ.next,σ.df⟩
theorem joinB {E:Env} (hE:EnvOk E) {inl:Nat→Option Func} (hinl:∀f fn,inl f=some fn→E.E.fn f=some fn∧E.E.ext f=none) {rd:Option Nat} {lo:Nat} (n:Nat) (kl fz drop:List Nat) (names:List (Nat×List Nat)) {c:Code} {Q:Ex→St→Prop} {σ:St} {X:Type} (vals:X→List D) (J:X→Prop)
  (run:∀K:St→Prop,(∀x σ',J x→subP lo (frzT fz σ') (updT E lo c (killR kl (frzT fz σ)) drop names (vals x))→K σ')→vc E rd lo (ciN E inl n) c (thenQ K Q) σ)
  (cont:∀x,J x→Q .normal (updT E lo c (killR kl (frzT fz σ)) drop names (vals x))):Leaf E.E rd lo c Q σ:=by
 refine ⟨fun C S hS hlo hrd=>?_⟩
 obtain ⟨e,S1,C1,σ1,k1,k2,k3,k4⟩:=vc_ok hE (ciN_ok hE hinl n) c _ σ (run (fun σ'=>∃x,J x∧Sub lo σ' (updT E lo c (killR kl (frzT fz σ)) drop names (vals x))) fun x σ' h1 h2=>⟨x,h1,(subP_ok h2).frz fz⟩) C S hS hlo hrd
 cases e with
 |normal=>
  obtain ⟨x,hx,hs⟩:=k4
  obtain ⟨C2,s1,s2⟩:=hs _ C1 S1 k2 k3.m.le
  exact ⟨.normal,S1,C2,_,k1,s1,k3.trans s2,cont x hx⟩
 |ret=>exact ⟨_,S1,C1,σ1,k1,k2,k3,k4⟩
 |exit i=>exact ⟨_,S1,C1,σ1,k1,k2,k3,k4⟩
theorem loopBJ {E:Env} (hE:EnvOk E) (js:List Nat) {inl:Nat→Option Func} (hinl:∀f fn,inl f=some fn→E.E.fn f=some fn∧E.E.ext f=none) {rd:Option Nat} {lo:Nat} (n:Nat) (fz drop:List Nat) (names:List (Nat×List Nat)) {c:Code} {Q:Ex→St→Prop} {σ:St} {X:Type} (vals:X→List D) (Inv:X→Prop) (μ:X→Nat) (x0:X) (h0:Inv x0)
  (hs:subP lo (frzT fz σ) (updT E lo c (frzT fz σ) drop names (vals x0)))
  (round:∀x,Inv x→∀K:St→Prop,(∀x' σ',Inv x'→μ x' < μ x→subP lo (frzT fz σ') (updT E lo c (frzT fz σ) drop names (vals x'))→K σ')→vcJ E rd lo (ciN E inl n) js c (endQ K Q) (updT E lo c (frzT fz σ) drop names (vals x))) :
  Leaf E.E rd lo (.loop c) Q σ:=by
 refine ⟨loop_ok (fun x=>updT E lo c (frzT fz σ) drop names (vals x)) Inv μ x0 h0 ((subP_ok hs).frz fz) (fun _=>updT_lo) fun x hx=>?_⟩
 have e:loopQ lo (fun x=>updT E lo c (frzT fz σ) drop names (vals x)) Inv μ Q x=endQ (fun σ'=>∃x',Inv x'∧μ x' < μ x∧Sub lo σ' (updT E lo c (frzT fz σ) drop names (vals x'))) Q:=by
  funext e σ'
  cases e<;>rfl
 rw [e]
 exact vcJ_ok hE (ciN_ok hE hinl n) js c _ _ (round x hx _ fun x' σ' h1 h2 h3=>⟨x',h1,h2,(subP_ok h3).frz fz⟩)
def fnVCJ (js:List Nat) (b0 n0:Nat) (E:Env) (inl:Nat→Option Func) (n:Nat) (fn:Func) (sg:Sig) (r:Nat→Nat→D) (ds:List (List D)):Prop:=
 match fn.body with
 |some c=>match argsSV b0 sg.params ds with
  |some vs=>match bleN vs.length fn.ntmps with
   |true=>vcJ E none 0 (ciN E inl n) js c (retX E fn sg r) ⟨fn.ntmps,enterS 0 vs,[],n0,[]⟩
   |false=>False
  |none=>False
 |none=>False
theorem of_vcGJ {E:Env} (hE:EnvOk E) (js:List Nat) {inl:Nat→Option Func} (hinl:∀f fn,inl f=some fn→E.E.fn f=some fn∧E.E.ext f=none) (n:Nat) {f:Nat} {fn:Func} {sg:Sig} {pre:List (List D)→Prop} {res:List (List D)→Nat→Nat→D} (hf:E.E.fn f=some fn∧E.E.ext f=none)
  (b0 n0:Nat) (hb0:b0≤n0) (h:allA sg.params fun ds=>pre ds→fnVCJ js b0 n0 E inl n fn sg (res ds) ds) {ds:List (List D)} (hpre:pre ds) {g:Nat→Option O} {bar nx:Nat} {hp:T O} {args:List V} (C:Cx E.E.ro) (hCg:C.g=g) (hM:MSim C [] n0 bar hp.get nx)
  (hargs:ArgsFz E.E.ro C.g (C.bd b0) sg.params ds args) :
  ∃(vs:List V) (h':T O) (nx':Nat) (g':Nat→Option O),Evt (fun n=>∀k,callF E.E (cx E.E n) bar hp nx f args k=k (CX.one vs) h' nx')∧nx≤nx'∧(∀id,id < nx→h'.get id=hp.get id)∧(∀id o,g id=some o→g' id=some o)∧
   (∀id o,g' id=some o→(id < nx'∧h'.get id=some o)∧(g id=some o∨nx≤id))∧ResFz E.E.ro g' nx' (res ds) sg.results 0 vs:=by
 subst hCg
 have hvc:=allA_ok h hargs hpre
 unfold fnVCJ at hvc
 split at hvc
 ·rename_i c hc
  split at hvc
  ·rename_i vs hvs
   split at hvc
   ·rename_i hle
    simp only [bleN_iff] at hle
    have hrel:RvSL C n0 vs args:=argsSV_ok hb0 hvs hargs
    obtain ⟨t',t1,t2⟩:=enter_ok (C:=C) (n:=n0) _ _ 0 .e [] hrel (fun t s h=>by simp [look] at h) (fun j s h=>by simp [look] at h)
    obtain ⟨e,S',C',σ',k1,k2,k3,k4⟩:=vcJ_ok hE (ciN_ok hE hinl n) js (rd:=none) (lo:=0) c _ _ hvc C ⟨fn.ntmps,bar,t',hp,nx,[]⟩ ⟨rfl,fun j s hl=>.inr (t2 j s hl),hM,.nil,fun d hd=>by cases hd⟩ (Nat.zero_le _) (fun l hl=>by cases hl)
    have none0:∀id,¬OwnId C [] id:=fun id h=>by obtain ⟨_,_,hl,_⟩:=h;simp [look] at hl
    have fin:retRP E fn sg (res ds) σ'→(e=.normal∨e=.ret)→∃(vs:List V) (h':T O) (nx':Nat) (g':Nat→Option O),Evt (fun n=>∀k,callF E.E (cx E.E n) bar hp nx f args k=k (CX.one vs) h' nx')∧nx≤nx'∧(∀id,id < nx→h'.get id=hp.get id)∧(∀id o,C.g id=some o→g' id=some o)∧
      (∀id o,g' id=some o→(id < nx'∧h'.get id=some o)∧(C.g id=some o∨nx≤id))∧ResFz E.E.ro g' nx' (res ds) sg.results 0 vs:=by
     intro hr he
     unfold retRP at hr
     split at hr
     ·rename_i objs ho
      split at hr
      ·rename_i rs hrs
       unfold retD at hr
       split at hr
       ·rename_i ds' hds
        obtain ⟨h',t1',t2',t3'⟩:=take_ok S'.df σ'.df σ'.objs objs S'.h ho k2.m k2.df k2.dflt
        obtain ⟨x,x1,x2⟩:=resAll_ok (σ:=σ'.mem objs σ'.next) hE t2' k2.regs fn.results.toList hrs
        obtain ⟨C2,m2,e2⟩:=t2'.frzL (rs.map whole)
        have hA:=argsD_ok hE.A (σ:=σ'.mem (frzL objs (rs.map whole)) σ'.next) m2 (fun _ _ h=>h) (fun e=>by cases e) hds (RvSL.ag e2.ag (Nat.le_refl _) _ _ x1)
        have hext:MExt C [] 0 hp.get nx C2 (frzL objs (rs.map whole)) σ'.next h'.get S'.nx:=yext (k3.m.took t3' (fun i hi=>(k3.df i hi).resolve_left (by intro h;cases h))) (MExt.refl _ _ _ _ _) ((MExt.refl _ _ _ _ _).less (Nat.zero_le _)) e2
        have hbar':S'.bar=bar:=k3.bar
        refine ⟨x,h',S'.nx,C2.g,k1.mono fun n hn k=>?_,hext.nxle,fun id hid=>hext.keep id hid (none0 id),fun id o hgo=>hext.ag.g id o hgo,fun id o hgo=>⟨m2.fz id o hgo,?_⟩,eqRes_ok (allP_ok _ hr) hA⟩
        ·have hlen:Nat.ble (CX.len args) fn.ntmps=true:=bleT (by rw [len_eq,hrel.length];exact hle)
         have hn':cx E.E n none c ⟨fn.ntmps,bar,t',hp,nx,[]⟩=some (e,S'):=hn
         have hrun:outV (takeDf bar S'.df S'.h fun h=>resultsX E.E S'.regs h fn.results.toList fun l=>retV (CX.one l) h S'.nx) k=k (CX.one x) h' S'.nx:=by
          rw [←hbar',t1',x2];rfl
         simp only [callF,hf.1,hf.2,hc,hlen,t1,hn']
         rcases he with rfl |rfl<;>exact hrun
        ·rcases hext.g id o hgo with h |h |h
         ·exact .inl h
         ·exact absurd h (none0 id)
         ·exact .inr h
       ·exact hr.out.elim
      ·exact hr.out.elim
     ·exact hr.out.elim
    cases e with
    |normal=>exact fin k4 (.inl rfl)
    |ret=>exact fin k4 (.inr rfl)
    |exit i=>exact (StuckR.out k4).elim
   ·exact hvc.elim
  ·exact hvc.elim
 ·exact hvc.elim
theorem PureC.of_vcJ {E:Env} (hE:EnvOk E) (js:List Nat) {inl:Nat→Option Func} (hinl:∀f fn,inl f=some fn→E.E.fn f=some fn∧E.E.ext f=none) (n:Nat) {f:Nat} {fn:Func} {sg:Sig} {pre:List (List D)→Prop} {res:List (List D)→Nat→Nat→D} (hf:E.E.fn f=some fn∧E.E.ext f=none)
  (h:allA sg.params fun ds=>pre ds→fnVCJ js 1 1 E inl n fn sg (res ds) ds):PureC E.E f sg pre res:=by
 intro ds hpre g bar nx hp args hg hbar hargs
 refine of_vcGJ hE js hinl n hf 1 1 (Nat.le_refl _) h hpre (bar:=bar) ⟨fun _=>0,fun _=>.nils,g,fun b=>if b=0 then 0 else nx⟩ rfl ?_ hargs
 exact ⟨fun _ _ h=>by simp [look] at h,fun _ _ h=>by simp [look] at h,fun _ _ h=>by simp [look] at h,fun _ _ _ _ h=>by simp [look] at h,hg,fun b _=>by show (if b=0 then 0 else nx)≤nx;split<;>omega,rfl,hbar,rfl⟩
theorem PureC0.of_vcJ {E:Env} (hE:EnvOk E) (js:List Nat) {inl:Nat→Option Func} (hinl:∀f fn,inl f=some fn→E.E.fn f=some fn∧E.E.ext f=none) (n:Nat) {f:Nat} {fn:Func} {sg:Sig} {pre:List (List D)→Prop} {res:List (List D)→Nat→Nat→D} (hf:E.E.fn f=some fn∧E.E.ext f=none)
  (h:allA sg.params fun ds=>pre ds→fnVCJ js 0 0 E inl n fn sg (res ds) ds):PureC0 E.E f sg pre res:=by
 intro ds hpre args hargs
 obtain ⟨vs,h',nx',g',c1,_,_,_,_,c6⟩:=of_vcGJ hE js hinl n hf 0 0 (Nat.le_refl _) h hpre (bar:=0) (hp:=.e) (nx:=0) ⟨fun _=>0,fun _=>.nils,fun _=>none,fun _=>0⟩ rfl
  ⟨fun _ _ h=>by simp [look] at h,fun _ _ h=>by simp [look] at h,fun _ _ h=>by simp [look] at h,fun _ _ _ _ h=>by simp [look] at h,fun _ _ h=>(by cases h),fun _ _=>Nat.le_refl _,rfl,Nat.le_refl _,rfl⟩ hargs
 exact ⟨vs,h',nx',g',c1,c6⟩
end HX

namespace HX
open Go Go.Proofs CX
set_option maxHeartbeats 4000000 in
set_option maxRecDepth 100000 in
set_option cbv.maxSteps 3000000 in
theorem walk10 {ro A pre fn} (hE:EnvOk ⟨A,(cxE ro),ksF,sigL [(13,⟨[],[(false,[.bool])],false⟩),(17,⟨[(false,[.sl [.int .i64,.int .i64]]),(false,[.sl [.int .i64,.int .i64]])],[(false,[.bool])],false⟩),(31,⟨[(false,[.sl [.int .i64,.int .i64]]),(false,[.sl [.int .i64,.int .i64]])],[(false,[.sl [.int .i64,.int .i64]]),(false,[.int .i64])],false⟩),(33,⟨[(false,[.sl [.int .i64,.int .i64]]),(false,[.int .i64]),(false,[.int .i64])],[(false,[.sl [.int .i64,.int .i64]]),(false,[.int .i64])],false⟩),(38,⟨[(false,[.sl [.int .u32,.int .u32]]),(false,[.int .u32])],[(false,[.sl [.int .i64,.int .i64]])],false⟩)],pre,fn⟩) {P:List (List D)→Prop} {res:List (List D)→Nat→Nat→D}
  (hv:∀(a0:Rows) (a1:Rows) (a2:Int) (a3:Int),ShR [.int .u32,.int .u32] a0→ShR [.int .u32,.int .u32] a1→P [[.l a0],[.l a1],[.i a2],[.i a3]]→V10 pre fn a0 a1 a2 a3 (res [[.l a0],[.l a1],[.i a2],[.i a3]])) :
  PureC0 (cxE ro) 10 ⟨[(false,[.sl [.int .u32,.int .u32]]),(false,[.sl [.int .u32,.int .u32]]),(false,[.int .u16]),(false,[.int .u16])],[(false,[.bool])],false⟩ P res:=by
 have h:=hE.A
 simp only [] at h
 have hinl:∀f fn,inlL [] f=some fn→(cxE ro).fn f=some fn∧(cxE ro).ext f=none:=Inls.ok (by repeat (first |exact .nil |refine .cons rfl rfl ?_))
 refine PureC0.of_vcJ hE [22] hinl 6 (f:=10) (fn:=Try.f10) ⟨rfl,rfl⟩ ?_
 intro a0 ha0 a1 ha1 a2 a3 hP
 obtain ⟨R,hR⟩:∃R,res [[.l a0],[.l a1],[.i a2],[.i a3]]=R:=⟨_,rfl⟩
 rw [hR]
 have hV:=hv a0 a1 a2 a3 ha0 ha1 hP
 rw [hR] at hV
 clear hR hP hv
 cbv
 repeat' first|(refine Br.mk (fun _=>?_) (fun _=>?_)<;>cbv)|(refine NilB.mk (fun _=>?_) ?_<;>cbv)|refine And.intro ?_ ?_|exact True.intro
 ·rename_i p0a
  subst h;exact hV.g0 (dt p0a)
 ·rename_i p1a
  subst h;exact hV.g1 (dt p1a)
 ·rename_i p2a p2b
  subst h;exact hV.g2 (df p2a) (dt p2b)
 ·rename_i p3a p3b
  subst h;exact hV.g3 (df p3a) (dt p3b)
 ·rename_i p4a p4b
  subst h;exact hV.g4 (df p4a) (df p4b)
 ·rename_i p5a p5b
  subst h;exact hV.g5 (df p5a) (df p5b)
 ·rename_i p6a p6b
  subst h;exact hV.g6 (df p6a) (df p6b)
 ·rename_i p7a p7b
  subst h;exact hV.g7 (df p7a) (df p7b)
 ·rename_i p8a p8b p8c
  subst h;exact hV.g8 (df p8a) (df p8b) (df (nt p8c))
 ·rename_i p9a p9b p9c p9d
  subst h;exact hV.g9 (df p9a) (df p9b) (dt (nf p9c)) (df (nt p9d))
 ·rename_i p10a p10b p10c p10d
  subst h;exact hV.g10 (df p10a) (df p10b) (dt (nf p10c)) (dt (nf p10d))
 ·rename_i p11a p11b p11c p11d p11e
  subst h;exact hV.g11 (df p11a) (df p11b) (dt (nf p11c)) (dt (nf p11d)) (nt p11e)
 ·rename_i p12a p12b p12c p12d p12e
  subst h;exact hV.g12 (df p12a) (df p12b) (dt (nf p12c)) (dt (nf p12d)) (nf p12e)
 ·rename_i p13a p13b p13c p13d p13e
  subst h;exact hV.g13 (df p13a) (df p13b) (dt (nf p13c)) (dt (nf p13d)) (nf p13e)
 ·rename_i p14a p14b p14c p14d p14e
  refine Leaf.gen fun σz hσz=>?_
  obtain ⟨I0,m0,i0,c0⟩:V10l0 pre fn a0 a1 a2 a3 R:=by subst h;exact hV.l0 (df p14a) (df p14b) (dt (nf p14c)) (dt (nf p14d)) (nf p14e)
  refine loopBJ hE [22] hinl 6 [] [] [(5,[])] (fun x:Int×Rows=>[.i x.1,.l x.2]) (fun x=>I0 x.1 x.2) (fun x=>m0 x.1 x.2) (0,[]) (by subst h;exact i0) ?_ ?_<;>subst hσz
  ·clear hE hinl hV;cbv;(try repeat' first|rfl|assumption|constructor)
  ·intro ⟨b0,b1⟩ hI0 K0 hK0
   have h0:=c0 _ _ hI0
   cbv
   repeat' first|(refine Br.mk (fun _=>?_) (fun _=>?_)<;>cbv)|(refine NilB.mk (fun _=>?_) ?_<;>cbv)|refine And.intro ?_ ?_|exact True.intro
   ·rename_i p15a
    subst h;exact h0.g15 (dt p15a)
   ·rename_i p16a
    subst h;exact h0.g16 (dt p16a)
   ·rename_i p17a
    subst h;exact h0.g17 (dt p17a)
   ·rename_i p18a
    subst h;exact h0.g18 (dt p18a)
   ·rename_i p19a
    refine hK0 (A.add b0 1,A.mset b1 [D.i (A.di (A.get (A.app (A.app [] (A.dl (fn 38 [[D.l a0],[D.i 50]] 0 0))) (A.dl (fn 38 [[D.l a1],[D.i 50]] 0 0))) (A.toNat b0) 0)),D.i (A.di (A.get (A.app (A.app [] (A.dl (fn 38 [[D.l a0],[D.i 50]] 0 0))) (A.dl (fn 38 [[D.l a1],[D.i 50]] 0 0))) (A.toNat b0) 1))] [D.b true]) _ ?_ ?_ ?_
    ·subst h;exact (h0.n19 (dt p19a)).1
    ·subst h;exact (h0.n19 (dt p19a)).2
    ·clear hE hinl hV hK0;cbv;(try repeat' first|rfl|assumption|constructor)
   ·rename_i p20a
    refine Leaf.gen fun σz hσz=>?_
    obtain ⟨I1,m1,i1,c1⟩:V10l1 pre fn a0 a1 a2 a3 R b1:=by subst h;exact h0.l1 (df p20a)
    refine loopBJ hE [22] hinl 6 [] [8] [] (fun x:Int=>[.i x]) (fun x=>I1 x) (fun x=>m1 x) (0) (by subst h;exact i1) ?_ ?_<;>subst hσz
    ·clear hE hinl hV;cbv;(try repeat' first|rfl|assumption|constructor)
    ·intro d0 hI1 K1 hK1
     have h1:=c1 _ hI1
     cbv
     repeat' first|(refine Br.mk (fun _=>?_) (fun _=>?_)<;>cbv)|(refine NilB.mk (fun _=>?_) ?_<;>cbv)|refine And.intro ?_ ?_|exact True.intro
     ·rename_i p21a
      subst h;exact h1.g21 (dt p21a)
     ·rename_i p22a
      subst h;exact h1.g22 (dt p22a)
     ·rename_i p23a
      subst h;exact h1.g23 (dt p23a)
     ·rename_i p24a p24b
      subst h;exact h1.g24 (dt p24a) (nt p24b)
     ·rename_i p25a p25b p25c
      subst h;exact h1.g25 (dt p25a) (nf p25b) (dt p25c)
     ·rename_i p26a p26b p26c
      subst h;exact h1.g26 (dt p26a) (nf p26b) (dt p26c)
     ·rename_i p27a p27b p27c
      subst h;exact h1.g27 (dt p27a) (nf p27b) (dt p27c)
     ·rename_i p28a p28b p28c
      subst h;exact h1.g28 (dt p28a) (nf p28b) (dt p28c)
     ·rename_i p29a p29b p29c p29d
      subst h;exact h1.g29 (dt p29a) (nf p29b) (dt p29c) (dt p29d)
     ·rename_i p30a p30b p30c p30d
      subst h;exact h1.g30 (dt p30a) (nf p30b) (dt p30c) (df p30d)
     ·rename_i p31a p31b p31c p31d
      subst h;exact h1.g31 (dt p31a) (nf p31b) (dt p31c) (df p31d)
     ·rename_i p32a p32b p32c p32d
      subst h;exact h1.g32 (dt p32a) (nf p32b) (dt p32c) (df p32d)
     ·rename_i p33a p33b p33c p33d
      subst h;exact h1.g33 (dt p33a) (nf p33b) (dt p33c) (df p33d)
     ·rename_i p34a p34b p34c p34d p34e
      subst h;exact h1.g34 (dt p34a) (nf p34b) (dt p34c) (df p34d) (dt p34e)
     ·rename_i p35a p35b p35c p35d p35e
      subst h;exact h1.g35 (dt p35a) (nf p35b) (dt p35c) (df p35d) (dt p35e)
     ·rename_i p36a p36b p36c p36d p36e
      subst h;exact h1.g36 (dt p36a) (nf p36b) (dt p36c) (df p36d) (dt p36e)
     ·rename_i p37a p37b p37c p37d p37e
      subst h;exact h1.g37 (dt p37a) (nf p37b) (dt p37c) (df p37d) (dt p37e)
     ·rename_i p38a p38b p38c p38d p38e p38f
      subst h;exact h1.g38 (dt p38a) (nf p38b) (dt p38c) (df p38d) (dt p38e) (dt p38f)
     ·rename_i p39a p39b p39c p39d p39e p39f
      subst h;exact h1.g39 (dt p39a) (nf p39b) (dt p39c) (df p39d) (dt p39e) (df p39f)
     ·rename_i p40a p40b p40c p40d p40e p40f
      refine hK1 (A.add d0 1) _ ?_ ?_ ?_
      ·subst h;exact (h1.n40 (dt p40a) (nf p40b) (dt p40c) (df p40d) (dt p40e) (df p40f)).1
      ·subst h;exact (h1.n40 (dt p40a) (nf p40b) (dt p40c) (df p40d) (dt p40e) (df p40f)).2
      ·clear hE hinl hV hK1;cbv;(try repeat' first|rfl|assumption|constructor)
     ·rename_i p41a p41b p41c p41d p41e
      subst h;exact h1.g41 (dt p41a) (nf p41b) (dt p41c) (df p41d) (df p41e)
     ·rename_i p42a p42b p42c p42d p42e
      refine hK1 (A.add d0 1) _ ?_ ?_ ?_
      ·subst h;exact (h1.n42 (dt p42a) (nf p42b) (dt p42c) (df p42d) (df p42e)).1
      ·subst h;exact (h1.n42 (dt p42a) (nf p42b) (dt p42c) (df p42d) (df p42e)).2
      ·clear hE hinl hV hK1;cbv;(try repeat' first|rfl|assumption|constructor)
     ·rename_i p43a p43b p43c
      subst h;exact h1.g43 (dt p43a) (nf p43b) (df p43c)
     ·rename_i p44a p44b p44c
      refine hK1 (A.add d0 1) _ ?_ ?_ ?_
      ·subst h;exact (h1.n44 (dt p44a) (nf p44b) (df p44c)).1
      ·subst h;exact (h1.n44 (dt p44a) (nf p44b) (df p44c)).2
      ·clear hE hinl hV hK1;cbv;(try repeat' first|rfl|assumption|constructor)
     ·rename_i p45a
      subst h;exact h1.g45 (df p45a)
     ·rename_i p46a
      subst h;exact h1.g46 (df p46a)
     ·rename_i p47a
      subst h;exact h1.g47 (df p47a)
     ·rename_i p48a
      subst h;exact h1.g45 (df p48a)
     ·rename_i p49a
      subst h;exact h1.g46 (df p49a)
     ·rename_i p50a
      subst h;exact h1.g47 (df p50a)
     ·rename_i p51a
      refine Leaf.gen fun σz hσz=>?_
      obtain ⟨I2,r2,c2⟩:V10j2 pre fn a0 a1 a2 a3 R b1:=by subst h;exact h1.l2 (df p51a)
      refine joinB hE hinl 6 [141] [] [] [] (fun x:Int×Int=>[.i x.1,.i x.2]) (fun x=>I2 x.1 x.2) ?_ ?_<;>subst hσz
      ·intro K2 hK2
       cbv
       repeat' first|(refine Br.mk (fun _=>?_) (fun _=>?_)<;>cbv)|(refine NilB.mk (fun _=>?_) ?_<;>cbv)|refine And.intro ?_ ?_|exact True.intro
       ·rename_i p52a
        refine hK2 (A.tmod (A.max a2 a3) 3000,A.tmod (A.min a2 a3) 3000) _ ?_ ?_
        ·subst h;exact r2.n52 (dt p52a)
        ·clear hE hinl hV hK2;cbv;(try repeat' first|rfl|assumption|constructor)
       ·rename_i p53a
        refine hK2 (A.tmod (A.min a2 a3) 3000,A.tmod (A.max a2 a3) 3000) _ ?_ ?_
        ·subst h;exact r2.n53 (df p53a)
        ·clear hE hinl hV hK2;cbv;(try repeat' first|rfl|assumption|constructor)
      ·intro ⟨e0,e1⟩ hI2
       have h2:=c2 _ _ hI2
       cbv
       repeat' first|(refine Br.mk (fun _=>?_) (fun _=>?_)<;>cbv)|(refine NilB.mk (fun _=>?_) ?_<;>cbv)|refine And.intro ?_ ?_|exact True.intro
       ·subst h;exact h2.g54
       ·subst h;exact h2.g55
       ·subst h;exact h2.g56
       ·rename_i p57a
        subst h;exact h2.g57 (df (nt p57a))
       ·rename_i p58a p58b
        subst h;exact h2.g58 (dt (nf p58a)) (df (nt p58b))
       ·rename_i p59a p59b p59c
        subst h;exact h2.g59 (dt (nf p59a)) (dt (nf p59b)) (df (nt p59c))
       ·rename_i p60a p60b p60c p60d
        subst h;exact h2.g60 (dt (nf p60a)) (dt (nf p60b)) (dt (nf p60c)) (df (nt p60d))
       ·rename_i p61a p61b p61c p61d
        subst h;exact h2.g61 (dt (nf p61a)) (dt (nf p61b)) (dt (nf p61c)) (dt (nf p61d))
       ·rename_i p62a p62b p62c p62d
        subst h;exact h2.g62 (dt (nf p62a)) (dt (nf p62b)) (dt (nf p62c)) (dt (nf p62d))
       ·rename_i p63a p63b p63c p63d p63e p63f
        subst h;exact h2.g63 (dt (nf p63a)) (dt (nf p63b)) (dt (nf p63c)) (dt (nf p63d)) (dt p63e) (dt p63f)
       ·rename_i p64a p64b p64c p64d p64e p64f p64g
        subst h;exact h2.g64 (dt (nf p64a)) (dt (nf p64b)) (dt (nf p64c)) (dt (nf p64d)) (dt p64e) (dt p64f) p64g
       ·rename_i p65a p65b p65c p65d p65e p65f p65g
        subst h;exact h2.g65 (dt (nf p65a)) (dt (nf p65b)) (dt (nf p65c)) (dt (nf p65d)) (dt p65e) (dt p65f) p65g
       ·rename_i p66a p66b p66c p66d p66e p66f p66g
        subst h;exact h2.g66 (dt (nf p66a)) (dt (nf p66b)) (dt (nf p66c)) (dt (nf p66d)) (dt p66e) (dt p66f) p66g
       ·rename_i p67a p67b p67c p67d p67e p67f
        subst h;exact h2.g67 (dt (nf p67a)) (dt (nf p67b)) (dt (nf p67c)) (dt (nf p67d)) (dt p67e) (df p67f)
       ·rename_i p68a p68b p68c p68d p68e
        subst h;exact h2.g68 (dt (nf p68a)) (dt (nf p68b)) (dt (nf p68c)) (dt (nf p68d)) (df p68e)
end HX

namespace HX
open Go Go.Proofs CX
theorem cxE_ok (ro:Addr→Option V):CX.EnvOk (cxE ro) Try.prog:=cxS_ok (fun f c h=>(srtF_ok f c h).1) ro
theorem cxE_srt {ro:Addr→Option V}:∀f c,(cxE ro).ext f=some (.sort c)→∃fn b,(cxE ro).fn f=some fn∧fn.body=some b∧2≤fn.ntmps:=cxS_srt fun f c h=>(srtF_ok f c h).2
theorem hxT {ro:Addr→Option V}:TOk (cxE ro):=TOk.of (cxE_ok ro)
theorem hxEnv {ro:Addr→Option V} {sig:Nat→Option Sig} {pre:Nat→List (List D)→Prop} {fn:Nat→List (List D)→Nat→Nat→D} (h:∀f sg,sig f=some sg→PureC (cxE ro) f sg (pre f) (fn f)):EnvOk ⟨Ar.std,cxE ro,ksF,sig,pre,fn⟩:=⟨rfl,hxT,h,cxE_srt⟩
theorem works_pure {ro:Addr→Option V}:PureC (cxE ro) 13 ⟨[],[(false,[.bool])],false⟩ (fun _=>True) (fun _ _ _=>.b true):=by
 intro ds _ g bar nx h args hg hbar ha
 cases args with
 |cons _ _=>cases ds<;>simp [ArgsFz] at ha
 |nil=>
  have hfn:∃fn c,(cxE ro).fn 13=some fn∧fn.body=some c:=⟨_,_,rfl,rfl⟩
  obtain ⟨fn,c,h1,h2⟩:=hfn
  refine ⟨[.bool true],h,nx,g,Evt.of fun n k=>?_,Nat.le_refl _,fun _ _=>rfl,fun _ _ h=>h,fun id o hgo=>⟨hg id o hgo,.inl hgo⟩,⟨[.bool true],rfl,fun j k hj=>?_,_,rfl,rfl⟩,trivial⟩
  ·have hx:(cxE ro).ext 13=some (.bool true):=rfl
   simp only [callF,h1,h2,hx]
   rfl
  ·cases j with
   |zero=>
    simp only [List.getElem?_cons_zero,Option.some.injEq] at hj
    subst hj
    exact ⟨_,rfl,by simp only [FzC];exact ⟨⟨_,rfl⟩,rfl⟩⟩
   |succ j=>simp at hj
end HX

namespace CX
open Go Go.ChangeShapes Go.WideShapes
theorem Kept.frozen {w w':World} (h:Kept w w') {a:Addr} (ha:a.block < w.heap.size):w'.frozen? a=w.frozen? a:=by
 simp only [World.frozen?,h.2.2.2.2 a.block ha]
theorem Kept.but {w w':World} (h:Kept w w') (may:MemPlace→Prop):w.keptBut w' may:=by
 refine ⟨h.1,h.2.2.1.1,fun i hi=>?_⟩
 rw [h.2.2.2.2 i hi]
 obtain ⟨o,ho⟩:∃o,w.heap[i]?=some o:=⟨w.heap[i],by simp [hi]⟩
 rw [ho]
 cases o with
 |cells c t fr=>exact ⟨rfl,rfl,rfl,fun _ _=>rfl⟩
 |map es c=>exact .inr ⟨rfl,rfl⟩
 |_=>rfl
section
variable {H:Type} {enc:TypeId×Value→H} {P:Program}
theorem post_kept {f:Func} {s:ChangeSpec} {apart fresh handsOn again:Bool} {W W':World} {args:Array Value} {v:Value} {ds gs:List (DataW H)} {before pa pv:List MemPlace}
  (hW:DataW.Whole enc P f.params.toList s.vars apart W args.toList ds gs before)
  (hres:∀(b:Nat) (sp:Nat→Bool) (hd:Bool),DataW.TrodAll enc P W' b sp hd f.resultTypes.toList (v.resultList f.resultTypes.size) (s.fn H (ds++gs)).results [])
  (hargs:∀sp:Nat→Bool,(∀p∈before,sp p.block=true)→DataW.TrodAll enc P W' 0 sp true f.params.toList args.toList (s.fn H (ds++gs)).args pa)
  (hvars:∀sp:Nat→Bool,(∀p∈before,sp p.block=true)→DataW.TrodVars enc P W' sp s.vars (s.fn H (ds++gs)).vars pv)
  (hps:before=pa++pv) (hk:Kept W W')
  (hok:∀(j:Nat) (t:TypeId) (r:Value),f.resultTypes[j]?=some t→(v.resultList f.resultTypes.size)[j]?=some r→Value.okWide P W' .any 0 t r) :
  s.post enc P f apart fresh handsOn again W args v W':=by
 have hold:∀p∈before,(fun b=>decide (b < W.heap.size)) p.block=true:=fun p hp=>by simpa using hW.lt p hp
 have hlt:=hW.lt
 refine ⟨ds,gs,before,[],pa,pv,hW,hres _ _ _,hargs _ hold,hvars _ hold,World.keptBut_mono (fun p hp=>⟨hp,?_⟩) (hk.but (·∈before)),fun _=>?_⟩
 ·rw [hps,List.mem_append] at hp
  exact Or.inr hp
 ·obtain ⟨_,_,_,_,_,hz,hn⟩:=hW
  refine ⟨hok,_,_,([]++pa)++pv,⟨[]++pa,pv,trodAll_append (hargs _ (fun _ _=>rfl)) (hres _ _ _),hvars _ (fun _ _=>rfl),rfl,?_,?_⟩,?_⟩
  ·intro b off hp
   have hp':MemPlace.cell b off∈before:=by rw [hps];simpa using hp
   rw [hk.frozen (hlt _ hp')]
   exact hz b off hp'
  ·intro ha
   have:=hn ha
   rw [hps] at this
   simpa using this
  ·intro p hp _
   rw [hps]
   simpa using hp
end
end CX

namespace HB
open Go Go.ChangeShapes Go.WideShapes Go.ChangeAt Go.RowKit
theorem add_block (a:Addr) (n:Nat):(a.add n).block=a.block:=by unfold Addr.add;split<;>rfl
theorem addr_add2 (a:Addr) (i c:Nat):(a.add i).add c=a.add (i+c):=by
 unfold Addr.add
 by_cases hi:i=0
 ·subst hi;simp
 ·by_cases hc:c=0
  ·subst hc;simp [hi]
  ·simp [hi,hc,Nat.add_assoc]
theorem mapM_at {α β:Type} {f:α→Option β}:∀{l:List α} {r:List β},l.mapM f=some r→r.length=l.length∧∀(i:Nat) (h:i < l.length),∃y,f l[i]=some y∧r[i]?=some y
 |[],r,h=>by
  simp only [List.mapM_nil,Option.pure_def,Option.some.injEq] at h
  subst h
  exact ⟨rfl,fun i h=>by simp at h⟩
 |x :: xs,r,h=>by
  rw [List.mapM_cons] at h
  cases hx:f x with
  |none=>simp [hx] at h
  |some y=>
   cases hxs:xs.mapM f with
   |none=>simp [hx,hxs] at h
   |some ys=>
    simp only [hx,hxs,Option.bind_eq_bind,Option.bind_some,Option.pure_def,Option.some.injEq] at h
    subst h
    obtain ⟨h1,h2⟩:=mapM_at hxs
    refine ⟨by simp [h1],fun i hi=>?_⟩
    cases i with
    |zero=>exact ⟨y,by simpa using hx,by simp⟩
    |succ i=>
     obtain ⟨z,e1,e2⟩:=h2 i (by simpa using hi)
     exact ⟨z,by simpa using e1,by simpa using e2⟩
theorem cells_get {w:World} {base:Nat} {a:Addr} {n:Nat} {cs:List Value} (h:w.cells? base a n=some cs):cs.length=n∧(0 < n→a.block < w.heap.size)∧∀c,c < n→w.cell? (a.add c)=cs[c]?:=by
 unfold World.cells? at h
 split at h
 ·obtain ⟨h1,h2⟩:=mapM_at h
  rw [List.length_range] at h1
  have key:∀c,c < n→w.cell? (a.add c)=cs[c]?:=fun c hc=>by
   obtain ⟨y,e1,e2⟩:=h2 c (by simpa using hc)
   rw [List.getElem_range] at e1
   rw [e1,e2]
  refine ⟨h1,fun h0=>?_,key⟩
  obtain ⟨y,e1,_⟩:=h2 0 (by simpa using h0)
  rw [List.getElem_range] at e1
  rcases Nat.lt_or_ge a.block w.heap.size with hb |hb
  ·exact hb
  ·exfalso
   unfold World.cell? at e1
   rw [add_block] at e1
   rw [Array.getElem?_eq_none (by omega)] at e1
   cases e1
 ·cases h
section
variable {H:Type} {enc:TypeId×Value→H} {P:Program} {w:World} {base:Nat} {spare:Nat→Bool} {held:Bool}
theorem wf_rng {k:IntKind} {n:Int} (h:(Lit.int k n).wf=true):k.min≤n∧n≤k.max:=by
 simpa [Lit.wf] using h
theorem trod_array {t e:TypeId} {n m:Nat} {cs:List Value} {x:DataW H×List MemPlace} (ht:P.underlying t=some (.array n e)) (h:DataW.trod enc P w base spare held (m+1) t cs=some x) :
  cs.length=P.cellsOf t∧∀i,i < n→∃y,DataW.trod enc P w base spare held m e ((cs.drop (i * P.cellsOf e)).take (P.cellsOf e))=some y:=by
 unfold DataW.trod at h
 rw [ht] at h
 split at h<;>simp_all
 obtain ⟨hl,h⟩:=h
 obtain ⟨a,h,_⟩:=h
 obtain ⟨h1,h2⟩:=mapM_at h
 intro i hi
 obtain ⟨y,e1,_⟩:=h2 i (by simpa using hi)
 rw [List.getElem_range] at e1
 exact ⟨y.1,y.2,by simpa using e1⟩
def isAgg (P:Program) (t:TypeId):Bool:=match P.underlying t with
 |some (.struct _)=>true
 |some (.array _ _)=>true
 |_=>false
theorem Kept_same {W W':World} (h:CX.Kept W W') {p:MemPlace} (hp:p.block < W.heap.size):W.sameAt W' p:=by
 cases p with
 |cell b off=>
  simp only [World.sameAt,World.cell?]
  rw [h.2.2.2.2 b hp]
 |map b=>exact h.2.2.2.2 b hp
theorem args_stay (hl:laidOutB P=true) {W W':World} {sp:Nat→Bool}:∀{ts:List TypeId} {vs:List Value} {ds:List (DataW H)} {ps:List MemPlace},(ts.all fun t=>P.readableRec t && decide (t < P.types.size))=true→
  DataW.TrodAll enc P W base (fun _=>true) true ts vs ds ps→(∀p∈ps,W.sameAt W' p)→(∀p∈ps,sp p.block=true)→DataW.TrodAll enc P W' base sp true ts vs ds ps
 |[],vs,ds,ps,_,h,_,_=>by
  obtain ⟨rfl,rfl,rfl⟩:=trodAll_nil h
  exact trodAll_mk0
 |t :: ts,[],ds,ps,_,h,_,_=>by simp [DataW.TrodAll] at h
 |t :: ts,v :: vs,[],ps,_,h,_,_=>by simp [DataW.TrodAll] at h
 |t :: ts,v :: vs,d :: ds,ps,hr,h,h1,h2=>by
  obtain ⟨p,q,ha,hb,rfl⟩:=h
  simp only [List.all_cons,Bool.and_eq_true,decide_eq_true_eq] at hr
  exact ⟨p,q,Go.WideElems.Trod_stays hl hr.1.1 hr.1.2 ha (fun x hx=>h1 x (by simp [hx])) (fun x hx=>h2 x (by simp [hx])),
   args_stay hl (by simpa using hr.2) hb (fun x hx=>h1 x (by simp [hx])) (fun x hx=>h2 x (by simp [hx])),rfl⟩
end
end HB

namespace HX
open Go Go.Proofs Go.ChangeShapes Go.WideShapes Go.ChangeAt Go.RowKit CX
def descF (g:TypeId→Option (List Kd)) (P:Program):List Field→Nat→Option (List Kd)
 |[],_=>some []
 |f :: r,off=>match g f.type with
  |some ks=>match beqN f.offset off && beqN (P.cellsOf f.type) ks.length with
   |true=>match descF g P r (off+ks.length) with
    |some ks'=>some (ks++ks')
    |none=>none
   |false=>none
  |none=>none
def repK (ks:List Kd):Nat→List Kd
 |0=>[]
 |n+1=>ks++repK ks n
def desc (P:Program):Nat→TypeId→Option (List Kd)
 |0,_=>none
 |n+1,t=>match P.underlying t with
  |some .bool=>some [.bool]
  |some (.int k)=>some [.int k]
  |some .string=>some [.str]
  |some (.slice e)=>match desc P n e with
   |some (k :: ks)=>match beqN (P.cellsOf e) (ks.length+1) with
    |true=>some [.sl (k :: ks)]
    |false=>none
   |_=>none
  |some (.struct fs)=>match descF (desc P n) P fs.toList 0 with
   |some ks=>match beqN (P.cellsOf t) ks.length with
    |true=>some ks
    |false=>none
   |none=>none
  |some (.array m e)=>match desc P n e with
   |some ks=>match beqN (P.cellsOf e) ks.length && beqN (P.cellsOf t) (repK ks m).length with
    |true=>some (repK ks m)
    |false=>none
   |none=>none
  |_=>none
mutual
def RngK:Kd→D→Prop
 |.int k,d=>k.min≤d.int∧d.int≤k.max
 |.str,d=>∀b∈d.str,b < 256
 |.sl ks,d=>∀row∈d.rows,RngL ks row
 |_,_=>True
def RngL:List Kd→List D→Prop
 |k :: ks,d :: ds=>RngK k d∧RngL ks ds
 |_,_=>True
end
mutual
def RdK (w:World):Kd→D→Value→Prop
 |.int k,d,u=>(∃n,d=.i n)∧u=.int k d.int
 |.bool,d,u=>(∃b,d=.b b)∧u=.bool d.boo
 |.str,d,u=>(∃s,d=.s s)∧u=.string (bytesOf d.str)
 |.fnc _,_,_=>False
 |.pt _,_,_=>False
 |.sl ks,d,u=>(∃rows,d=.l rows∧LenR ks rows)∧0 < ks.length∧((d.rows=[]∧u=.slice none 0 0)∨∃a cap,u=.slice (some a) d.rows.length cap∧d.rows.length≤cap∧
   ∀i row,d.rows[i]?=some row→∃cs:List Value,(∀c,c < ks.length→w.cell? (a.add (i * ks.length+c))=cs[c]?)∧RdL w ks row cs)
def RdL (w:World):List Kd→List D→List Value→Prop
 |[],[],[]=>True
 |k :: ks,d :: ds,c :: cs=>RdK w k d c∧RdL w ks ds cs
 |_,_,_=>False
end
def Holds (w:World) (ks:List Kd) (cs:List Value):Prop:=∃l,RdL w ks l cs∧RngL ks l
theorem RdL.append {w:World}:∀{ks ks':List Kd} {l l':List D} {cs cs':List Value},RdL w ks l cs→RdL w ks' l' cs'→RdL w (ks++ks') (l++l') (cs++cs')
 |[],_,[],_,[],_,_,h=>h
 |_ :: _,_,_ :: _,_,_ :: _,_,h,h'=>by
  simp only [RdL,List.cons_append] at h ⊢
  exact ⟨h.1,RdL.append h.2 h'⟩
 |[],_,[],_,_ :: _,_,h,_=>by simp [RdL] at h
 |[],_,_ :: _,_,_,_,h,_=>by simp [RdL] at h
 |_ :: _,_,[],_,_,_,h,_=>by simp [RdL] at h
 |_ :: _,_,_ :: _,_,[],_,h,_=>by simp [RdL] at h
theorem RdL.len {w:World}:∀{ks:List Kd} {l:List D} {cs:List Value},RdL w ks l cs→l.length=ks.length∧cs.length=ks.length
 |[],[],[],_=>⟨rfl,rfl⟩
 |_ :: _,_ :: _,_ :: _,h=>by
  simp only [RdL] at h
  have:=RdL.len h.2
  exact ⟨by simp [this.1],by simp [this.2]⟩
 |[],[],_ :: _,h=>by simp [RdL] at h
 |[],_ :: _,_,h=>by simp [RdL] at h
 |_ :: _,[],_,h=>by simp [RdL] at h
 |_ :: _,_ :: _,[],h=>by simp [RdL] at h
theorem RngL.append:∀{ks ks':List Kd} {l l':List D},l.length=ks.length→RngL ks l→RngL ks' l'→RngL (ks++ks') (l++l')
 |[],_,[],_,_,_,h=>h
 |_ :: _,_,_ :: _,_,hl,h,h'=>by
  simp only [RngL,List.cons_append] at h ⊢
  exact ⟨h.1,RngL.append (by simpa using hl) h.2 h'⟩
 |[],_,_ :: _,_,hl,_,_=>by simp at hl
 |_ :: _,_,[],_,hl,_,_=>by simp at hl
theorem Holds.append {w:World} {ks ks':List Kd} {cs cs':List Value} (h:Holds w ks cs) (h':Holds w ks' cs'):Holds w (ks++ks') (cs++cs'):=by
 obtain ⟨l,a,b⟩:=h
 obtain ⟨l',a',b'⟩:=h'
 exact ⟨l++l',a.append a',b.append a.len.1 b'⟩
theorem Holds.nil {w:World}:Holds w [] []:=⟨[],trivial,trivial⟩
section
variable {H:Type} {enc:TypeId×Value→H} {P:Program} {w:World} {base:Nat} {spare:Nat→Bool} {held:Bool}
theorem holds_one {k:Kd} {d:D} {u:Value} (h:RdK w k d u) (hr:RngK k d):Holds w [k] [u]:=⟨[d],⟨h,trivial⟩,⟨hr,trivial⟩⟩
theorem holds_rep {ks:List Kd} {cs:List Value} (m:Nat) (hl:cs.length=(repK ks m).length) (h:∀i,i < m→Holds w ks ((cs.drop (i * ks.length)).take ks.length)):Holds w (repK ks m) cs:=by
 induction m generalizing cs with
 |zero=>
  have:cs=[]:=List.length_eq_zero_iff.1 (by simpa [repK] using hl)
  subst this
  exact Holds.nil
 |succ m ih=>
  have e:cs=cs.take ks.length++cs.drop ks.length:=(List.take_append_drop _ _).symm
  rw [e]
  refine Holds.append (by simpa using h 0 (by omega)) (ih ?_ fun i hi=>?_)
  ·simp only [List.length_drop,hl,repK,List.length_append]
   omega
  ·have:=h (i+1) (by omega)
   rwa [List.drop_drop,show ks.length+i * ks.length=(i+1) * ks.length by rw [Nat.add_mul];omega]
theorem holds_fields {g:TypeId→Option (List Kd)} {cs:List Value}:∀(fs:List Field) (off:Nat) (ks:List Kd),descF g P fs off=some ks→cs.length=off+ks.length→
  (∀f∈fs,∀ks',g f.type=some ks'→Holds w ks' ((cs.drop f.offset).take (P.cellsOf f.type)))→Holds w ks (cs.drop off)
 |[],off,ks,h,hl,_=>by
  simp only [descF,Option.some.injEq] at h
  subst h
  have:cs.drop off=[]:=List.drop_eq_nil_of_le (by simp at hl;omega)
  rw [this]
  exact Holds.nil
 |f :: r,off,ks,h,hl,hf=>by
  simp only [descF] at h
  split at h
  ·rename_i ks1 hk
   split at h
   ·rename_i hb
    simp only [Bool.and_eq_true,beqN_iff] at hb
    split at h
    ·rename_i ks2 hks2
     simp only [Option.some.injEq] at h
     subst h
     have e:cs.drop off=(cs.drop off).take ks1.length++(cs.drop off).drop ks1.length:=(List.take_append_drop _ _).symm
     rw [e]
     refine Holds.append ?_ ?_
     ·have:=hf f (by simp) ks1 hk
      rwa [hb.1,hb.2] at this
     ·rw [List.drop_drop]
      exact holds_fields r (off+ks1.length) ks2 hks2 (by rw [hl,List.length_append];omega) (fun f' hf'=>hf f' (by simp [hf']))
    ·cases h
   ·cases h
  ·cases h
theorem bytes_of (z:ByteArray):bytesOf (z.data.toList.map UInt8.toNat)=z:=by
 obtain ⟨d⟩:=z
 simp only [bytesOf,List.map_map]
 congr 1
 have:(UInt8.ofNat∘UInt8.toNat)=id:=by funext x;simp
 rw [this]
 simp
theorem holds_of_trod:∀(n:Nat) (t:TypeId) (ks:List Kd),desc P n t=some ks→∀(m:Nat) (cs:List Value) (x:DataW H×List MemPlace),DataW.trod enc P w base spare held m t cs=some x→Holds w ks cs
 |0,_,_,h,_,_,_,_=>by simp [desc] at h
 |n+1,t,ks,h,m,cs,x,hx=>by
  unfold desc at h
  split at h
  ·rename_i hu
   simp only [Option.some.injEq] at h
   subst h
   obtain ⟨b,rfl,_⟩:=DataW.trod_bool hu hx
   exact holds_one (d:=.b b) ⟨⟨_,rfl⟩,rfl⟩ trivial
  ·rename_i k hu
   simp only [Option.some.injEq] at h
   subst h
   obtain ⟨z,rfl,_,hw⟩:=DataW.trod_int hu hx
   exact holds_one (d:=.i z) ⟨⟨_,rfl⟩,rfl⟩ (HB.wf_rng hw)
  ·rename_i hu
   simp only [Option.some.injEq] at h
   subst h
   obtain ⟨z,rfl,_,_⟩:=DataW.trod_string hu hx
   refine holds_one (d:=.s (z.data.toList.map UInt8.toNat)) ⟨⟨_,rfl⟩,?_⟩ ?_
   ·show Value.string z=.string (bytesOf (z.data.toList.map UInt8.toNat))
    rw [bytes_of]
   ·intro b hb
    obtain ⟨x,_,rfl⟩:=List.mem_map.1 (show b∈z.data.toList.map UInt8.toNat from hb)
    exact x.toNat_lt
  ·rename_i e hu
   split at h
   ·rename_i k ks' hd
    split at h
    ·rename_i hb
     have hb:P.cellsOf e=ks'.length+1:=by rw [beqN_iff] at hb;exact hb
     simp only [Option.some.injEq] at h
     subst h
     rcases DataW.trod_slice hu hx with ⟨rfl,_⟩ |⟨a,len,cap,elems,rest,m',rfl,rfl,_,_,h2,h3,h4,h5,_,_⟩
     ·exact holds_one (d:=.l []) ⟨⟨_,rfl,fun _ h=>(by cases h),by simp⟩,by simp,.inl ⟨rfl,rfl⟩⟩ (fun _ h=>(by cases h))
     ·have row:∀i,i < len→∃l cs',(∀c,c < ks'.length+1→w.cell? (a.add (i * (ks'.length+1)+c))=cs'[c]?)∧RdL w (k :: ks') l cs'∧RngL (k :: ks') l:=by
       intro i hi
       have e1:=h5 i hi
       rw [List.getElem?_eq_getElem (by omega)] at e1
       obtain ⟨cs',c1,c2⟩:=Option.bind_eq_some_iff.1 e1
       obtain ⟨d1,d2,d3⟩:=HB.cells_get c1
       rw [hb] at d1 d2 d3 c1
       obtain ⟨l,g1,g2⟩:=holds_of_trod n e (k :: ks') hd m' cs' _ c2
       refine ⟨l,cs',fun c hc=>?_,g1,g2⟩
       rw [←d3 c hc,HB.addr_add2]
      let rows:Rows:=(List.range len).map fun i=>if h:i < len then Classical.choose (row i h) else []
      have hlen:rows.length=len:=by simp [rows]
      have hget:∀i r,rows[i]?=some r→∃h:i < len,r=Classical.choose (row i h):=by
       intro i r hr
       have hi:i < len:=by rw [←hlen];exact (List.getElem?_eq_some_iff.1 hr).1
       refine ⟨hi,?_⟩
       simp only [rows,List.getElem?_map,List.getElem?_range hi,Option.map_some,Option.some.injEq] at hr
       rw [←hr,dif_pos hi]
      refine holds_one (d:=.l rows) ⟨⟨_,rfl,fun r hr=>?_,?_⟩,by simp,.inr ⟨a,cap,?_,?_,fun i r hr=>?_⟩⟩ (fun r hr=>?_)
      ·obtain ⟨i,hi⟩:=List.getElem?_of_mem hr
       obtain ⟨h,rfl⟩:=hget i r hi
       obtain ⟨_,_,h6,_⟩:=Classical.choose_spec (row i h)
       exact h6.len.1
      ·have h3:cap≤9223372036854775807:=h3
       rw [hlen];omega
      ·show Value.slice (some a) len cap=.slice (some a) rows.length cap
       rw [hlen]
      ·show rows.length≤cap
       rw [hlen];exact h2
      ·obtain ⟨h,rfl⟩:=hget i r hr
       obtain ⟨cs',h5',h6,_⟩:=Classical.choose_spec (row i h)
       exact ⟨cs',fun c hc=>h5' c (by simpa using hc),h6⟩
      ·obtain ⟨i,hi⟩:=List.getElem?_of_mem (show r∈rows from hr)
       obtain ⟨h,rfl⟩:=hget i r hi
       obtain ⟨_,_,_,h7⟩:=Classical.choose_spec (row i h)
       exact h7
    ·cases h
   ·cases h
  ·rename_i fs hu
   split at h
   ·rename_i ks' hd
    split at h
    ·rename_i hb
     rw [beqN_iff] at hb
     simp only [Option.some.injEq] at h
     subst h
     obtain ⟨xs,m',rfl,_,hl,hxs,hf⟩:=DataW.trod_struct hu hx
     have:=holds_fields (w:=w) (cs:=cs) fs.toList 0 ks' hd (by rw [hl,hb];simp) (fun f hm ks1 hk1=>?_)
     ·simpa using this
     ·obtain ⟨i,hi,rfl⟩:=List.mem_iff_getElem.1 hm
      have hi':i < fs.size:=by simpa using hi
      have e1:=hf i fs[i] (by simp [hi'])
      rw [List.getElem?_eq_getElem (by omega)] at e1
      have e2:fs.toList[i]=fs[i]:=by simp
      rw [e2] at hk1 ⊢
      exact holds_of_trod n _ ks1 hk1 m' _ _ e1
    ·cases h
   ·cases h
  ·rename_i m0 e hu
   split at h
   ·rename_i ks' hd
    split at h
    ·rename_i hb
     simp only [Bool.and_eq_true,beqN_iff] at hb
     simp only [Option.some.injEq] at h
     subst h
     cases m with
     |zero=>simp [DataW.trod] at hx
     |succ m'=>
      obtain ⟨hl,hi⟩:=HB.trod_array hu hx
      refine holds_rep m0 (by rw [hl,hb.2]) fun i h=>?_
      obtain ⟨y,hy⟩:=hi i h
      rw [hb.1] at hy
      exact holds_of_trod n e ks' hd m' _ y hy
    ·cases h
   ·cases h
  ·cases h
def strOf (z:ByteArray):List Nat:=z.data.toList.map UInt8.toNat
def valOf:Value→Option V
 |.int k n=>some (.int k n)
 |.bool b=>some (.bool b)
 |.string z=>some (.str (strOf z))
 |.slice none 0 0=>some .nils
 |.slice (some a) n cap=>if n≤cap then some (.rslc a n cap) else none
 |_=>none
noncomputable def roOf (w:World) (a:Addr):Option V:=match w.cell? a with
 |some u=>valOf u
 |none=>none
theorem valOf_rv {u:Value} {v:V} (h:valOf u=some v):one1 v=true∧∀ρ n,Rv ρ n v u:=by
 unfold valOf at h
 split at h
 ·cases h;exact ⟨rfl,fun _ _=>by simp only [Rv]⟩
 ·cases h;exact ⟨rfl,fun _ _=>by simp only [Rv]⟩
 ·cases h
  rename_i z
  refine ⟨rfl,fun _ _=>?_⟩
  simp only [Rv]
  refine ⟨fun b hb=>?_,by rw [strOf,bytes_of]⟩
  obtain ⟨x,_,rfl⟩:=List.mem_map.1 (show b∈z.data.toList.map UInt8.toNat from hb)
  exact x.toNat_lt
 ·cases h;exact ⟨rfl,fun _ _=>by simp only [Rv]⟩
 ·split at h
  ·rename_i hle
   cases h
   exact ⟨rfl,fun _ _=>by simp only [Rv];exact ⟨hle,trivial⟩⟩
  ·cases h
 ·cases h
theorem roOf_ok (w:World):RoAt (roOf w) w:=by
 intro a v h
 unfold roOf at h
 split at h
 ·rename_i u hu
  obtain ⟨h1,h2⟩:=valOf_rv h
  exact ⟨h1,u,hu,fun ρ n=>h2 ρ n⟩
 ·cases h
theorem str_bytes {s:List Nat} (h:∀b∈s,b < 256):strOf (bytesOf s)=s:=by
 simp only [strOf,bytesOf,List.map_map]
 induction s with
 |nil=>rfl
 |cons b s ih=>
  have hb:=h b (.head _)
  simp only [List.map_cons,Function.comp_apply,UInt8.toNat_ofNat',List.cons.injEq]
  exact ⟨Nat.mod_eq_of_lt hb,ih fun x hx=>h x (.tail _ hx)⟩
mutual
theorem rdK_fz {g:Nat→Option O} {B:Nat}:∀(k:Kd) (d:D) (u:Value),RdK w k d u→RngK k d→∃v,valOf u=some v∧FzC (roOf w) g B k d v
 |.int k,d,u,h,_=>by
  simp only [RdK] at h
  obtain ⟨⟨n,rfl⟩,rfl⟩:=h
  exact ⟨_,rfl,by simp only [FzC];exact ⟨⟨_,rfl⟩,trivial⟩⟩
 |.bool,d,u,h,_=>by
  simp only [RdK] at h
  obtain ⟨⟨n,rfl⟩,rfl⟩:=h
  exact ⟨_,rfl,by simp only [FzC];exact ⟨⟨_,rfl⟩,trivial⟩⟩
 |.str,d,u,h,hr=>by
  simp only [RdK] at h
  obtain ⟨⟨n,rfl⟩,rfl⟩:=h
  simp only [RngK,D.str] at hr
  refine ⟨_,rfl,?_⟩
  simp only [FzC,D.str,str_bytes hr]
  exact ⟨⟨_,rfl⟩,trivial⟩
 |.sl ks,d,u,h,hr=>by
  simp only [RdK] at h
  obtain ⟨⟨rows,rfl,hl⟩,hpos,h⟩:=h
  simp only [RngK,D.rows] at hr h
  rcases h with ⟨rfl,rfl⟩ |⟨a,cap,rfl,hcap,hrow⟩
  ·exact ⟨.nils,rfl,by simp only [FzC];exact ⟨⟨_,rfl,hl⟩,.inl ⟨rfl,trivial⟩⟩⟩
  ·refine ⟨.rslc a rows.length cap,by simp only [valOf];rw [if_pos hcap],?_⟩
   simp only [FzC,D.rows]
   refine ⟨⟨_,rfl,hl⟩,.inr (.inr ⟨a,cap,rfl,hpos,hcap,fun i hi=>?_⟩)⟩
   obtain ⟨cs,c1,c2⟩:=hrow i rows[i] (List.getElem?_eq_getElem hi)
   have hg:=hr rows[i] (List.getElem_mem hi)
   refine FzR.of _ _ _ _ fun j k hk=>?_
   have hj:j < ks.length:=(List.getElem?_eq_some_iff.1 hk).1
   obtain ⟨v,e1,e2⟩:=rdL_fz (g:=g) (B:=B) ks rows[i] cs c2 hg j k hk
   refine ⟨v,?_,?_⟩
   ·simp only [roOf,Nat.zero_add,c1 j hj]
    revert e1
    cases cs[j]? with
    |none=>intro e1;cases e1
    |some u=>intro e1;exact e1
   ·have:gt rows i (0+j)=rows[i].getD j .nil:=by simp [gt,List.getD_eq_getElem?_getD,hi]
    rw [this];exact e2
theorem rdL_fz {g:Nat→Option O} {B:Nat}:∀(ks:List Kd) (l:List D) (cs:List Value),RdL w ks l cs→RngL ks l→∀j k,ks[j]?=some k→∃v,(cs[j]?).bind valOf=some v∧FzC (roOf w) g B k (l.getD j .nil) v
 |[],_,_,_,_,j,k,hk=>by simp at hk
 |k0 :: ks,d :: l,c :: cs,h,hr,0,k,hk=>by
  simp only [RdL] at h
  simp only [RngL] at hr
  simp only [List.getElem?_cons_zero,Option.some.injEq] at hk
  subst hk
  obtain ⟨v,a,b⟩:=rdK_fz (g:=g) (B:=B) k0 d c h.1 hr.1
  exact ⟨v,by simpa using a,by simpa using b⟩
 |k0 :: ks,d :: l,c :: cs,h,hr,j+1,k,hk=>by
  simp only [RdL] at h
  simp only [RngL] at hr
  obtain ⟨v,a,b⟩:=rdL_fz (g:=g) (B:=B) ks l cs h.2 hr.2 j k (by simpa using hk)
  exact ⟨v,by simpa using a,by simpa using b⟩
 |_ :: _,[],_,h,_,_,_,_=>by simp [RdL] at h
 |_ :: _,_ :: _,[],h,_,_,_,_=>by simp [RdL] at h
end
theorem rdL_vals {g:Nat→Option O} {B:Nat} {ρ:Nm} {n:Nat}:∀(ks:List Kd) (l:List D) (cs:List Value),RdL w ks l cs→RngL ks l→
  ∃x:List V,x.length=ks.length∧(∀j k,ks[j]?=some k→∃u,x[j]?=some u∧FzC (roOf w) g B k (l.getD j .nil) u)∧RvL ρ n x cs
 |[],[],[],_,_=>⟨[],rfl,fun j k h=>by simp at h,by simp [RvL]⟩
 |k :: ks,d :: l,c :: cs,h,hr=>by
  simp only [RdL] at h
  simp only [RngL] at hr
  obtain ⟨v,a,b⟩:=rdK_fz (g:=g) (B:=B) k d c h.1 hr.1
  obtain ⟨x,e1,e2,e3⟩:=rdL_vals (g:=g) (B:=B) (ρ:=ρ) (n:=n) ks l cs h.2 hr.2
  refine ⟨v :: x,by simp [e1],fun j k' hk=>?_,by simp only [RvL];exact ⟨(valOf_rv a).2 ρ n,e3⟩⟩
  cases j with
  |zero=>
   simp only [List.getElem?_cons_zero,Option.some.injEq] at hk
   subst hk
   exact ⟨v,rfl,by simpa using b⟩
  |succ j=>simpa using e2 j k' (by simpa using hk)
 |[],[],_ :: _,h,_=>by simp [RdL] at h
 |[],_ :: _,_,h,_=>by simp [RdL] at h
 |_ :: _,[],_,h,_=>by simp [RdL] at h
 |_ :: _,_ :: _,[],h,_=>by simp [RdL] at h
def descAll (P:Program) (n:Nat):List TypeId→Option (List (Bool×List Kd))
 |[]=>some []
 |t :: r=>match desc P n t,descAll P n r with
  |some ks,some l=>some ((HB.isAgg P t,ks) :: l)
  |_,_=>none
def RngAll:List (Bool×List Kd)→List (List D)→Prop
 |(_,ks) :: r,d :: ds=>RngL ks d∧RngAll r ds
 |_,_=>True
def trueRes (_:List (List D)) (_ _:Nat):D:=.b true
def ArgsRd (w:World):List (Bool×List Kd)→List (List D)→List Value→Prop
 |[],[],[]=>True
 |(g,ks) :: r,d :: ds,v :: vs=>(RdL w ks d v.cells.toList∧(g=true→v=.agg (v.cells.toList).toArray)∧(g=false→v.cells.toList=[v]))∧ArgsRd w r ds vs
 |_,_,_=>False
theorem args_fz {g:Nat→Option O} {B:Nat} {ρ:Nm} {n:Nat}:∀(ps:List (Bool×List Kd)) (ds:List (List D)) (vs:List Value),ArgsRd w ps ds vs→RngAll ps ds→∃x:List V,ArgsFz (roOf w) g B ps ds x∧RvL ρ n x vs
 |[],[],[],_,_=>⟨[],trivial,by simp [RvL]⟩
 |(a,ks) :: ps,d :: ds,v :: vs,h,hr=>by
  obtain ⟨⟨h1,h2,h3⟩,h4⟩:=h
  obtain ⟨x,e1,e2,e3⟩:=rdL_vals (g:=g) (B:=B) (ρ:=ρ) (n:=n) ks d _ h1 hr.1
  obtain ⟨xs,f1,f2⟩:=args_fz (g:=g) (B:=B) (ρ:=ρ) (n:=n) ps ds vs h4 hr.2
  cases a with
  |true=>exact ⟨.agg x :: xs,⟨h1.len.1,⟨x,e1,e2,rfl⟩,f1⟩,by simp only [RvL,Rv];exact ⟨⟨_,e3,h2 rfl⟩,f2⟩⟩
  |false=>
   rw [h3 rfl] at e3
   match x,e3 with
   |[y],e3=>
    simp only [RvL,and_true] at e3
    exact ⟨y :: xs,⟨h1.len.1,⟨[y],e1,e2,y,rfl,rfl⟩,f1⟩,by simp only [RvL];exact ⟨e3,f2⟩⟩
   |[],e3=>simp [RvL] at e3
   |_ :: _ :: _,e3=>simp [RvL] at e3
 |[],[],_ :: _,h,_=>h.elim
 |[],_ :: _,_,h,_=>h.elim
 |_ :: _,[],_,h,_=>h.elim
 |_ :: _,_ :: _,[],h,_=>h.elim
theorem shape_of {r:Reach} {n:Nat} {t:TypeId} {ks:List Kd} {v:Value} (hd:desc P n t=some ks) (h:Value.okWide P w r base t v) :
  (HB.isAgg P t=true→v=.agg (v.cells.toList).toArray)∧(HB.isAgg P t=false→v.cells.toList=[v]):=by
 cases n with
 |zero=>simp [desc] at hd
 |succ n=>
  unfold desc at hd
  unfold HB.isAgg
  split at hd
  ·rename_i hu
   obtain ⟨b,rfl⟩:=okWide_bool hu h
   rw [hu]
   exact ⟨fun h=>(by cases h),fun _=>rfl⟩
  ·rename_i k hu
   obtain ⟨z,rfl⟩:=okWide_int hu h
   rw [hu]
   exact ⟨fun h=>(by cases h),fun _=>rfl⟩
  ·rename_i hu
   obtain ⟨z,rfl⟩:=okWide_string hu h
   rw [hu]
   exact ⟨fun h=>(by cases h),fun _=>rfl⟩
  ·rename_i e hu
   obtain ⟨a,l,c,rfl⟩:=okWide_slice hu h
   rw [hu]
   exact ⟨fun h=>(by cases h),fun _=>rfl⟩
  ·rename_i fs hu
   obtain ⟨cs,rfl,_⟩:=okWide_struct hu h
   rw [hu]
   exact ⟨fun _=>by simp [Value.cells],fun h=>by cases h⟩
  ·rename_i m e hu
   have:∃cs,v=.agg cs:=by
    unfold Value.okWide at h
    rw [hu] at h
    obtain ⟨cs,hc,_⟩:=h
    exact ⟨cs,hc⟩
   obtain ⟨cs,rfl⟩:=this
   rw [hu]
   exact ⟨fun _=>by simp [Value.cells],fun h=>by cases h⟩
  ·cases hd
theorem args_read {r:Reach} {n:Nat}:∀(ts:List TypeId) (params:List (Bool×List Kd)) (vs:List Value) (ds:List (DataW H)) (ps:List MemPlace),descAll P n ts=some params→
  (∀(j:Nat) t v,ts[j]?=some t→vs[j]?=some v→Value.okWide P w r base t v)→DataW.TrodAll enc P w 0 spare held ts vs ds ps→
  ∃dss,ArgsRd w params dss vs∧RngAll params dss
 |[],params,vs,ds,ps,hd,_,h=>by
  simp only [descAll,Option.some.injEq] at hd
  subst hd
  obtain ⟨rfl,_,_⟩:=trodAll_nil h
  exact ⟨[],trivial,trivial⟩
 |t :: ts,params,vs,ds,ps,hd,hok,h=>by
  unfold descAll at hd
  split at hd
  ·rename_i ks l hks hl
   simp only [Option.some.injEq] at hd
   subst hd
   cases vs with
   |nil=>simp [DataW.TrodAll] at h
   |cons v vs=>
    cases ds with
    |nil=>simp [DataW.TrodAll] at h
    |cons d ds=>
     obtain ⟨p,q,⟨m,hm⟩,h2,_⟩:=h
     obtain ⟨f,g1,g2⟩:=holds_of_trod n t ks hks m _ _ hm
     obtain ⟨dss,i1,i2⟩:=args_read ts l vs ds q hl (fun j t' v' ht hv=>hok (j+1) t' v' (by simpa using ht) (by simpa using hv)) h2
     obtain ⟨s1,s2⟩:=shape_of hks (hok 0 t v (by simp) (by simp))
     exact ⟨f :: dss,⟨⟨g1,s1,s2⟩,i1⟩,g2,i2⟩
  ·cases hd
end
section
variable {H:Type} {enc:TypeId×Value→H} {P:Program}
theorem said {fnum:FuncId} {f:Func} {s:ChangeSpec} {fresh handsOn again:Bool} {n:Nat} {params:List (Bool×List Kd)} {tb:TypeId}
  (hE:∀ro,CX.EnvOk (cxE ro) P) (hpure:∀ro,PureC0 (cxE ro) fnum ⟨params,[(false,[.bool])],false⟩ (RngAll params) trueRes) (hd:descAll P n f.params.toList=some params) (hl:laidOutB P=true)
  (hr:(f.params.toList.all fun t=>P.readableRec t && decide (t < P.types.size))=true) (hres:f.resultTypes=#[tb]) (hb:P.underlying tb=some .bool)
  (hs:∀ds:List (DataW H),ds.length=f.params.toList.length→s.fn H ds=⟨[.lit (.bool true)],ds,[]⟩) (hv:s.vars=[]) {apart:Bool} (W:World) (base:Nat) (args:Array Value) (ds gs:List (DataW H)) (before:List MemPlace)
  (hval:∀(j:Nat) t v,f.params[j]?=some t→args[j]?=some v→Value.okWide P W .any base t v) (hW:DataW.Whole enc P f.params.toList s.vars apart W args.toList ds gs before) :
  Calls P fnum args W fun e W'=>∃v,e=.returned v∧s.post enc P f apart fresh handsOn again W args v W':=by
 have hW':=hW
 obtain ⟨p,q,hA,hV,rfl,_,_⟩:=hW
 rw [hv] at hV
 obtain ⟨rfl,rfl⟩:=trodVars_none hV
 obtain ⟨dss,h1,h2⟩:=args_read (r:=.any) (base:=base) f.params.toList params args.toList ds p hd (fun j t v ht hv=>hval j t v (by simpa using ht) (by simpa using hv)) hA
 have hlen:=(trodAll_length hA).2
 have hfn:s.fn H (ds++[])=⟨[.lit (.bool true)],ds,[]⟩:=by rw [List.append_nil];exact hs ds hlen
 obtain ⟨xs,x1,x2⟩:=args_fz (g:=fun _=>none) (B:=0) (ρ:=fun _=>none) (n:=0) params dss args.toList h1 h2
 obtain ⟨vs,h',nx',g',⟨n0,hrun⟩,hresF⟩:=hpure (roOf W) dss h2 xs x1
 have hvs:vs=[.bool true]:=by
  match vs,hresF with
  |[v],hresF=>
   obtain ⟨⟨x,_,e2,u,rfl,rfl⟩,_⟩:=hresF
   obtain ⟨u,e3,e4⟩:=e2 0 .bool rfl
   simp only [List.getElem?_cons_zero,Option.some.injEq] at e3
   subst e3
   simp only [FzC] at e4
   rw [e4.2];rfl
  |[],hresF=>simp [ResFz] at hresF
  |_ :: _ :: _,hresF=>simp [ResFz] at hresF
 subst hvs
 have hcall:=call_ro (hE (roOf W)) (w:=W) (roOf_ok W) x2 (hrun n0 (Nat.le_refl _) retV)
 rw [show args.toList.toArray=args by simp] at hcall
 refine hcall.mono fun e W' h=>?_
 obtain ⟨u,ρ,m,rfl,hu,hk⟩:=h
 simp only [CX.one,Rv] at hu
 subst hu
 have hlt:=hW'.lt
 simp only [List.append_nil] at hW' hlt
 refine ⟨_,rfl,CX.post_kept (pa:=p) (pv:=[]) hW' (fun b sp hd=>?_) (fun sp hsp=>?_) (fun sp _=>?_) (by simp) hk (ok_one hres rfl (okWide_bool_mk hb _))⟩
 ·rw [hfn,hres]
  exact trodAll_mk1 (shut_bool hb _)
 ·rw [hfn]
  exact HB.args_stay hl hr hA (fun x hx=>HB.Kept_same hk (hlt x hx)) (fun x hx=>hsp x hx)
 ·rw [hfn,hv]
  rfl
end
end HX

namespace HX
open Go Go.Proofs
theorem own:ownKnob Try.prog.godebug=none:=by kernel_rfl
theorem laid:laidOutB Try.prog=true:=by kernel_rfl
end HX

namespace HX
open Go Go.Proofs CX
theorem envL {ro:Addr→Option V} {l:List Ctr} (h:Ctrs (cxE ro) l):EnvOk ⟨Ar.std,cxE ro,ksF,sigL (sigs l),preOf l,resOf l⟩:=hxEnv fun _ _ hs=>h.find hs
end HX

namespace HX
open Go Go.Proofs CX
def lrn (m:Int×Int) (v:Int):Int×Int:=if m.2+1=64 then (Int.tdiv (m.1+v) 2,Int.tdiv (m.2+1) 2) else (m.1+v,m.2+1)
structure MOk (m:Int×Int):Prop where
 a0:0≤m.1
 a1:m.1≤8589934592 * m.2
 n0:1≤m.2
 n1:m.2≤63
theorem MOk.lrn {m:Int×Int} (h:MOk m) {v:Int} (h0:0≤v) (h1:v≤8589934592):MOk (lrn m v):=by
 have:=h.a0;have:=h.a1;have:=h.n0;have:=h.n1
 unfold HX.lrn
 split
 ·refine ⟨?_,?_,?_,?_⟩<;>simp only []<;>(try rw [Int.tdiv_eq_ediv_of_nonneg (by omega)])<;>(try rw [Int.tdiv_eq_ediv_of_nonneg (by omega)])<;>omega
 ·refine ⟨?_,?_,?_,?_⟩<;>simp only []<;>omega
noncomputable def bitB (v k:Int):Int:=Ar.std.wrap .u8 (Ar.std.bit .and .i64 (Ar.std.shr .i64 v k) 1)
noncomputable def orL (o:Rows) (b sh:Int):Rows:=List.set o (Int.toNat ((o.length:Int) - 1)) [D.i (Ar.std.bit .or .u8 (D.int (gt o (Int.toNat ((o.length:Int) - 1)) 0)) (Ar.std.shl .u8 b sh))]
noncomputable def put1 (s:Rows×Int) (v k:Int):Rows×Int:=if s.2=0 then (orL (s.1++[[D.i 0]]) (bitB v k) (8 - 1),8 - 1) else (orL s.1 (bitB v k) (s.2 - 1),s.2 - 1)
noncomputable def putN (v:Int):Nat→Rows×Int→Rows×Int
 |0,s=>s
 |n+1,s=>putN v n (put1 s v n)
structure Wf (s:Rows×Int):Prop where
 pos:0 < s.1.length
 r0:0≤s.2
 r7:s.2≤7
def bitsN (s:Rows×Int):Int:=8 * s.1.length - s.2
theorem orL_len (o:Rows) (b sh:Int):(orL o b sh).length=o.length:=by simp [orL]
theorem put1_wf {s:Rows×Int} (h:Wf s) (v k:Int):Wf (put1 s v k)∧bitsN (put1 s v k)=bitsN s+1:=by
 obtain ⟨h1,h2,h3⟩:=h
 unfold put1 bitsN
 split
 ·refine ⟨⟨?_,?_,?_⟩,?_⟩<;>simp only [orL_len,List.length_append,List.length_cons,List.length_nil]<;>omega
 ·refine ⟨⟨?_,?_,?_⟩,?_⟩<;>simp only [orL_len]<;>omega
def eT (l:Rows) (i:Nat):Int:=(gt l i 0).int
def eI (l:Rows) (i:Nat):Int:=(gt l i 1).int
structure EvOk' (l:Rows):Prop where
 rt:∀i,i < l.length→0≤eT l i∧eT l i≤1073741824
 ri:∀i,i < l.length→0≤eI l i∧eI l i≤65535
 up:∀i,i+1 < l.length→eT l i < eT l (i+1)∨(eT l i=eT l (i+1)∧eI l i < eI l (i+1))
end HX

namespace HX
open Go Go.Proofs CX
theorem wrapU8 {n:Int} (h1:0≤n) (h2:n≤255):IntKind.wrap .u8 n=n:=by
 simp [IntKind.wrap,IntKind.bits,IntKind.signed];omega
theorem toNat_ofInt {n:Nat} {x:Int} (h1:0≤x) (h2:x < 2 ^ n):(BitVec.ofInt n x).toNat=x.toNat:=by
 rw [BitVec.toNat_ofInt,Int.emod_eq_of_lt h1 (by simpa using h2)]
theorem and1_u8 {x:Int} (h1:0≤x) (h2:x≤255):Ar.std.bit .and .u8 x 1=x % 2:=by
 show IntKind.wrap .u8 ((BitVec.ofInt 8 x &&& BitVec.ofInt 8 1).toNat:Int)=_
 have e:(BitVec.ofInt 8 x &&& BitVec.ofInt 8 1).toNat=x.toNat % 2:=by
  rw [BitVec.toNat_and,toNat_ofInt h1 (by omega),toNat_ofInt (by omega) (by decide),show (1:Int).toNat=1 from rfl,Nat.and_one_is_mod]
 rw [e,wrapU8 (by omega) (by omega)]
 omega
theorem shr_u8 {x:Int} {s:Nat} (hs:s≤7):Ar.std.shr .u8 x s=x / 2 ^ s:=by
 show x.fdiv (2 ^ (Nat.min (s:Int).toNat 8))=_
 rw [show Nat.min (s:Int).toNat 8=s from Nat.min_eq_left (by omega),Int.fdiv_eq_ediv_of_nonneg _ (Int.le_of_lt (Int.pow_pos (by omega)))]
def bAt (l:Rows) (p:Nat):Int:=(gt l (p / 8) 0).int / 2 ^ (7 - p % 8) % 2
theorem bAt_rng (l:Rows) (p:Nat):0≤bAt l p∧bAt l p≤1:=by unfold bAt;omega
end HX

namespace HX
open Go Go.Proofs CX
end HX

namespace HX
open Go Go.Proofs CX
end HX

namespace HX
open Go Go.Proofs CX
structure LI (v:Int) (N:Nat) (s0:Rows×Int) (k:Int) (s:Rows×Int):Prop where
 lo:-1≤k
 hi:k+1≤N
 wf:Wf s
 bits:bitsN s+(k+1)=bitsN s0+N
 to:putN v (k+1).toNat s=putN v N s0
theorem LI.start {v:Int} {N:Nat} {s0:Rows×Int} (h:Wf s0) {k:Int} (e:k+1=N):LI v N s0 k s0:=
 ⟨by omega,by omega,h,by omega,by rw [show (k+1).toNat=N by omega]⟩
theorem LI.step {v:Int} {N:Nat} {s0:Rows×Int} {k:Int} {s:Rows×Int} (h:LI v N s0 k s) (hk:0≤k):LI v N s0 (k - 1) (put1 s v k):=by
 obtain ⟨h1,h2,h3,h4,h5⟩:=h
 obtain ⟨a,b⟩:=put1_wf h3 v k
 refine ⟨by omega,by omega,a,by omega,?_⟩
 rw [←h5,show (k+1).toNat=(k - 1+1).toNat+1 by omega,putN,show (((k - 1+1).toNat:Nat):Int)=k by omega]
theorem LI.stop {v:Int} {N:Nat} {s0:Rows×Int} {k:Int} {s:Rows×Int} (h:LI v N s0 k s) (hk:¬0≤k):s=putN v N s0:=by
 have:=h.lo
 rw [←h.to,show (k+1).toNat=0 by omega,putN]
end HX

namespace HX
open Go Go.Proofs CX
end HX

namespace HX
open Go Go.Proofs CX
end HX

namespace HX
open Go Go.Proofs CX
end HX

namespace HX
open Go Go.Proofs CX
structure V17 (a0:Rows) (a1:Rows) (R:Nat→Nat→D) (I0:Bool→Int→Prop) (m0:Bool→Int→Nat):Prop where
 g0:(¬(a0.length:Int)=(a1.length:Int))→R 0 0=D.b false
 i0:((a0.length:Int)=(a1.length:Int))→I0 false 0
 g2:∀x0_0 x0_1,I0 x0_0 x0_1→((a0.length:Int)=(a1.length:Int))→(x0_1 < (a0.length:Int))→0≤x0_1
 g3:∀x0_0 x0_1,I0 x0_0 x0_1→((a0.length:Int)=(a1.length:Int))→(x0_1 < (a0.length:Int))→x0_1 < (a0.length:Int)
 g4:∀x0_0 x0_1,I0 x0_0 x0_1→((a0.length:Int)=(a1.length:Int))→(x0_1 < (a0.length:Int))→(((Int.toNat x0_1:Nat):Int)) < (a0.length:Int)
 g6:∀x0_0 x0_1,I0 x0_0 x0_1→((a0.length:Int)=(a1.length:Int))→(x0_1 < (a0.length:Int))→x0_1 < (a1.length:Int)
 g7:∀x0_0 x0_1,I0 x0_0 x0_1→((a0.length:Int)=(a1.length:Int))→(x0_1 < (a0.length:Int))→(((Int.toNat x0_1:Nat):Int)) < (a1.length:Int)
 g8:∀x0_0 x0_1,I0 x0_0 x0_1→((a0.length:Int)=(a1.length:Int))→(x0_1 < (a0.length:Int))→((¬(D.int (gt a0 x0_1.toNat 0))=(D.int (gt a1 x0_1.toNat 0)))∨(¬(D.int (gt a0 x0_1.toNat 1))=(D.int (gt a1 x0_1.toNat 1))))→R 0 0=D.b false
 g9:∀x0_0 x0_1,I0 x0_0 x0_1→((a0.length:Int)=(a1.length:Int))→(x0_1 < (a0.length:Int))→((D.int (gt a0 x0_1.toNat 0))=(D.int (gt a1 x0_1.toNat 0))∧(D.int (gt a0 x0_1.toNat 1))=(D.int (gt a1 x0_1.toNat 1)))→-9223372036854775808≤(x0_1+1)∧(x0_1+1)≤9223372036854775807
 n10:∀x0_0 x0_1,I0 x0_0 x0_1→((a0.length:Int)=(a1.length:Int))→(x0_1 < (a0.length:Int))→((D.int (gt a0 x0_1.toNat 0))=(D.int (gt a1 x0_1.toNat 0))∧(D.int (gt a0 x0_1.toNat 1))=(D.int (gt a1 x0_1.toNat 1)))→I0 x0_0 (x0_1+1)∧m0 x0_0 (x0_1+1) < m0 x0_0 x0_1
 g11:∀x0_0 x0_1,I0 x0_0 x0_1→((a0.length:Int)=(a1.length:Int))→(¬x0_1 < (a0.length:Int))→R 0 0=D.b true
end HX

namespace HX
open Go Go.Proofs CX
structure V50 (a0:Int) (a1:Int) (a2:Int) (R:Nat→Nat→D)  : Prop where
 g0:(a1≤a0)→R 0 0=D.b (decide (a0≤a2))
 g1:(¬a1≤a0)→R 0 0=D.b false
end HX

namespace HX
open Go Go.Proofs CX
structure V100 (a0:Int) (a1:Int) (R:Nat→Nat→D)  : Prop where
 g0:(¬a0=a0)→(¬a1=a1)→R 0 0=D.i 0
 g1:(¬a0=a0)→(a1=a1)→R 0 0=D.i (-1)
 g2:(a0=a0)→(¬a1=a1)→R 0 0=D.i 1
 g3:(a0=a0)→(a1=a1)→(a0 < a1)→R 0 0=D.i (-1)
 g4:(a0=a0)→(a1=a1)→(¬a0 < a1)→(a1 < a0)→R 0 0=D.i 1
 g5:(a0=a0)→(a1=a1)→(¬a0 < a1)→(¬a1 < a0)→R 0 0=D.i 0
end HX

namespace HX
open Go Go.Proofs CX
structure V76 (pre:Nat→List (List D)→Prop) (fn:Nat→List (List D)→Nat→Nat→D) (a0_0:Int) (a0_1:Int) (a1_0:Int) (a1_1:Int) (R:Nat→Nat→D) (I0:Int→Int→Prop) (m0:Int→Int→Nat):Prop where
 g0:pre 100 [[D.i a0_0],[D.i a1_0]]
 g1:pre 100 [[D.i a0_1],[D.i a1_1]]
 i0:I0 0 0
 g3:∀x0_0 x0_1,I0 x0_0 x0_1→(x0_1 < (([[D.i (D.int (fn 100 [[D.i a0_0],[D.i a1_0]] 0 0))],[D.i (D.int (fn 100 [[D.i a0_1],[D.i a1_1]] 0 0))]]).length:Int))→0≤x0_1
 g4:∀x0_0 x0_1,I0 x0_0 x0_1→(x0_1 < (([[D.i (D.int (fn 100 [[D.i a0_0],[D.i a1_0]] 0 0))],[D.i (D.int (fn 100 [[D.i a0_1],[D.i a1_1]] 0 0))]]).length:Int))→x0_1 < (([[D.i (D.int (fn 100 [[D.i a0_0],[D.i a1_0]] 0 0))],[D.i (D.int (fn 100 [[D.i a0_1],[D.i a1_1]] 0 0))]]).length:Int)
 g5:∀x0_0 x0_1,I0 x0_0 x0_1→(x0_1 < (([[D.i (D.int (fn 100 [[D.i a0_0],[D.i a1_0]] 0 0))],[D.i (D.int (fn 100 [[D.i a0_1],[D.i a1_1]] 0 0))]]).length:Int))→(((Int.toNat x0_1:Nat):Int)) < (([[D.i (D.int (fn 100 [[D.i a0_0],[D.i a1_0]] 0 0))],[D.i (D.int (fn 100 [[D.i a0_1],[D.i a1_1]] 0 0))]]).length:Int)
 g6:∀x0_0 x0_1,I0 x0_0 x0_1→(x0_1 < (([[D.i (D.int (fn 100 [[D.i a0_0],[D.i a1_0]] 0 0))],[D.i (D.int (fn 100 [[D.i a0_1],[D.i a1_1]] 0 0))]]).length:Int))→(¬(D.int (gt [[D.i (D.int (fn 100 [[D.i a0_0],[D.i a1_0]] 0 0))],[D.i (D.int (fn 100 [[D.i a0_1],[D.i a1_1]] 0 0))]] x0_1.toNat 0))=0)→R 0 0=D.i (D.int (gt [[D.i (D.int (fn 100 [[D.i a0_0],[D.i a1_0]] 0 0))],[D.i (D.int (fn 100 [[D.i a0_1],[D.i a1_1]] 0 0))]] x0_1.toNat 0))
 g7:∀x0_0 x0_1,I0 x0_0 x0_1→(x0_1 < (([[D.i (D.int (fn 100 [[D.i a0_0],[D.i a1_0]] 0 0))],[D.i (D.int (fn 100 [[D.i a0_1],[D.i a1_1]] 0 0))]]).length:Int))→((D.int (gt [[D.i (D.int (fn 100 [[D.i a0_0],[D.i a1_0]] 0 0))],[D.i (D.int (fn 100 [[D.i a0_1],[D.i a1_1]] 0 0))]] x0_1.toNat 0))=0)→-9223372036854775808≤(x0_1+1)∧(x0_1+1)≤9223372036854775807
 n8:∀x0_0 x0_1,I0 x0_0 x0_1→(x0_1 < (([[D.i (D.int (fn 100 [[D.i a0_0],[D.i a1_0]] 0 0))],[D.i (D.int (fn 100 [[D.i a0_1],[D.i a1_1]] 0 0))]]).length:Int))→((D.int (gt [[D.i (D.int (fn 100 [[D.i a0_0],[D.i a1_0]] 0 0))],[D.i (D.int (fn 100 [[D.i a0_1],[D.i a1_1]] 0 0))]] x0_1.toNat 0))=0)→I0 x0_0 (x0_1+1)∧m0 x0_0 (x0_1+1) < m0 x0_0 x0_1
 g9:∀x0_0 x0_1,I0 x0_0 x0_1→(¬x0_1 < (([[D.i (D.int (fn 100 [[D.i a0_0],[D.i a1_0]] 0 0))],[D.i (D.int (fn 100 [[D.i a0_1],[D.i a1_1]] 0 0))]]).length:Int))→R 0 0=D.i 0
end HX

namespace HX
open Go Go.Proofs CX
structure V71 (pre:Nat→List (List D)→Prop) (fn:Nat→List (List D)→Nat→Nat→D) (a0:Rows) (a1_0:Int) (a1_1:Int) (R:Nat→Nat→D)  : Prop where
 g0:pre 50 [[D.i a1_0],[D.i 0],[D.i 1073741824]]
 g1:(D.boo (fn 50 [[D.i a1_0],[D.i 0],[D.i 1073741824]] 0 0)=false)→R 0 0=D.i 3
 g2:(D.boo (fn 50 [[D.i a1_0],[D.i 0],[D.i 1073741824]] 0 0)=true)→pre 50 [[D.i a1_1],[D.i 0],[D.i 65535]]
 g3:(D.boo (fn 50 [[D.i a1_0],[D.i 0],[D.i 1073741824]] 0 0)=true)→(D.boo (fn 50 [[D.i a1_1],[D.i 0],[D.i 65535]] 0 0)=false)→R 0 0=D.i 3
 g4:(D.boo (fn 50 [[D.i a1_0],[D.i 0],[D.i 1073741824]] 0 0)=true)→(D.boo (fn 50 [[D.i a1_1],[D.i 0],[D.i 65535]] 0 0)=true)→(0 < (a0.length:Int))→-9223372036854775808≤((a0.length:Int) - 1)∧((a0.length:Int) - 1)≤9223372036854775807
 g5:(D.boo (fn 50 [[D.i a1_0],[D.i 0],[D.i 1073741824]] 0 0)=true)→(D.boo (fn 50 [[D.i a1_1],[D.i 0],[D.i 65535]] 0 0)=true)→(0 < (a0.length:Int))→0≤((a0.length:Int) - 1)
 g6:(D.boo (fn 50 [[D.i a1_0],[D.i 0],[D.i 1073741824]] 0 0)=true)→(D.boo (fn 50 [[D.i a1_1],[D.i 0],[D.i 65535]] 0 0)=true)→(0 < (a0.length:Int))→((a0.length:Int) - 1) < (a0.length:Int)
 g7:(D.boo (fn 50 [[D.i a1_0],[D.i 0],[D.i 1073741824]] 0 0)=true)→(D.boo (fn 50 [[D.i a1_1],[D.i 0],[D.i 65535]] 0 0)=true)→(0 < (a0.length:Int))→(((Int.toNat ((a0.length:Int) - 1):Nat):Int)) < (a0.length:Int)
 g8:(D.boo (fn 50 [[D.i a1_0],[D.i 0],[D.i 1073741824]] 0 0)=true)→(D.boo (fn 50 [[D.i a1_1],[D.i 0],[D.i 65535]] 0 0)=true)→(0 < (a0.length:Int))→pre 76 [[D.i (D.int (gt a0 (Int.toNat ((a0.length:Int) - 1)) 0)),D.i (D.int (gt a0 (Int.toNat ((a0.length:Int) - 1)) 1))],[D.i a1_0,D.i a1_1]]
 g9:(D.boo (fn 50 [[D.i a1_0],[D.i 0],[D.i 1073741824]] 0 0)=true)→(D.boo (fn 50 [[D.i a1_1],[D.i 0],[D.i 65535]] 0 0)=true)→(0 < (a0.length:Int))→(0≤(D.int (fn 76 [[D.i (D.int (gt a0 (Int.toNat ((a0.length:Int) - 1)) 0)),D.i (D.int (gt a0 (Int.toNat ((a0.length:Int) - 1)) 1))],[D.i a1_0,D.i a1_1]] 0 0)))→R 0 0=D.i 2
 g10:(D.boo (fn 50 [[D.i a1_0],[D.i 0],[D.i 1073741824]] 0 0)=true)→(D.boo (fn 50 [[D.i a1_1],[D.i 0],[D.i 65535]] 0 0)=true)→(0 < (a0.length:Int))→(¬0≤(D.int (fn 76 [[D.i (D.int (gt a0 (Int.toNat ((a0.length:Int) - 1)) 0)),D.i (D.int (gt a0 (Int.toNat ((a0.length:Int) - 1)) 1))],[D.i a1_0,D.i a1_1]] 0 0)))→R 0 0=D.i 0
 g11:(D.boo (fn 50 [[D.i a1_0],[D.i 0],[D.i 1073741824]] 0 0)=true)→(D.boo (fn 50 [[D.i a1_1],[D.i 0],[D.i 65535]] 0 0)=true)→(¬0 < (a0.length:Int))→R 0 0=D.i 0
end HX

namespace HX
open Go Go.Proofs CX
structure V51 (pre:Nat→List (List D)→Prop) (fn:Nat→List (List D)→Nat→Nat→D) (a0:Rows) (R:Nat→Nat→D) (I0:Int→Int→Prop) (m0:Int→Int→Nat):Prop where
 g0:(65536 < (a0.length:Int))→R 0 0=D.i 9
 i0:(¬65536 < (a0.length:Int))→I0 0 0
 g2:∀x0_0 x0_1,I0 x0_0 x0_1→(¬65536 < (a0.length:Int))→(x0_1 < (a0.length:Int))→0≤x0_1
 g3:∀x0_0 x0_1,I0 x0_0 x0_1→(¬65536 < (a0.length:Int))→(x0_1 < (a0.length:Int))→x0_1 < (a0.length:Int)
 g4:∀x0_0 x0_1,I0 x0_0 x0_1→(¬65536 < (a0.length:Int))→(x0_1 < (a0.length:Int))→(((Int.toNat x0_1:Nat):Int)) < (a0.length:Int)
 g6:∀x0_0 x0_1,I0 x0_0 x0_1→(¬65536 < (a0.length:Int))→(x0_1 < (a0.length:Int))→x0_1≤(a0.length:Int)
 g7:∀x0_0 x0_1,I0 x0_0 x0_1→(¬65536 < (a0.length:Int))→(x0_1 < (a0.length:Int))→pre 71 [[D.l (List.take x0_1.toNat (List.drop 0 a0))],[D.i (D.int (gt a0 x0_1.toNat 0)),D.i (D.int (gt a0 x0_1.toNat 1))]]
 g8:∀x0_0 x0_1,I0 x0_0 x0_1→(¬65536 < (a0.length:Int))→(x0_1 < (a0.length:Int))→(¬(D.int (fn 71 [[D.l (List.take x0_1.toNat (List.drop 0 a0))],[D.i (D.int (gt a0 x0_1.toNat 0)),D.i (D.int (gt a0 x0_1.toNat 1))]] 0 0))=0)→R 0 0=D.i (D.int (fn 71 [[D.l (List.take x0_1.toNat (List.drop 0 a0))],[D.i (D.int (gt a0 x0_1.toNat 0)),D.i (D.int (gt a0 x0_1.toNat 1))]] 0 0))
 g9:∀x0_0 x0_1,I0 x0_0 x0_1→(¬65536 < (a0.length:Int))→(x0_1 < (a0.length:Int))→((D.int (fn 71 [[D.l (List.take x0_1.toNat (List.drop 0 a0))],[D.i (D.int (gt a0 x0_1.toNat 0)),D.i (D.int (gt a0 x0_1.toNat 1))]] 0 0))=0)→-9223372036854775808≤(x0_1+1)∧(x0_1+1)≤9223372036854775807
 n10:∀x0_0 x0_1,I0 x0_0 x0_1→(¬65536 < (a0.length:Int))→(x0_1 < (a0.length:Int))→((D.int (fn 71 [[D.l (List.take x0_1.toNat (List.drop 0 a0))],[D.i (D.int (gt a0 x0_1.toNat 0)),D.i (D.int (gt a0 x0_1.toNat 1))]] 0 0))=0)→I0 x0_0 (x0_1+1)∧m0 x0_0 (x0_1+1) < m0 x0_0 x0_1
 g11:∀x0_0 x0_1,I0 x0_0 x0_1→(¬65536 < (a0.length:Int))→(¬x0_1 < (a0.length:Int))→R 0 0=D.i 0
end HX

namespace HX
open Go Go.Proofs CX
end HX

namespace HX
open Go Go.Proofs CX
structure V38 (a0:Rows) (a1:Int) (R:Nat→Nat→D) (I0:Int→Int→Rows→Int→Prop) (m0:Int→Int→Rows→Int→Nat):Prop where
 i0:I0 (-1) 0 [] 0
 g1:∀x0_0 x0_1 x0_2 x0_3,I0 x0_0 x0_1 x0_2 x0_3→(x0_3 < (a0.length:Int))→0≤x0_3
 g2:∀x0_0 x0_1 x0_2 x0_3,I0 x0_0 x0_1 x0_2 x0_3→(x0_3 < (a0.length:Int))→x0_3 < (a0.length:Int)
 g3:∀x0_0 x0_1 x0_2 x0_3,I0 x0_0 x0_1 x0_2 x0_3→(x0_3 < (a0.length:Int))→(((Int.toNat x0_3:Nat):Int)) < (a0.length:Int)
 g4:∀x0_0 x0_1 x0_2 x0_3,I0 x0_0 x0_1 x0_2 x0_3→(x0_3 < (a0.length:Int))→(Ar.std.wrap IntKind.u32 (a1+1))≠0
 g5:∀x0_0 x0_1 x0_2 x0_3,I0 x0_0 x0_1 x0_2 x0_3→(x0_3 < (a0.length:Int))→-9223372036854775808≤(Int.tmod (D.int (gt a0 x0_3.toNat 0)) (Ar.std.wrap IntKind.u32 (a1+1)))∧(Int.tmod (D.int (gt a0 x0_3.toNat 0)) (Ar.std.wrap IntKind.u32 (a1+1)))≤9223372036854775807
 g6:∀x0_0 x0_1 x0_2 x0_3,I0 x0_0 x0_1 x0_2 x0_3→(x0_3 < (a0.length:Int))→((Int.tmod (D.int (gt a0 x0_3.toNat 0)) (Ar.std.wrap IntKind.u32 (a1+1)))=0)→-9223372036854775808≤(x0_0+1)∧(x0_0+1)≤9223372036854775807
 g7:∀x0_0 x0_1 x0_2 x0_3,I0 x0_0 x0_1 x0_2 x0_3→(x0_3 < (a0.length:Int))→((Int.tmod (D.int (gt a0 x0_3.toNat 0)) (Ar.std.wrap IntKind.u32 (a1+1)))=0)→(100:Int)≠0
 g8:∀x0_0 x0_1 x0_2 x0_3,I0 x0_0 x0_1 x0_2 x0_3→(x0_3 < (a0.length:Int))→((Int.tmod (D.int (gt a0 x0_3.toNat 0)) (Ar.std.wrap IntKind.u32 (a1+1)))=0)→-9223372036854775808≤(Int.tmod (D.int (gt a0 x0_3.toNat 1)) 100)∧(Int.tmod (D.int (gt a0 x0_3.toNat 1)) 100)≤9223372036854775807
 g9:∀x0_0 x0_1 x0_2 x0_3,I0 x0_0 x0_1 x0_2 x0_3→(x0_3 < (a0.length:Int))→((Int.tmod (D.int (gt a0 x0_3.toNat 0)) (Ar.std.wrap IntKind.u32 (a1+1)))=0)→-9223372036854775808≤((x0_0+1)+(Int.tmod (D.int (gt a0 x0_3.toNat 1)) 100))∧((x0_0+1)+(Int.tmod (D.int (gt a0 x0_3.toNat 1)) 100))≤9223372036854775807
 g10:∀x0_0 x0_1 x0_2 x0_3,I0 x0_0 x0_1 x0_2 x0_3→(x0_3 < (a0.length:Int))→((Int.tmod (D.int (gt a0 x0_3.toNat 0)) (Ar.std.wrap IntKind.u32 (a1+1)))=0)→(((x0_0+1)+(Int.tmod (D.int (gt a0 x0_3.toNat 1)) 100))≤65535)→(100:Int)≠0
 g11:∀x0_0 x0_1 x0_2 x0_3,I0 x0_0 x0_1 x0_2 x0_3→(x0_3 < (a0.length:Int))→((Int.tmod (D.int (gt a0 x0_3.toNat 0)) (Ar.std.wrap IntKind.u32 (a1+1)))=0)→(((x0_0+1)+(Int.tmod (D.int (gt a0 x0_3.toNat 1)) 100))≤65535)→-9223372036854775808≤(Int.tmod (D.int (gt a0 x0_3.toNat 1)) 100)∧(Int.tmod (D.int (gt a0 x0_3.toNat 1)) 100)≤9223372036854775807
 g12:∀x0_0 x0_1 x0_2 x0_3,I0 x0_0 x0_1 x0_2 x0_3→(x0_3 < (a0.length:Int))→((Int.tmod (D.int (gt a0 x0_3.toNat 0)) (Ar.std.wrap IntKind.u32 (a1+1)))=0)→(((x0_0+1)+(Int.tmod (D.int (gt a0 x0_3.toNat 1)) 100))≤65535)→-9223372036854775808≤(1+(Int.tmod (D.int (gt a0 x0_3.toNat 1)) 100))∧(1+(Int.tmod (D.int (gt a0 x0_3.toNat 1)) 100))≤9223372036854775807
 g13:∀x0_0 x0_1 x0_2 x0_3,I0 x0_0 x0_1 x0_2 x0_3→(x0_3 < (a0.length:Int))→((Int.tmod (D.int (gt a0 x0_3.toNat 0)) (Ar.std.wrap IntKind.u32 (a1+1)))=0)→(((x0_0+1)+(Int.tmod (D.int (gt a0 x0_3.toNat 1)) 100))≤65535)→-9223372036854775808≤(x0_0+(1+(Int.tmod (D.int (gt a0 x0_3.toNat 1)) 100)))∧(x0_0+(1+(Int.tmod (D.int (gt a0 x0_3.toNat 1)) 100)))≤9223372036854775807
 g14:∀x0_0 x0_1 x0_2 x0_3,I0 x0_0 x0_1 x0_2 x0_3→(x0_3 < (a0.length:Int))→((Int.tmod (D.int (gt a0 x0_3.toNat 0)) (Ar.std.wrap IntKind.u32 (a1+1)))=0)→(((x0_0+1)+(Int.tmod (D.int (gt a0 x0_3.toNat 1)) 100))≤65535)→(1073741824 < x0_1)→R 0 0=D.l x0_2
 g15:∀x0_0 x0_1 x0_2 x0_3,I0 x0_0 x0_1 x0_2 x0_3→(x0_3 < (a0.length:Int))→((Int.tmod (D.int (gt a0 x0_3.toNat 0)) (Ar.std.wrap IntKind.u32 (a1+1)))=0)→(((x0_0+1)+(Int.tmod (D.int (gt a0 x0_3.toNat 1)) 100))≤65535)→(¬1073741824 < x0_1)→(x0_2.length+(List.length ([[D.i x0_1,D.i (x0_0+(1+(Int.tmod (D.int (gt a0 x0_3.toNat 1)) 100)))]]:Rows))) * 16≤4294967296∧(x0_2.length+(List.length ([[D.i x0_1,D.i (x0_0+(1+(Int.tmod (D.int (gt a0 x0_3.toNat 1)) 100)))]]:Rows)))≤4294967296
 g16:∀x0_0 x0_1 x0_2 x0_3,I0 x0_0 x0_1 x0_2 x0_3→(x0_3 < (a0.length:Int))→((Int.tmod (D.int (gt a0 x0_3.toNat 0)) (Ar.std.wrap IntKind.u32 (a1+1)))=0)→(((x0_0+1)+(Int.tmod (D.int (gt a0 x0_3.toNat 1)) 100))≤65535)→(¬1073741824 < x0_1)→-9223372036854775808≤(x0_3+1)∧(x0_3+1)≤9223372036854775807
 n17:∀x0_0 x0_1 x0_2 x0_3,I0 x0_0 x0_1 x0_2 x0_3→(x0_3 < (a0.length:Int))→((Int.tmod (D.int (gt a0 x0_3.toNat 0)) (Ar.std.wrap IntKind.u32 (a1+1)))=0)→(((x0_0+1)+(Int.tmod (D.int (gt a0 x0_3.toNat 1)) 100))≤65535)→(¬1073741824 < x0_1)→I0 (x0_0+(1+(Int.tmod (D.int (gt a0 x0_3.toNat 1)) 100))) x0_1 (x0_2++[[D.i x0_1,D.i (x0_0+(1+(Int.tmod (D.int (gt a0 x0_3.toNat 1)) 100)))]]) (x0_3+1)∧m0 (x0_0+(1+(Int.tmod (D.int (gt a0 x0_3.toNat 1)) 100))) x0_1 (x0_2++[[D.i x0_1,D.i (x0_0+(1+(Int.tmod (D.int (gt a0 x0_3.toNat 1)) 100)))]]) (x0_3+1) < m0 x0_0 x0_1 x0_2 x0_3
 g18:∀x0_0 x0_1 x0_2 x0_3,I0 x0_0 x0_1 x0_2 x0_3→(x0_3 < (a0.length:Int))→((Int.tmod (D.int (gt a0 x0_3.toNat 0)) (Ar.std.wrap IntKind.u32 (a1+1)))=0)→(¬((x0_0+1)+(Int.tmod (D.int (gt a0 x0_3.toNat 1)) 100))≤65535)→-9223372036854775808≤(x0_1+(mxI 1 (Int.tmod (D.int (gt a0 x0_3.toNat 0)) (Ar.std.wrap IntKind.u32 (a1+1)))))∧(x0_1+(mxI 1 (Int.tmod (D.int (gt a0 x0_3.toNat 0)) (Ar.std.wrap IntKind.u32 (a1+1)))))≤9223372036854775807
 g19:∀x0_0 x0_1 x0_2 x0_3,I0 x0_0 x0_1 x0_2 x0_3→(x0_3 < (a0.length:Int))→((Int.tmod (D.int (gt a0 x0_3.toNat 0)) (Ar.std.wrap IntKind.u32 (a1+1)))=0)→(¬((x0_0+1)+(Int.tmod (D.int (gt a0 x0_3.toNat 1)) 100))≤65535)→(65536:Int)≠0
 g20:∀x0_0 x0_1 x0_2 x0_3,I0 x0_0 x0_1 x0_2 x0_3→(x0_3 < (a0.length:Int))→((Int.tmod (D.int (gt a0 x0_3.toNat 0)) (Ar.std.wrap IntKind.u32 (a1+1)))=0)→(¬((x0_0+1)+(Int.tmod (D.int (gt a0 x0_3.toNat 1)) 100))≤65535)→-9223372036854775808≤(Int.tmod (D.int (gt a0 x0_3.toNat 1)) 65536)∧(Int.tmod (D.int (gt a0 x0_3.toNat 1)) 65536)≤9223372036854775807
 g21:∀x0_0 x0_1 x0_2 x0_3,I0 x0_0 x0_1 x0_2 x0_3→(x0_3 < (a0.length:Int))→((Int.tmod (D.int (gt a0 x0_3.toNat 0)) (Ar.std.wrap IntKind.u32 (a1+1)))=0)→(¬((x0_0+1)+(Int.tmod (D.int (gt a0 x0_3.toNat 1)) 100))≤65535)→(1073741824 < (x0_1+(mxI 1 (Int.tmod (D.int (gt a0 x0_3.toNat 0)) (Ar.std.wrap IntKind.u32 (a1+1))))))→R 0 0=D.l x0_2
 g22:∀x0_0 x0_1 x0_2 x0_3,I0 x0_0 x0_1 x0_2 x0_3→(x0_3 < (a0.length:Int))→((Int.tmod (D.int (gt a0 x0_3.toNat 0)) (Ar.std.wrap IntKind.u32 (a1+1)))=0)→(¬((x0_0+1)+(Int.tmod (D.int (gt a0 x0_3.toNat 1)) 100))≤65535)→(¬1073741824 < (x0_1+(mxI 1 (Int.tmod (D.int (gt a0 x0_3.toNat 0)) (Ar.std.wrap IntKind.u32 (a1+1))))))→(x0_2.length+(List.length ([[D.i (x0_1+(mxI 1 (Int.tmod (D.int (gt a0 x0_3.toNat 0)) (Ar.std.wrap IntKind.u32 (a1+1))))),D.i (Int.tmod (D.int (gt a0 x0_3.toNat 1)) 65536)]]:Rows))) * 16≤4294967296∧(x0_2.length+(List.length ([[D.i (x0_1+(mxI 1 (Int.tmod (D.int (gt a0 x0_3.toNat 0)) (Ar.std.wrap IntKind.u32 (a1+1))))),D.i (Int.tmod (D.int (gt a0 x0_3.toNat 1)) 65536)]]:Rows)))≤4294967296
 g23:∀x0_0 x0_1 x0_2 x0_3,I0 x0_0 x0_1 x0_2 x0_3→(x0_3 < (a0.length:Int))→((Int.tmod (D.int (gt a0 x0_3.toNat 0)) (Ar.std.wrap IntKind.u32 (a1+1)))=0)→(¬((x0_0+1)+(Int.tmod (D.int (gt a0 x0_3.toNat 1)) 100))≤65535)→(¬1073741824 < (x0_1+(mxI 1 (Int.tmod (D.int (gt a0 x0_3.toNat 0)) (Ar.std.wrap IntKind.u32 (a1+1))))))→-9223372036854775808≤(x0_3+1)∧(x0_3+1)≤9223372036854775807
 n24:∀x0_0 x0_1 x0_2 x0_3,I0 x0_0 x0_1 x0_2 x0_3→(x0_3 < (a0.length:Int))→((Int.tmod (D.int (gt a0 x0_3.toNat 0)) (Ar.std.wrap IntKind.u32 (a1+1)))=0)→(¬((x0_0+1)+(Int.tmod (D.int (gt a0 x0_3.toNat 1)) 100))≤65535)→(¬1073741824 < (x0_1+(mxI 1 (Int.tmod (D.int (gt a0 x0_3.toNat 0)) (Ar.std.wrap IntKind.u32 (a1+1))))))→I0 (Int.tmod (D.int (gt a0 x0_3.toNat 1)) 65536) (x0_1+(mxI 1 (Int.tmod (D.int (gt a0 x0_3.toNat 0)) (Ar.std.wrap IntKind.u32 (a1+1))))) (x0_2++[[D.i (x0_1+(mxI 1 (Int.tmod (D.int (gt a0 x0_3.toNat 0)) (Ar.std.wrap IntKind.u32 (a1+1))))),D.i (Int.tmod (D.int (gt a0 x0_3.toNat 1)) 65536)]]) (x0_3+1)∧m0 (Int.tmod (D.int (gt a0 x0_3.toNat 1)) 65536) (x0_1+(mxI 1 (Int.tmod (D.int (gt a0 x0_3.toNat 0)) (Ar.std.wrap IntKind.u32 (a1+1))))) (x0_2++[[D.i (x0_1+(mxI 1 (Int.tmod (D.int (gt a0 x0_3.toNat 0)) (Ar.std.wrap IntKind.u32 (a1+1))))),D.i (Int.tmod (D.int (gt a0 x0_3.toNat 1)) 65536)]]) (x0_3+1) < m0 x0_0 x0_1 x0_2 x0_3
 g25:∀x0_0 x0_1 x0_2 x0_3,I0 x0_0 x0_1 x0_2 x0_3→(x0_3 < (a0.length:Int))→(¬(Int.tmod (D.int (gt a0 x0_3.toNat 0)) (Ar.std.wrap IntKind.u32 (a1+1)))=0)→-9223372036854775808≤(x0_1+(mxI 1 (Int.tmod (D.int (gt a0 x0_3.toNat 0)) (Ar.std.wrap IntKind.u32 (a1+1)))))∧(x0_1+(mxI 1 (Int.tmod (D.int (gt a0 x0_3.toNat 0)) (Ar.std.wrap IntKind.u32 (a1+1)))))≤9223372036854775807
 g26:∀x0_0 x0_1 x0_2 x0_3,I0 x0_0 x0_1 x0_2 x0_3→(x0_3 < (a0.length:Int))→(¬(Int.tmod (D.int (gt a0 x0_3.toNat 0)) (Ar.std.wrap IntKind.u32 (a1+1)))=0)→(65536:Int)≠0
 g27:∀x0_0 x0_1 x0_2 x0_3,I0 x0_0 x0_1 x0_2 x0_3→(x0_3 < (a0.length:Int))→(¬(Int.tmod (D.int (gt a0 x0_3.toNat 0)) (Ar.std.wrap IntKind.u32 (a1+1)))=0)→-9223372036854775808≤(Int.tmod (D.int (gt a0 x0_3.toNat 1)) 65536)∧(Int.tmod (D.int (gt a0 x0_3.toNat 1)) 65536)≤9223372036854775807
 g28:∀x0_0 x0_1 x0_2 x0_3,I0 x0_0 x0_1 x0_2 x0_3→(x0_3 < (a0.length:Int))→(¬(Int.tmod (D.int (gt a0 x0_3.toNat 0)) (Ar.std.wrap IntKind.u32 (a1+1)))=0)→(1073741824 < (x0_1+(mxI 1 (Int.tmod (D.int (gt a0 x0_3.toNat 0)) (Ar.std.wrap IntKind.u32 (a1+1))))))→R 0 0=D.l x0_2
 g29:∀x0_0 x0_1 x0_2 x0_3,I0 x0_0 x0_1 x0_2 x0_3→(x0_3 < (a0.length:Int))→(¬(Int.tmod (D.int (gt a0 x0_3.toNat 0)) (Ar.std.wrap IntKind.u32 (a1+1)))=0)→(¬1073741824 < (x0_1+(mxI 1 (Int.tmod (D.int (gt a0 x0_3.toNat 0)) (Ar.std.wrap IntKind.u32 (a1+1))))))→(x0_2.length+(List.length ([[D.i (x0_1+(mxI 1 (Int.tmod (D.int (gt a0 x0_3.toNat 0)) (Ar.std.wrap IntKind.u32 (a1+1))))),D.i (Int.tmod (D.int (gt a0 x0_3.toNat 1)) 65536)]]:Rows))) * 16≤4294967296∧(x0_2.length+(List.length ([[D.i (x0_1+(mxI 1 (Int.tmod (D.int (gt a0 x0_3.toNat 0)) (Ar.std.wrap IntKind.u32 (a1+1))))),D.i (Int.tmod (D.int (gt a0 x0_3.toNat 1)) 65536)]]:Rows)))≤4294967296
 g30:∀x0_0 x0_1 x0_2 x0_3,I0 x0_0 x0_1 x0_2 x0_3→(x0_3 < (a0.length:Int))→(¬(Int.tmod (D.int (gt a0 x0_3.toNat 0)) (Ar.std.wrap IntKind.u32 (a1+1)))=0)→(¬1073741824 < (x0_1+(mxI 1 (Int.tmod (D.int (gt a0 x0_3.toNat 0)) (Ar.std.wrap IntKind.u32 (a1+1))))))→-9223372036854775808≤(x0_3+1)∧(x0_3+1)≤9223372036854775807
 n31:∀x0_0 x0_1 x0_2 x0_3,I0 x0_0 x0_1 x0_2 x0_3→(x0_3 < (a0.length:Int))→(¬(Int.tmod (D.int (gt a0 x0_3.toNat 0)) (Ar.std.wrap IntKind.u32 (a1+1)))=0)→(¬1073741824 < (x0_1+(mxI 1 (Int.tmod (D.int (gt a0 x0_3.toNat 0)) (Ar.std.wrap IntKind.u32 (a1+1))))))→I0 (Int.tmod (D.int (gt a0 x0_3.toNat 1)) 65536) (x0_1+(mxI 1 (Int.tmod (D.int (gt a0 x0_3.toNat 0)) (Ar.std.wrap IntKind.u32 (a1+1))))) (x0_2++[[D.i (x0_1+(mxI 1 (Int.tmod (D.int (gt a0 x0_3.toNat 0)) (Ar.std.wrap IntKind.u32 (a1+1))))),D.i (Int.tmod (D.int (gt a0 x0_3.toNat 1)) 65536)]]) (x0_3+1)∧m0 (Int.tmod (D.int (gt a0 x0_3.toNat 1)) 65536) (x0_1+(mxI 1 (Int.tmod (D.int (gt a0 x0_3.toNat 0)) (Ar.std.wrap IntKind.u32 (a1+1))))) (x0_2++[[D.i (x0_1+(mxI 1 (Int.tmod (D.int (gt a0 x0_3.toNat 0)) (Ar.std.wrap IntKind.u32 (a1+1))))),D.i (Int.tmod (D.int (gt a0 x0_3.toNat 1)) 65536)]]) (x0_3+1) < m0 x0_0 x0_1 x0_2 x0_3
 g32:∀x0_0 x0_1 x0_2 x0_3,I0 x0_0 x0_1 x0_2 x0_3→(¬x0_3 < (a0.length:Int))→R 0 0=D.l x0_2
end HX

namespace HX
open Go Go.Proofs CX
def byL (l:Rows):Prop:=∀i,i < l.length→0≤(gt l i 0).int∧(gt l i 0).int≤255
theorem law17 {a0 a1:Rows} (h:a1=a0) (hl:(a0.length:Int)≤9223372036854775807) {R:Nat→Nat→D} (hR:R 0 0=.b true) :
  V17 a0 a1 R (fun _ i=>∃q:Nat,i=q∧q≤a0.length) (fun _ i=>(a0.length - i).toNat):=by
 subst h
 constructor
 case g0=>intro h;exact absurd rfl h
 case i0=>exact fun _=>⟨0,rfl,by omega⟩
 all_goals (intro u i hI;obtain ⟨q,hq,hql⟩:=hI;subst hq;intro hx hy)
 case g11=>exact hR
 case g8=>intro h;exfalso;rcases h with h |h<;>exact h rfl
 case n10=>intro _;exact ⟨⟨q+1,by omega,by omega⟩,by omega⟩
 all_goals omega
def inB (a b c:Int):Bool:=decide (b≤a∧a≤c)
theorem law50 {a b c:Int} {R:Nat→Nat→D} (hR:R 0 0=.b (inB a b c)):V50 a b c R:=by
 constructor
 ·intro h;rw [hR,inB];congr 1;exact decide_eq_decide.2 ⟨fun h=>h.2,fun h2=>⟨h,h2⟩⟩
 ·intro h;rw [hR,inB,decide_eq_false fun h2=>h h2.1]
def cmpI (a b:Int):Int:=if a < b then -1 else if b < a then 1 else 0
theorem law100 {a b:Int} {R:Nat→Nat→D} (hR:R 0 0=.i (cmpI a b)):V100 a b R:=by
 constructor
 case g0=>intro h;exact absurd rfl h
 case g1=>intro h;exact absurd rfl h
 case g2=>intro _ h;exact absurd rfl h
 case g3=>intro _ _ h;rw [hR,cmpI,if_pos h]
 case g4=>intro _ _ h h2;rw [hR,cmpI,if_neg h,if_pos h2]
 case g5=>intro _ _ h h2;rw [hR,cmpI,if_neg h,if_neg h2]
def cmpE (t i t2 i2:Int):Int:=if cmpI t t2=0 then cmpI i i2 else cmpI t t2
theorem law76 {pre:Nat→List (List D)→Prop} {fn:Nat→List (List D)→Nat→Nat→D} (hp:∀x,pre 100 x) (hf:∀a b,fn 100 [[.i a],[.i b]] 0 0=.i (cmpI a b)) {t i t2 i2:Int} {R:Nat→Nat→D} (hR:R 0 0=.i (cmpE t i t2 i2)) :
  V76 pre fn t i t2 i2 R (fun _ k=>k=0∨(k=1∧cmpI t t2=0)∨(k=2∧cmpI t t2=0∧cmpI i i2=0)) (fun _ k=>(2 - k).toNat):=by
 have hi:∀n:Int,(D.i n).int=n:=fun _=>rfl
 constructor
 all_goals (try simp only [hf,hi,List.length_cons,List.length_nil])
 case g0 |g1=>exact hp _
 case i0=>left;trivial
 all_goals (intro u k hI)
 case g6=>
  intro hk h
  rcases hI with rfl |⟨rfl,e⟩ |⟨rfl,e,e2⟩
  ·have h:¬cmpI t t2=0:=h
   rw [hR,cmpE,if_neg h]
   rfl
  ·rw [hR,cmpE,if_pos e]
   rfl
  ·omega
 case n8=>
  intro hk h
  rcases hI with rfl |⟨rfl,e⟩ |⟨rfl,e,e2⟩
  ·exact ⟨.inr (.inl ⟨rfl,h⟩),by omega⟩
  ·exact ⟨.inr (.inr ⟨rfl,e,h⟩),by omega⟩
  ·omega
 case g9=>
  intro hk
  rcases hI with rfl |⟨rfl,e⟩ |⟨rfl,e,e2⟩
  ·omega
  ·omega
  ·rw [hR,cmpE,if_pos e,e2]
 all_goals (intros;omega)
def folE (l:Rows) (t i:Int):Int:=
 if ¬(inB t 0 1073741824=true∧inB i 0 65535=true) then 3 else if 0 < l.length∧0≤cmpE (eT l (l.length - 1)) (eI l (l.length - 1)) t i then 2 else 0
theorem law71 {pre:Nat→List (List D)→Prop} {fn:Nat→List (List D)→Nat→Nat→D} (hp50:∀x,pre 50 x) (hf50:∀a b c,fn 50 [[.i a],[.i b],[.i c]] 0 0=.b (inB a b c))
  (hp76:∀x,pre 76 x) (hf76:∀a b c d,fn 76 [[.i a,.i b],[.i c,.i d]] 0 0=.i (cmpE a b c d)) {l:Rows} (hl:(l.length:Int)≤9223372036854775807) {t i:Int} {R:Nat→Nat→D} (hR:R 0 0=.i (folE l t i)):V71 pre fn l t i R:=by
 have hi:∀n:Int,(D.i n).int=n:=fun _=>rfl
 have hb:∀n:Bool,(D.b n).boo=n:=fun _=>rfl
 constructor
 all_goals (try simp only [hf50,hf76,hi,hb])
 case g0=>exact hp50 _
 case g1=>intro h;rw [hR,folE,if_pos fun h2=>by rw [h] at h2;cases h2.1]
 case g2=>intro _;exact hp50 _
 case g3=>intro _ h;rw [hR,folE,if_pos fun h2=>by rw [h] at h2;cases h2.2]
 all_goals (intro h1 h2 h3)
 case g8=>exact hp76 _
 case g9=>
  intro h4
  rw [show ((l.length:Int) - 1).toNat=l.length - 1 by omega] at h4
  have h4:0≤cmpE (eT l (l.length - 1)) (eI l (l.length - 1)) t i:=h4
  rw [hR,folE,if_neg fun h=>h ⟨h1,h2⟩,if_pos ⟨by omega,h4⟩]
 case g10=>
  intro h4
  rw [show ((l.length:Int) - 1).toNat=l.length - 1 by omega] at h4
  have h4:¬0≤cmpE (eT l (l.length - 1)) (eI l (l.length - 1)) t i:=h4
  rw [hR,folE,if_neg fun h=>h ⟨h1,h2⟩,if_neg fun h=>h4 h.2]
 case g11=>rw [hR,folE,if_neg fun h=>h ⟨h1,h2⟩,if_neg fun h=>h3 (by omega)]
 all_goals omega
def chkG (l:Rows):Nat→Int
 |0=>0
 |f+1=>if folE (l.take (l.length - (f+1))) (eT l (l.length - (f+1))) (eI l (l.length - (f+1)))=0 then chkG l f else folE (l.take (l.length - (f+1))) (eT l (l.length - (f+1))) (eI l (l.length - (f+1)))
def chkE (l:Rows):Int:=if 65536 < l.length then 9 else chkG l l.length
theorem law51 {pre:Nat→List (List D)→Prop} {fn:Nat→List (List D)→Nat→Nat→D} (hp71:∀x,pre 71 x) (hf71:∀l a b,fn 71 [[.l l],[.i a,.i b]] 0 0=.i (folE l a b)) {l:Rows} {R:Nat→Nat→D} (hR:R 0 0=.i (chkE l)) :
  V51 pre fn l R (fun _ i=>∃f:Nat,f≤l.length∧i=(l.length - f:Nat)∧chkG l l.length=chkG l f) (fun _ i=>(l.length - i).toNat):=by
 have hi:∀n:Int,(D.i n).int=n:=fun _=>rfl
 constructor
 all_goals (try simp only [hf71,hi,List.drop_zero])
 case g0=>intro h;rw [hR,chkE,if_pos (by omega)]
 case i0=>exact fun _=>⟨l.length,Nat.le_refl _,by omega,rfl⟩
 all_goals (intro e i hI;obtain ⟨f,hf,hq,hc⟩:=hI;subst hq;(try simp only [Int.toNat_natCast]);intro hl hx)
 case g7=>exact hp71 _
 case g11=>
  obtain rfl:f=0:=by omega
  rw [hR,chkE,if_neg (by omega),hc];rfl
 case g8=>
  intro h
  obtain ⟨g,rfl⟩:∃g,f=g+1:=⟨f - 1,by omega⟩
  have h:¬folE (l.take (l.length - (g+1))) (eT l (l.length - (g+1))) (eI l (l.length - (g+1)))=0:=h
  rw [hR,chkE,if_neg (by omega),hc,chkG,if_neg h]
  rfl
 case n10=>
  intro h
  obtain ⟨g,rfl⟩:∃g,f=g+1:=⟨f - 1,by omega⟩
  refine ⟨⟨g,by omega,by omega,?_⟩,by omega⟩
  have h:folE (l.take (l.length - (g+1))) (eT l (l.length - (g+1))) (eI l (l.length - (g+1)))=0:=h
  rw [hc,chkG,if_pos h]
 all_goals omega
end HX
