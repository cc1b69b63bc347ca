/-
  Texts of the executors: V28, MgH, MmD, V5, V17, V18, V21, MbB, MbN, W113, W93, W95, W31, W32, W96, W71, W30, W27, W29, W62, W65, W67.
-/
import Derived.Test.YtcpndododgchbaaMeshSame9
set_option linter.all false
noncomputable section
namespace HX
open Go Go.Proofs CX
abbrev vZ28 (x:Int):=-9223372036854775808<=x/\x<=9223372036854775807
abbrev v28a (fn:Nat->List (List D)->Nat->Nat->D) (d0:Rows) (e2:Int) (f2:Int):=(D.boo (fn 93 [[D.i (D.int (gt d0 e2.toNat 0)),D.i (D.int (gt d0 e2.toNat 1)),D.i (D.int (gt d0 e2.toNat 2))],[D.i (D.int (gt d0 f2.toNat 0)),D.i (D.int (gt d0 f2.toNat 1)),D.i (D.int (gt d0 f2.toNat 2))]] 1 0)=true)
abbrev v28b (d0:Rows) (e2:Int) (fn:Nat->List (List D)->Nat->Nat->D) (f2:Int):=(List.set ([]++d0) e2.toNat [D.i (D.int (fn 93 [[D.i (D.int (gt d0 e2.toNat 0)),D.i (D.int (gt d0 e2.toNat 1)),D.i (D.int (gt d0 e2.toNat 2))],[D.i (D.int (gt d0 f2.toNat 0)),D.i (D.int (gt d0 f2.toNat 1)),D.i (D.int (gt d0 f2.toNat 2))]] 0 0)),D.i (D.int (fn 93 [[D.i (D.int (gt d0 e2.toNat 0)),D.i (D.int (gt d0 e2.toNat 1)),D.i (D.int (gt d0 e2.toNat 2))],[D.i (D.int (gt d0 f2.toNat 0)),D.i (D.int (gt d0 f2.toNat 1)),D.i (D.int (gt d0 f2.toNat 2))]] 0 1)),D.i (D.int (fn 93 [[D.i (D.int (gt d0 e2.toNat 0)),D.i (D.int (gt d0 e2.toNat 1)),D.i (D.int (gt d0 e2.toNat 2))],[D.i (D.int (gt d0 f2.toNat 0)),D.i (D.int (gt d0 f2.toNat 1)),D.i (D.int (gt d0 f2.toNat 2))]] 0 2))])
abbrev v28c (fn:Nat->List (List D)->Nat->Nat->D) (d0:Rows) (e2:Int) (f2:Int):=(D.int (fn 93 [[D.i (D.int (gt d0 e2.toNat 0)),D.i (D.int (gt d0 e2.toNat 1)),D.i (D.int (gt d0 e2.toNat 2))],[D.i (D.int (gt d0 f2.toNat 0)),D.i (D.int (gt d0 f2.toNat 1)),D.i (D.int (gt d0 f2.toNat 2))]] 0 0))
abbrev v28d (fn:Nat->List (List D)->Nat->Nat->D) (d0:Rows) (e2:Int) (f2:Int):=(D.int (fn 93 [[D.i (D.int (gt d0 e2.toNat 0)),D.i (D.int (gt d0 e2.toNat 1)),D.i (D.int (gt d0 e2.toNat 2))],[D.i (D.int (gt d0 f2.toNat 0)),D.i (D.int (gt d0 f2.toNat 1)),D.i (D.int (gt d0 f2.toNat 2))]] 0 1))
abbrev v28e (fn:Nat->List (List D)->Nat->Nat->D) (d0:Rows) (e2:Int) (f2:Int):=(D.int (fn 93 [[D.i (D.int (gt d0 e2.toNat 0)),D.i (D.int (gt d0 e2.toNat 1)),D.i (D.int (gt d0 e2.toNat 2))],[D.i (D.int (gt d0 f2.toNat 0)),D.i (D.int (gt d0 f2.toNat 1)),D.i (D.int (gt d0 f2.toNat 2))]] 0 2))
abbrev v28f (f2:Int) (d0:Rows):=(List.take f2.toNat (List.drop 0 ([]++d0)))
abbrev v28g (f2:Int) (d0:Rows):=(List.drop (Int.toNat (f2+1)) ([]++d0))
abbrev v28h (d0:Rows):=(Int.toNat ((([]++d0)).length:Int))
abbrev v28i (a0:Rows):=(¬1024 < (a0.length:Int))
abbrev v28j (fn:Nat->List (List D)->Nat->Nat->D) (a0:Rows):=(D.boo (fn 62 [[D.l a0],[D.nil]] 0 0)=false)
abbrev v28k (a1:Rows):=(¬1024 < (a1.length:Int))
structure V28c3 (pre:Nat->List (List D)->Prop) (fn:Nat->List (List D)->Nat->Nat->D) (a1:Rows) (b1:Rows) (d0:Rows) (d1:Bool) (e0:Rows) (e1:Bool) (e2:Int) (f0:Rows) (f1:Bool) (f2:Int) (I1:Rows->Bool->Prop) (m1:Rows->Bool->Nat) (I2:Rows->Bool->Int->Prop) (m2:Rows->Bool->Int->Nat) (I3:Rows->Bool->Int->Prop) (m3:Rows->Bool->Int->Nat):Prop where
 g31:(f2 < (d0.length:Int))->0<=f2
 g32:(f2 < (d0.length:Int))->f2 < (d0.length:Int)
 g33:(f2 < (d0.length:Int))->(((Int.toNat f2:Nat):Int)) < (d0.length:Int)
 g35:(f2 < (d0.length:Int))->pre 93 [[D.i (D.int (gt d0 e2.toNat 0)),D.i (D.int (gt d0 e2.toNat 1)),D.i (D.int (gt d0 e2.toNat 2))],[D.i (D.int (gt d0 f2.toNat 0)),D.i (D.int (gt d0 f2.toNat 1)),D.i (D.int (gt d0 f2.toNat 2))]]
 g36:(f2 < (d0.length:Int))->(D.boo (fn 93 [[D.i (D.int (gt d0 e2.toNat 0)),D.i (D.int (gt d0 e2.toNat 1)),D.i (D.int (gt d0 e2.toNat 2))],[D.i (D.int (gt d0 f2.toNat 0)),D.i (D.int (gt d0 f2.toNat 1)),D.i (D.int (gt d0 f2.toNat 2))]] 1 0)=false)->vZ28 ((f2+1))
 n37:(f2 < (d0.length:Int))->(D.boo (fn 93 [[D.i (D.int (gt d0 e2.toNat 0)),D.i (D.int (gt d0 e2.toNat 1)),D.i (D.int (gt d0 e2.toNat 2))],[D.i (D.int (gt d0 f2.toNat 0)),D.i (D.int (gt d0 f2.toNat 1)),D.i (D.int (gt d0 f2.toNat 2))]] 1 0)=false)->I3 f0 f1 (f2+1)/\m3 f0 f1 (f2+1) < m3 f0 f1 f2
 g38:(f2 < (d0.length:Int))->(v28a fn d0 e2 f2)->1<=d0.length
 g41:(f2 < (d0.length:Int))->(v28a fn d0 e2 f2)->(false=false)->((List.length ([]:Rows))+d0.length) * 24<=4294967296/\((List.length ([]:Rows))+d0.length)<=4294967296
 g42:(f2 < (d0.length:Int))->(v28a fn d0 e2 f2)->(false=false)->vZ28 ((f2+1))
 g43:(f2 < (d0.length:Int))->(v28a fn d0 e2 f2)->(false=false)->0<=f2
 g44:(f2 < (d0.length:Int))->(v28a fn d0 e2 f2)->(false=false)->f2<=(f2+1)
 g45:(f2 < (d0.length:Int))->(v28a fn d0 e2 f2)->(false=false)->(f2+1)<=((([]++d0)).length:Int)
 g46:(f2 < (d0.length:Int))->(v28a fn d0 e2 f2)->(false=false)->f2 < ((([]++d0)).length:Int)
 g47:(f2 < (d0.length:Int))->(v28a fn d0 e2 f2)->(false=false)->((([]++d0)).length:Int)<=((([]++d0)).length:Int)
 g48:(f2 < (d0.length:Int))->(v28a fn d0 e2 f2)->(false=false)->(f2=(f2+1))->0<=e2
 g49:(f2 < (d0.length:Int))->(v28a fn d0 e2 f2)->(false=false)->(f2=(f2+1))->e2 < ((([]++d0)).length:Int)
 g50:(f2 < (d0.length:Int))->(v28a fn d0 e2 f2)->(false=false)->(f2=(f2+1))->(((Int.toNat e2:Nat):Int)) < ((([]++d0)).length:Int)
 g51:(f2 < (d0.length:Int))->(v28a fn d0 e2 f2)->(false=false)->(f2=(f2+1))->pre 67 [[D.l (v28b d0 e2 fn f2)],[D.l a1],[D.l b1]]
 n52:(f2 < (d0.length:Int))->(v28a fn d0 e2 f2)->(false=false)->(f2=(f2+1))->(D.boo (fn 67 [[D.l (v28b d0 e2 fn f2)],[D.l a1],[D.l b1]] 0 0)=true)->I1 (v28b d0 e2 fn f2) true/\m1 (v28b d0 e2 fn f2) true < m1 d0 d1
 g53:(f2 < (d0.length:Int))->(v28a fn d0 e2 f2)->(false=false)->(f2=(f2+1))->(D.boo (fn 67 [[D.l (v28b d0 e2 fn f2)],[D.l a1],[D.l b1]] 0 0)=false)->vZ28 ((f2+1))
 n54:(f2 < (d0.length:Int))->(v28a fn d0 e2 f2)->(false=false)->(f2=(f2+1))->(D.boo (fn 67 [[D.l (v28b d0 e2 fn f2)],[D.l a1],[D.l b1]] 0 0)=false)->I3 f0 f1 (f2+1)/\m3 f0 f1 (f2+1) < m3 f0 f1 f2
 g55:(f2 < (d0.length:Int))->(v28a fn d0 e2 f2)->(false=false)->(¬f2=(f2+1))->0<=f2
 g56:(f2 < (d0.length:Int))->(v28a fn d0 e2 f2)->(false=false)->(¬f2=(f2+1))->f2<=((([]++d0)).length:Int)
 g57:(f2 < (d0.length:Int))->(v28a fn d0 e2 f2)->(false=false)->(¬f2=(f2+1))->0<=(f2+1)
 g58:(f2 < (d0.length:Int))->(v28a fn d0 e2 f2)->(false=false)->(¬f2=(f2+1))->(f2+1)<=((([]++d0)).length:Int)
 g59:(f2 < (d0.length:Int))->(v28a fn d0 e2 f2)->(false=false)->(¬f2=(f2+1))->(f2.toNat+((List.length (([]++d0):Rows)) - (Int.toNat (f2+1)))) * 24<=4294967296/\(f2.toNat+((List.length (([]++d0):Rows)) - (Int.toNat (f2+1))))<=4294967296
 g60:(f2 < (d0.length:Int))->(v28a fn d0 e2 f2)->(false=false)->(¬f2=(f2+1))->((Int.toNat (f2+1))+((List.length (([]++d0):Rows)) - (Int.toNat (f2+1))))<=(List.length (([]++d0):Rows))
 g61:(f2 < (d0.length:Int))->(v28a fn d0 e2 f2)->(false=false)->(¬f2=(f2+1))->(f2.toNat+((List.length (([]++d0):Rows)) - (Int.toNat (f2+1))))<=(List.length (([]++d0):Rows))
 g62:(f2 < (d0.length:Int))->(v28a fn d0 e2 f2)->(false=false)->(¬f2=(f2+1))->0<=(((f2.toNat+((List.length (([]++d0):Rows)) - (Int.toNat (f2+1))):Nat):Int))
 g63:(f2 < (d0.length:Int))->(v28a fn d0 e2 f2)->(false=false)->(¬f2=(f2+1))->(((f2.toNat+((List.length (([]++d0):Rows)) - (Int.toNat (f2+1))):Nat):Int))<=((([]++d0)).length:Int)
 g64:(f2 < (d0.length:Int))->(v28a fn d0 e2 f2)->(false=false)->(¬f2=(f2+1))->((([]++d0)).length:Int)<=(((((v28f f2 d0)++((List.take ((List.length (([]++d0):Rows)) - (Int.toNat (f2+1))) (v28g f2 d0))++(List.take ((List.length (([]++d0):Rows)) - (f2.toNat+((List.length (([]++d0):Rows)) - (Int.toNat (f2+1))))) (List.drop (f2.toNat+((List.length (([]++d0):Rows)) - (Int.toNat (f2+1)))) ([]++d0)))))).length:Int))
 g65:(f2 < (d0.length:Int))->(v28a fn d0 e2 f2)->(false=false)->(¬f2=(f2+1))->((Int.toNat (((f2.toNat+((List.length (([]++d0):Rows)) - (Int.toNat (f2+1))):Nat):Int)))+((v28h d0) - (Int.toNat (((f2.toNat+((List.length (([]++d0):Rows)) - (Int.toNat (f2+1))):Nat):Int)))))<=(List.length (((v28f f2 d0)++((List.take ((List.length (([]++d0):Rows)) - (Int.toNat (f2+1))) (v28g f2 d0))++(List.take ((List.length (([]++d0):Rows)) - (f2.toNat+((List.length (([]++d0):Rows)) - (Int.toNat (f2+1))))) (List.drop (f2.toNat+((List.length (([]++d0):Rows)) - (Int.toNat (f2+1)))) ([]++d0))))):Rows))
 g66:(f2 < (d0.length:Int))->(v28a fn d0 e2 f2)->(false=false)->(¬f2=(f2+1))->(0+(f2.toNat+((List.length (([]++d0):Rows)) - (Int.toNat (f2+1)))))<=(List.length (((List.take (Int.toNat (((f2.toNat+((List.length (([]++d0):Rows)) - (Int.toNat (f2+1))):Nat):Int))) (List.drop 0 ((v28f f2 d0)++((List.take ((List.length (([]++d0):Rows)) - (Int.toNat (f2+1))) (v28g f2 d0))++(List.take ((List.length (([]++d0):Rows)) - (f2.toNat+((List.length (([]++d0):Rows)) - (Int.toNat (f2+1))))) (List.drop (f2.toNat+((List.length (([]++d0):Rows)) - (Int.toNat (f2+1)))) ([]++d0)))))))++((List.replicate ((v28h d0) - (Int.toNat (((f2.toNat+((List.length (([]++d0):Rows)) - (Int.toNat (f2+1))):Nat):Int)))) [D.i 0,D.i 0,D.i 0])++(List.take ((List.length (((v28f f2 d0)++((List.take ((List.length (([]++d0):Rows)) - (Int.toNat (f2+1))) (v28g f2 d0))++(List.take ((List.length (([]++d0):Rows)) - (f2.toNat+((List.length (([]++d0):Rows)) - (Int.toNat (f2+1))))) (List.drop (f2.toNat+((List.length (([]++d0):Rows)) - (Int.toNat (f2+1)))) ([]++d0))))):Rows)) - ((Int.toNat (((f2.toNat+((List.length (([]++d0):Rows)) - (Int.toNat (f2+1))):Nat):Int)))+((v28h d0) - (Int.toNat (((f2.toNat+((List.length (([]++d0):Rows)) - (Int.toNat (f2+1))):Nat):Int)))))) (List.drop ((Int.toNat (((f2.toNat+((List.length (([]++d0):Rows)) - (Int.toNat (f2+1))):Nat):Int)))+((v28h d0) - (Int.toNat (((f2.toNat+((List.length (([]++d0):Rows)) - (Int.toNat (f2+1))):Nat):Int))))) ((v28f f2 d0)++((List.take ((List.length (([]++d0):Rows)) - (Int.toNat (f2+1))) (v28g f2 d0))++(List.take ((List.length (([]++d0):Rows)) - (f2.toNat+((List.length (([]++d0):Rows)) - (Int.toNat (f2+1))))) (List.drop (f2.toNat+((List.length (([]++d0):Rows)) - (Int.toNat (f2+1)))) ([]++d0))))))))):Rows))
 g67:(f2 < (d0.length:Int))->(v28a fn d0 e2 f2)->(false=false)->(¬f2=(f2+1))->0<=e2
 g68:(f2 < (d0.length:Int))->(v28a fn d0 e2 f2)->(false=false)->(¬f2=(f2+1))->e2 < (((f2.toNat+((List.length (([]++d0):Rows)) - (Int.toNat (f2+1))):Nat):Int))
 g69:(f2 < (d0.length:Int))->(v28a fn d0 e2 f2)->(false=false)->(¬f2=(f2+1))->(((0+e2.toNat:Nat):Int)) < (((((List.take (Int.toNat (((f2.toNat+((List.length (([]++d0):Rows)) - (Int.toNat (f2+1))):Nat):Int))) (List.drop 0 ((v28f f2 d0)++((List.take ((List.length (([]++d0):Rows)) - (Int.toNat (f2+1))) (v28g f2 d0))++(List.take ((List.length (([]++d0):Rows)) - (f2.toNat+((List.length (([]++d0):Rows)) - (Int.toNat (f2+1))))) (List.drop (f2.toNat+((List.length (([]++d0):Rows)) - (Int.toNat (f2+1)))) ([]++d0)))))))++((List.replicate ((Int.toNat ((List.length (([]++d0):Rows):Nat):Int)) - (Int.toNat (((f2.toNat+((List.length (([]++d0):Rows)) - (Int.toNat (f2+1))):Nat):Int)))) [D.i 0,D.i 0,D.i 0])++(List.take ((List.length (((v28f f2 d0)++((List.take ((List.length (([]++d0):Rows)) - (Int.toNat (f2+1))) (v28g f2 d0))++(List.take ((List.length (([]++d0):Rows)) - (f2.toNat+((List.length (([]++d0):Rows)) - (Int.toNat (f2+1))))) (List.drop (f2.toNat+((List.length (([]++d0):Rows)) - (Int.toNat (f2+1)))) ([]++d0))))):Rows)) - ((Int.toNat (((f2.toNat+((List.length (([]++d0):Rows)) - (Int.toNat (f2+1))):Nat):Int)))+((Int.toNat ((List.length (([]++d0):Rows):Nat):Int)) - (Int.toNat (((f2.toNat+((List.length (([]++d0):Rows)) - (Int.toNat (f2+1))):Nat):Int)))))) (List.drop ((Int.toNat (((f2.toNat+((List.length (([]++d0):Rows)) - (Int.toNat (f2+1))):Nat):Int)))+((Int.toNat ((List.length (([]++d0):Rows):Nat):Int)) - (Int.toNat (((f2.toNat+((List.length (([]++d0):Rows)) - (Int.toNat (f2+1))):Nat):Int))))) ((v28f f2 d0)++((List.take ((List.length (([]++d0):Rows)) - (Int.toNat (f2+1))) (v28g f2 d0))++(List.take ((List.length (([]++d0):Rows)) - (f2.toNat+((List.length (([]++d0):Rows)) - (Int.toNat (f2+1))))) (List.drop (f2.toNat+((List.length (([]++d0):Rows)) - (Int.toNat (f2+1)))) ([]++d0)))))))))).length:Int))
 g70:(f2 < (d0.length:Int))->(v28a fn d0 e2 f2)->(false=false)->(¬f2=(f2+1))->pre 67 [[D.l (List.take (f2.toNat+((List.length (([]++d0):Rows)) - (Int.toNat (f2+1)))) (List.drop 0 (List.set ((List.take (Int.toNat (((f2.toNat+((List.length (([]++d0):Rows)) - (Int.toNat (f2+1))):Nat):Int))) (List.drop 0 ((v28f f2 d0)++((List.take ((List.length (([]++d0):Rows)) - (Int.toNat (f2+1))) (v28g f2 d0))++(List.take ((List.length (([]++d0):Rows)) - (f2.toNat+((List.length (([]++d0):Rows)) - (Int.toNat (f2+1))))) (List.drop (f2.toNat+((List.length (([]++d0):Rows)) - (Int.toNat (f2+1)))) ([]++d0)))))))++((List.replicate ((v28h d0) - (Int.toNat (((f2.toNat+((List.length (([]++d0):Rows)) - (Int.toNat (f2+1))):Nat):Int)))) [D.i 0,D.i 0,D.i 0])++(List.take ((List.length (((v28f f2 d0)++((List.take ((List.length (([]++d0):Rows)) - (Int.toNat (f2+1))) (v28g f2 d0))++(List.take ((List.length (([]++d0):Rows)) - (f2.toNat+((List.length (([]++d0):Rows)) - (Int.toNat (f2+1))))) (List.drop (f2.toNat+((List.length (([]++d0):Rows)) - (Int.toNat (f2+1)))) ([]++d0))))):Rows)) - ((Int.toNat (((f2.toNat+((List.length (([]++d0):Rows)) - (Int.toNat (f2+1))):Nat):Int)))+((v28h d0) - (Int.toNat (((f2.toNat+((List.length (([]++d0):Rows)) - (Int.toNat (f2+1))):Nat):Int)))))) (List.drop ((Int.toNat (((f2.toNat+((List.length (([]++d0):Rows)) - (Int.toNat (f2+1))):Nat):Int)))+((v28h d0) - (Int.toNat (((f2.toNat+((List.length (([]++d0):Rows)) - (Int.toNat (f2+1))):Nat):Int))))) ((v28f f2 d0)++((List.take ((List.length (([]++d0):Rows)) - (Int.toNat (f2+1))) (v28g f2 d0))++(List.take ((List.length (([]++d0):Rows)) - (f2.toNat+((List.length (([]++d0):Rows)) - (Int.toNat (f2+1))))) (List.drop (f2.toNat+((List.length (([]++d0):Rows)) - (Int.toNat (f2+1)))) ([]++d0))))))))) (0+e2.toNat) [D.i (v28c fn d0 e2 f2),D.i (v28d fn d0 e2 f2),D.i (v28e fn d0 e2 f2)])))],[D.l a1],[D.l b1]]
 n71:(f2 < (d0.length:Int))->(v28a fn d0 e2 f2)->(false=false)->(¬f2=(f2+1))->(D.boo (fn 67 [[D.l (List.take (f2.toNat+((List.length (([]++d0):Rows)) - (Int.toNat (f2+1)))) (List.drop 0 (List.set ((List.take (Int.toNat (((f2.toNat+((List.length (([]++d0):Rows)) - (Int.toNat (f2+1))):Nat):Int))) (List.drop 0 ((v28f f2 d0)++((List.take ((List.length (([]++d0):Rows)) - (Int.toNat (f2+1))) (v28g f2 d0))++(List.take ((List.length (([]++d0):Rows)) - (f2.toNat+((List.length (([]++d0):Rows)) - (Int.toNat (f2+1))))) (List.drop (f2.toNat+((List.length (([]++d0):Rows)) - (Int.toNat (f2+1)))) ([]++d0)))))))++((List.replicate ((v28h d0) - (Int.toNat (((f2.toNat+((List.length (([]++d0):Rows)) - (Int.toNat (f2+1))):Nat):Int)))) [D.i 0,D.i 0,D.i 0])++(List.take ((List.length (((v28f f2 d0)++((List.take ((List.length (([]++d0):Rows)) - (Int.toNat (f2+1))) (v28g f2 d0))++(List.take ((List.length (([]++d0):Rows)) - (f2.toNat+((List.length (([]++d0):Rows)) - (Int.toNat (f2+1))))) (List.drop (f2.toNat+((List.length (([]++d0):Rows)) - (Int.toNat (f2+1)))) ([]++d0))))):Rows)) - ((Int.toNat (((f2.toNat+((List.length (([]++d0):Rows)) - (Int.toNat (f2+1))):Nat):Int)))+((v28h d0) - (Int.toNat (((f2.toNat+((List.length (([]++d0):Rows)) - (Int.toNat (f2+1))):Nat):Int)))))) (List.drop ((Int.toNat (((f2.toNat+((List.length (([]++d0):Rows)) - (Int.toNat (f2+1))):Nat):Int)))+((v28h d0) - (Int.toNat (((f2.toNat+((List.length (([]++d0):Rows)) - (Int.toNat (f2+1))):Nat):Int))))) ((v28f f2 d0)++((List.take ((List.length (([]++d0):Rows)) - (Int.toNat (f2+1))) (v28g f2 d0))++(List.take ((List.length (([]++d0):Rows)) - (f2.toNat+((List.length (([]++d0):Rows)) - (Int.toNat (f2+1))))) (List.drop (f2.toNat+((List.length (([]++d0):Rows)) - (Int.toNat (f2+1)))) ([]++d0))))))))) (0+e2.toNat) [D.i (v28c fn d0 e2 f2),D.i (v28d fn d0 e2 f2),D.i (v28e fn d0 e2 f2)])))],[D.l a1],[D.l b1]] 0 0)=true)->I1 (List.take (f2.toNat+((List.length (([]++d0):Rows)) - (Int.toNat (f2+1)))) (List.drop 0 (List.set ((List.take (Int.toNat (((f2.toNat+((List.length (([]++d0):Rows)) - (Int.toNat (f2+1))):Nat):Int))) (List.drop 0 ((v28f f2 d0)++((List.take ((List.length (([]++d0):Rows)) - (Int.toNat (f2+1))) (v28g f2 d0))++(List.take ((List.length (([]++d0):Rows)) - (f2.toNat+((List.length (([]++d0):Rows)) - (Int.toNat (f2+1))))) (List.drop (f2.toNat+((List.length (([]++d0):Rows)) - (Int.toNat (f2+1)))) ([]++d0)))))))++((List.replicate ((v28h d0) - (Int.toNat (((f2.toNat+((List.length (([]++d0):Rows)) - (Int.toNat (f2+1))):Nat):Int)))) [D.i 0,D.i 0,D.i 0])++(List.take ((List.length (((v28f f2 d0)++((List.take ((List.length (([]++d0):Rows)) - (Int.toNat (f2+1))) (v28g f2 d0))++(List.take ((List.length (([]++d0):Rows)) - (f2.toNat+((List.length (([]++d0):Rows)) - (Int.toNat (f2+1))))) (List.drop (f2.toNat+((List.length (([]++d0):Rows)) - (Int.toNat (f2+1)))) ([]++d0))))):Rows)) - ((Int.toNat (((f2.toNat+((List.length (([]++d0):Rows)) - (Int.toNat (f2+1))):Nat):Int)))+((v28h d0) - (Int.toNat (((f2.toNat+((List.length (([]++d0):Rows)) - (Int.toNat (f2+1))):Nat):Int)))))) (List.drop ((Int.toNat (((f2.toNat+((List.length (([]++d0):Rows)) - (Int.toNat (f2+1))):Nat):Int)))+((v28h d0) - (Int.toNat (((f2.toNat+((List.length (([]++d0):Rows)) - (Int.toNat (f2+1))):Nat):Int))))) ((v28f f2 d0)++((List.take ((List.length (([]++d0):Rows)) - (Int.toNat (f2+1))) (v28g f2 d0))++(List.take ((List.length (([]++d0):Rows)) - (f2.toNat+((List.length (([]++d0):Rows)) - (Int.toNat (f2+1))))) (List.drop (f2.toNat+((List.length (([]++d0):Rows)) - (Int.toNat (f2+1)))) ([]++d0))))))))) (0+e2.toNat) [D.i (v28c fn d0 e2 f2),D.i (v28d fn d0 e2 f2),D.i (v28e fn d0 e2 f2)]))) true/\m1 (List.take (f2.toNat+((List.length (([]++d0):Rows)) - (Int.toNat (f2+1)))) (List.drop 0 (List.set ((List.take (Int.toNat (((f2.toNat+((List.length (([]++d0):Rows)) - (Int.toNat (f2+1))):Nat):Int))) (List.drop 0 ((v28f f2 d0)++((List.take ((List.length (([]++d0):Rows)) - (Int.toNat (f2+1))) (v28g f2 d0))++(List.take ((List.length (([]++d0):Rows)) - (f2.toNat+((List.length (([]++d0):Rows)) - (Int.toNat (f2+1))))) (List.drop (f2.toNat+((List.length (([]++d0):Rows)) - (Int.toNat (f2+1)))) ([]++d0)))))))++((List.replicate ((v28h d0) - (Int.toNat (((f2.toNat+((List.length (([]++d0):Rows)) - (Int.toNat (f2+1))):Nat):Int)))) [D.i 0,D.i 0,D.i 0])++(List.take ((List.length (((v28f f2 d0)++((List.take ((List.length (([]++d0):Rows)) - (Int.toNat (f2+1))) (v28g f2 d0))++(List.take ((List.length (([]++d0):Rows)) - (f2.toNat+((List.length (([]++d0):Rows)) - (Int.toNat (f2+1))))) (List.drop (f2.toNat+((List.length (([]++d0):Rows)) - (Int.toNat (f2+1)))) ([]++d0))))):Rows)) - ((Int.toNat (((f2.toNat+((List.length (([]++d0):Rows)) - (Int.toNat (f2+1))):Nat):Int)))+((v28h d0) - (Int.toNat (((f2.toNat+((List.length (([]++d0):Rows)) - (Int.toNat (f2+1))):Nat):Int)))))) (List.drop ((Int.toNat (((f2.toNat+((List.length (([]++d0):Rows)) - (Int.toNat (f2+1))):Nat):Int)))+((v28h d0) - (Int.toNat (((f2.toNat+((List.length (([]++d0):Rows)) - (Int.toNat (f2+1))):Nat):Int))))) ((v28f f2 d0)++((List.take ((List.length (([]++d0):Rows)) - (Int.toNat (f2+1))) (v28g f2 d0))++(List.take ((List.length (([]++d0):Rows)) - (f2.toNat+((List.length (([]++d0):Rows)) - (Int.toNat (f2+1))))) (List.drop (f2.toNat+((List.length (([]++d0):Rows)) - (Int.toNat (f2+1)))) ([]++d0))))))))) (0+e2.toNat) [D.i (v28c fn d0 e2 f2),D.i (v28d fn d0 e2 f2),D.i (v28e fn d0 e2 f2)]))) true < m1 d0 d1
 g72:(f2 < (d0.length:Int))->(v28a fn d0 e2 f2)->(false=false)->(¬f2=(f2+1))->(D.boo (fn 67 [[D.l (List.take (f2.toNat+((List.length (([]++d0):Rows)) - (Int.toNat (f2+1)))) (List.drop 0 (List.set ((List.take (Int.toNat (((f2.toNat+((List.length (([]++d0):Rows)) - (Int.toNat (f2+1))):Nat):Int))) (List.drop 0 ((v28f f2 d0)++((List.take ((List.length (([]++d0):Rows)) - (Int.toNat (f2+1))) (v28g f2 d0))++(List.take ((List.length (([]++d0):Rows)) - (f2.toNat+((List.length (([]++d0):Rows)) - (Int.toNat (f2+1))))) (List.drop (f2.toNat+((List.length (([]++d0):Rows)) - (Int.toNat (f2+1)))) ([]++d0)))))))++((List.replicate ((v28h d0) - (Int.toNat (((f2.toNat+((List.length (([]++d0):Rows)) - (Int.toNat (f2+1))):Nat):Int)))) [D.i 0,D.i 0,D.i 0])++(List.take ((List.length (((v28f f2 d0)++((List.take ((List.length (([]++d0):Rows)) - (Int.toNat (f2+1))) (v28g f2 d0))++(List.take ((List.length (([]++d0):Rows)) - (f2.toNat+((List.length (([]++d0):Rows)) - (Int.toNat (f2+1))))) (List.drop (f2.toNat+((List.length (([]++d0):Rows)) - (Int.toNat (f2+1)))) ([]++d0))))):Rows)) - ((Int.toNat (((f2.toNat+((List.length (([]++d0):Rows)) - (Int.toNat (f2+1))):Nat):Int)))+((v28h d0) - (Int.toNat (((f2.toNat+((List.length (([]++d0):Rows)) - (Int.toNat (f2+1))):Nat):Int)))))) (List.drop ((Int.toNat (((f2.toNat+((List.length (([]++d0):Rows)) - (Int.toNat (f2+1))):Nat):Int)))+((v28h d0) - (Int.toNat (((f2.toNat+((List.length (([]++d0):Rows)) - (Int.toNat (f2+1))):Nat):Int))))) ((v28f f2 d0)++((List.take ((List.length (([]++d0):Rows)) - (Int.toNat (f2+1))) (v28g f2 d0))++(List.take ((List.length (([]++d0):Rows)) - (f2.toNat+((List.length (([]++d0):Rows)) - (Int.toNat (f2+1))))) (List.drop (f2.toNat+((List.length (([]++d0):Rows)) - (Int.toNat (f2+1)))) ([]++d0))))))))) (0+e2.toNat) [D.i (v28c fn d0 e2 f2),D.i (v28d fn d0 e2 f2),D.i (v28e fn d0 e2 f2)])))],[D.l a1],[D.l b1]] 0 0)=false)->vZ28 ((f2+1))
 n73:(f2 < (d0.length:Int))->(v28a fn d0 e2 f2)->(false=false)->(¬f2=(f2+1))->(D.boo (fn 67 [[D.l (List.take (f2.toNat+((List.length (([]++d0):Rows)) - (Int.toNat (f2+1)))) (List.drop 0 (List.set ((List.take (Int.toNat (((f2.toNat+((List.length (([]++d0):Rows)) - (Int.toNat (f2+1))):Nat):Int))) (List.drop 0 ((v28f f2 d0)++((List.take ((List.length (([]++d0):Rows)) - (Int.toNat (f2+1))) (v28g f2 d0))++(List.take ((List.length (([]++d0):Rows)) - (f2.toNat+((List.length (([]++d0):Rows)) - (Int.toNat (f2+1))))) (List.drop (f2.toNat+((List.length (([]++d0):Rows)) - (Int.toNat (f2+1)))) ([]++d0)))))))++((List.replicate ((v28h d0) - (Int.toNat (((f2.toNat+((List.length (([]++d0):Rows)) - (Int.toNat (f2+1))):Nat):Int)))) [D.i 0,D.i 0,D.i 0])++(List.take ((List.length (((v28f f2 d0)++((List.take ((List.length (([]++d0):Rows)) - (Int.toNat (f2+1))) (v28g f2 d0))++(List.take ((List.length (([]++d0):Rows)) - (f2.toNat+((List.length (([]++d0):Rows)) - (Int.toNat (f2+1))))) (List.drop (f2.toNat+((List.length (([]++d0):Rows)) - (Int.toNat (f2+1)))) ([]++d0))))):Rows)) - ((Int.toNat (((f2.toNat+((List.length (([]++d0):Rows)) - (Int.toNat (f2+1))):Nat):Int)))+((v28h d0) - (Int.toNat (((f2.toNat+((List.length (([]++d0):Rows)) - (Int.toNat (f2+1))):Nat):Int)))))) (List.drop ((Int.toNat (((f2.toNat+((List.length (([]++d0):Rows)) - (Int.toNat (f2+1))):Nat):Int)))+((v28h d0) - (Int.toNat (((f2.toNat+((List.length (([]++d0):Rows)) - (Int.toNat (f2+1))):Nat):Int))))) ((v28f f2 d0)++((List.take ((List.length (([]++d0):Rows)) - (Int.toNat (f2+1))) (v28g f2 d0))++(List.take ((List.length (([]++d0):Rows)) - (f2.toNat+((List.length (([]++d0):Rows)) - (Int.toNat (f2+1))))) (List.drop (f2.toNat+((List.length (([]++d0):Rows)) - (Int.toNat (f2+1)))) ([]++d0))))))))) (0+e2.toNat) [D.i (v28c fn d0 e2 f2),D.i (v28d fn d0 e2 f2),D.i (v28e fn d0 e2 f2)])))],[D.l a1],[D.l b1]] 0 0)=false)->I3 f0 f1 (f2+1)/\m3 f0 f1 (f2+1) < m3 f0 f1 f2
 g74:(¬f2 < (d0.length:Int))->vZ28 ((e2+1))
 n75:(¬f2 < (d0.length:Int))->I2 f0 f1 (e2+1)/\m2 f0 f1 (e2+1) < m2 e0 e1 e2
abbrev V28l3 (pre:Nat->List (List D)->Prop) (fn:Nat->List (List D)->Nat->Nat->D) (a1:Rows) (b1:Rows) (d0:Rows) (d1:Bool) (e0:Rows) (e1:Bool) (e2:Int) (I1:Rows->Bool->Prop) (m1:Rows->Bool->Nat) (I2:Rows->Bool->Int->Prop) (m2:Rows->Bool->Int->Nat):Prop:=∃(I3:Rows->Bool->Int->Prop) (m3:Rows->Bool->Int->Nat),I3 e0 e1 (e2+1)/\∀f0 f1 f2,I3 f0 f1 f2->V28c3 pre fn a1 b1 d0 d1 e0 e1 e2 f0 f1 f2 I1 m1 I2 m2 I3 m3
structure V28c2 (pre:Nat->List (List D)->Prop) (fn:Nat->List (List D)->Nat->Nat->D) (a1:Rows) (b1:Rows) (d0:Rows) (d1:Bool) (e0:Rows) (e1:Bool) (e2:Int) (I1:Rows->Bool->Prop) (m1:Rows->Bool->Nat) (I2:Rows->Bool->Int->Prop) (m2:Rows->Bool->Int->Nat):Prop where
 g26:(e2 < (d0.length:Int))->0<=e2
 g27:(e2 < (d0.length:Int))->e2 < (d0.length:Int)
 g28:(e2 < (d0.length:Int))->(((Int.toNat e2:Nat):Int)) < (d0.length:Int)
 g29:(e2 < (d0.length:Int))->vZ28 ((e2+1))
 n76:(¬e2 < (d0.length:Int))->I1 d0 false/\m1 d0 false < m1 d0 d1
 l3:(e2 < (d0.length:Int))->V28l3 pre fn a1 b1 d0 d1 e0 e1 e2 I1 m1 I2 m2
abbrev V28l2 (pre:Nat->List (List D)->Prop) (fn:Nat->List (List D)->Nat->Nat->D) (a1:Rows) (b1:Rows) (d0:Rows) (d1:Bool) (I1:Rows->Bool->Prop) (m1:Rows->Bool->Nat):Prop:=∃(I2:Rows->Bool->Int->Prop) (m2:Rows->Bool->Int->Nat),I2 [] false 0/\∀e0 e1 e2,I2 e0 e1 e2->V28c2 pre fn a1 b1 d0 d1 e0 e1 e2 I1 m1 I2 m2
structure V28c1 (pre:Nat->List (List D)->Prop) (fn:Nat->List (List D)->Nat->Nat->D) (a1:Rows) (R:Nat->Nat->D) (b1:Rows) (d0:Rows) (d1:Bool) (I1:Rows->Bool->Prop) (m1:Rows->Bool->Nat):Prop where
 g77:(d1=false)->R 0 0=D.l d0
 g78:(d1=false)->R 1 0=D.i 0
 l2:(d1=true)->V28l2 pre fn a1 b1 d0 d1 I1 m1
abbrev V28l1 (pre:Nat->List (List D)->Prop) (fn:Nat->List (List D)->Nat->Nat->D) (a1:Rows) (R:Nat->Nat->D) (b1:Rows):Prop:=∃(I1:Rows->Bool->Prop) (m1:Rows->Bool->Nat),I1 [] true/\∀d0 d1,I1 d0 d1->V28c1 pre fn a1 R b1 d0 d1 I1 m1
abbrev V28l4 (pre:Nat->List (List D)->Prop) (fn:Nat->List (List D)->Nat->Nat->D) (a0:Rows) (a1:Rows) (R:Nat->Nat->D) (b1:Rows):Prop:=∃(I4:Rows->Bool->Prop) (m4:Rows->Bool->Nat),I4 ([]++a0) true/\∀j0 j1,I4 j0 j1->V28c1 pre fn a1 R b1 j0 j1 I4 m4
structure V28c0 (pre:Nat->List (List D)->Prop) (fn:Nat->List (List D)->Nat->Nat->D) (a0:Rows) (a1:Rows) (R:Nat->Nat->D) (b0:Int) (b1:Rows) (I0:Int->Rows->Prop) (m0:Int->Rows->Nat):Prop where
 g15:(b0 < (a1.length:Int))->0<=b0
 g16:(b0 < (a1.length:Int))->b0 < (a1.length:Int)
 g17:(b0 < (a1.length:Int))->(((Int.toNat b0:Nat):Int)) < (a1.length:Int)
 g18:(b0 < (a1.length:Int))->pre 31 [[D.l a0],[D.i (D.int (gt a1 b0.toNat 0))]]
 g20:(b0 < (a1.length:Int))->b0 < (b1.length:Int)
 g21:(b0 < (a1.length:Int))->(((Int.toNat b0:Nat):Int)) < (b1.length:Int)
 g22:(b0 < (a1.length:Int))->vZ28 ((b0+1))
 n23:(b0 < (a1.length:Int))->I0 (b0+1) (List.set b1 b0.toNat [D.i (D.int (fn 31 [[D.l a0],[D.i (D.int (gt a1 b0.toNat 0))]] 0 0))])/\m0 (b0+1) (List.set b1 b0.toNat [D.i (D.int (fn 31 [[D.l a0],[D.i (D.int (gt a1 b0.toNat 0))]] 0 0))]) < m0 b0 b1
 g79:(¬b0 < (a1.length:Int))->((List.length ([]:Rows))+a0.length) * 24<=4294967296/\((List.length ([]:Rows))+a0.length)<=4294967296
 l1:(¬b0 < (a1.length:Int))->(a0.length<=0)->V28l1 pre fn a1 R b1
 l4:(¬b0 < (a1.length:Int))->V28l4 pre fn a0 a1 R b1
abbrev V28l0 (pre:Nat->List (List D)->Prop) (fn:Nat->List (List D)->Nat->Nat->D) (a0:Rows) (a1:Rows) (R:Nat->Nat->D):Prop:=∃(I0:Int->Rows->Prop) (m0:Int->Rows->Nat),I0 0 (List.replicate (Int.toNat (a1.length:Int)) [D.i 0])/\∀b0 b1,I0 b0 b1->V28c0 pre fn a0 a1 R b0 b1 I0 m0
structure V28 (pre:Nat->List (List D)->Prop) (fn:Nat->List (List D)->Nat->Nat->D) (a0:Rows) (a1:Rows) (R:Nat->Nat->D):Prop where
 g0:(1024 < (a0.length:Int))->R 0 0=D.l []
 g1:(1024 < (a0.length:Int))->R 1 0=D.i 9
 g2:(v28i a0)->(1024 < (a1.length:Int))->R 0 0=D.l []
 g3:(v28i a0)->(1024 < (a1.length:Int))->R 1 0=D.i 9
 g4:(v28i a0)->(v28k a1)->pre 62 [[D.l a0],[D.nil]]
 g5:(v28i a0)->(v28k a1)->(D.boo (fn 62 [[D.l a0],[D.nil]] 0 0)=true)->R 0 0=D.l []
 g6:(v28i a0)->(v28k a1)->(D.boo (fn 62 [[D.l a0],[D.nil]] 0 0)=true)->R 1 0=D.i 2
 g7:(v28i a0)->(v28k a1)->(v28j fn a0)->pre 65 [[D.l a1],[D.nil]]
 g8:(v28i a0)->(v28k a1)->(v28j fn a0)->(D.boo (fn 65 [[D.l a1],[D.nil]] 0 0)=true)->R 0 0=D.l []
 g9:(v28i a0)->(v28k a1)->(v28j fn a0)->(D.boo (fn 65 [[D.l a1],[D.nil]] 0 0)=true)->R 1 0=D.i 3
 g10:(v28i a0)->(v28k a1)->(v28j fn a0)->(D.boo (fn 65 [[D.l a1],[D.nil]] 0 0)=false)->0<=(a1.length:Int)
 g11:(v28i a0)->(v28k a1)->(v28j fn a0)->(D.boo (fn 65 [[D.l a1],[D.nil]] 0 0)=false)->(a1.length:Int)<=(a1.length:Int)
 g12:(v28i a0)->(v28k a1)->(v28j fn a0)->(D.boo (fn 65 [[D.l a1],[D.nil]] 0 0)=false)->((a1.length:Int) * (Int.ofNat 1))<=4096
 g13:(v28i a0)->(v28k a1)->(v28j fn a0)->(D.boo (fn 65 [[D.l a1],[D.nil]] 0 0)=false)->((a1.length:Int) * (Int.ofNat 8))<=140737488355328
 l0:(v28i a0)->(v28k a1)->(v28j fn a0)->(D.boo (fn 65 [[D.l a1],[D.nil]] 0 0)=false)->V28l0 pre fn a0 a1 R
end HX

namespace HX
open Go Go.Proofs CX
theorem delT {C:Rows} {k j:Nat} (hj:j < C.length) (Z Y:Rows) (y:List D):List.take (j+(C.length - (j+1))) (List.set (List.take (j+(C.length - (j+1))) (List.take j C++(List.take (C.length - (j+1)) (List.drop (j+1) C)++Z))++Y) k y)=putT C k j y:=by
 have hl:(List.take j C++List.take (C.length - (j+1)) (List.drop (j+1) C)).length=j+(C.length - (j+1)):=by
  rw [xD,zU,zU,zZ];omega
 have e1:∀W:Rows,List.take (j+(C.length - (j+1))) ((List.take j C++List.take (C.length - (j+1)) (List.drop (j+1) C))++W)=List.take j C++List.take (C.length - (j+1)) (List.drop (j+1) C):=fun W=>by
  rw [<-hl];exact List.take_left
 rw [<-qO,e1,List.take_set,e1];rfl
theorem fndO_pos {l:Rows} (h:okT l) {k v:Int} (hv:fndO l k=some v):1<=v:=by
 induction l with
 |nil=>simp [fndO] at hv
 |cons r l ih=>
  simp only [fndO] at hv
  split at hv
  ·cases hv;exact (h r (by simp)).2
  exact ih (fun r hr=>h r (by simp [hr])) hv
theorem oF_eq {t l:Rows} (ht:okT t) (hl:okT l) (k:Int):oF t k=oF l k↔fndO t k=fndO l k:=by
 constructor
 ·intro h
  unfold oF at h
  cases h1:fndO t k with
  |none=>
   cases h2:fndO l k with
   |none=>rfl
   |some v=>rw [h1,h2] at h;have:=fndO_pos hl h2;simp only [Option.getD_none,kA] at h;omega
  |some u=>
   cases h2:fndO l k with
   |none=>rw [h1,h2] at h;have:=fndO_pos ht h1;simp only [Option.getD_none,kA] at h;omega
   |some v=>rw [h1,h2] at h;simp only [kA] at h;rw [h]
 intro h;unfold oF;rw [h]
def keepK (keys l t:Rows):Prop:=∀r∈keys,fndO t (kE r)=fndO l (kE r)
theorem sameK_iff {keys l t:Rows}:sameK keys l t=true↔∀r∈keys,fndO l (kE r)=fndO t (kE r):=by
 simp [sameK,kQ]
theorem want_same {keys want l C t:Rows} (ho:okT l) (ht:okT t) (hk:keepK keys l C) (hw:∀j,j < keys.length->(gt want j 0).int=oF l (kE (keys.getD j []))):(wantF t keys want 0↔sameK keys C t=true):=by
 rw [sameK_iff]
 constructor
 ·intro h r hr
  obtain ⟨j,hj,rfl⟩:=List.getElem_of_mem hr
  have h1:=h j (by omega) hj
  rw [hw j hj,zE,zI hj,kA,oF_eq ht ho] at h1
  rw [hk _ hr,h1]
 intro h j _ hj
 rw [hw j hj,oF_eq ht ho,zE,zI hj,kA,<-h _ (xQ hj)]
 exact hk _ (xQ hj)
def p28:List (List D)->Prop
 |[[.l l],_]=>fitE l
 |_=>False
def jn (x y:List D):List D:=(joinE x y).getD [.i 0,.i 0,.i 0]
theorem jn_some {x y r:List D} (h:joinE x y=some r):jn x y=r:=by unfold jn;rw [h];rfl
theorem loops (pre:Nat->List (List D)->Prop) (fn:Nat->List (List D)->Nat->Nat->D) (hp93:pre 93=p93) (hp67:pre 67=p67) (hf93:fn 93=r93) (hf67:fn 67=r67) (a0 a1 b1:Rows) (R:Nat->Nat->D)
  (ho:okT a0) (hw:∀j,j < a1.length->(gt b1 j 0).int=oF a0 (kE (a1.getD j []))) (hb:b1.length=a1.length) (hR0:R 0 0=.l (mrg a1 a0)) (hR1:R 1 0=.i 0) (d0:Rows) (d1:Bool)
  (h1:okT d0) (h2:d0.length<=1024) (h3:keepK a1 a0 d0) (h4:if d1=true then mrg a1 d0=mrg a1 a0 else d0=mrg a1 a0) :
  V28c1 pre fn a1 R b1 d0 d1 (fun e0 e1=>okT e0/\e0.length<=1024/\keepK a1 a0 e0/\(if e1=true then mrg a1 e0=mrg a1 a0 else e0=mrg a1 a0)) (fun e0 e1=>2 * e0.length+(if e1=true then 1 else 0)):=by
 constructor
 case g77=>intro c;subst c;have h4:d0=mrg a1 a0:=h4;rw [hR0,h4]
 case g78=>intro c;exact hR1
 case l2=>
  intro c
  subst c
  have h4:mrg a1 d0=mrg a1 a0:=h4
  refine ⟨fun _ _ i=>0<=i/\i<=d0.length/\sK (sameK a1 d0) d0 i.toNat=sK (sameK a1 d0) d0 0,fun _ _ i=>(d0.length - i).toNat,⟨by omega,by omega,rfl⟩,?_⟩
  rintro e0 e1 e2 ⟨k1,k2,k3⟩
  constructor
  case n76=>
   intro lt
   rw [sK_end (by omega)] at k3
   exact ⟨⟨h1,h2,h3,by show d0=_;rw [<-h4,mrg_none k3.symm]⟩,by show 2 * d0.length+0 < 2 * d0.length+1;omega⟩
  case l3=>
   intro lt
   rw [sK_at (by omega)] at k3
   have hb2:=okT_at h1 (show e2.toNat < d0.length by omega)
   refine ⟨fun _ _ j=>e2+1<=j/\j<=d0.length/\sJ (sameK a1 d0) d0 e2.toNat j.toNat=sJ (sameK a1 d0) d0 e2.toNat (e2.toNat+1),fun _ _ j=>(d0.length - j).toNat,⟨by omega,by omega,by rw [show (e2+1).toNat=e2.toNat+1 by omega]⟩,?_⟩
   rintro f0 f1 f2 ⟨q1,q2,q3⟩
   have nx:f2 < d0.length->(∀t,tryT d0 e2.toNat f2.toNat=some t->sameK a1 d0 t=false)->(e2+1<=f2+1/\f2+1<=d0.length/\sJ (sameK a1 d0) d0 e2.toNat (f2.toNat+1)=sJ (sameK a1 d0) d0 e2.toNat (e2.toNat+1))/\(d0.length - (f2+1)).toNat < (d0.length - f2).toNat:=fun lt2 hn=>by
    refine ⟨⟨by omega,by omega,?_⟩,by omega⟩
    rw [<-q3,sJ_at (j:=f2.toNat) (by omega)]
    split
    next t ht=>rw [if_neg (by rw [hn t ht];exact Bool.false_ne_true)]
    rfl
   have yes:∀{t},f2 < d0.length->tryT d0 e2.toNat f2.toNat=some t->sameK a1 d0 t=true->sK (sameK a1 d0) d0 0=some t:=fun lt2 ht hs=>by
    rw [<-k3,<-q3,sJ_at (j:=f2.toNat) (by omega),ht]
    simp only [if_pos hs]
   have tn:(f2+1).toNat=f2.toNat+1:=by omega
   have F1:∀x y:List D,(fn 93 [row3 x,row3 y] 1 0).boo=(joinE x y).isSome:=fun x y=>by rw [hf93];rfl
   have F00:∀x y:List D,(fn 93 [row3 x,row3 y] 0 0).int=kE (jn x y):=fun x y=>by rw [hf93];rfl
   have F01:∀x y:List D,(fn 93 [row3 x,row3 y] 0 1).int=mE (jn x y):=fun x y=>by rw [hf93];rfl
   have F02:∀x y:List D,(fn 93 [row3 x,row3 y] 0 2).int=oE (jn x y):=fun x y=>by rw [hf93];rfl
   have F67:∀t:Rows,(fn 67 [[D.l t],[D.l a1],[D.l b1]] 0 0).boo=decide (wantF t a1 b1 0):=fun t=>by rw [hf67];rfl
   have rw3:∀x:List D,[D.i (kE x),D.i (mE x),D.i (oE x)]=row3 x:=fun _=>rfl
   have del:f2 < d0.length->∀(Z Y:Rows) (y:List D),List.take (f2.toNat+(d0.length - (f2.toNat+1))) (List.set (List.take (f2.toNat+(d0.length - (f2.toNat+1))) (List.take f2.toNat d0++(List.take (d0.length - (f2.toNat+1)) (List.drop (f2.toNat+1) d0)++Z))++Y) e2.toNat y)=putT d0 e2.toNat f2.toNat y:=fun lt2=>delT (by omega)
   have put:f2 < d0.length->(joinE (d0.getD e2.toNat []) (d0.getD f2.toNat [])).isSome=true->tryT d0 e2.toNat f2.toNat=some (putT d0 e2.toNat f2.toNat (row3 (jn (d0.getD e2.toNat []) (d0.getD f2.toNat []))))/\okT (putT d0 e2.toNat f2.toNat (row3 (jn (d0.getD e2.toNat []) (d0.getD f2.toNat [])))):=fun lt2 hs=>by
    obtain ⟨y,hy⟩:=Option.isSome_iff_exists.1 hs
    have h5:=(joinE_ok hy hb2.1 (okT_at h1 (show f2.toNat < d0.length by omega)).1).2.1
    have h6:tryT d0 e2.toNat f2.toNat=some (putT d0 e2.toNat f2.toNat (row3 (jn (d0.getD e2.toNat []) (d0.getD f2.toNat [])))):=by
     rw [jn_some hy,h5]
     unfold tryT
     rw [hy,putT_eq];rfl
    exact ⟨h6,tryT_ok (by omega) (by omega) h1 h6⟩
   constructor
   all_goals try simp only [v28a,v28b,v28c,v28d,v28e,v28f,v28g,v28h,vZ28,gt_kE,gt_mE,gt_oE,F1,F00,F01,F02,F67,qD,qI,tn,qM,zO,xJ,rw3]
   case n75=>
    intro lt2
    rw [<-q3,sJ_end (by omega)] at k3
    refine ⟨⟨by omega,by omega,?_⟩,by omega⟩
    rw [show (e2+1).toNat=e2.toNat+1 by omega];exact k3
   all_goals intro lt2
   all_goals try simp only [del lt2]
   all_goals try have hd:=okT_at h1 (show f2.toNat < d0.length by omega)
   case g35=>rw [hp93];exact ⟨hb2.1,hd.1⟩
   case n37=>
    intro c
    refine nx lt2 fun t ht=>?_
    unfold tryT at ht
    cases hj:joinE (d0.getD e2.toNat []) (d0.getD f2.toNat []) with
    |none=>rw [hj] at ht;cases ht
    |some y=>rw [hj] at c;cases c
   case g70=>intro c _ _;rw [hp67];exact ⟨by rw [putT_len (by omega)];omega,hb.symm⟩
   case n71=>
    intro c _ _ c2
    obtain ⟨p1,p2⟩:=put lt2 c
    have c3:=(want_same ho p2 h3 hw).1 (zW c2)
    have hs:=yes lt2 p1 c3
    have hm:=mrg_some hs
    refine ⟨⟨p2,by omega,?_,?_⟩,?_⟩
    ·intro r hr;rw [<-sameK_iff.1 c3 r hr];exact h3 r hr
    ·show mrg a1 _=_;rw [<-hm.2,h4]
    show 2 * _+1 < 2 * d0.length+1;omega
   case n73=>
    intro c _ _ c2
    obtain ⟨p1,p2⟩:=put lt2 c
    refine nx lt2 fun t ht=>?_
    rw [p1] at ht
    cases ht
    cases c3:sameK a1 d0 (putT d0 e2.toNat f2.toNat (row3 (jn (d0.getD e2.toNat []) (d0.getD f2.toNat [])))) with
    |false=>rfl
    |true=>exact absurd ((want_same ho p2 h3 hw).2 c3) (of_decide_eq_false c2)
   all_goals first
    |omega
    |(intros;omega)
    |(intros;exfalso;omega)
    |(intros;simp only [xD,zU,zZ,xV,xG];omega)
  all_goals first |omega |(intros;omega)
theorem law28 (pre:Nat->List (List D)->Prop) (fn:Nat->List (List D)->Nat->Nat->D) (hp93:pre 93=p93) (hp67:pre 67=p67) (hp62:pre 62=p62) (hp65:∀k,k.length<=1024->pre 65 [[.l k],[.nil]]) (hp31:∀l k,l.length<=1024->pre 31 [[.l l],[.i k]])
  (hf93:fn 93=r93) (hf67:fn 67=r67) (hf62:fn 62=r62) (hf65:fn 65=r65) (hf31:fn 31=r31) (a0 a1:Rows) (h:p28 [[.l a0],[.l a1]]):V28 pre fn a0 a1 (r28 [[.l a0],[.l a1]]):=by
 have F62:(fn 62 [[D.l a0],[D.nil]] 0 0).boo=badE a0:=by rw [hf62];rfl
 have F65:(fn 65 [[D.l a1],[D.nil]] 0 0).boo=badK a1:=by rw [hf65];rfl
 have F31:∀k,(fn 31 [[D.l a0],[D.i k]] 0 0).int=oF a0 k:=fun k=>by rw [hf31];rfl
 have R:∀i,r28 [[.l a0],[.l a1]] i 0=if 1024 < a0.length\/1024 < a1.length then [D.l [],.i 9].getD i .nil else if badE a0=true then [D.l [],.i 2].getD i .nil else if badK a1=true then [D.l [],.i 3].getD i .nil else [D.l (mrg a1 a0),.i 0].getD i .nil:=fun _=>rfl
 constructor
 all_goals try simp only [v28i,v28j,v28k,F62,F65]
 case g0=>intro h;rw [R,if_pos (by omega)];rfl
 case g1=>intro h;rw [R,if_pos (by omega)];rfl
 case g2=>intro h h2;rw [R,if_pos (by omega)];rfl
 case g3=>intro h h2;rw [R,if_pos (by omega)];rfl
 case g4=>intro _ _;rw [hp62];exact h
 case g12=>intro h1 h2 _ _;show (a1.length:Int) * 1<=4096;omega
 case g13=>intro h1 h2 _ _;show (a1.length:Int) * 8<=140737488355328;omega
 case g5=>intro h1 h2 c;rw [R,if_neg (by omega),if_pos c];rfl
 case g6=>intro h1 h2 c;rw [R,if_neg (by omega),if_pos c];rfl
 case g7=>intro h1 h2 _;exact hp65 _ (by omega)
 case g8=>intro h1 h2 c c2;rw [R,if_neg (by omega),if_neg (by rw [c];exact Bool.false_ne_true),if_pos c2];rfl
 case g9=>intro h1 h2 c c2;rw [R,if_neg (by omega),if_neg (by rw [c];exact Bool.false_ne_true),if_pos c2];rfl
 case l0=>
  intro h1 h2 c c2
  have R:∀i,r28 [[.l a0],[.l a1]] i 0=[D.l (mrg a1 a0),.i 0].getD i .nil:=fun i=>by rw [R,if_neg (by omega),if_neg (by rw [c];exact Bool.false_ne_true),if_neg (by rw [c2];exact Bool.false_ne_true)]
  have ho:=vE_ok c
  refine ⟨fun i w=>0<=i/\i<=a1.length/\w.length=a1.length/\∀j:Nat,j < i.toNat->(gt w j 0).int=oF a0 (kE (a1.getD j [])),fun i _=>(a1.length - i).toNat,⟨by omega,by omega,by rw [xG];omega,fun j hj=>by omega⟩,?_⟩
  rintro b0 b1 ⟨k1,k2,k3,k4⟩
  have lp:=fun (lt:¬b0 < a1.length)=>loops pre fn hp93 hp67 hf93 hf67 a0 a1 b1 (r28 [[.l a0],[.l a1]]) ho (fun j hj=>k4 j (by omega)) k3 (R 0) (R 1)
  constructor
  all_goals try simp only [F31,gt_kE,vZ28,xJ]
  case g18=>intro _;exact hp31 _ _ (by omega)
  case n23=>
   intro lt
   refine ⟨⟨by omega,by omega,by rw [xV];exact k3,fun j hj=>?_⟩,by omega⟩
   by_cases e:j=b0.toNat
   ·subst e
    simp only [gt,zE]
    rw [List.getElem?_set_self (by omega)];rfl
   have:=k4 j (by omega)
   simp only [gt,zE] at this ⊢
   rw [List.getElem?_set_ne (by omega)];exact this
  case l1=>
   intro lt hz
   have hn:a0=[]:=zS.1 (by omega)
   refine ⟨_,_,?_,fun d0 d1 hI=>lp lt d0 d1 hI.1 hI.2.1 hI.2.2.1 hI.2.2.2⟩
   refine ⟨by rw [<-hn];exact ho,by simp,fun r _=>by rw [hn],by rw [<-hn];rfl⟩
  case l4=>
   intro lt
   refine ⟨_,_,?_,fun d0 d1 hI=>lp lt d0 d1 hI.1 hI.2.1 hI.2.2.1 hI.2.2.2⟩
   rw [qD]
   exact ⟨ho,by omega,fun r _=>rfl,rfl⟩
  all_goals first |omega |(intros;omega)
 all_goals first |omega |(intros;omega)
end HX

namespace HX
open Go Go.Proofs CX
theorem andR (a:Int) {n:Nat} (hn:n < 9223372036854775808):bitX .and .i64 a (n:Int)=(((BitVec.ofInt 64 a).toNat &&& n:Nat):Int):=by
 show IntKind.wrap .i64 ((BitVec.ofInt 64 a &&& BitVec.ofInt 64 (n:Int)).toNat:Int)=_
 rw [BitVec.toNat_and,ofN (by omega),wr64 (Nat.lt_of_le_of_lt Nat.and_le_right hn)]
theorem andR_rng (a:Int) {n:Nat} (hn:n < 9223372036854775808):0<=bitX .and .i64 a (n:Int)/\bitX .and .i64 a (n:Int)<=n:=by
 rw [andR a hn]
 have:(BitVec.ofInt 64 a).toNat &&& n<=n:=Nat.and_le_right
 omega
theorem andR_in (a:Int) {m:Int} (h:0<=m/\m<=65535):(0<=bitX .and .i64 a m/\bitX .and .i64 a m<=65535)/\bitX .and .i64 (bitX .and .i64 a m) m=bitX .and .i64 a m:=by
 obtain ⟨n,rfl⟩:=Int.eq_ofNat_of_zero_le h.1
 have h1:=andR_rng a (n:=n) (by omega)
 have h2:(BitVec.ofInt 64 a).toNat &&& n<=n:=Nat.and_le_right
 refine ⟨by omega,?_⟩
 rw [andR a (by omega),and_nat (by omega) (by omega),Nat.and_assoc,Nat.and_self]
theorem ofI_andNot {a:Int} (h:0<=a/\a<=65535) (b:Int):BitVec.ofInt 64 (bitX .andNot .i64 a b)=BitVec.ofInt 64 a &&& ~~~ BitVec.ofInt 64 b:=by
 obtain ⟨n,rfl⟩:=Int.eq_ofNat_of_zero_le h.1
 have h1:=(andNot_bv (BitVec.ofInt 64 (n:Int)) (BitVec.ofInt 64 b)).1
 rw [ofN (by omega)] at h1
 rw [andNot_eq,wr64 (by omega)]
 apply BitVec.eq_of_toNat_eq
 rw [ofN (by omega)]
theorem ofI_and {a b:Int} (ha:0<=a/\a<=65535) (hb:0<=b/\b<=65535):BitVec.ofInt 64 (bitX .and .i64 a b)=BitVec.ofInt 64 a &&& BitVec.ofInt 64 b:=by
 obtain ⟨n,rfl⟩:=Int.eq_ofNat_of_zero_le ha.1
 obtain ⟨m,rfl⟩:=Int.eq_ofNat_of_zero_le hb.1
 have:n &&& m<=n:=Nat.and_le_left
 rw [and_nat (by omega) (by omega)]
 apply BitVec.eq_of_toNat_eq
 rw [ofN (by omega),BitVec.toNat_and,ofN (by omega),ofN (by omega)]
theorem bv_not (k m d:BitVec 64) (h:k=k &&& m):(k &&& ~~~d) &&& (m &&& ~~~d)=k &&& ~~~d:=by
 refine BitVec.eq_of_getLsbD_eq fun i hi=>?_
 have:=congrArg (fun z:BitVec 64=>z.getLsbD i) h
 simp only [BitVec.getLsbD_and] at this
 simp only [BitVec.getLsbD_and,BitVec.getLsbD_not,hi,decide_true,Bool.true_and]
 revert this
 cases k.getLsbD i<;>cases m.getLsbD i<;>cases d.getLsbD i<;>simp
theorem keep_and {k m d:Int} (hk:0<=k/\k<=65535) (hm:0<=m/\m<=65535) (h:bitX .and .i64 k m=k):bitX .and .i64 (bitX .andNot .i64 k d) (bitX .andNot .i64 m d)=bitX .andNot .i64 k d:=by
 show IntKind.wrap .i64 ((BitVec.ofInt 64 (bitX .andNot .i64 k d) &&& BitVec.ofInt 64 (bitX .andNot .i64 m d)).toNat:Int)=IntKind.wrap .i64 ((BitVec.ofInt 64 k &&& ~~~ BitVec.ofInt 64 d).toNat:Int)
 rw [ofI_andNot hk,ofI_andNot hm,bv_not _ _ _ (by rw [<-ofI_and hk hm,h])]
theorem andNot_in {a:Int} (h:0<=a/\a<=65535) (b:Int):0<=bitX .andNot .i64 a b/\bitX .andNot .i64 a b<=65535:=by
 obtain ⟨n,rfl⟩:=Int.eq_ofNat_of_zero_le h.1
 have h1:=(andNot_bv (BitVec.ofInt 64 (n:Int)) (BitVec.ofInt 64 b)).1
 rw [ofN (by omega)] at h1
 rw [andNot_eq,wr64 (by omega)]
 omega
theorem xK_comm (a b:Int):xK a b=xK b a:=by
 show IntKind.wrap .i64 ((BitVec.ofInt 64 a ^^^ BitVec.ofInt 64 b).toNat:Int)=IntKind.wrap .i64 ((BitVec.ofInt 64 b ^^^ BitVec.ofInt 64 a).toNat:Int)
 rw [BitVec.xor_comm]
theorem one_bit {d:Int} (h:0<=d/\d<=65535) (h0:¬d=0) (h1:bitX .and .i64 d (d - 1)=0):pwI d=true:=by
 obtain ⟨n,rfl⟩:=Int.eq_ofNat_of_zero_le h.1
 have e:(n:Int) - 1=((n - 1:Nat):Int):=by omega
 rw [e,and_nat (by omega) (by omega)] at h1
 exact ((pop_one (d:=n) (by omega)).2 (by omega)).1 (by omega)
def okV (l:Rows):Prop:=∀r∈l,vE r
theorem okV_at {l:Rows} (h:okV l) {i:Nat} (hi:i < l.length):vE (l.getD i []):=by
 rw [zE,zI hi];exact h _ (xQ hi)
theorem okV_bad {l:Rows} (h:okV l):badE l=false:=by
 unfold badE
 rw [List.any_eq_false]
 intro r hr
 simp [h r hr]
theorem okV_fit {l:Rows} (h:okV l):fitE l:=fun r hr=>by have:=(h r hr).1.2;omega
theorem keys_bad {l:Rows} (h:∀r∈l,keyR r):badK l=false:=by
 unfold badK
 rw [List.any_eq_false]
 intro r hr
 simp [h r hr]
theorem joinE_v {x y r:List D} (h:joinE x y=some r) (hx:vE x):vE r:=by
 unfold joinE at h
 split at h
 ·simp only [zA] at h
  subst h
  exact ⟨andNot_in hx.1 _,andNot_in hx.2.1 _,keep_and hx.1 hx.2.1 hx.2.2.1,hx.2.2.2⟩
 cases h
theorem tryT_v {l t:Rows} {k j:Nat} (hk:k < j) (hj:j < l.length) (ho:okV l) (h:tryT l k j=some t):okV t:=by
 simp only [tryT,Option.map_eq_some_iff] at h
 obtain ⟨y,hy,rfl⟩:=h
 intro r hr
 rcases List.mem_or_eq_of_mem_set hr with hr |rfl
 ·rcases xW.1 hr with hr |hr
  ·exact ho r (xN hr)
  exact ho r (xX hr)
 exact joinE_v hy (okV_at ho (by omega))
theorem mrg_spec (keys:Rows):∀(n:Nat) (l:Rows),l.length<=n->okV l->okV (mrg keys l)/\(mrg keys l).length<=l.length/\keepK keys l (mrg keys l)/\sK (sameK keys (mrg keys l)) (mrg keys l) 0=none:=by
 intro n
 induction n with
 |zero=>
  intro l hl ho
  have:sK (sameK keys l) l 0=none:=sK_end (by omega)
  rw [mrg_none this]
  exact ⟨ho,zB _,fun _ _=>rfl,this⟩
 |succ n ih=>
  intro l hl ho
  cases hs:sK (sameK keys l) l 0 with
  |none=>
   rw [mrg_none hs]
   exact ⟨ho,zB _,fun _ _=>rfl,hs⟩
  |some t=>
   have hm:=mrg_some hs
   obtain ⟨k,j,h1,h2,h3,h4⟩:=sK_spec hs
   obtain ⟨i1,i2,i3,i4⟩:=ih t (by omega) (tryT_v h1 h2 ho h3)
   rw [hm.2]
   exact ⟨i1,by omega,fun r hr=>by rw [i3 r hr,sameK_iff.1 h4 r hr],i4⟩
theorem stJ_none {P:Rows->Bool} {l:Rows} {k:Nat}:∀(n j:Nat),stJ P l k j n=none->∀i,j<=i->i < j+n->∀t,tryT l k i=some t->P t=false
 |0,_,_,i,h1,h2,_,_=>by omega
 |n+1,j,h,i,h1,h2,t,ht=>by
  simp only [stJ] at h
  by_cases e:i=j
  ·subst e
   rw [ht] at h
   cases hp:P t with
   |false=>rfl
   |true=>simp [hp] at h
  split at h
  ·split at h
   ·cases h
   exact stJ_none n (j+1) h i (by omega) (by omega) t ht
  exact stJ_none n (j+1) h i (by omega) (by omega) t ht
theorem stK_none {P:Rows->Bool} {l:Rows}:∀(n k:Nat),stK P l k n=none->∀i,k<=i->i < k+n->sJ P l i (i+1)=none
 |0,_,_,i,h1,h2=>by omega
 |n+1,k,h,i,h1,h2=>by
  simp only [stK] at h
  split at h
  ·cases h
  rename_i hn
  by_cases e:i=k
  ·subst e;exact hn
  exact stK_none n (k+1) h i (by omega) (by omega)
theorem sK_none {P:Rows->Bool} {l:Rows} (h:sK P l 0=none) {k j:Nat} (hk:k < j) (hj:j < l.length) {t:Rows} (ht:tryT l k j=some t):P t=false:=
 stJ_none _ _ (stK_none _ _ h k (by omega) (by omega)) j (by omega) (by omega) t ht
theorem free_no {l:Rows} (hl:okV l) {i j:Nat} (hj:j < i) (hi:i < (mrg [] l).length):¬(mE ((mrg [] l).getD j [])=mE ((mrg [] l).getD i [])/\oE ((mrg [] l).getD j [])=oE ((mrg [] l).getD i [])/\pwI (xK (kE ((mrg [] l).getD j [])) (kE ((mrg [] l).getD i [])))=true):=fun ⟨h1,h2,h3⟩=>by
 have:=sK_none (mrg_spec [] _ l (zB _) hl).2.2.2 hj hi (tryT_put h1 h2 h3)
 simp [sameK] at this
end HX

namespace HX
open Go Go.Proofs CX
end HX

namespace HX
open Go Go.Proofs CX
end HX

namespace HX
open Go Go.Proofs CX
end HX

namespace HX
open Go Go.Proofs CX
end HX

namespace HX
open Go Go.Proofs CX
end HX

namespace HX
open Go Go.Proofs CX
end HX

namespace HX
open Go Go.Proofs CX
set_option maxHeartbeats 4000000 in
set_option maxRecDepth 100000 in
theorem walk113 {ro A pre fn} (hE:EnvOk ⟨A,(cxE ro),ksF,sigL [],pre,fn⟩) {P:List (List D)->Prop} {res:List (List D)->Nat->Nat->D}
  (hv:∀(a0:Int),P [[.i a0]]->V113 a0 (res [[.i a0]]) ) :
  PureC (cxE ro) 113 ⟨[(false,[.int .u64])],[(false,[.int .i64])],false⟩ P res:=by
 have hA:=hE.A
 simp only [] at hA
 have hinl:∀f fn,inlL [(120,Try.f120),(119,Try.f119)] f=some fn->(cxE ro).fn f=some fn/\(cxE ro).ext f=none:=Inls.ok (by repeat (first |exact .nil |refine .cons rfl rfl ?_))
 refine PureC.of_vc hE hinl 6 (f:=113) (fn:=Try.f113) ⟨rfl,rfl⟩ ?_
 intro a0 hP
 obtain ⟨R,hR⟩:∃R,res [[.i a0]]=R:=⟨_,rfl⟩
 rw [hR]
 have hV:=hv a0  hP
 rw [hR] at hV
 clear hR hP hv
 cbv
 repeat' (first |(refine Br.mk (fun _=>?_) (fun _=>?_)<;>cbv) |(refine NilB.mk (fun _=>?_) ?_<;>cbv) |refine And.intro ?_ ?_ |exact True.intro)
 ·subst hA;exact hV.g0
 ·subst hA;exact hV.g1
 ·subst hA;exact hV.g2
 ·subst hA;exact hV.g3
 ·subst hA;exact hV.g4
 ·subst hA;exact hV.g5
 ·subst hA;exact hV.g6
 subst hA;exact hV.g7
end HX

namespace HX
open Go Go.Proofs CX
set_option maxHeartbeats 4000000 in
set_option maxRecDepth 100000 in
theorem walk93 {ro A pre fn} (hE:EnvOk ⟨A,(cxE ro),ksF,sigL [(113,⟨[(false,[.int .u64])],[(false,[.int .i64])],false⟩)],pre,fn⟩) {P:List (List D)->Prop} {res:List (List D)->Nat->Nat->D}
  (hv:∀(a0_0:Int) (a0_1:Int) (a0_2:Int) (a1_0:Int) (a1_1:Int) (a1_2:Int),P [[.i a0_0,.i a0_1,.i a0_2],[.i a1_0,.i a1_1,.i a1_2]]->V93 pre fn a0_0 a0_1 a0_2 a1_0 a1_1 a1_2 (res [[.i a0_0,.i a0_1,.i a0_2],[.i a1_0,.i a1_1,.i a1_2]]) ) :
  PureC (cxE ro) 93 ⟨[(true,[.int .i64,.int .i64,.int .i64]),(true,[.int .i64,.int .i64,.int .i64])],[(true,[.int .i64,.int .i64,.int .i64]),(false,[.bool])],false⟩ P res:=by
 have hA:=hE.A
 simp only [] at hA
 have hinl:∀f fn,inlL [] f=some fn->(cxE ro).fn f=some fn/\(cxE ro).ext f=none:=Inls.ok (by repeat (first |exact .nil |refine .cons rfl rfl ?_))
 refine PureC.of_vc hE hinl 6 (f:=93) (fn:=Try.f93) ⟨rfl,rfl⟩ ?_
 intro a0_0 a0_1 a0_2 a1_0 a1_1 a1_2 hP
 obtain ⟨R,hR⟩:∃R,res [[.i a0_0,.i a0_1,.i a0_2],[.i a1_0,.i a1_1,.i a1_2]]=R:=⟨_,rfl⟩
 rw [hR]
 have hV:=hv a0_0 a0_1 a0_2 a1_0 a1_1 a1_2  hP
 rw [hR] at hV
 clear hR hP hv
 cbv
 repeat' (first |(refine Br.mk (fun _=>?_) (fun _=>?_)<;>cbv) |(refine NilB.mk (fun _=>?_) ?_<;>cbv) |refine And.intro ?_ ?_ |exact True.intro)
 next hp0_0=>
  subst hA;exact hV.g0 (df (nt hp0_0))
 next hp1_0=>
  subst hA;exact hV.g1 (df (nt hp1_0))
 next hp2_0=>
  subst hA;exact hV.g2 (df (nt hp2_0))
 next hp3_0=>
  subst hA;exact hV.g3 (df (nt hp3_0))
 next hp4_0 hp4_1=>
  subst hA;exact hV.g4 (dt (nf hp4_0)) (df (nt hp4_1))
 next hp5_0 hp5_1=>
  subst hA;exact hV.g5 (dt (nf hp5_0)) (df (nt hp5_1))
 next hp6_0 hp6_1=>
  subst hA;exact hV.g6 (dt (nf hp6_0)) (df (nt hp6_1))
 next hp7_0 hp7_1=>
  subst hA;exact hV.g7 (dt (nf hp7_0)) (df (nt hp7_1))
 next hp8_0 hp8_1=>
  subst hA;exact hV.g8 (dt (nf hp8_0)) (dt (nf hp8_1))
 next hp9_0 hp9_1 hp9_2=>
  subst hA;exact hV.g9 (dt (nf hp9_0)) (dt (nf hp9_1)) (df (nt hp9_2))
 next hp10_0 hp10_1 hp10_2=>
  subst hA;exact hV.g10 (dt (nf hp10_0)) (dt (nf hp10_1)) (df (nt hp10_2))
 next hp11_0 hp11_1 hp11_2=>
  subst hA;exact hV.g11 (dt (nf hp11_0)) (dt (nf hp11_1)) (df (nt hp11_2))
 next hp12_0 hp12_1 hp12_2=>
  subst hA;exact hV.g12 (dt (nf hp12_0)) (dt (nf hp12_1)) (df (nt hp12_2))
 next hp13_0 hp13_1 hp13_2=>
  subst hA;exact hV.g13 (dt (nf hp13_0)) (dt (nf hp13_1)) (dt (nf hp13_2))
 next hp14_0 hp14_1 hp14_2=>
  subst hA;exact hV.g14 (dt (nf hp14_0)) (dt (nf hp14_1)) (dt (nf hp14_2))
 next hp15_0 hp15_1 hp15_2=>
  subst hA;exact hV.g15 (dt (nf hp15_0)) (dt (nf hp15_1)) (dt (nf hp15_2))
 rename_i hp16_0 hp16_1 hp16_2
 subst hA;exact hV.g16 (dt (nf hp16_0)) (dt (nf hp16_1)) (dt (nf hp16_2))
end HX

namespace HX
open Go Go.Proofs CX
end HX

namespace HX
open Go Go.Proofs CX
set_option maxHeartbeats 4000000 in
set_option maxRecDepth 100000 in
theorem walk31 {ro A pre fn} (hE:EnvOk ⟨A,(cxE ro),ksF,sigL [],pre,fn⟩) {P:List (List D)->Prop} {res:List (List D)->Nat->Nat->D}
  (hv:∀(a0:Rows) (a1:Int),ShR [.int .i64,.int .i64,.int .i64] a0->P [[.l a0],[.i a1]]->∃(I0:Int->Int->Prop) (m0:Int->Int->Nat),V31 a0 a1 (res [[.l a0],[.i a1]]) I0 m0) :
  PureC (cxE ro) 31 ⟨[(false,[.sl [.int .i64,.int .i64,.int .i64]]),(false,[.int .i64])],[(false,[.int .i64]),(false,[.bool])],false⟩ P res:=by
 have hA:=hE.A
 simp only [] at hA
 have hinl:∀f fn,inlL [(72,Try.f72),(73,Try.f73)] f=some fn->(cxE ro).fn f=some fn/\(cxE ro).ext f=none:=Inls.ok (by repeat (first |exact .nil |refine .cons rfl rfl ?_))
 refine PureC.of_vc hE hinl 6 (f:=31) (fn:=Try.f31) ⟨rfl,rfl⟩ ?_
 intro a0 ha0 a1 hP
 obtain ⟨R,hR⟩:∃R,res [[.l a0],[.i a1]]=R:=⟨_,rfl⟩
 rw [hR]
 obtain ⟨I0,m0,hV⟩:=hv a0 a1 ha0 hP
 rw [hR] at hV
 clear hR hP hv
 cbv
 repeat' (first |(refine Br.mk (fun _=>?_) (fun _=>?_)<;>cbv) |(refine NilB.mk (fun _=>?_) ?_<;>cbv) |refine And.intro ?_ ?_ |exact True.intro)
 refine Leaf.gen fun Uz hσz=>?_
 refine loopB hE hinl 6 [] [] [] (fun x:Int×Int=>[.i x.1,.i x.2]) (fun x=>I0 x.1 x.2) (fun x=>m0 x.1 x.2) (0,0) (by subst hA;exact hV.i0) ?_ ?_<;>subst hσz
 ·clear hE hinl hV;cbv;(try (repeat' (first |exact True.intro |rfl |assumption |apply And.intro)))
 intro ⟨x0_0,x0_1⟩ hI0 K0 hK0
 cbv
 repeat' (first |(refine Br.mk (fun _=>?_) (fun _=>?_)<;>cbv) |(refine NilB.mk (fun _=>?_) ?_<;>cbv) |refine And.intro ?_ ?_ |exact True.intro)
 next hp1_0=>
  subst hA;exact hV.g1 _ _ hI0 (dt hp1_0)
 next hp2_0=>
  subst hA;exact hV.g2 _ _ hI0 (dt hp2_0)
 next hp3_0=>
  subst hA;exact hV.g3 _ _ hI0 (dt hp3_0)
 next hp4_0 hp4_1 hp4_2=>
  subst hA;exact hV.g4 _ _ hI0 (dt hp4_0) (dt hp4_1) (dt hp4_2)
 next hp5_0 hp5_1 hp5_2=>
  subst hA;exact hV.g5 _ _ hI0 (dt hp5_0) (dt hp5_1) (dt hp5_2)
 next hp6_0 hp6_1 hp6_2=>
  subst hA;exact hV.g6 _ _ hI0 (dt hp6_0) (dt hp6_1) (df hp6_2)
 next hp7_0 hp7_1 hp7_2=>
  subst hA;exact hV.g7 _ _ hI0 (dt hp7_0) (dt hp7_1) (df hp7_2)
 next hp8_0 hp8_1 hp8_2=>
  subst hA;exact hV.g8 _ _ hI0 (dt hp8_0) (dt hp8_1) (df hp8_2)
 next hp9_0 hp9_1 hp9_2=>
  subst hA;exact hV.g9 _ _ hI0 (dt hp9_0) (dt hp9_1) (df hp9_2)
 next hp10_0 hp10_1 hp10_2=>
  subst hA;exact hV.g10 _ _ hI0 (dt hp10_0) (dt hp10_1) (df hp10_2)
 next hp11_0 hp11_1=>
  subst hA;exact hV.g11 _ _ hI0 (dt hp11_0) (df hp11_1)
 next hp12_0 hp12_1=>
  refine hK0 (x0_0,A.add x0_1 1) _ ?_ ?_ ?_
  ·subst hA;exact (hV.n12 _ _ hI0 (dt hp12_0) (df hp12_1)).1
  ·subst hA;exact (hV.n12 _ _ hI0 (dt hp12_0) (df hp12_1)).2
  clear hE hinl hV hK0;cbv;(try (repeat' (first |exact True.intro |rfl |assumption |apply And.intro)))
 next hp13_0 hp13_1=>
  subst hA;exact hV.g13 _ _ hI0 (df hp13_0)
 next hp14_0 hp14_1=>
  subst hA;exact hV.g14 _ _ hI0 (df hp14_0)
 next hp15_0 hp15_1=>
  exfalso;subst hA;simp [Ar.std] at hp15_1
 next hp16_0 hp16_1=>
  exfalso;subst hA;simp [Ar.std] at hp16_1
 next hp17_0 hp17_1=>
  exfalso;subst hA;simp [Ar.std] at hp17_1
 next hp18_0 hp18_1=>
  exfalso;subst hA;simp [Ar.std] at hp18_1
 rename_i hp19_0 hp19_1
 exfalso;subst hA;simp [Ar.std] at hp19_1
end HX

namespace HX
open Go Go.Proofs CX
end HX

namespace HX
open Go Go.Proofs CX
end HX

namespace HX
open Go Go.Proofs CX
end HX

namespace HX
open Go Go.Proofs CX
end HX

namespace HX
open Go Go.Proofs CX
end HX

namespace HX
open Go Go.Proofs CX
end HX

namespace HX
open Go Go.Proofs CX
set_option maxHeartbeats 4000000 in
set_option maxRecDepth 100000 in
theorem walk62 {ro A pre fn} (hE:EnvOk ⟨A,(cxE ro),ksF,sigL [],pre,fn⟩) {P:List (List D)->Prop} {res:List (List D)->Nat->Nat->D}
  (hv:∀(a0:Rows),ShR [.int .i64,.int .i64,.int .i64] a0->P [[.l a0],[.nil]]->∃(I0:Int->Int->Prop) (m0:Int->Int->Nat),V62 a0 (res [[.l a0],[.nil]]) I0 m0) :
  PureC (cxE ro) 62 ⟨[(false,[.sl [.int .i64,.int .i64,.int .i64]]),(false,[.fnc 63])],[(false,[.bool])],false⟩ P res:=by
 have hA:=hE.A
 simp only [] at hA
 have hinl:∀f fn,inlL [(63,Try.f63),(64,Try.f64),(72,Try.f72)] f=some fn->(cxE ro).fn f=some fn/\(cxE ro).ext f=none:=Inls.ok (by repeat (first |exact .nil |refine .cons rfl rfl ?_))
 refine PureC.of_vc hE hinl 6 (f:=62) (fn:=Try.f62) ⟨rfl,rfl⟩ ?_
 intro a0 ha0 hP
 obtain ⟨R,hR⟩:∃R,res [[.l a0],[.nil]]=R:=⟨_,rfl⟩
 rw [hR]
 obtain ⟨I0,m0,hV⟩:=hv a0 ha0 hP
 rw [hR] at hV
 clear hR hP hv
 cbv
 repeat' (first |(refine Br.mk (fun _=>?_) (fun _=>?_)<;>cbv) |(refine NilB.mk (fun _=>?_) ?_<;>cbv) |refine And.intro ?_ ?_ |exact True.intro)
 refine Leaf.gen fun Uz hσz=>?_
 refine loopB hE hinl 6 [] [] [] (fun x:Int×Int=>[.i x.1,.i x.2]) (fun x=>I0 x.1 x.2) (fun x=>m0 x.1 x.2) (0,0) (by subst hA;exact hV.i0) ?_ ?_<;>subst hσz
 ·clear hE hinl hV;cbv;(try (repeat' (first |exact True.intro |rfl |assumption |apply And.intro)))
 intro ⟨x0_0,x0_1⟩ hI0 K0 hK0
 cbv
 repeat' (first |(refine Br.mk (fun _=>?_) (fun _=>?_)<;>cbv) |(refine NilB.mk (fun _=>?_) ?_<;>cbv) |refine And.intro ?_ ?_ |exact True.intro)
 next hp1_0=>
  subst hA;exact hV.g1 _ _ hI0 (dt hp1_0)
 next hp2_0=>
  subst hA;exact hV.g2 _ _ hI0 (dt hp2_0)
 next hp3_0=>
  subst hA;exact hV.g3 _ _ hI0 (dt hp3_0)
 next hp4_0 hp4_1 hp4_2 hp4_3 hp4_4 hp4_5=>
  subst hA;exact hV.g4 _ _ hI0 (dt hp4_0) (dt hp4_1) (dt hp4_2) (dt hp4_3) (dt hp4_4) (df (nt hp4_5))
 next hp5_0 hp5_1 hp5_2 hp5_3 hp5_4 hp5_5=>
  subst hA;exact hV.g5 _ _ hI0 (dt hp5_0) (dt hp5_1) (dt hp5_2) (dt hp5_3) (dt hp5_4) (dt (nf hp5_5))
 next hp6_0 hp6_1 hp6_2 hp6_3 hp6_4 hp6_5=>
  refine hK0 (x0_0,A.add x0_1 1) _ ?_ ?_ ?_
  ·subst hA;exact (hV.n6 _ _ hI0 (dt hp6_0) (dt hp6_1) (dt hp6_2) (dt hp6_3) (dt hp6_4) (dt (nf hp6_5))).1
  ·subst hA;exact (hV.n6 _ _ hI0 (dt hp6_0) (dt hp6_1) (dt hp6_2) (dt hp6_3) (dt hp6_4) (dt (nf hp6_5))).2
  clear hE hinl hV hK0;cbv;(try (repeat' (first |exact True.intro |rfl |assumption |apply And.intro)))
 next hp7_0 hp7_1 hp7_2 hp7_3 hp7_4=>
  subst hA;exact hV.g7 _ _ hI0 (dt hp7_0) (dt hp7_1) (dt hp7_2) (dt hp7_3) (df hp7_4)
 next hp8_0 hp8_1 hp8_2 hp8_3=>
  subst hA;exact hV.g8 _ _ hI0 (dt hp8_0) (dt hp8_1) (dt hp8_2) (df hp8_3)
 next hp9_0 hp9_1 hp9_2=>
  subst hA;exact hV.g9 _ _ hI0 (dt hp9_0) (dt hp9_1) (df hp9_2)
 next hp10_0 hp10_1=>
  subst hA;exact hV.g10 _ _ hI0 (dt hp10_0) (df hp10_1)
 rename_i hp11_0
 subst hA;exact hV.g11 _ _ hI0 (df hp11_0)
end HX

namespace HX
open Go Go.Proofs CX
set_option maxHeartbeats 4000000 in
set_option maxRecDepth 100000 in
theorem walk65 {ro A pre fn} (hE:EnvOk ⟨A,(cxE ro),ksF,sigL [],pre,fn⟩) {P:List (List D)->Prop} {res:List (List D)->Nat->Nat->D}
  (hv:∀(a0:Rows),ShR [.int .i64] a0->P [[.l a0],[.nil]]->∃(I0:Int->Int->Prop) (m0:Int->Int->Nat),V65 a0 (res [[.l a0],[.nil]]) I0 m0) :
  PureC (cxE ro) 65 ⟨[(false,[.sl [.int .i64]]),(false,[.fnc 66])],[(false,[.bool])],false⟩ P res:=by
 have hA:=hE.A
 simp only [] at hA
 have hinl:∀f fn,inlL [(66,Try.f66),(92,Try.f92)] f=some fn->(cxE ro).fn f=some fn/\(cxE ro).ext f=none:=Inls.ok (by repeat (first |exact .nil |refine .cons rfl rfl ?_))
 refine PureC.of_vc hE hinl 6 (f:=65) (fn:=Try.f65) ⟨rfl,rfl⟩ ?_
 intro a0 ha0 hP
 obtain ⟨R,hR⟩:∃R,res [[.l a0],[.nil]]=R:=⟨_,rfl⟩
 rw [hR]
 obtain ⟨I0,m0,hV⟩:=hv a0 ha0 hP
 rw [hR] at hV
 clear hR hP hv
 cbv
 repeat' (first |(refine Br.mk (fun _=>?_) (fun _=>?_)<;>cbv) |(refine NilB.mk (fun _=>?_) ?_<;>cbv) |refine And.intro ?_ ?_ |exact True.intro)
 refine Leaf.gen fun Uz hσz=>?_
 refine loopB hE hinl 6 [] [] [] (fun x:Int×Int=>[.i x.1,.i x.2]) (fun x=>I0 x.1 x.2) (fun x=>m0 x.1 x.2) (0,0) (by subst hA;exact hV.i0) ?_ ?_<;>subst hσz
 ·clear hE hinl hV;cbv;(try (repeat' (first |exact True.intro |rfl |assumption |apply And.intro)))
 intro ⟨x0_0,x0_1⟩ hI0 K0 hK0
 cbv
 repeat' (first |(refine Br.mk (fun _=>?_) (fun _=>?_)<;>cbv) |(refine NilB.mk (fun _=>?_) ?_<;>cbv) |refine And.intro ?_ ?_ |exact True.intro)
 next hp1_0=>
  subst hA;exact hV.g1 _ _ hI0 (dt hp1_0)
 next hp2_0=>
  subst hA;exact hV.g2 _ _ hI0 (dt hp2_0)
 next hp3_0=>
  subst hA;exact hV.g3 _ _ hI0 (dt hp3_0)
 next hp4_0 hp4_1=>
  subst hA;exact hV.g4 _ _ hI0 (dt hp4_0) (dt hp4_1)
 next hp5_0 hp5_1 hp5_2=>
  subst hA;exact hV.g5 _ _ hI0 (dt hp5_0) (df hp5_1) (dt hp5_2)
 next hp6_0 hp6_1 hp6_2=>
  subst hA;exact hV.g6 _ _ hI0 (dt hp6_0) (df hp6_1) (df hp6_2)
 next hp7_0 hp7_1 hp7_2=>
  refine hK0 (x0_0,A.add x0_1 1) _ ?_ ?_ ?_
  ·subst hA;exact (hV.n7 _ _ hI0 (dt hp7_0) (df hp7_1) (df hp7_2)).1
  ·subst hA;exact (hV.n7 _ _ hI0 (dt hp7_0) (df hp7_1) (df hp7_2)).2
  clear hE hinl hV hK0;cbv;(try (repeat' (first |exact True.intro |rfl |assumption |apply And.intro)))
 rename_i hp8_0
 subst hA;exact hV.g8 _ _ hI0 (df hp8_0)
end HX

namespace HX
open Go Go.Proofs CX
set_option maxHeartbeats 4000000 in
set_option maxRecDepth 100000 in
theorem walk67 {ro A pre fn} (hE:EnvOk ⟨A,(cxE ro),ksF,sigL [(31,⟨[(false,[.sl [.int .i64,.int .i64,.int .i64]]),(false,[.int .i64])],[(false,[.int .i64]),(false,[.bool])],false⟩)],pre,fn⟩) {P:List (List D)->Prop} {res:List (List D)->Nat->Nat->D}
  (hv:∀(a0:Rows) (a1:Rows) (a2:Rows),ShR [.int .i64,.int .i64,.int .i64] a0->ShR [.int .i64] a1->ShR [.int .i64] a2->P [[.l a0],[.l a1],[.l a2]]->∃(I0:Bool->Int->Prop) (m0:Bool->Int->Nat),V67 pre fn a0 a1 a2 (res [[.l a0],[.l a1],[.l a2]]) I0 m0) :
  PureC (cxE ro) 67 ⟨[(false,[.sl [.int .i64,.int .i64,.int .i64]]),(false,[.pt (.sl [.int .i64])]),(false,[.pt (.sl [.int .i64])])],[(false,[.bool])],false⟩ P res:=by
 have hA:=hE.A
 simp only [] at hA
 have hinl:∀f fn,inlL [] f=some fn->(cxE ro).fn f=some fn/\(cxE ro).ext f=none:=Inls.ok (by repeat (first |exact .nil |refine .cons rfl rfl ?_))
 refine PureC.of_vc hE hinl 6 (f:=67) (fn:=Try.f67) ⟨rfl,rfl⟩ ?_
 intro a0 ha0 a1 ha1 a2 ha2 hP
 obtain ⟨R,hR⟩:∃R,res [[.l a0],[.l a1],[.l a2]]=R:=⟨_,rfl⟩
 rw [hR]
 obtain ⟨I0,m0,hV⟩:=hv a0 a1 a2 ha0 ha1 ha2 hP
 rw [hR] at hV
 clear hR hP hv
 cbv
 repeat' (first |(refine Br.mk (fun _=>?_) (fun _=>?_)<;>cbv) |(refine NilB.mk (fun _=>?_) ?_<;>cbv) |refine And.intro ?_ ?_ |exact True.intro)
 ·subst hA;exact hV.g0
 refine Leaf.gen fun Uz hσz=>?_
 refine loopB hE hinl 6 [] [] [] (fun x:Bool×Int=>[.b x.1,.i x.2]) (fun x=>I0 x.1 x.2) (fun x=>m0 x.1 x.2) (false,0) (by subst hA;exact hV.i0) ?_ ?_<;>subst hσz
 ·clear hE hinl hV;cbv;(try (repeat' (first |exact True.intro |rfl |assumption |apply And.intro)))
 intro ⟨x0_0,x0_1⟩ hI0 K0 hK0
 cbv
 repeat' (first |(refine Br.mk (fun _=>?_) (fun _=>?_)<;>cbv) |(refine NilB.mk (fun _=>?_) ?_<;>cbv) |refine And.intro ?_ ?_ |exact True.intro)
 next hp2_0=>
  subst hA;exact hV.g2 _ _ hI0 (dt hp2_0)
 next hp3_0=>
  subst hA;exact hV.g3 _ _ hI0 (dt hp3_0)
 next hp4_0=>
  subst hA;exact hV.g4 _ _ hI0 (dt hp4_0)
 next hp5_0=>
  subst hA;exact hV.g5 _ _ hI0 (dt hp5_0)
 next hp6_0=>
  subst hA;exact hV.g6 _ _ hI0 (dt hp6_0)
 next hp7_0=>
  subst hA;exact hV.g2 _ _ hI0 (dt hp7_0)
 next hp8_0=>
  subst hA;exact hV.g8 _ _ hI0 (dt hp8_0)
 next hp9_0=>
  subst hA;exact hV.g9 _ _ hI0 (dt hp9_0)
 next hp10_0 hp10_1=>
  subst hA;exact hV.g10 _ _ hI0 (dt hp10_0) (df (nt hp10_1))
 next hp11_0 hp11_1=>
  subst hA;exact hV.g11 _ _ hI0 (dt hp11_0) (dt (nf hp11_1))
 next hp12_0 hp12_1=>
  refine hK0 (x0_0,A.add x0_1 1) _ ?_ ?_ ?_
  ·subst hA;exact (hV.n12 _ _ hI0 (dt hp12_0) (dt (nf hp12_1))).1
  ·subst hA;exact (hV.n12 _ _ hI0 (dt hp12_0) (dt (nf hp12_1))).2
  clear hE hinl hV hK0;cbv;(try (repeat' (first |exact True.intro |rfl |assumption |apply And.intro)))
 rename_i hp13_0
 subst hA;exact hV.g13 _ _ hI0 (df hp13_0)
end HX
