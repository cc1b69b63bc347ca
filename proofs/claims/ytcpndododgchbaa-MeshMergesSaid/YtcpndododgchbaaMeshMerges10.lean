/-
  Texts of the executors: V28, MgH, V17, V18, V21, MbB, MbN, W113, W93, W95, W31, W32, W96, W71, W30, W27, W29, W62, W65, W67.
-/
import Derived.Test.YtcpndododgchbaaMeshMerges9
set_option linter.all false
noncomputable section
namespace HX
open Go Go.Proofs CX
abbrev vZ28 (x:Int):=-9223372036854775808<=x/\x<=9223372036854775807
abbrev v28a (fn:Nat->List (List D)->Nat->Nat->D) (d0:Rows) (e2:Int) (f2:Int):=(D.boo (fn 93 [[D.i (D.int (gt d0 e2.toNat 0)),D.i (D.int (gt d0 e2.toNat 1)),D.i (D.int (gt d0 e2.toNat 2))],[D.i (D.int (gt d0 f2.toNat 0)),D.i (D.int (gt d0 f2.toNat 1)),D.i (D.int (gt d0 f2.toNat 2))]] 1 0)=true)
abbrev v28b (d0:Rows) (e2:Int) (fn:Nat->List (List D)->Nat->Nat->D) (f2:Int):=(List.set ([]++d0) e2.toNat [D.i (D.int (fn 93 [[D.i (D.int (gt d0 e2.toNat 0)),D.i (D.int (gt d0 e2.toNat 1)),D.i (D.int (gt d0 e2.toNat 2))],[D.i (D.int (gt d0 f2.toNat 0)),D.i (D.int (gt d0 f2.toNat 1)),D.i (D.int (gt d0 f2.toNat 2))]] 0 0)),D.i (D.int (fn 93 [[D.i (D.int (gt d0 e2.toNat 0)),D.i (D.int (gt d0 e2.toNat 1)),D.i (D.int (gt d0 e2.toNat 2))],[D.i (D.int (gt d0 f2.toNat 0)),D.i (D.int (gt d0 f2.toNat 1)),D.i (D.int (gt d0 f2.toNat 2))]] 0 1)),D.i (D.int (fn 93 [[D.i (D.int (gt d0 e2.toNat 0)),D.i (D.int (gt d0 e2.toNat 1)),D.i (D.int (gt d0 e2.toNat 2))],[D.i (D.int (gt d0 f2.toNat 0)),D.i (D.int (gt d0 f2.toNat 1)),D.i (D.int (gt d0 f2.toNat 2))]] 0 2))])
abbrev v28c (fn:Nat->List (List D)->Nat->Nat->D) (d0:Rows) (e2:Int) (f2:Int):=(D.int (fn 93 [[D.i (D.int (gt d0 e2.toNat 0)),D.i (D.int (gt d0 e2.toNat 1)),D.i (D.int (gt d0 e2.toNat 2))],[D.i (D.int (gt d0 f2.toNat 0)),D.i (D.int (gt d0 f2.toNat 1)),D.i (D.int (gt d0 f2.toNat 2))]] 0 0))
abbrev v28d (fn:Nat->List (List D)->Nat->Nat->D) (d0:Rows) (e2:Int) (f2:Int):=(D.int (fn 93 [[D.i (D.int (gt d0 e2.toNat 0)),D.i (D.int (gt d0 e2.toNat 1)),D.i (D.int (gt d0 e2.toNat 2))],[D.i (D.int (gt d0 f2.toNat 0)),D.i (D.int (gt d0 f2.toNat 1)),D.i (D.int (gt d0 f2.toNat 2))]] 0 1))
abbrev v28e (fn:Nat->List (List D)->Nat->Nat->D) (d0:Rows) (e2:Int) (f2:Int):=(D.int (fn 93 [[D.i (D.int (gt d0 e2.toNat 0)),D.i (D.int (gt d0 e2.toNat 1)),D.i (D.int (gt d0 e2.toNat 2))],[D.i (D.int (gt d0 f2.toNat 0)),D.i (D.int (gt d0 f2.toNat 1)),D.i (D.int (gt d0 f2.toNat 2))]] 0 2))
abbrev v28f (f2:Int) (d0:Rows):=(List.take f2.toNat (List.drop 0 ([]++d0)))
abbrev v28g (f2:Int) (d0:Rows):=(List.drop (Int.toNat (f2+1)) ([]++d0))
abbrev v28h (d0:Rows):=(Int.toNat ((([]++d0)).length:Int))
abbrev v28i (a0:Rows):=(¬1024 < (a0.length:Int))
abbrev v28j (fn:Nat->List (List D)->Nat->Nat->D) (a0:Rows):=(D.boo (fn 62 [[D.l a0],[D.nil]] 0 0)=false)
abbrev v28k (a1:Rows):=(¬1024 < (a1.length:Int))
structure V28c3 (pre:Nat->List (List D)->Prop) (fn:Nat->List (List D)->Nat->Nat->D) (a1:Rows) (b1:Rows) (d0:Rows) (d1:Bool) (e0:Rows) (e1:Bool) (e2:Int) (f0:Rows) (f1:Bool) (f2:Int) (I1:Rows->Bool->Prop) (m1:Rows->Bool->Nat) (I2:Rows->Bool->Int->Prop) (m2:Rows->Bool->Int->Nat) (I3:Rows->Bool->Int->Prop) (m3:Rows->Bool->Int->Nat):Prop where
 g31:(f2 < (d0.length:Int))->0<=f2
 g32:(f2 < (d0.length:Int))->f2 < (d0.length:Int)
 g33:(f2 < (d0.length:Int))->(((Int.toNat f2:Nat):Int)) < (d0.length:Int)
 g35:(f2 < (d0.length:Int))->pre 93 [[D.i (D.int (gt d0 e2.toNat 0)),D.i (D.int (gt d0 e2.toNat 1)),D.i (D.int (gt d0 e2.toNat 2))],[D.i (D.int (gt d0 f2.toNat 0)),D.i (D.int (gt d0 f2.toNat 1)),D.i (D.int (gt d0 f2.toNat 2))]]
 g36:(f2 < (d0.length:Int))->(D.boo (fn 93 [[D.i (D.int (gt d0 e2.toNat 0)),D.i (D.int (gt d0 e2.toNat 1)),D.i (D.int (gt d0 e2.toNat 2))],[D.i (D.int (gt d0 f2.toNat 0)),D.i (D.int (gt d0 f2.toNat 1)),D.i (D.int (gt d0 f2.toNat 2))]] 1 0)=false)->vZ28 ((f2+1))
 n37:(f2 < (d0.length:Int))->(D.boo (fn 93 [[D.i (D.int (gt d0 e2.toNat 0)),D.i (D.int (gt d0 e2.toNat 1)),D.i (D.int (gt d0 e2.toNat 2))],[D.i (D.int (gt d0 f2.toNat 0)),D.i (D.int (gt d0 f2.toNat 1)),D.i (D.int (gt d0 f2.toNat 2))]] 1 0)=false)->I3 f0 f1 (f2+1)/\m3 f0 f1 (f2+1) < m3 f0 f1 f2
 g38:(f2 < (d0.length:Int))->(v28a fn d0 e2 f2)->1<=d0.length
 g41:(f2 < (d0.length:Int))->(v28a fn d0 e2 f2)->(false=false)->((List.length ([]:Rows))+d0.length) * 24<=4294967296/\((List.length ([]:Rows))+d0.length)<=4294967296
 g42:(f2 < (d0.length:Int))->(v28a fn d0 e2 f2)->(false=false)->vZ28 ((f2+1))
 g43:(f2 < (d0.length:Int))->(v28a fn d0 e2 f2)->(false=false)->0<=f2
 g44:(f2 < (d0.length:Int))->(v28a fn d0 e2 f2)->(false=false)->f2<=(f2+1)
 g45:(f2 < (d0.length:Int))->(v28a fn d0 e2 f2)->(false=false)->(f2+1)<=((([]++d0)).length:Int)
 g46:(f2 < (d0.length:Int))->(v28a fn d0 e2 f2)->(false=false)->f2 < ((([]++d0)).length:Int)
 g47:(f2 < (d0.length:Int))->(v28a fn d0 e2 f2)->(false=false)->((([]++d0)).length:Int)<=((([]++d0)).length:Int)
 g48:(f2 < (d0.length:Int))->(v28a fn d0 e2 f2)->(false=false)->(f2=(f2+1))->0<=e2
 g49:(f2 < (d0.length:Int))->(v28a fn d0 e2 f2)->(false=false)->(f2=(f2+1))->e2 < ((([]++d0)).length:Int)
 g50:(f2 < (d0.length:Int))->(v28a fn d0 e2 f2)->(false=false)->(f2=(f2+1))->(((Int.toNat e2:Nat):Int)) < ((([]++d0)).length:Int)
 g51:(f2 < (d0.length:Int))->(v28a fn d0 e2 f2)->(false=false)->(f2=(f2+1))->pre 67 [[D.l (v28b d0 e2 fn f2)],[D.l a1],[D.l b1]]
 n52:(f2 < (d0.length:Int))->(v28a fn d0 e2 f2)->(false=false)->(f2=(f2+1))->(D.boo (fn 67 [[D.l (v28b d0 e2 fn f2)],[D.l a1],[D.l b1]] 0 0)=true)->I1 (v28b d0 e2 fn f2) true/\m1 (v28b d0 e2 fn f2) true < m1 d0 d1
 g53:(f2 < (d0.length:Int))->(v28a fn d0 e2 f2)->(false=false)->(f2=(f2+1))->(D.boo (fn 67 [[D.l (v28b d0 e2 fn f2)],[D.l a1],[D.l b1]] 0 0)=false)->vZ28 ((f2+1))
 n54:(f2 < (d0.length:Int))->(v28a fn d0 e2 f2)->(false=false)->(f2=(f2+1))->(D.boo (fn 67 [[D.l (v28b d0 e2 fn f2)],[D.l a1],[D.l b1]] 0 0)=false)->I3 f0 f1 (f2+1)/\m3 f0 f1 (f2+1) < m3 f0 f1 f2
 g55:(f2 < (d0.length:Int))->(v28a fn d0 e2 f2)->(false=false)->(¬f2=(f2+1))->0<=f2
 g56:(f2 < (d0.length:Int))->(v28a fn d0 e2 f2)->(false=false)->(¬f2=(f2+1))->f2<=((([]++d0)).length:Int)
 g57:(f2 < (d0.length:Int))->(v28a fn d0 e2 f2)->(false=false)->(¬f2=(f2+1))->0<=(f2+1)
 g58:(f2 < (d0.length:Int))->(v28a fn d0 e2 f2)->(false=false)->(¬f2=(f2+1))->(f2+1)<=((([]++d0)).length:Int)
 g59:(f2 < (d0.length:Int))->(v28a fn d0 e2 f2)->(false=false)->(¬f2=(f2+1))->(f2.toNat+((List.length (([]++d0):Rows)) - (Int.toNat (f2+1)))) * 24<=4294967296/\(f2.toNat+((List.length (([]++d0):Rows)) - (Int.toNat (f2+1))))<=4294967296
 g60:(f2 < (d0.length:Int))->(v28a fn d0 e2 f2)->(false=false)->(¬f2=(f2+1))->((Int.toNat (f2+1))+((List.length (([]++d0):Rows)) - (Int.toNat (f2+1))))<=(List.length (([]++d0):Rows))
 g61:(f2 < (d0.length:Int))->(v28a fn d0 e2 f2)->(false=false)->(¬f2=(f2+1))->(f2.toNat+((List.length (([]++d0):Rows)) - (Int.toNat (f2+1))))<=(List.length (([]++d0):Rows))
 g62:(f2 < (d0.length:Int))->(v28a fn d0 e2 f2)->(false=false)->(¬f2=(f2+1))->0<=(((f2.toNat+((List.length (([]++d0):Rows)) - (Int.toNat (f2+1))):Nat):Int))
 g63:(f2 < (d0.length:Int))->(v28a fn d0 e2 f2)->(false=false)->(¬f2=(f2+1))->(((f2.toNat+((List.length (([]++d0):Rows)) - (Int.toNat (f2+1))):Nat):Int))<=((([]++d0)).length:Int)
 g64:(f2 < (d0.length:Int))->(v28a fn d0 e2 f2)->(false=false)->(¬f2=(f2+1))->((([]++d0)).length:Int)<=(((((v28f f2 d0)++((List.take ((List.length (([]++d0):Rows)) - (Int.toNat (f2+1))) (v28g f2 d0))++(List.take ((List.length (([]++d0):Rows)) - (f2.toNat+((List.length (([]++d0):Rows)) - (Int.toNat (f2+1))))) (List.drop (f2.toNat+((List.length (([]++d0):Rows)) - (Int.toNat (f2+1)))) ([]++d0)))))).length:Int))
 g65:(f2 < (d0.length:Int))->(v28a fn d0 e2 f2)->(false=false)->(¬f2=(f2+1))->((Int.toNat (((f2.toNat+((List.length (([]++d0):Rows)) - (Int.toNat (f2+1))):Nat):Int)))+((v28h d0) - (Int.toNat (((f2.toNat+((List.length (([]++d0):Rows)) - (Int.toNat (f2+1))):Nat):Int)))))<=(List.length (((v28f f2 d0)++((List.take ((List.length (([]++d0):Rows)) - (Int.toNat (f2+1))) (v28g f2 d0))++(List.take ((List.length (([]++d0):Rows)) - (f2.toNat+((List.length (([]++d0):Rows)) - (Int.toNat (f2+1))))) (List.drop (f2.toNat+((List.length (([]++d0):Rows)) - (Int.toNat (f2+1)))) ([]++d0))))):Rows))
 g66:(f2 < (d0.length:Int))->(v28a fn d0 e2 f2)->(false=false)->(¬f2=(f2+1))->(0+(f2.toNat+((List.length (([]++d0):Rows)) - (Int.toNat (f2+1)))))<=(List.length (((List.take (Int.toNat (((f2.toNat+((List.length (([]++d0):Rows)) - (Int.toNat (f2+1))):Nat):Int))) (List.drop 0 ((v28f f2 d0)++((List.take ((List.length (([]++d0):Rows)) - (Int.toNat (f2+1))) (v28g f2 d0))++(List.take ((List.length (([]++d0):Rows)) - (f2.toNat+((List.length (([]++d0):Rows)) - (Int.toNat (f2+1))))) (List.drop (f2.toNat+((List.length (([]++d0):Rows)) - (Int.toNat (f2+1)))) ([]++d0)))))))++((List.replicate ((v28h d0) - (Int.toNat (((f2.toNat+((List.length (([]++d0):Rows)) - (Int.toNat (f2+1))):Nat):Int)))) [D.i 0,D.i 0,D.i 0])++(List.take ((List.length (((v28f f2 d0)++((List.take ((List.length (([]++d0):Rows)) - (Int.toNat (f2+1))) (v28g f2 d0))++(List.take ((List.length (([]++d0):Rows)) - (f2.toNat+((List.length (([]++d0):Rows)) - (Int.toNat (f2+1))))) (List.drop (f2.toNat+((List.length (([]++d0):Rows)) - (Int.toNat (f2+1)))) ([]++d0))))):Rows)) - ((Int.toNat (((f2.toNat+((List.length (([]++d0):Rows)) - (Int.toNat (f2+1))):Nat):Int)))+((v28h d0) - (Int.toNat (((f2.toNat+((List.length (([]++d0):Rows)) - (Int.toNat (f2+1))):Nat):Int)))))) (List.drop ((Int.toNat (((f2.toNat+((List.length (([]++d0):Rows)) - (Int.toNat (f2+1))):Nat):Int)))+((v28h d0) - (Int.toNat (((f2.toNat+((List.length (([]++d0):Rows)) - (Int.toNat (f2+1))):Nat):Int))))) ((v28f f2 d0)++((List.take ((List.length (([]++d0):Rows)) - (Int.toNat (f2+1))) (v28g f2 d0))++(List.take ((List.length (([]++d0):Rows)) - (f2.toNat+((List.length (([]++d0):Rows)) - (Int.toNat (f2+1))))) (List.drop (f2.toNat+((List.length (([]++d0):Rows)) - (Int.toNat (f2+1)))) ([]++d0))))))))):Rows))
 g67:(f2 < (d0.length:Int))->(v28a fn d0 e2 f2)->(false=false)->(¬f2=(f2+1))->0<=e2
 g68:(f2 < (d0.length:Int))->(v28a fn d0 e2 f2)->(false=false)->(¬f2=(f2+1))->e2 < (((f2.toNat+((List.length (([]++d0):Rows)) - (Int.toNat (f2+1))):Nat):Int))
 g69:(f2 < (d0.length:Int))->(v28a fn d0 e2 f2)->(false=false)->(¬f2=(f2+1))->(((0+e2.toNat:Nat):Int)) < (((((List.take (Int.toNat (((f2.toNat+((List.length (([]++d0):Rows)) - (Int.toNat (f2+1))):Nat):Int))) (List.drop 0 ((v28f f2 d0)++((List.take ((List.length (([]++d0):Rows)) - (Int.toNat (f2+1))) (v28g f2 d0))++(List.take ((List.length (([]++d0):Rows)) - (f2.toNat+((List.length (([]++d0):Rows)) - (Int.toNat (f2+1))))) (List.drop (f2.toNat+((List.length (([]++d0):Rows)) - (Int.toNat (f2+1)))) ([]++d0)))))))++((List.replicate ((Int.toNat ((List.length (([]++d0):Rows):Nat):Int)) - (Int.toNat (((f2.toNat+((List.length (([]++d0):Rows)) - (Int.toNat (f2+1))):Nat):Int)))) [D.i 0,D.i 0,D.i 0])++(List.take ((List.length (((v28f f2 d0)++((List.take ((List.length (([]++d0):Rows)) - (Int.toNat (f2+1))) (v28g f2 d0))++(List.take ((List.length (([]++d0):Rows)) - (f2.toNat+((List.length (([]++d0):Rows)) - (Int.toNat (f2+1))))) (List.drop (f2.toNat+((List.length (([]++d0):Rows)) - (Int.toNat (f2+1)))) ([]++d0))))):Rows)) - ((Int.toNat (((f2.toNat+((List.length (([]++d0):Rows)) - (Int.toNat (f2+1))):Nat):Int)))+((Int.toNat ((List.length (([]++d0):Rows):Nat):Int)) - (Int.toNat (((f2.toNat+((List.length (([]++d0):Rows)) - (Int.toNat (f2+1))):Nat):Int)))))) (List.drop ((Int.toNat (((f2.toNat+((List.length (([]++d0):Rows)) - (Int.toNat (f2+1))):Nat):Int)))+((Int.toNat ((List.length (([]++d0):Rows):Nat):Int)) - (Int.toNat (((f2.toNat+((List.length (([]++d0):Rows)) - (Int.toNat (f2+1))):Nat):Int))))) ((v28f f2 d0)++((List.take ((List.length (([]++d0):Rows)) - (Int.toNat (f2+1))) (v28g f2 d0))++(List.take ((List.length (([]++d0):Rows)) - (f2.toNat+((List.length (([]++d0):Rows)) - (Int.toNat (f2+1))))) (List.drop (f2.toNat+((List.length (([]++d0):Rows)) - (Int.toNat (f2+1)))) ([]++d0)))))))))).length:Int))
 g70:(f2 < (d0.length:Int))->(v28a fn d0 e2 f2)->(false=false)->(¬f2=(f2+1))->pre 67 [[D.l (List.take (f2.toNat+((List.length (([]++d0):Rows)) - (Int.toNat (f2+1)))) (List.drop 0 (List.set ((List.take (Int.toNat (((f2.toNat+((List.length (([]++d0):Rows)) - (Int.toNat (f2+1))):Nat):Int))) (List.drop 0 ((v28f f2 d0)++((List.take ((List.length (([]++d0):Rows)) - (Int.toNat (f2+1))) (v28g f2 d0))++(List.take ((List.length (([]++d0):Rows)) - (f2.toNat+((List.length (([]++d0):Rows)) - (Int.toNat (f2+1))))) (List.drop (f2.toNat+((List.length (([]++d0):Rows)) - (Int.toNat (f2+1)))) ([]++d0)))))))++((List.replicate ((v28h d0) - (Int.toNat (((f2.toNat+((List.length (([]++d0):Rows)) - (Int.toNat (f2+1))):Nat):Int)))) [D.i 0,D.i 0,D.i 0])++(List.take ((List.length (((v28f f2 d0)++((List.take ((List.length (([]++d0):Rows)) - (Int.toNat (f2+1))) (v28g f2 d0))++(List.take ((List.length (([]++d0):Rows)) - (f2.toNat+((List.length (([]++d0):Rows)) - (Int.toNat (f2+1))))) (List.drop (f2.toNat+((List.length (([]++d0):Rows)) - (Int.toNat (f2+1)))) ([]++d0))))):Rows)) - ((Int.toNat (((f2.toNat+((List.length (([]++d0):Rows)) - (Int.toNat (f2+1))):Nat):Int)))+((v28h d0) - (Int.toNat (((f2.toNat+((List.length (([]++d0):Rows)) - (Int.toNat (f2+1))):Nat):Int)))))) (List.drop ((Int.toNat (((f2.toNat+((List.length (([]++d0):Rows)) - (Int.toNat (f2+1))):Nat):Int)))+((v28h d0) - (Int.toNat (((f2.toNat+((List.length (([]++d0):Rows)) - (Int.toNat (f2+1))):Nat):Int))))) ((v28f f2 d0)++((List.take ((List.length (([]++d0):Rows)) - (Int.toNat (f2+1))) (v28g f2 d0))++(List.take ((List.length (([]++d0):Rows)) - (f2.toNat+((List.length (([]++d0):Rows)) - (Int.toNat (f2+1))))) (List.drop (f2.toNat+((List.length (([]++d0):Rows)) - (Int.toNat (f2+1)))) ([]++d0))))))))) (0+e2.toNat) [D.i (v28c fn d0 e2 f2),D.i (v28d fn d0 e2 f2),D.i (v28e fn d0 e2 f2)])))],[D.l a1],[D.l b1]]
 n71:(f2 < (d0.length:Int))->(v28a fn d0 e2 f2)->(false=false)->(¬f2=(f2+1))->(D.boo (fn 67 [[D.l (List.take (f2.toNat+((List.length (([]++d0):Rows)) - (Int.toNat (f2+1)))) (List.drop 0 (List.set ((List.take (Int.toNat (((f2.toNat+((List.length (([]++d0):Rows)) - (Int.toNat (f2+1))):Nat):Int))) (List.drop 0 ((v28f f2 d0)++((List.take ((List.length (([]++d0):Rows)) - (Int.toNat (f2+1))) (v28g f2 d0))++(List.take ((List.length (([]++d0):Rows)) - (f2.toNat+((List.length (([]++d0):Rows)) - (Int.toNat (f2+1))))) (List.drop (f2.toNat+((List.length (([]++d0):Rows)) - (Int.toNat (f2+1)))) ([]++d0)))))))++((List.replicate ((v28h d0) - (Int.toNat (((f2.toNat+((List.length (([]++d0):Rows)) - (Int.toNat (f2+1))):Nat):Int)))) [D.i 0,D.i 0,D.i 0])++(List.take ((List.length (((v28f f2 d0)++((List.take ((List.length (([]++d0):Rows)) - (Int.toNat (f2+1))) (v28g f2 d0))++(List.take ((List.length (([]++d0):Rows)) - (f2.toNat+((List.length (([]++d0):Rows)) - (Int.toNat (f2+1))))) (List.drop (f2.toNat+((List.length (([]++d0):Rows)) - (Int.toNat (f2+1)))) ([]++d0))))):Rows)) - ((Int.toNat (((f2.toNat+((List.length (([]++d0):Rows)) - (Int.toNat (f2+1))):Nat):Int)))+((v28h d0) - (Int.toNat (((f2.toNat+((List.length (([]++d0):Rows)) - (Int.toNat (f2+1))):Nat):Int)))))) (List.drop ((Int.toNat (((f2.toNat+((List.length (([]++d0):Rows)) - (Int.toNat (f2+1))):Nat):Int)))+((v28h d0) - (Int.toNat (((f2.toNat+((List.length (([]++d0):Rows)) - (Int.toNat (f2+1))):Nat):Int))))) ((v28f f2 d0)++((List.take ((List.length (([]++d0):Rows)) - (Int.toNat (f2+1))) (v28g f2 d0))++(List.take ((List.length (([]++d0):Rows)) - (f2.toNat+((List.length (([]++d0):Rows)) - (Int.toNat (f2+1))))) (List.drop (f2.toNat+((List.length (([]++d0):Rows)) - (Int.toNat (f2+1)))) ([]++d0))))))))) (0+e2.toNat) [D.i (v28c fn d0 e2 f2),D.i (v28d fn d0 e2 f2),D.i (v28e fn d0 e2 f2)])))],[D.l a1],[D.l b1]] 0 0)=true)->I1 (List.take (f2.toNat+((List.length (([]++d0):Rows)) - (Int.toNat (f2+1)))) (List.drop 0 (List.set ((List.take (Int.toNat (((f2.toNat+((List.length (([]++d0):Rows)) - (Int.toNat (f2+1))):Nat):Int))) (List.drop 0 ((v28f f2 d0)++((List.take ((List.length (([]++d0):Rows)) - (Int.toNat (f2+1))) (v28g f2 d0))++(List.take ((List.length (([]++d0):Rows)) - (f2.toNat+((List.length (([]++d0):Rows)) - (Int.toNat (f2+1))))) (List.drop (f2.toNat+((List.length (([]++d0):Rows)) - (Int.toNat (f2+1)))) ([]++d0)))))))++((List.replicate ((v28h d0) - (Int.toNat (((f2.toNat+((List.length (([]++d0):Rows)) - (Int.toNat (f2+1))):Nat):Int)))) [D.i 0,D.i 0,D.i 0])++(List.take ((List.length (((v28f f2 d0)++((List.take ((List.length (([]++d0):Rows)) - (Int.toNat (f2+1))) (v28g f2 d0))++(List.take ((List.length (([]++d0):Rows)) - (f2.toNat+((List.length (([]++d0):Rows)) - (Int.toNat (f2+1))))) (List.drop (f2.toNat+((List.length (([]++d0):Rows)) - (Int.toNat (f2+1)))) ([]++d0))))):Rows)) - ((Int.toNat (((f2.toNat+((List.length (([]++d0):Rows)) - (Int.toNat (f2+1))):Nat):Int)))+((v28h d0) - (Int.toNat (((f2.toNat+((List.length (([]++d0):Rows)) - (Int.toNat (f2+1))):Nat):Int)))))) (List.drop ((Int.toNat (((f2.toNat+((List.length (([]++d0):Rows)) - (Int.toNat (f2+1))):Nat):Int)))+((v28h d0) - (Int.toNat (((f2.toNat+((List.length (([]++d0):Rows)) - (Int.toNat (f2+1))):Nat):Int))))) ((v28f f2 d0)++((List.take ((List.length (([]++d0):Rows)) - (Int.toNat (f2+1))) (v28g f2 d0))++(List.take ((List.length (([]++d0):Rows)) - (f2.toNat+((List.length (([]++d0):Rows)) - (Int.toNat (f2+1))))) (List.drop (f2.toNat+((List.length (([]++d0):Rows)) - (Int.toNat (f2+1)))) ([]++d0))))))))) (0+e2.toNat) [D.i (v28c fn d0 e2 f2),D.i (v28d fn d0 e2 f2),D.i (v28e fn d0 e2 f2)]))) true/\m1 (List.take (f2.toNat+((List.length (([]++d0):Rows)) - (Int.toNat (f2+1)))) (List.drop 0 (List.set ((List.take (Int.toNat (((f2.toNat+((List.length (([]++d0):Rows)) - (Int.toNat (f2+1))):Nat):Int))) (List.drop 0 ((v28f f2 d0)++((List.take ((List.length (([]++d0):Rows)) - (Int.toNat (f2+1))) (v28g f2 d0))++(List.take ((List.length (([]++d0):Rows)) - (f2.toNat+((List.length (([]++d0):Rows)) - (Int.toNat (f2+1))))) (List.drop (f2.toNat+((List.length (([]++d0):Rows)) - (Int.toNat (f2+1)))) ([]++d0)))))))++((List.replicate ((v28h d0) - (Int.toNat (((f2.toNat+((List.length (([]++d0):Rows)) - (Int.toNat (f2+1))):Nat):Int)))) [D.i 0,D.i 0,D.i 0])++(List.take ((List.length (((v28f f2 d0)++((List.take ((List.length (([]++d0):Rows)) - (Int.toNat (f2+1))) (v28g f2 d0))++(List.take ((List.length (([]++d0):Rows)) - (f2.toNat+((List.length (([]++d0):Rows)) - (Int.toNat (f2+1))))) (List.drop (f2.toNat+((List.length (([]++d0):Rows)) - (Int.toNat (f2+1)))) ([]++d0))))):Rows)) - ((Int.toNat (((f2.toNat+((List.length (([]++d0):Rows)) - (Int.toNat (f2+1))):Nat):Int)))+((v28h d0) - (Int.toNat (((f2.toNat+((List.length (([]++d0):Rows)) - (Int.toNat (f2+1))):Nat):Int)))))) (List.drop ((Int.toNat (((f2.toNat+((List.length (([]++d0):Rows)) - (Int.toNat (f2+1))):Nat):Int)))+((v28h d0) - (Int.toNat (((f2.toNat+((List.length (([]++d0):Rows)) - (Int.toNat (f2+1))):Nat):Int))))) ((v28f f2 d0)++((List.take ((List.length (([]++d0):Rows)) - (Int.toNat (f2+1))) (v28g f2 d0))++(List.take ((List.length (([]++d0):Rows)) - (f2.toNat+((List.length (([]++d0):Rows)) - (Int.toNat (f2+1))))) (List.drop (f2.toNat+((List.length (([]++d0):Rows)) - (Int.toNat (f2+1)))) ([]++d0))))))))) (0+e2.toNat) [D.i (v28c fn d0 e2 f2),D.i (v28d fn d0 e2 f2),D.i (v28e fn d0 e2 f2)]))) true < m1 d0 d1
 g72:(f2 < (d0.length:Int))->(v28a fn d0 e2 f2)->(false=false)->(¬f2=(f2+1))->(D.boo (fn 67 [[D.l (List.take (f2.toNat+((List.length (([]++d0):Rows)) - (Int.toNat (f2+1)))) (List.drop 0 (List.set ((List.take (Int.toNat (((f2.toNat+((List.length (([]++d0):Rows)) - (Int.toNat (f2+1))):Nat):Int))) (List.drop 0 ((v28f f2 d0)++((List.take ((List.length (([]++d0):Rows)) - (Int.toNat (f2+1))) (v28g f2 d0))++(List.take ((List.length (([]++d0):Rows)) - (f2.toNat+((List.length (([]++d0):Rows)) - (Int.toNat (f2+1))))) (List.drop (f2.toNat+((List.length (([]++d0):Rows)) - (Int.toNat (f2+1)))) ([]++d0)))))))++((List.replicate ((v28h d0) - (Int.toNat (((f2.toNat+((List.length (([]++d0):Rows)) - (Int.toNat (f2+1))):Nat):Int)))) [D.i 0,D.i 0,D.i 0])++(List.take ((List.length (((v28f f2 d0)++((List.take ((List.length (([]++d0):Rows)) - (Int.toNat (f2+1))) (v28g f2 d0))++(List.take ((List.length (([]++d0):Rows)) - (f2.toNat+((List.length (([]++d0):Rows)) - (Int.toNat (f2+1))))) (List.drop (f2.toNat+((List.length (([]++d0):Rows)) - (Int.toNat (f2+1)))) ([]++d0))))):Rows)) - ((Int.toNat (((f2.toNat+((List.length (([]++d0):Rows)) - (Int.toNat (f2+1))):Nat):Int)))+((v28h d0) - (Int.toNat (((f2.toNat+((List.length (([]++d0):Rows)) - (Int.toNat (f2+1))):Nat):Int)))))) (List.drop ((Int.toNat (((f2.toNat+((List.length (([]++d0):Rows)) - (Int.toNat (f2+1))):Nat):Int)))+((v28h d0) - (Int.toNat (((f2.toNat+((List.length (([]++d0):Rows)) - (Int.toNat (f2+1))):Nat):Int))))) ((v28f f2 d0)++((List.take ((List.length (([]++d0):Rows)) - (Int.toNat (f2+1))) (v28g f2 d0))++(List.take ((List.length (([]++d0):Rows)) - (f2.toNat+((List.length (([]++d0):Rows)) - (Int.toNat (f2+1))))) (List.drop (f2.toNat+((List.length (([]++d0):Rows)) - (Int.toNat (f2+1)))) ([]++d0))))))))) (0+e2.toNat) [D.i (v28c fn d0 e2 f2),D.i (v28d fn d0 e2 f2),D.i (v28e fn d0 e2 f2)])))],[D.l a1],[D.l b1]] 0 0)=false)->vZ28 ((f2+1))
 n73:(f2 < (d0.length:Int))->(v28a fn d0 e2 f2)->(false=false)->(¬f2=(f2+1))->(D.boo (fn 67 [[D.l (List.take (f2.toNat+((List.length (([]++d0):Rows)) - (Int.toNat (f2+1)))) (List.drop 0 (List.set ((List.take (Int.toNat (((f2.toNat+((List.length (([]++d0):Rows)) - (Int.toNat (f2+1))):Nat):Int))) (List.drop 0 ((v28f f2 d0)++((List.take ((List.length (([]++d0):Rows)) - (Int.toNat (f2+1))) (v28g f2 d0))++(List.take ((List.length (([]++d0):Rows)) - (f2.toNat+((List.length (([]++d0):Rows)) - (Int.toNat (f2+1))))) (List.drop (f2.toNat+((List.length (([]++d0):Rows)) - (Int.toNat (f2+1)))) ([]++d0)))))))++((List.replicate ((v28h d0) - (Int.toNat (((f2.toNat+((List.length (([]++d0):Rows)) - (Int.toNat (f2+1))):Nat):Int)))) [D.i 0,D.i 0,D.i 0])++(List.take ((List.length (((v28f f2 d0)++((List.take ((List.length (([]++d0):Rows)) - (Int.toNat (f2+1))) (v28g f2 d0))++(List.take ((List.length (([]++d0):Rows)) - (f2.toNat+((List.length (([]++d0):Rows)) - (Int.toNat (f2+1))))) (List.drop (f2.toNat+((List.length (([]++d0):Rows)) - (Int.toNat (f2+1)))) ([]++d0))))):Rows)) - ((Int.toNat (((f2.toNat+((List.length (([]++d0):Rows)) - (Int.toNat (f2+1))):Nat):Int)))+((v28h d0) - (Int.toNat (((f2.toNat+((List.length (([]++d0):Rows)) - (Int.toNat (f2+1))):Nat):Int)))))) (List.drop ((Int.toNat (((f2.toNat+((List.length (([]++d0):Rows)) - (Int.toNat (f2+1))):Nat):Int)))+((v28h d0) - (Int.toNat (((f2.toNat+((List.length (([]++d0):Rows)) - (Int.toNat (f2+1))):Nat):Int))))) ((v28f f2 d0)++((List.take ((List.length (([]++d0):Rows)) - (Int.toNat (f2+1))) (v28g f2 d0))++(List.take ((List.length (([]++d0):Rows)) - (f2.toNat+((List.length (([]++d0):Rows)) - (Int.toNat (f2+1))))) (List.drop (f2.toNat+((List.length (([]++d0):Rows)) - (Int.toNat (f2+1)))) ([]++d0))))))))) (0+e2.toNat) [D.i (v28c fn d0 e2 f2),D.i (v28d fn d0 e2 f2),D.i (v28e fn d0 e2 f2)])))],[D.l a1],[D.l b1]] 0 0)=false)->I3 f0 f1 (f2+1)/\m3 f0 f1 (f2+1) < m3 f0 f1 f2
 g74:(¬f2 < (d0.length:Int))->vZ28 ((e2+1))
 n75:(¬f2 < (d0.length:Int))->I2 f0 f1 (e2+1)/\m2 f0 f1 (e2+1) < m2 e0 e1 e2
abbrev V28l3 (pre:Nat->List (List D)->Prop) (fn:Nat->List (List D)->Nat->Nat->D) (a1:Rows) (b1:Rows) (d0:Rows) (d1:Bool) (e0:Rows) (e1:Bool) (e2:Int) (I1:Rows->Bool->Prop) (m1:Rows->Bool->Nat) (I2:Rows->Bool->Int->Prop) (m2:Rows->Bool->Int->Nat):Prop:=∃(I3:Rows->Bool->Int->Prop) (m3:Rows->Bool->Int->Nat),I3 e0 e1 (e2+1)/\∀f0 f1 f2,I3 f0 f1 f2->V28c3 pre fn a1 b1 d0 d1 e0 e1 e2 f0 f1 f2 I1 m1 I2 m2 I3 m3
structure V28c2 (pre:Nat->List (List D)->Prop) (fn:Nat->List (List D)->Nat->Nat->D) (a1:Rows) (b1:Rows) (d0:Rows) (d1:Bool) (e0:Rows) (e1:Bool) (e2:Int) (I1:Rows->Bool->Prop) (m1:Rows->Bool->Nat) (I2:Rows->Bool->Int->Prop) (m2:Rows->Bool->Int->Nat):Prop where
 g26:(e2 < (d0.length:Int))->0<=e2
 g27:(e2 < (d0.length:Int))->e2 < (d0.length:Int)
 g28:(e2 < (d0.length:Int))->(((Int.toNat e2:Nat):Int)) < (d0.length:Int)
 g29:(e2 < (d0.length:Int))->vZ28 ((e2+1))
 n76:(¬e2 < (d0.length:Int))->I1 d0 false/\m1 d0 false < m1 d0 d1
 l3:(e2 < (d0.length:Int))->V28l3 pre fn a1 b1 d0 d1 e0 e1 e2 I1 m1 I2 m2
abbrev V28l2 (pre:Nat->List (List D)->Prop) (fn:Nat->List (List D)->Nat->Nat->D) (a1:Rows) (b1:Rows) (d0:Rows) (d1:Bool) (I1:Rows->Bool->Prop) (m1:Rows->Bool->Nat):Prop:=∃(I2:Rows->Bool->Int->Prop) (m2:Rows->Bool->Int->Nat),I2 [] false 0/\∀e0 e1 e2,I2 e0 e1 e2->V28c2 pre fn a1 b1 d0 d1 e0 e1 e2 I1 m1 I2 m2
structure V28c1 (pre:Nat->List (List D)->Prop) (fn:Nat->List (List D)->Nat->Nat->D) (a1:Rows) (R:Nat->Nat->D) (b1:Rows) (d0:Rows) (d1:Bool) (I1:Rows->Bool->Prop) (m1:Rows->Bool->Nat):Prop where
 g77:(d1=false)->R 0 0=D.l d0
 g78:(d1=false)->R 1 0=D.i 0
 l2:(d1=true)->V28l2 pre fn a1 b1 d0 d1 I1 m1
abbrev V28l1 (pre:Nat->List (List D)->Prop) (fn:Nat->List (List D)->Nat->Nat->D) (a1:Rows) (R:Nat->Nat->D) (b1:Rows):Prop:=∃(I1:Rows->Bool->Prop) (m1:Rows->Bool->Nat),I1 [] true/\∀d0 d1,I1 d0 d1->V28c1 pre fn a1 R b1 d0 d1 I1 m1
abbrev V28l4 (pre:Nat->List (List D)->Prop) (fn:Nat->List (List D)->Nat->Nat->D) (a0:Rows) (a1:Rows) (R:Nat->Nat->D) (b1:Rows):Prop:=∃(I4:Rows->Bool->Prop) (m4:Rows->Bool->Nat),I4 ([]++a0) true/\∀j0 j1,I4 j0 j1->V28c1 pre fn a1 R b1 j0 j1 I4 m4
structure V28c0 (pre:Nat->List (List D)->Prop) (fn:Nat->List (List D)->Nat->Nat->D) (a0:Rows) (a1:Rows) (R:Nat->Nat->D) (b0:Int) (b1:Rows) (I0:Int->Rows->Prop) (m0:Int->Rows->Nat):Prop where
 g15:(b0 < (a1.length:Int))->0<=b0
 g16:(b0 < (a1.length:Int))->b0 < (a1.length:Int)
 g17:(b0 < (a1.length:Int))->(((Int.toNat b0:Nat):Int)) < (a1.length:Int)
 g18:(b0 < (a1.length:Int))->pre 31 [[D.l a0],[D.i (D.int (gt a1 b0.toNat 0))]]
 g20:(b0 < (a1.length:Int))->b0 < (b1.length:Int)
 g21:(b0 < (a1.length:Int))->(((Int.toNat b0:Nat):Int)) < (b1.length:Int)
 g22:(b0 < (a1.length:Int))->vZ28 ((b0+1))
 n23:(b0 < (a1.length:Int))->I0 (b0+1) (List.set b1 b0.toNat [D.i (D.int (fn 31 [[D.l a0],[D.i (D.int (gt a1 b0.toNat 0))]] 0 0))])/\m0 (b0+1) (List.set b1 b0.toNat [D.i (D.int (fn 31 [[D.l a0],[D.i (D.int (gt a1 b0.toNat 0))]] 0 0))]) < m0 b0 b1
 g79:(¬b0 < (a1.length:Int))->((List.length ([]:Rows))+a0.length) * 24<=4294967296/\((List.length ([]:Rows))+a0.length)<=4294967296
 l1:(¬b0 < (a1.length:Int))->(a0.length<=0)->V28l1 pre fn a1 R b1
 l4:(¬b0 < (a1.length:Int))->V28l4 pre fn a0 a1 R b1
abbrev V28l0 (pre:Nat->List (List D)->Prop) (fn:Nat->List (List D)->Nat->Nat->D) (a0:Rows) (a1:Rows) (R:Nat->Nat->D):Prop:=∃(I0:Int->Rows->Prop) (m0:Int->Rows->Nat),I0 0 (List.replicate (Int.toNat (a1.length:Int)) [D.i 0])/\∀b0 b1,I0 b0 b1->V28c0 pre fn a0 a1 R b0 b1 I0 m0
structure V28 (pre:Nat->List (List D)->Prop) (fn:Nat->List (List D)->Nat->Nat->D) (a0:Rows) (a1:Rows) (R:Nat->Nat->D):Prop where
 g0:(1024 < (a0.length:Int))->R 0 0=D.l []
 g1:(1024 < (a0.length:Int))->R 1 0=D.i 9
 g2:(v28i a0)->(1024 < (a1.length:Int))->R 0 0=D.l []
 g3:(v28i a0)->(1024 < (a1.length:Int))->R 1 0=D.i 9
 g4:(v28i a0)->(v28k a1)->pre 62 [[D.l a0],[D.nil]]
 g5:(v28i a0)->(v28k a1)->(D.boo (fn 62 [[D.l a0],[D.nil]] 0 0)=true)->R 0 0=D.l []
 g6:(v28i a0)->(v28k a1)->(D.boo (fn 62 [[D.l a0],[D.nil]] 0 0)=true)->R 1 0=D.i 2
 g7:(v28i a0)->(v28k a1)->(v28j fn a0)->pre 65 [[D.l a1],[D.nil]]
 g8:(v28i a0)->(v28k a1)->(v28j fn a0)->(D.boo (fn 65 [[D.l a1],[D.nil]] 0 0)=true)->R 0 0=D.l []
 g9:(v28i a0)->(v28k a1)->(v28j fn a0)->(D.boo (fn 65 [[D.l a1],[D.nil]] 0 0)=true)->R 1 0=D.i 3
 g10:(v28i a0)->(v28k a1)->(v28j fn a0)->(D.boo (fn 65 [[D.l a1],[D.nil]] 0 0)=false)->0<=(a1.length:Int)
 g11:(v28i a0)->(v28k a1)->(v28j fn a0)->(D.boo (fn 65 [[D.l a1],[D.nil]] 0 0)=false)->(a1.length:Int)<=(a1.length:Int)
 g12:(v28i a0)->(v28k a1)->(v28j fn a0)->(D.boo (fn 65 [[D.l a1],[D.nil]] 0 0)=false)->((a1.length:Int) * (Int.ofNat 1))<=4096
 g13:(v28i a0)->(v28k a1)->(v28j fn a0)->(D.boo (fn 65 [[D.l a1],[D.nil]] 0 0)=false)->((a1.length:Int) * (Int.ofNat 8))<=140737488355328
 l0:(v28i a0)->(v28k a1)->(v28j fn a0)->(D.boo (fn 65 [[D.l a1],[D.nil]] 0 0)=false)->V28l0 pre fn a0 a1 R
end HX

namespace HX
open Go Go.Proofs CX
theorem delT {C:Rows} {k j:Nat} (hj:j < C.length) (Z Y:Rows) (y:List D):List.take (j+(C.length - (j+1))) (List.set (List.take (j+(C.length - (j+1))) (List.take j C++(List.take (C.length - (j+1)) (List.drop (j+1) C)++Z))++Y) k y)=putT C k j y:=by
 have hl:(List.take j C++List.take (C.length - (j+1)) (List.drop (j+1) C)).length=j+(C.length - (j+1)):=by
  rw [xC,zR,zR,zW];omega
 have e1:∀W:Rows,List.take (j+(C.length - (j+1))) ((List.take j C++List.take (C.length - (j+1)) (List.drop (j+1) C))++W)=List.take j C++List.take (C.length - (j+1)) (List.drop (j+1) C):=fun W=>by
  rw [<-hl];exact List.take_left
 rw [<-qO,e1,List.take_set,e1];rfl
theorem fndO_pos {l:Rows} (h:okT l) {k v:Int} (hv:fndO l k=some v):1<=v:=by
 induction l with
 |nil=>simp [fndO] at hv
 |cons r l ih=>
  simp only [fndO] at hv
  split at hv
  ·cases hv;exact (h r (by simp)).2
  exact ih (fun r hr=>h r (by simp [hr])) hv
theorem oF_eq {t l:Rows} (ht:okT t) (hl:okT l) (k:Int):oF t k=oF l k↔fndO t k=fndO l k:=by
 constructor
 ·intro h
  unfold oF at h
  cases h1:fndO t k with
  |none=>
   cases h2:fndO l k with
   |none=>rfl
   |some v=>rw [h1,h2] at h;have:=fndO_pos hl h2;simp only [Option.getD_none,xZ] at h;omega
  |some u=>
   cases h2:fndO l k with
   |none=>rw [h1,h2] at h;have:=fndO_pos ht h1;simp only [Option.getD_none,xZ] at h;omega
   |some v=>rw [h1,h2] at h;simp only [xZ] at h;rw [h]
 intro h;unfold oF;rw [h]
def keepK (keys l t:Rows):Prop:=∀r∈keys,fndO t (kE r)=fndO l (kE r)
theorem sameK_iff {keys l t:Rows}:sameK keys l t=true↔∀r∈keys,fndO l (kE r)=fndO t (kE r):=by
 simp [sameK,kS]
theorem want_same {keys want l C t:Rows} (ho:okT l) (ht:okT t) (hk:keepK keys l C) (hw:∀j,j < keys.length->(gt want j 0).int=oF l (kE (keys.getD j []))):(wantF t keys want 0↔sameK keys C t=true):=by
 rw [sameK_iff]
 constructor
 ·intro h r hr
  obtain ⟨j,hj,rfl⟩:=List.getElem_of_mem hr
  have h1:=h j (by omega) hj
  rw [hw j hj,zE,zI hj,xZ,oF_eq ht ho] at h1
  rw [hk _ hr,h1]
 intro h j _ hj
 rw [hw j hj,oF_eq ht ho,zE,zI hj,xZ,<-h _ (kC hj)]
 exact hk _ (kC hj)
def p28:List (List D)->Prop
 |[[.l l],_]=>fitE l
 |_=>False
def jn (x y:List D):List D:=(joinE x y).getD [.i 0,.i 0,.i 0]
theorem jn_some {x y r:List D} (h:joinE x y=some r):jn x y=r:=by unfold jn;rw [h];rfl
theorem loops (pre:Nat->List (List D)->Prop) (fn:Nat->List (List D)->Nat->Nat->D) (hp93:pre 93=p93) (hp67:pre 67=p67) (hf93:fn 93=r93) (hf67:fn 67=r67) (a0 a1 b1:Rows) (R:Nat->Nat->D)
  (ho:okT a0) (hw:∀j,j < a1.length->(gt b1 j 0).int=oF a0 (kE (a1.getD j []))) (hb:b1.length=a1.length) (hR0:R 0 0=.l (mrg a1 a0)) (hR1:R 1 0=.i 0) (d0:Rows) (d1:Bool)
  (h1:okT d0) (h2:d0.length<=1024) (h3:keepK a1 a0 d0) (h4:if d1=true then mrg a1 d0=mrg a1 a0 else d0=mrg a1 a0) :
  V28c1 pre fn a1 R b1 d0 d1 (fun e0 e1=>okT e0/\e0.length<=1024/\keepK a1 a0 e0/\(if e1=true then mrg a1 e0=mrg a1 a0 else e0=mrg a1 a0)) (fun e0 e1=>2 * e0.length+(if e1=true then 1 else 0)):=by
 constructor
 case g77=>intro c;subst c;have h4:d0=mrg a1 a0:=h4;rw [hR0,h4]
 case g78=>intro c;exact hR1
 case l2=>
  intro c
  subst c
  have h4:mrg a1 d0=mrg a1 a0:=h4
  refine ⟨fun _ _ i=>0<=i/\i<=d0.length/\sK (sameK a1 d0) d0 i.toNat=sK (sameK a1 d0) d0 0,fun _ _ i=>(d0.length - i).toNat,⟨by omega,by omega,rfl⟩,?_⟩
  rintro e0 e1 e2 ⟨k1,k2,k3⟩
  constructor
  case n76=>
   intro lt
   rw [sK_end (by omega)] at k3
   exact ⟨⟨h1,h2,h3,by show d0=_;rw [<-h4,mrg_none k3.symm]⟩,by show 2 * d0.length+0 < 2 * d0.length+1;omega⟩
  case l3=>
   intro lt
   rw [sK_at (by omega)] at k3
   have hb2:=okT_at h1 (show e2.toNat < d0.length by omega)
   refine ⟨fun _ _ j=>e2+1<=j/\j<=d0.length/\sJ (sameK a1 d0) d0 e2.toNat j.toNat=sJ (sameK a1 d0) d0 e2.toNat (e2.toNat+1),fun _ _ j=>(d0.length - j).toNat,⟨by omega,by omega,by rw [show (e2+1).toNat=e2.toNat+1 by omega]⟩,?_⟩
   rintro f0 f1 f2 ⟨q1,q2,q3⟩
   have nx:f2 < d0.length->(∀t,tryT d0 e2.toNat f2.toNat=some t->sameK a1 d0 t=false)->(e2+1<=f2+1/\f2+1<=d0.length/\sJ (sameK a1 d0) d0 e2.toNat (f2.toNat+1)=sJ (sameK a1 d0) d0 e2.toNat (e2.toNat+1))/\(d0.length - (f2+1)).toNat < (d0.length - f2).toNat:=fun lt2 hn=>by
    refine ⟨⟨by omega,by omega,?_⟩,by omega⟩
    rw [<-q3,sJ_at (j:=f2.toNat) (by omega)]
    split
    next t ht=>rw [if_neg (by rw [hn t ht];exact Bool.false_ne_true)]
    rfl
   have yes:∀{t},f2 < d0.length->tryT d0 e2.toNat f2.toNat=some t->sameK a1 d0 t=true->sK (sameK a1 d0) d0 0=some t:=fun lt2 ht hs=>by
    rw [<-k3,<-q3,sJ_at (j:=f2.toNat) (by omega),ht]
    simp only [if_pos hs]
   have tn:(f2+1).toNat=f2.toNat+1:=by omega
   have F1:∀x y:List D,(fn 93 [row3 x,row3 y] 1 0).boo=(joinE x y).isSome:=fun x y=>by rw [hf93];rfl
   have F00:∀x y:List D,(fn 93 [row3 x,row3 y] 0 0).int=kE (jn x y):=fun x y=>by rw [hf93];rfl
   have F01:∀x y:List D,(fn 93 [row3 x,row3 y] 0 1).int=mE (jn x y):=fun x y=>by rw [hf93];rfl
   have F02:∀x y:List D,(fn 93 [row3 x,row3 y] 0 2).int=oE (jn x y):=fun x y=>by rw [hf93];rfl
   have F67:∀t:Rows,(fn 67 [[D.l t],[D.l a1],[D.l b1]] 0 0).boo=decide (wantF t a1 b1 0):=fun t=>by rw [hf67];rfl
   have rw3:∀x:List D,[D.i (kE x),D.i (mE x),D.i (oE x)]=row3 x:=fun _=>rfl
   have del:f2 < d0.length->∀(Z Y:Rows) (y:List D),List.take (f2.toNat+(d0.length - (f2.toNat+1))) (List.set (List.take (f2.toNat+(d0.length - (f2.toNat+1))) (List.take f2.toNat d0++(List.take (d0.length - (f2.toNat+1)) (List.drop (f2.toNat+1) d0)++Z))++Y) e2.toNat y)=putT d0 e2.toNat f2.toNat y:=fun lt2=>delT (by omega)
   have put:f2 < d0.length->(joinE (d0.getD e2.toNat []) (d0.getD f2.toNat [])).isSome=true->tryT d0 e2.toNat f2.toNat=some (putT d0 e2.toNat f2.toNat (row3 (jn (d0.getD e2.toNat []) (d0.getD f2.toNat []))))/\okT (putT d0 e2.toNat f2.toNat (row3 (jn (d0.getD e2.toNat []) (d0.getD f2.toNat [])))):=fun lt2 hs=>by
    obtain ⟨y,hy⟩:=Option.isSome_iff_exists.1 hs
    have h5:=(joinE_ok hy hb2.1 (okT_at h1 (show f2.toNat < d0.length by omega)).1).2.1
    have h6:tryT d0 e2.toNat f2.toNat=some (putT d0 e2.toNat f2.toNat (row3 (jn (d0.getD e2.toNat []) (d0.getD f2.toNat [])))):=by
     rw [jn_some hy,h5]
     unfold tryT
     rw [hy,putT_eq];rfl
    exact ⟨h6,tryT_ok (by omega) (by omega) h1 h6⟩
   constructor
   all_goals try simp only [v28a,v28b,v28c,v28d,v28e,v28f,v28g,v28h,vZ28,gt_kE,gt_mE,gt_oE,F1,F00,F01,F02,F67,kX,qJ,tn,qF,zO,xM,rw3]
   case n75=>
    intro lt2
    rw [<-q3,sJ_end (by omega)] at k3
    refine ⟨⟨by omega,by omega,?_⟩,by omega⟩
    rw [show (e2+1).toNat=e2.toNat+1 by omega];exact k3
   all_goals intro lt2
   all_goals try simp only [del lt2]
   all_goals try have hd:=okT_at h1 (show f2.toNat < d0.length by omega)
   case g35=>rw [hp93];exact ⟨hb2.1,hd.1⟩
   case n37=>
    intro c
    refine nx lt2 fun t ht=>?_
    unfold tryT at ht
    cases hj:joinE (d0.getD e2.toNat []) (d0.getD f2.toNat []) with
    |none=>rw [hj] at ht;cases ht
    |some y=>rw [hj] at c;cases c
   case g70=>intro c _ _;rw [hp67];exact ⟨by rw [putT_len (by omega)];omega,hb.symm⟩
   case n71=>
    intro c _ _ c2
    obtain ⟨p1,p2⟩:=put lt2 c
    have c3:=(want_same ho p2 h3 hw).1 (zX c2)
    have hs:=yes lt2 p1 c3
    have hm:=mrg_some hs
    refine ⟨⟨p2,by omega,?_,?_⟩,?_⟩
    ·intro r hr;rw [<-sameK_iff.1 c3 r hr];exact h3 r hr
    ·show mrg a1 _=_;rw [<-hm.2,h4]
    show 2 * _+1 < 2 * d0.length+1;omega
   case n73=>
    intro c _ _ c2
    obtain ⟨p1,p2⟩:=put lt2 c
    refine nx lt2 fun t ht=>?_
    rw [p1] at ht
    cases ht
    cases c3:sameK a1 d0 (putT d0 e2.toNat f2.toNat (row3 (jn (d0.getD e2.toNat []) (d0.getD f2.toNat [])))) with
    |false=>rfl
    |true=>exact absurd ((want_same ho p2 h3 hw).2 c3) (of_decide_eq_false c2)
   all_goals first
    |omega
    |(intros;omega)
    |(intros;exfalso;omega)
    |(intros;simp only [xC,zR,zW,xU,xF];omega)
  all_goals first |omega |(intros;omega)
theorem law28 (pre:Nat->List (List D)->Prop) (fn:Nat->List (List D)->Nat->Nat->D) (hp93:pre 93=p93) (hp67:pre 67=p67) (hp62:pre 62=p62) (hp65:∀k,k.length<=1024->pre 65 [[.l k],[.nil]]) (hp31:∀l k,l.length<=1024->pre 31 [[.l l],[.i k]])
  (hf93:fn 93=r93) (hf67:fn 67=r67) (hf62:fn 62=r62) (hf65:fn 65=r65) (hf31:fn 31=r31) (a0 a1:Rows) (h:p28 [[.l a0],[.l a1]]):V28 pre fn a0 a1 (r28 [[.l a0],[.l a1]]):=by
 have F62:(fn 62 [[D.l a0],[D.nil]] 0 0).boo=badE a0:=by rw [hf62];rfl
 have F65:(fn 65 [[D.l a1],[D.nil]] 0 0).boo=badK a1:=by rw [hf65];rfl
 have F31:∀k,(fn 31 [[D.l a0],[D.i k]] 0 0).int=oF a0 k:=fun k=>by rw [hf31];rfl
 have R:∀i,r28 [[.l a0],[.l a1]] i 0=if 1024 < a0.length\/1024 < a1.length then [D.l [],.i 9].getD i .nil else if badE a0=true then [D.l [],.i 2].getD i .nil else if badK a1=true then [D.l [],.i 3].getD i .nil else [D.l (mrg a1 a0),.i 0].getD i .nil:=fun _=>rfl
 constructor
 all_goals try simp only [v28i,v28j,v28k,F62,F65]
 case g0=>intro h;rw [R,if_pos (by omega)];rfl
 case g1=>intro h;rw [R,if_pos (by omega)];rfl
 case g2=>intro h h2;rw [R,if_pos (by omega)];rfl
 case g3=>intro h h2;rw [R,if_pos (by omega)];rfl
 case g4=>intro _ _;rw [hp62];exact h
 case g12=>intro h1 h2 _ _;show (a1.length:Int) * 1<=4096;omega
 case g13=>intro h1 h2 _ _;show (a1.length:Int) * 8<=140737488355328;omega
 case g5=>intro h1 h2 c;rw [R,if_neg (by omega),if_pos c];rfl
 case g6=>intro h1 h2 c;rw [R,if_neg (by omega),if_pos c];rfl
 case g7=>intro h1 h2 _;exact hp65 _ (by omega)
 case g8=>intro h1 h2 c c2;rw [R,if_neg (by omega),if_neg (by rw [c];exact Bool.false_ne_true),if_pos c2];rfl
 case g9=>intro h1 h2 c c2;rw [R,if_neg (by omega),if_neg (by rw [c];exact Bool.false_ne_true),if_pos c2];rfl
 case l0=>
  intro h1 h2 c c2
  have R:∀i,r28 [[.l a0],[.l a1]] i 0=[D.l (mrg a1 a0),.i 0].getD i .nil:=fun i=>by rw [R,if_neg (by omega),if_neg (by rw [c];exact Bool.false_ne_true),if_neg (by rw [c2];exact Bool.false_ne_true)]
  have ho:=vE_ok c
  refine ⟨fun i w=>0<=i/\i<=a1.length/\w.length=a1.length/\∀j:Nat,j < i.toNat->(gt w j 0).int=oF a0 (kE (a1.getD j [])),fun i _=>(a1.length - i).toNat,⟨by omega,by omega,by rw [xF];omega,fun j hj=>by omega⟩,?_⟩
  rintro b0 b1 ⟨k1,k2,k3,k4⟩
  have lp:=fun (lt:¬b0 < a1.length)=>loops pre fn hp93 hp67 hf93 hf67 a0 a1 b1 (r28 [[.l a0],[.l a1]]) ho (fun j hj=>k4 j (by omega)) k3 (R 0) (R 1)
  constructor
  all_goals try simp only [F31,gt_kE,vZ28,xM]
  case g18=>intro _;exact hp31 _ _ (by omega)
  case n23=>
   intro lt
   refine ⟨⟨by omega,by omega,by rw [xU];exact k3,fun j hj=>?_⟩,by omega⟩
   by_cases e:j=b0.toNat
   ·subst e
    simp only [gt,zE]
    rw [List.getElem?_set_self (by omega)];rfl
   have:=k4 j (by omega)
   simp only [gt,zE] at this ⊢
   rw [List.getElem?_set_ne (by omega)];exact this
  case l1=>
   intro lt hz
   have hn:a0=[]:=zT.1 (by omega)
   refine ⟨_,_,?_,fun d0 d1 hI=>lp lt d0 d1 hI.1 hI.2.1 hI.2.2.1 hI.2.2.2⟩
   refine ⟨by rw [<-hn];exact ho,by simp,fun r _=>by rw [hn],by rw [<-hn];rfl⟩
  case l4=>
   intro lt
   refine ⟨_,_,?_,fun d0 d1 hI=>lp lt d0 d1 hI.1 hI.2.1 hI.2.2.1 hI.2.2.2⟩
   rw [kX]
   exact ⟨ho,by omega,fun r _=>rfl,rfl⟩
  all_goals first |omega |(intros;omega)
 all_goals first |omega |(intros;omega)
end HX

namespace HX
open Go Go.Proofs CX
end HX

namespace HX
open Go Go.Proofs CX
end HX

namespace HX
open Go Go.Proofs CX
end HX

namespace HX
open Go Go.Proofs CX
end HX

namespace HX
open Go Go.Proofs CX
end HX

namespace HX
open Go Go.Proofs CX
set_option maxHeartbeats 4000000 in
set_option maxRecDepth 100000 in
theorem walk113 {ro A pre fn} (hE:EnvOk ⟨A,(cxE ro),ksF,sigL [],pre,fn⟩) {P:List (List D)->Prop} {res:List (List D)->Nat->Nat->D}
  (hv:∀(a0:Int),P [[.i a0]]->V113 a0 (res [[.i a0]]) ) :
  PureC (cxE ro) 113 ⟨[(false,[.int .u64])],[(false,[.int .i64])],false⟩ P res:=by
 have hA:=hE.A
 simp only [] at hA
 have hinl:∀f fn,inlL [(120,Try.f120),(119,Try.f119)] f=some fn->(cxE ro).fn f=some fn/\(cxE ro).ext f=none:=Inls.ok (by repeat (first |exact .nil |refine .cons rfl rfl ?_))
 refine PureC.of_vc hE hinl 6 (f:=113) (fn:=Try.f113) ⟨rfl,rfl⟩ ?_
 intro a0 hP
 obtain ⟨R,hR⟩:∃R,res [[.i a0]]=R:=⟨_,rfl⟩
 rw [hR]
 have hV:=hv a0  hP
 rw [hR] at hV
 clear hR hP hv
 cbv
 repeat' (first |(refine Br.mk (fun _=>?_) (fun _=>?_)<;>cbv) |(refine NilB.mk (fun _=>?_) ?_<;>cbv) |refine And.intro ?_ ?_ |exact True.intro)
 ·subst hA;exact hV.g0
 ·subst hA;exact hV.g1
 ·subst hA;exact hV.g2
 ·subst hA;exact hV.g3
 ·subst hA;exact hV.g4
 ·subst hA;exact hV.g5
 ·subst hA;exact hV.g6
 subst hA;exact hV.g7
end HX

namespace HX
open Go Go.Proofs CX
set_option maxHeartbeats 4000000 in
set_option maxRecDepth 100000 in
theorem walk93 {ro A pre fn} (hE:EnvOk ⟨A,(cxE ro),ksF,sigL [(113,⟨[(false,[.int .u64])],[(false,[.int .i64])],false⟩)],pre,fn⟩) {P:List (List D)->Prop} {res:List (List D)->Nat->Nat->D}
  (hv:∀(a0_0:Int) (a0_1:Int) (a0_2:Int) (a1_0:Int) (a1_1:Int) (a1_2:Int),P [[.i a0_0,.i a0_1,.i a0_2],[.i a1_0,.i a1_1,.i a1_2]]->V93 pre fn a0_0 a0_1 a0_2 a1_0 a1_1 a1_2 (res [[.i a0_0,.i a0_1,.i a0_2],[.i a1_0,.i a1_1,.i a1_2]]) ) :
  PureC (cxE ro) 93 ⟨[(true,[.int .i64,.int .i64,.int .i64]),(true,[.int .i64,.int .i64,.int .i64])],[(true,[.int .i64,.int .i64,.int .i64]),(false,[.bool])],false⟩ P res:=by
 have hA:=hE.A
 simp only [] at hA
 have hinl:∀f fn,inlL [] f=some fn->(cxE ro).fn f=some fn/\(cxE ro).ext f=none:=Inls.ok (by repeat (first |exact .nil |refine .cons rfl rfl ?_))
 refine PureC.of_vc hE hinl 6 (f:=93) (fn:=Try.f93) ⟨rfl,rfl⟩ ?_
 intro a0_0 a0_1 a0_2 a1_0 a1_1 a1_2 hP
 obtain ⟨R,hR⟩:∃R,res [[.i a0_0,.i a0_1,.i a0_2],[.i a1_0,.i a1_1,.i a1_2]]=R:=⟨_,rfl⟩
 rw [hR]
 have hV:=hv a0_0 a0_1 a0_2 a1_0 a1_1 a1_2  hP
 rw [hR] at hV
 clear hR hP hv
 cbv
 repeat' (first |(refine Br.mk (fun _=>?_) (fun _=>?_)<;>cbv) |(refine NilB.mk (fun _=>?_) ?_<;>cbv) |refine And.intro ?_ ?_ |exact True.intro)
 next hp0_0=>
  subst hA;exact hV.g0 (df (nt hp0_0))
 next hp1_0=>
  subst hA;exact hV.g1 (df (nt hp1_0))
 next hp2_0=>
  subst hA;exact hV.g2 (df (nt hp2_0))
 next hp3_0=>
  subst hA;exact hV.g3 (df (nt hp3_0))
 next hp4_0 hp4_1=>
  subst hA;exact hV.g4 (dt (nf hp4_0)) (df (nt hp4_1))
 next hp5_0 hp5_1=>
  subst hA;exact hV.g5 (dt (nf hp5_0)) (df (nt hp5_1))
 next hp6_0 hp6_1=>
  subst hA;exact hV.g6 (dt (nf hp6_0)) (df (nt hp6_1))
 next hp7_0 hp7_1=>
  subst hA;exact hV.g7 (dt (nf hp7_0)) (df (nt hp7_1))
 next hp8_0 hp8_1=>
  subst hA;exact hV.g8 (dt (nf hp8_0)) (dt (nf hp8_1))
 next hp9_0 hp9_1 hp9_2=>
  subst hA;exact hV.g9 (dt (nf hp9_0)) (dt (nf hp9_1)) (df (nt hp9_2))
 next hp10_0 hp10_1 hp10_2=>
  subst hA;exact hV.g10 (dt (nf hp10_0)) (dt (nf hp10_1)) (df (nt hp10_2))
 next hp11_0 hp11_1 hp11_2=>
  subst hA;exact hV.g11 (dt (nf hp11_0)) (dt (nf hp11_1)) (df (nt hp11_2))
 next hp12_0 hp12_1 hp12_2=>
  subst hA;exact hV.g12 (dt (nf hp12_0)) (dt (nf hp12_1)) (df (nt hp12_2))
 next hp13_0 hp13_1 hp13_2=>
  subst hA;exact hV.g13 (dt (nf hp13_0)) (dt (nf hp13_1)) (dt (nf hp13_2))
 next hp14_0 hp14_1 hp14_2=>
  subst hA;exact hV.g14 (dt (nf hp14_0)) (dt (nf hp14_1)) (dt (nf hp14_2))
 next hp15_0 hp15_1 hp15_2=>
  subst hA;exact hV.g15 (dt (nf hp15_0)) (dt (nf hp15_1)) (dt (nf hp15_2))
 rename_i hp16_0 hp16_1 hp16_2
 subst hA;exact hV.g16 (dt (nf hp16_0)) (dt (nf hp16_1)) (dt (nf hp16_2))
end HX

namespace HX
open Go Go.Proofs CX
set_option maxHeartbeats 4000000 in
set_option maxRecDepth 100000 in
theorem walk95 {ro A pre fn} (hE:EnvOk ⟨A,(cxE ro),ksF,sigL [],pre,fn⟩) {P:List (List D)->Prop} {res:List (List D)->Nat->Nat->D}
  (hv:∀(a0:Int) (a1:Int),P [[.i a0],[.i a1]]->∃(I0:Int->Int->Prop) (m0:Int->Int->Nat),V95 a0 a1 (res [[.i a0],[.i a1]]) I0 m0) :
  PureC (cxE ro) 95 ⟨[(false,[.int .i64]),(false,[.int .i64])],[(false,[.int .i64])],false⟩ P res:=by
 have hA:=hE.A
 simp only [] at hA
 have hinl:∀f fn,inlL [] f=some fn->(cxE ro).fn f=some fn/\(cxE ro).ext f=none:=Inls.ok (by repeat (first |exact .nil |refine .cons rfl rfl ?_))
 refine PureC.of_vc hE hinl 6 (f:=95) (fn:=Try.f95) ⟨rfl,rfl⟩ ?_
 intro a0 a1 hP
 obtain ⟨R,hR⟩:∃R,res [[.i a0],[.i a1]]=R:=⟨_,rfl⟩
 rw [hR]
 obtain ⟨I0,m0,hV⟩:=hv a0 a1  hP
 rw [hR] at hV
 clear hR hP hv
 cbv
 repeat' (first |(refine Br.mk (fun _=>?_) (fun _=>?_)<;>cbv) |(refine NilB.mk (fun _=>?_) ?_<;>cbv) |refine And.intro ?_ ?_ |exact True.intro)
 refine Leaf.gen fun Uz hσz=>?_
 refine loopB hE hinl 6 [] [] [] (fun x:Int×Int=>[.i x.1,.i x.2]) (fun x=>I0 x.1 x.2) (fun x=>m0 x.1 x.2) (0,1) (by subst hA;exact hV.i0) ?_ ?_<;>subst hσz
 ·clear hE hinl hV;cbv;(try (repeat' (first |exact True.intro |rfl |assumption |apply And.intro)))
 intro ⟨x0_0,x0_1⟩ hI0 K0 hK0
 cbv
 repeat' (first |(refine Br.mk (fun _=>?_) (fun _=>?_)<;>cbv) |(refine NilB.mk (fun _=>?_) ?_<;>cbv) |refine And.intro ?_ ?_ |exact True.intro)
 next hp1_0 hp1_1=>
  subst hA;exact hV.g1 _ _ hI0 (dt hp1_0) (dt hp1_1)
 next hp2_0 hp2_1=>
  subst hA;exact hV.g2 _ _ hI0 (dt hp2_0) (df hp2_1)
 next hp3_0 hp3_1=>
  refine hK0 (x0_0,A.mul 2 x0_1) _ ?_ ?_ ?_
  ·subst hA;exact (hV.n3 _ _ hI0 (dt hp3_0) (df hp3_1)).1
  ·subst hA;exact (hV.n3 _ _ hI0 (dt hp3_0) (df hp3_1)).2
  clear hE hinl hV hK0;cbv;(try (repeat' (first |exact True.intro |rfl |assumption |apply And.intro)))
 rename_i hp4_0
 subst hA;exact hV.g4 _ _ hI0 (df hp4_0)
end HX

namespace HX
open Go Go.Proofs CX
set_option maxHeartbeats 4000000 in
set_option maxRecDepth 100000 in
theorem walk31 {ro A pre fn} (hE:EnvOk ⟨A,(cxE ro),ksF,sigL [],pre,fn⟩) {P:List (List D)->Prop} {res:List (List D)->Nat->Nat->D}
  (hv:∀(a0:Rows) (a1:Int),ShR [.int .i64,.int .i64,.int .i64] a0->P [[.l a0],[.i a1]]->∃(I0:Int->Int->Prop) (m0:Int->Int->Nat),V31 a0 a1 (res [[.l a0],[.i a1]]) I0 m0) :
  PureC (cxE ro) 31 ⟨[(false,[.sl [.int .i64,.int .i64,.int .i64]]),(false,[.int .i64])],[(false,[.int .i64]),(false,[.bool])],false⟩ P res:=by
 have hA:=hE.A
 simp only [] at hA
 have hinl:∀f fn,inlL [(72,Try.f72),(73,Try.f73)] f=some fn->(cxE ro).fn f=some fn/\(cxE ro).ext f=none:=Inls.ok (by repeat (first |exact .nil |refine .cons rfl rfl ?_))
 refine PureC.of_vc hE hinl 6 (f:=31) (fn:=Try.f31) ⟨rfl,rfl⟩ ?_
 intro a0 ha0 a1 hP
 obtain ⟨R,hR⟩:∃R,res [[.l a0],[.i a1]]=R:=⟨_,rfl⟩
 rw [hR]
 obtain ⟨I0,m0,hV⟩:=hv a0 a1 ha0 hP
 rw [hR] at hV
 clear hR hP hv
 cbv
 repeat' (first |(refine Br.mk (fun _=>?_) (fun _=>?_)<;>cbv) |(refine NilB.mk (fun _=>?_) ?_<;>cbv) |refine And.intro ?_ ?_ |exact True.intro)
 refine Leaf.gen fun Uz hσz=>?_
 refine loopB hE hinl 6 [] [] [] (fun x:Int×Int=>[.i x.1,.i x.2]) (fun x=>I0 x.1 x.2) (fun x=>m0 x.1 x.2) (0,0) (by subst hA;exact hV.i0) ?_ ?_<;>subst hσz
 ·clear hE hinl hV;cbv;(try (repeat' (first |exact True.intro |rfl |assumption |apply And.intro)))
 intro ⟨x0_0,x0_1⟩ hI0 K0 hK0
 cbv
 repeat' (first |(refine Br.mk (fun _=>?_) (fun _=>?_)<;>cbv) |(refine NilB.mk (fun _=>?_) ?_<;>cbv) |refine And.intro ?_ ?_ |exact True.intro)
 next hp1_0=>
  subst hA;exact hV.g1 _ _ hI0 (dt hp1_0)
 next hp2_0=>
  subst hA;exact hV.g2 _ _ hI0 (dt hp2_0)
 next hp3_0=>
  subst hA;exact hV.g3 _ _ hI0 (dt hp3_0)
 next hp4_0 hp4_1 hp4_2=>
  subst hA;exact hV.g4 _ _ hI0 (dt hp4_0) (dt hp4_1) (dt hp4_2)
 next hp5_0 hp5_1 hp5_2=>
  subst hA;exact hV.g5 _ _ hI0 (dt hp5_0) (dt hp5_1) (dt hp5_2)
 next hp6_0 hp6_1 hp6_2=>
  subst hA;exact hV.g6 _ _ hI0 (dt hp6_0) (dt hp6_1) (df hp6_2)
 next hp7_0 hp7_1 hp7_2=>
  subst hA;exact hV.g7 _ _ hI0 (dt hp7_0) (dt hp7_1) (df hp7_2)
 next hp8_0 hp8_1 hp8_2=>
  subst hA;exact hV.g8 _ _ hI0 (dt hp8_0) (dt hp8_1) (df hp8_2)
 next hp9_0 hp9_1 hp9_2=>
  subst hA;exact hV.g9 _ _ hI0 (dt hp9_0) (dt hp9_1) (df hp9_2)
 next hp10_0 hp10_1 hp10_2=>
  subst hA;exact hV.g10 _ _ hI0 (dt hp10_0) (dt hp10_1) (df hp10_2)
 next hp11_0 hp11_1=>
  subst hA;exact hV.g11 _ _ hI0 (dt hp11_0) (df hp11_1)
 next hp12_0 hp12_1=>
  refine hK0 (x0_0,A.add x0_1 1) _ ?_ ?_ ?_
  ·subst hA;exact (hV.n12 _ _ hI0 (dt hp12_0) (df hp12_1)).1
  ·subst hA;exact (hV.n12 _ _ hI0 (dt hp12_0) (df hp12_1)).2
  clear hE hinl hV hK0;cbv;(try (repeat' (first |exact True.intro |rfl |assumption |apply And.intro)))
 next hp13_0 hp13_1=>
  subst hA;exact hV.g13 _ _ hI0 (df hp13_0)
 next hp14_0 hp14_1=>
  subst hA;exact hV.g14 _ _ hI0 (df hp14_0)
 next hp15_0 hp15_1=>
  exfalso;subst hA;simp [Ar.std] at hp15_1
 next hp16_0 hp16_1=>
  exfalso;subst hA;simp [Ar.std] at hp16_1
 next hp17_0 hp17_1=>
  exfalso;subst hA;simp [Ar.std] at hp17_1
 next hp18_0 hp18_1=>
  exfalso;subst hA;simp [Ar.std] at hp18_1
 rename_i hp19_0 hp19_1
 exfalso;subst hA;simp [Ar.std] at hp19_1
end HX

namespace HX
open Go Go.Proofs CX
set_option maxHeartbeats 4000000 in
set_option maxRecDepth 100000 in
theorem walk32 {ro A pre fn} (hE:EnvOk ⟨A,(cxE ro),ksF,sigL [],pre,fn⟩) {P:List (List D)->Prop} {res:List (List D)->Nat->Nat->D}
  (hv:∀(a0:Rows) (a1:Int),ShR [.int .i64,.int .i64,.int .i64] a0->P [[.l a0],[.i a1]]->∃(I0:Int->Bool->Int->Prop) (m0:Int->Bool->Int->Nat),V32 a0 a1 (res [[.l a0],[.i a1]]) I0 m0) :
  PureC (cxE ro) 32 ⟨[(false,[.sl [.int .i64,.int .i64,.int .i64]]),(false,[.int .i64])],[(false,[.int .i64]),(false,[.bool])],false⟩ P res:=by
 have hA:=hE.A
 simp only [] at hA
 have hinl:∀f fn,inlL [] f=some fn->(cxE ro).fn f=some fn/\(cxE ro).ext f=none:=Inls.ok (by repeat (first |exact .nil |refine .cons rfl rfl ?_))
 refine PureC.of_vc hE hinl 6 (f:=32) (fn:=Try.f32) ⟨rfl,rfl⟩ ?_
 intro a0 ha0 a1 hP
 obtain ⟨R,hR⟩:∃R,res [[.l a0],[.i a1]]=R:=⟨_,rfl⟩
 rw [hR]
 obtain ⟨I0,m0,hV⟩:=hv a0 a1 ha0 hP
 rw [hR] at hV
 clear hR hP hv
 cbv
 repeat' (first |(refine Br.mk (fun _=>?_) (fun _=>?_)<;>cbv) |(refine NilB.mk (fun _=>?_) ?_<;>cbv) |refine And.intro ?_ ?_ |exact True.intro)
 refine Leaf.gen fun Uz hσz=>?_
 refine loopB hE hinl 6 [] [] [] (fun x:Int×Bool×Int=>[.i x.1,.b x.2.1,.i x.2.2]) (fun x=>I0 x.1 x.2.1 x.2.2) (fun x=>m0 x.1 x.2.1 x.2.2) (0,false,0) (by subst hA;exact hV.i0) ?_ ?_<;>subst hσz
 ·clear hE hinl hV;cbv;(try (repeat' (first |exact True.intro |rfl |assumption |apply And.intro)))
 intro ⟨x0_0,x0_1,x0_2⟩ hI0 K0 hK0
 cbv
 repeat' (first |(refine Br.mk (fun _=>?_) (fun _=>?_)<;>cbv) |(refine NilB.mk (fun _=>?_) ?_<;>cbv) |refine And.intro ?_ ?_ |exact True.intro)
 next hp1_0=>
  subst hA;exact hV.g1 _ _ _ hI0 (dt hp1_0)
 next hp2_0=>
  subst hA;exact hV.g2 _ _ _ hI0 (dt hp2_0)
 next hp3_0=>
  subst hA;exact hV.g3 _ _ _ hI0 (dt hp3_0)
 next hp4_0=>
  subst hA;exact hV.g1 _ _ _ hI0 (dt hp4_0)
 next hp5_0=>
  subst hA;exact hV.g2 _ _ _ hI0 (dt hp5_0)
 next hp6_0=>
  subst hA;exact hV.g3 _ _ _ hI0 (dt hp6_0)
 next hp7_0 hp7_1=>
  subst hA;exact hV.g7 _ _ _ hI0 (dt hp7_0) (dt hp7_1)
 next hp8_0 hp8_1=>
  subst hA;exact hV.g8 _ _ _ hI0 (dt hp8_0) (dt hp8_1)
 next hp9_0 hp9_1=>
  subst hA;exact hV.g9 _ _ _ hI0 (dt hp9_0) (dt hp9_1)
 next hp10_0 hp10_1=>
  subst hA;exact hV.g10 _ _ _ hI0 (dt hp10_0) (dt hp10_1)
 next hp11_0 hp11_1=>
  subst hA;exact hV.g11 _ _ _ hI0 (dt hp11_0) (dt hp11_1)
 next hp12_0 hp12_1=>
  subst hA;exact hV.g12 _ _ _ hI0 (dt hp12_0) (df hp12_1)
 next hp13_0 hp13_1=>
  refine hK0 (x0_0,x0_1,A.add x0_2 1) _ ?_ ?_ ?_
  ·subst hA;exact (hV.n13 _ _ _ hI0 (dt hp13_0) (df hp13_1)).1
  ·subst hA;exact (hV.n13 _ _ _ hI0 (dt hp13_0) (df hp13_1)).2
  clear hE hinl hV hK0;cbv;(try (repeat' (first |exact True.intro |rfl |assumption |apply And.intro)))
 next hp14_0=>
  subst hA;exact hV.g14 _ _ _ hI0 (df hp14_0)
 rename_i hp15_0
 subst hA;exact hV.g15 _ _ _ hI0 (df hp15_0)
end HX

namespace HX
open Go Go.Proofs CX
set_option maxHeartbeats 4000000 in
set_option maxRecDepth 100000 in
theorem walk96 {ro A pre fn} (hE:EnvOk ⟨A,(cxE ro),ksF,sigL [(32,⟨[(false,[.sl [.int .i64,.int .i64,.int .i64]]),(false,[.int .i64])],[(false,[.int .i64]),(false,[.bool])],false⟩)],pre,fn⟩) {P:List (List D)->Prop} {res:List (List D)->Nat->Nat->D}
  (hv:∀(a0:Rows) (a1:Rows) (a2:Rows),ShR [.int .i64,.int .i64,.int .i64] a0->ShR [.int .i64,.int .i64,.int .i64] a1->ShR [.int .i64] a2->P [[.l a0],[.l a1],[.l a2]]->∃(I0:Bool->Int->Prop) (m0:Bool->Int->Nat),V96 pre fn a0 a1 a2 (res [[.l a0],[.l a1],[.l a2]]) I0 m0) :
  PureC (cxE ro) 96 ⟨[(false,[.sl [.int .i64,.int .i64,.int .i64]]),(false,[.sl [.int .i64,.int .i64,.int .i64]]),(false,[.sl [.int .i64]])],[(false,[.bool])],false⟩ P res:=by
 have hA:=hE.A
 simp only [] at hA
 have hinl:∀f fn,inlL [] f=some fn->(cxE ro).fn f=some fn/\(cxE ro).ext f=none:=Inls.ok (by repeat (first |exact .nil |refine .cons rfl rfl ?_))
 refine PureC.of_vc hE hinl 6 (f:=96) (fn:=Try.f96) ⟨rfl,rfl⟩ ?_
 intro a0 ha0 a1 ha1 a2 ha2 hP
 obtain ⟨R,hR⟩:∃R,res [[.l a0],[.l a1],[.l a2]]=R:=⟨_,rfl⟩
 rw [hR]
 obtain ⟨I0,m0,hV⟩:=hv a0 a1 a2 ha0 ha1 ha2 hP
 rw [hR] at hV
 clear hR hP hv
 cbv
 repeat' (first |(refine Br.mk (fun _=>?_) (fun _=>?_)<;>cbv) |(refine NilB.mk (fun _=>?_) ?_<;>cbv) |refine And.intro ?_ ?_ |exact True.intro)
 refine Leaf.gen fun Uz hσz=>?_
 refine loopB hE hinl 6 [] [] [] (fun x:Bool×Int=>[.b x.1,.i x.2]) (fun x=>I0 x.1 x.2) (fun x=>m0 x.1 x.2) (false,0) (by subst hA;exact hV.i0) ?_ ?_<;>subst hσz
 ·clear hE hinl hV;cbv;(try (repeat' (first |exact True.intro |rfl |assumption |apply And.intro)))
 intro ⟨x0_0,x0_1⟩ hI0 K0 hK0
 cbv
 repeat' (first |(refine Br.mk (fun _=>?_) (fun _=>?_)<;>cbv) |(refine NilB.mk (fun _=>?_) ?_<;>cbv) |refine And.intro ?_ ?_ |exact True.intro)
 next hp1_0=>
  subst hA;exact hV.g1 _ _ hI0 (dt hp1_0)
 next hp2_0=>
  subst hA;exact hV.g2 _ _ hI0 (dt hp2_0)
 next hp3_0=>
  subst hA;exact hV.g3 _ _ hI0 (dt hp3_0)
 next hp4_0=>
  subst hA;exact hV.g4 _ _ hI0 (dt hp4_0)
 next hp5_0=>
  subst hA;exact hV.g1 _ _ hI0 (dt hp5_0)
 next hp6_0=>
  subst hA;exact hV.g2 _ _ hI0 (dt hp6_0)
 next hp7_0=>
  subst hA;exact hV.g3 _ _ hI0 (dt hp7_0)
 next hp8_0=>
  subst hA;exact hV.g8 _ _ hI0 (dt hp8_0)
 next hp9_0 hp9_1=>
  subst hA;exact hV.g9 _ _ hI0 (dt hp9_0) (df (nt hp9_1))
 next hp10_0 hp10_1 hp10_2=>
  subst hA;exact hV.g10 _ _ hI0 (dt hp10_0) (dt (nf hp10_1)) (nt hp10_2)
 next hp11_0 hp11_1 hp11_2=>
  subst hA;exact hV.g11 _ _ hI0 (dt hp11_0) (dt (nf hp11_1)) (nf hp11_2)
 next hp12_0 hp12_1 hp12_2=>
  refine hK0 (x0_0,A.add x0_1 1) _ ?_ ?_ ?_
  ·subst hA;exact (hV.n12 _ _ hI0 (dt hp12_0) (dt (nf hp12_1)) (nf hp12_2)).1
  ·subst hA;exact (hV.n12 _ _ hI0 (dt hp12_0) (dt (nf hp12_1)) (nf hp12_2)).2
  clear hE hinl hV hK0;cbv;(try (repeat' (first |exact True.intro |rfl |assumption |apply And.intro)))
 rename_i hp13_0
 subst hA;exact hV.g13 _ _ hI0 (df hp13_0)
end HX

namespace HX
open Go Go.Proofs CX
set_option maxHeartbeats 4000000 in
set_option maxRecDepth 100000 in
theorem walk71 {ro A pre fn} (hE:EnvOk ⟨A,(cxE ro),ksF,sigL [(95,⟨[(false,[.int .i64]),(false,[.int .i64])],[(false,[.int .i64])],false⟩),(96,⟨[(false,[.sl [.int .i64,.int .i64,.int .i64]]),(false,[.sl [.int .i64,.int .i64,.int .i64]]),(false,[.sl [.int .i64]])],[(false,[.bool])],false⟩)],pre,fn⟩) {P:List (List D)->Prop} {res:List (List D)->Nat->Nat->D}
  (hv:∀(a0:Rows) (a1:Rows),ShR [.int .i64,.int .i64,.int .i64] a0->ShR [.int .i64] a1->P [[.l a0],[.l a1]]->V71 pre fn a0 a1 (res [[.l a0],[.l a1]])) :
  PureC (cxE ro) 71 ⟨[(false,[.sl [.int .i64,.int .i64,.int .i64]]),(false,[.sl [.int .i64]])],[(false,[.sl [.int .i64,.int .i64,.int .i64]]),(false,[.bool])],false⟩ P res:=by
 have hA:=hE.A
 simp only [] at hA
 have hinl:∀f fn,inlL [] f=some fn->(cxE ro).fn f=some fn/\(cxE ro).ext f=none:=Inls.ok (by repeat (first |exact .nil |refine .cons rfl rfl ?_))
 refine PureC.of_vc hE hinl 6 (f:=71) (fn:=Try.f71) ⟨rfl,rfl⟩ ?_
 intro a0 ha0 a1 ha1 hP
 obtain ⟨R,hR⟩:∃R,res [[.l a0],[.l a1]]=R:=⟨_,rfl⟩
 rw [hR]
 have hV:=hv a0 a1 ha0 ha1 hP
 rw [hR] at hV
 clear hR hP hv
 cbv
 repeat' (first |(refine Br.mk (fun _=>?_) (fun _=>?_)<;>cbv) |(refine NilB.mk (fun _=>?_) ?_<;>cbv) |refine And.intro ?_ ?_ |exact True.intro)
 refine Leaf.gen fun Uz hσz=>?_
 obtain ⟨I0,m0,i0,c0⟩:V71l0 pre fn a0 a1 R:=by subst hA;exact hV.l0
 refine loopB hE hinl 6 [] [] [] (fun x:Rows×Bool×Int=>[.l x.1,.b x.2.1,.i x.2.2]) (fun x=>I0 x.1 x.2.1 x.2.2) (fun x=>m0 x.1 x.2.1 x.2.2) ([],false,0) (by subst hA;exact i0) ?_ ?_<;>subst hσz
 ·clear hE hinl hV;cbv;(try (repeat' (first |exact True.intro |rfl |assumption |apply And.intro)))
 intro ⟨b0,b1,b2⟩ hI0 K0 hK0
 have h0:=c0 _ _ _ hI0
 cbv
 repeat' (first |(refine Br.mk (fun _=>?_) (fun _=>?_)<;>cbv) |(refine NilB.mk (fun _=>?_) ?_<;>cbv) |refine And.intro ?_ ?_ |exact True.intro)
 next p1a=>
  subst hA;exact h0.g1 (dt p1a)
 next p2a=>
  refine Leaf.gen fun Uz hσz=>?_
  obtain ⟨I1,m1,i1,c1⟩:V71l1 pre fn a0 a1 R b0 b1 b2 I0 m0:=by subst hA;exact h0.l1 (dt p2a)
  refine loopB hE hinl 6 [] [] [] (fun x:Rows×Bool×Int=>[.l x.1,.b x.2.1,.i x.2.2]) (fun x=>I1 x.1 x.2.1 x.2.2) (fun x=>m1 x.1 x.2.1 x.2.2) (b0,b1,A.add b2 1) (by subst hA;exact i1) ?_ ?_<;>subst hσz
  ·clear hE hinl hV;cbv;(try (repeat' (first |exact True.intro |rfl |assumption |apply And.intro)))
  intro ⟨d0,d1,d2⟩ hI1 K1 hK1
  have h1:=c1 _ _ _ hI1
  cbv
  repeat' (first |(refine Br.mk (fun _=>?_) (fun _=>?_)<;>cbv) |(refine NilB.mk (fun _=>?_) ?_<;>cbv) |refine And.intro ?_ ?_ |exact True.intro)
  next p3a=>
   subst hA;exact h1.g3 (dt p3a)
  next p4a=>
   subst hA;exact h1.g4 (dt p4a)
  next p5a=>
   subst hA;exact h1.g5 (dt p5a)
  next p6a=>
   subst hA;exact h1.g6 (dt p6a)
  next p7a=>
   subst hA;exact h1.g7 (dt p7a)
  next p8a=>
   subst hA;exact h1.g8 (dt p8a)
  next p9a=>
   subst hA;exact h1.g9 (dt p9a)
  next p10a=>
   subst hA;exact h1.g3 (dt p10a)
  next p11a=>
   subst hA;exact h1.g4 (dt p11a)
  next p12a=>
   subst hA;exact h1.g5 (dt p12a)
  next p13a=>
   subst hA;exact h1.g6 (dt p13a)
  next p14a=>
   subst hA;exact h1.g7 (dt p14a)
  next p15a=>
   subst hA;exact h1.g8 (dt p15a)
  next p16a p16b=>
   subst hA;exact h1.g16 (dt p16a) (df (nt p16b))
  next p17a p17b=>
   refine hK1 (d0,d1,A.add d2 1) _ ?_ ?_ ?_
   ·subst hA;exact (h1.n17 (dt p17a) (df (nt p17b))).1
   ·subst hA;exact (h1.n17 (dt p17a) (df (nt p17b))).2
   clear hE hinl hV hK1;cbv;(try (repeat' (first |exact True.intro |rfl |assumption |apply And.intro)))
  next p18a p18b=>
   subst hA;exact h1.g18 (dt p18a) (dt (nf p18b))
  next p19a p19b=>
   subst hA;exact h1.g19 (dt p19a) (dt (nf p19b))
  next p20a p20b=>
   subst hA;exact h1.g20 (dt p20a) (dt (nf p20b))
  next p21a p21b=>
   subst hA;exact h1.g21 (dt p21a) (dt (nf p21b))
  next p22a p22b=>
   subst hA;exact h1.g22 (dt p22a) (dt (nf p22b))
  next p23a p23b=>
   subst hA;exact h1.g23 (dt p23a) (dt (nf p23b))
  next p24a p24b p24c=>
   subst hA;exact h1.g24 (dt p24a) (dt (nf p24b)) (df (nt p24c))
  next p25a p25b p25c=>
   refine hK1 (d0,d1,A.add d2 1) _ ?_ ?_ ?_
   ·subst hA;exact (h1.n25 (dt p25a) (dt (nf p25b)) (df (nt p25c))).1
   ·subst hA;exact (h1.n25 (dt p25a) (dt (nf p25b)) (df (nt p25c))).2
   clear hE hinl hV hK1;cbv;(try (repeat' (first |exact True.intro |rfl |assumption |apply And.intro)))
  next p26a p26b p26c p26d=>
   subst hA;exact h1.g26 (dt p26a) (dt (nf p26b)) (dt (nf p26c)) (dt p26d)
  next p27a p27b p27c p27d=>
   refine hK1 (d0,d1,A.add d2 1) _ ?_ ?_ ?_
   ·subst hA;exact (h1.n27 (dt p27a) (dt (nf p27b)) (dt (nf p27c)) (dt p27d)).1
   ·subst hA;exact (h1.n27 (dt p27a) (dt (nf p27b)) (dt (nf p27c)) (dt p27d)).2
   clear hE hinl hV hK1;cbv;(try (repeat' (first |exact True.intro |rfl |assumption |apply And.intro)))
  next p28a p28b p28c p28d=>
   subst hA;exact h1.g28 (dt p28a) (dt (nf p28b)) (dt (nf p28c)) (df p28d)
  next p29a p29b p29c p29d=>
   subst hA;exact h1.g29 (dt p29a) (dt (nf p29b)) (dt (nf p29c)) (df p29d)
  next p30a p30b p30c p30d=>
   subst hA;exact h1.g30 (dt p30a) (dt (nf p30b)) (dt (nf p30c)) (df p30d)
  next p31a p31b p31c p31d=>
   subst hA;exact h1.g31 (dt p31a) (dt (nf p31b)) (dt (nf p31c)) (df p31d)
  next p32a p32b p32c p32d=>
   subst hA;exact h1.g32 (dt p32a) (dt (nf p32b)) (dt (nf p32c)) (df p32d)
  next p33a p33b p33c p33d=>
   subst hA;exact h1.g33 (dt p33a) (dt (nf p33b)) (dt (nf p33c)) (df p33d)
  next p34a p34b p34c p34d=>
   subst hA;exact h1.g34 (dt p34a) (dt (nf p34b)) (dt (nf p34c)) (df p34d)
  next p35a p35b p35c p35d=>
   subst hA;exact h1.g35 (dt p35a) (dt (nf p35b)) (dt (nf p35c)) (df p35d)
  next p36a p36b p36c p36d=>
   subst hA;exact h1.g36 (dt p36a) (dt (nf p36b)) (dt (nf p36c)) (df p36d)
  next p37a p37b p37c p37d=>
   subst hA;exact h1.g37 (dt p37a) (dt (nf p37b)) (dt (nf p37c)) (df p37d)
  next p38a p38b p38c p38d=>
   subst hA;exact h1.g35 (dt p38a) (dt (nf p38b)) (dt (nf p38c)) (df p38d)
  next p39a p39b p39c p39d=>
   subst hA;exact h1.g36 (dt p39a) (dt (nf p39b)) (dt (nf p39c)) (df p39d)
  next p40a p40b p40c p40d=>
   subst hA;exact h1.g37 (dt p40a) (dt (nf p40b)) (dt (nf p40c)) (df p40d)
  next p41a p41b p41c p41d=>
   subst hA;exact h1.g35 (dt p41a) (dt (nf p41b)) (dt (nf p41c)) (df p41d)
  next p42a p42b p42c p42d=>
   subst hA;exact h1.g36 (dt p42a) (dt (nf p42b)) (dt (nf p42c)) (df p42d)
  next p43a p43b p43c p43d=>
   subst hA;exact h1.g37 (dt p43a) (dt (nf p43b)) (dt (nf p43c)) (df p43d)
  next p44a p44b p44c p44d=>
   subst hA;exact h1.g35 (dt p44a) (dt (nf p44b)) (dt (nf p44c)) (df p44d)
  next p45a p45b p45c p45d=>
   subst hA;exact h1.g45 (dt p45a) (dt (nf p45b)) (dt (nf p45c)) (df p45d)
  next p46a p46b p46c p46d=>
   subst hA;exact h1.g46 (dt p46a) (dt (nf p46b)) (dt (nf p46c)) (df p46d)
  next p47a p47b p47c p47d=>
   subst hA;exact h1.g47 (dt p47a) (dt (nf p47b)) (dt (nf p47c)) (df p47d)
  next p48a p48b p48c p48d p48e=>
   subst hA;exact h1.g48 (dt p48a) (dt (nf p48b)) (dt (nf p48c)) (df p48d) p48e
  next p49a p49b p49c p49d p49e=>
   subst hA;exact h1.g49 (dt p49a) (dt (nf p49b)) (dt (nf p49c)) (df p49d) p49e
  next p50a p50b p50c p50d p50e=>
   subst hA;exact h1.g50 (dt p50a) (dt (nf p50b)) (dt (nf p50c)) (df p50d) p50e
  next p51a p51b p51c p51d p51e=>
   refine hK1 (d0,d1,A.add d2 1) _ ?_ ?_ ?_
   ·subst hA;exact (h1.n51 (dt p51a) (dt (nf p51b)) (dt (nf p51c)) (df p51d) p51e).1
   ·subst hA;exact (h1.n51 (dt p51a) (dt (nf p51b)) (dt (nf p51c)) (df p51d) p51e).2
   clear hE hinl hV hK1;cbv;(try (repeat' (first |exact True.intro |rfl |assumption |apply And.intro)))
  next p52a=>
   subst hA;exact h1.g52 (df p52a)
  rename_i p53a
  refine hK0 (d0,d1,A.add b2 1) _ ?_ ?_ ?_
  ·subst hA;exact (h1.n53 (df p53a)).1
  ·subst hA;exact (h1.n53 (df p53a)).2
  clear hE hinl hV hK0;cbv;(try (repeat' (first |exact True.intro |rfl |assumption |apply And.intro)))
 next p54a=>
  subst hA;exact h0.g54 (df p54a)
 rename_i p55a
 subst hA;exact h0.g55 (df p55a)
end HX

namespace HX
open Go Go.Proofs CX
set_option maxHeartbeats 4000000 in
set_option maxRecDepth 100000 in
theorem walk30 {ro A pre fn} (hE:EnvOk ⟨A,(cxE ro),ksF,sigL [(71,⟨[(false,[.sl [.int .i64,.int .i64,.int .i64]]),(false,[.sl [.int .i64]])],[(false,[.sl [.int .i64,.int .i64,.int .i64]]),(false,[.bool])],false⟩)],pre,fn⟩) {P:List (List D)->Prop} {res:List (List D)->Nat->Nat->D}
  (hv:∀(a0:Rows) (a1:Rows),ShR [.int .i64,.int .i64,.int .i64] a0->ShR [.int .i64] a1->P [[.l a0],[.l a1]]->V30 pre fn a0 a1 (res [[.l a0],[.l a1]])) :
  PureC (cxE ro) 30 ⟨[(false,[.sl [.int .i64,.int .i64,.int .i64]]),(false,[.sl [.int .i64]])],[(false,[.sl [.int .i64,.int .i64,.int .i64]]),(false,[.int .i64])],false⟩ P res:=by
 have hA:=hE.A
 simp only [] at hA
 have hinl:∀f fn,inlL [(70,Try.f70)] f=some fn->(cxE ro).fn f=some fn/\(cxE ro).ext f=none:=Inls.ok (by repeat (first |exact .nil |refine .cons rfl rfl ?_))
 refine PureC.of_vc hE hinl 6 (f:=30) (fn:=Try.f30) ⟨rfl,rfl⟩ ?_
 intro a0 ha0 a1 ha1 hP
 obtain ⟨R,hR⟩:∃R,res [[.l a0],[.l a1]]=R:=⟨_,rfl⟩
 rw [hR]
 have hV:=hv a0 a1 ha0 ha1 hP
 rw [hR] at hV
 clear hR hP hv
 cbv
 repeat' (first |(refine Br.mk (fun _=>?_) (fun _=>?_)<;>cbv) |(refine NilB.mk (fun _=>?_) ?_<;>cbv) |refine And.intro ?_ ?_ |exact True.intro)
 next p0a=>
  subst hA;exact hV.g0 (dt p0a)
 next p1a=>
  subst hA;exact hV.g1 (dt p1a)
 next p2a p2b=>
  subst hA;exact hV.g2 (df p2a) (dt p2b)
 next p3a p3b=>
  subst hA;exact hV.g3 (df p3a) (dt p3b)
 rename_i p4a p4b
 refine Leaf.gen fun Uz hσz=>?_
 obtain ⟨I0,m0,i0,c0⟩:V30l0 pre fn a0 a1 R:=by subst hA;exact hV.l0 (df p4a) (df p4b)
 refine loopB hE hinl 6 [] [] [] (fun x:Rows×Int×Int=>[.l x.1,.i x.2.1,.i x.2.2]) (fun x=>I0 x.1 x.2.1 x.2.2) (fun x=>m0 x.1 x.2.1 x.2.2) ([],0,0) (by subst hA;exact i0) ?_ ?_<;>subst hσz
 ·clear hE hinl hV;cbv;(try (repeat' (first |exact True.intro |rfl |assumption |apply And.intro)))
 intro ⟨b0,b1,b2⟩ hI0 K0 hK0
 have h0:=c0 _ _ _ hI0
 cbv
 repeat' (first |(refine Br.mk (fun _=>?_) (fun _=>?_)<;>cbv) |(refine NilB.mk (fun _=>?_) ?_<;>cbv) |refine And.intro ?_ ?_ |exact True.intro)
 next p5a=>
  subst hA;exact h0.g5 (dt p5a)
 next p6a=>
  subst hA;exact h0.g6 (dt p6a)
 next p7a=>
  subst hA;exact h0.g7 (dt p7a)
 next p8a p8b p8c p8d p8e p8f p8g p8h=>
  subst hA;exact h0.g8 (dt p8a) (dt p8b) (dt p8c) (dt p8d) (dt p8e) (dt p8f) (dt p8g) (df (nt p8h))
 next p9a p9b p9c p9d p9e p9f p9g p9h=>
  subst hA;exact h0.g9 (dt p9a) (dt p9b) (dt p9c) (dt p9d) (dt p9e) (dt p9f) (dt p9g) (df (nt p9h))
 next p10a p10b p10c p10d p10e p10f p10g p10h=>
  subst hA;exact h0.g10 (dt p10a) (dt p10b) (dt p10c) (dt p10d) (dt p10e) (dt p10f) (dt p10g) (dt (nf p10h))
 next p11a p11b p11c p11d p11e p11f p11g p11h=>
  refine hK0 (b0,b1,A.add b2 1) _ ?_ ?_ ?_
  ·subst hA;exact (h0.n11 (dt p11a) (dt p11b) (dt p11c) (dt p11d) (dt p11e) (dt p11f) (dt p11g) (dt (nf p11h))).1
  ·subst hA;exact (h0.n11 (dt p11a) (dt p11b) (dt p11c) (dt p11d) (dt p11e) (dt p11f) (dt p11g) (dt (nf p11h))).2
  clear hE hinl hV hK0;cbv;(try (repeat' (first |exact True.intro |rfl |assumption |apply And.intro)))
 next p12a p12b p12c p12d p12e p12f p12g=>
  subst hA;exact h0.g12 (dt p12a) (dt p12b) (dt p12c) (dt p12d) (dt p12e) (dt p12f) (df p12g)
 next p13a p13b p13c p13d p13e p13f p13g=>
  subst hA;exact h0.g13 (dt p13a) (dt p13b) (dt p13c) (dt p13d) (dt p13e) (dt p13f) (df p13g)
 next p14a p14b p14c p14d p14e p14f=>
  subst hA;exact h0.g14 (dt p14a) (dt p14b) (dt p14c) (dt p14d) (dt p14e) (df p14f)
 next p15a p15b p15c p15d p15e p15f=>
  subst hA;exact h0.g15 (dt p15a) (dt p15b) (dt p15c) (dt p15d) (dt p15e) (df p15f)
 next p16a p16b p16c p16d p16e=>
  subst hA;exact h0.g16 (dt p16a) (dt p16b) (dt p16c) (dt p16d) (df p16e)
 next p17a p17b p17c p17d p17e=>
  subst hA;exact h0.g17 (dt p17a) (dt p17b) (dt p17c) (dt p17d) (df p17e)
 next p18a p18b p18c p18d=>
  subst hA;exact h0.g18 (dt p18a) (dt p18b) (dt p18c) (df p18d)
 next p19a p19b p19c p19d=>
  subst hA;exact h0.g19 (dt p19a) (dt p19b) (dt p19c) (df p19d)
 next p20a p20b p20c=>
  subst hA;exact h0.g20 (dt p20a) (dt p20b) (df p20c)
 next p21a p21b p21c=>
  subst hA;exact h0.g21 (dt p21a) (dt p21b) (df p21c)
 next p22a p22b=>
  subst hA;exact h0.g22 (dt p22a) (df p22b)
 next p23a p23b=>
  subst hA;exact h0.g23 (dt p23a) (df p23b)
 rename_i p24a
 refine Leaf.gen fun Uz hσz=>?_
 obtain ⟨I1,m1,i1,c1⟩:V30l1 pre fn a0 a1 R b0 b1:=by subst hA;exact h0.l1 (df p24a)
 refine loopB hE hinl 6 [] [] [] (fun x:Rows×Int×Int=>[.l x.1,.i x.2.1,.i x.2.2]) (fun x=>I1 x.1 x.2.1 x.2.2) (fun x=>m1 x.1 x.2.1 x.2.2) (b0,b1,0) (by subst hA;exact i1) ?_ ?_<;>subst hσz
 ·clear hE hinl hV;cbv;(try (repeat' (first |exact True.intro |rfl |assumption |apply And.intro)))
 intro ⟨d0,d1,d2⟩ hI1 K1 hK1
 have h1:=c1 _ _ _ hI1
 cbv
 repeat' (first |(refine Br.mk (fun _=>?_) (fun _=>?_)<;>cbv) |(refine NilB.mk (fun _=>?_) ?_<;>cbv) |refine And.intro ?_ ?_ |exact True.intro)
 next p25a=>
  subst hA;exact h1.g25 (dt p25a)
 next p26a=>
  subst hA;exact h1.g26 (dt p26a)
 next p27a=>
  subst hA;exact h1.g27 (dt p27a)
 next p28a p28b=>
  subst hA;exact h1.g28 (dt p28a) (dt p28b)
 next p29a p29b=>
  subst hA;exact h1.g29 (dt p29a) (dt p29b)
 next p30a p30b=>
  subst hA;exact h1.g30 (dt p30a) (df p30b)
 next p31a p31b=>
  subst hA;exact h1.g31 (dt p31a) (df p31b)
 next p32a p32b=>
  subst hA;exact h1.g32 (dt p32a) (df p32b)
 next p33a p33b p33c=>
  subst hA;exact h1.g33 (dt p33a) (df p33b) (dt p33c)
 next p34a p34b p34c=>
  subst hA;exact h1.g34 (dt p34a) (df p34b) (dt p34c)
 next p35a p35b p35c=>
  subst hA;exact h1.g35 (dt p35a) (df p35b) (df p35c)
 next p36a p36b p36c=>
  refine hK1 (d0,d1,A.add d2 1) _ ?_ ?_ ?_
  ·subst hA;exact (h1.n36 (dt p36a) (df p36b) (df p36c)).1
  ·subst hA;exact (h1.n36 (dt p36a) (df p36b) (df p36c)).2
  clear hE hinl hV hK1;cbv;(try (repeat' (first |exact True.intro |rfl |assumption |apply And.intro)))
 next p37a=>
  subst hA;exact h1.g37 (df p37a)
 rename_i p38a
 refine Leaf.gen fun Uz hσz=>?_
 obtain ⟨I2,m2,i2,c2⟩:V30l2 pre fn a0 a1 R:=by subst hA;exact h1.l2 (df p38a)
 refine loopB hE hinl 6 [8] [] [] (fun x:Rows×Bool=>[.l x.1,.b x.2]) (fun x=>I2 x.1 x.2) (fun x=>m2 x.1 x.2) (A.app [] a0,true) (by subst hA;exact i2) ?_ ?_<;>subst hσz
 ·clear hE hinl hV;cbv;(try (repeat' (first |exact True.intro |rfl |assumption |apply And.intro)))
 intro ⟨e0,e1⟩ hI2 K2 hK2
 have h2:=c2 _ _ hI2
 cbv
 repeat' (first |(refine Br.mk (fun _=>?_) (fun _=>?_)<;>cbv) |(refine NilB.mk (fun _=>?_) ?_<;>cbv) |refine And.intro ?_ ?_ |exact True.intro)
 next p39a=>
  subst hA;exact h2.g39 p39a
 next p40a=>
  refine hK2 (A.dl (fn 71 [[D.l e0],[D.l a1]] 0 0),A.db (fn 71 [[D.l e0],[D.l a1]] 1 0)) _ ?_ ?_ ?_
  ·subst hA;exact (h2.n40 p40a).1
  ·subst hA;exact (h2.n40 p40a).2
  clear hE hinl hV hK2;cbv;(try (repeat' (first |exact True.intro |rfl |assumption |apply And.intro)))
 next p41a=>
  subst hA;exact h2.g41 p41a
 rename_i p42a
 subst hA;exact h2.g42 p42a
end HX

namespace HX
open Go Go.Proofs CX
set_option maxHeartbeats 4000000 in
set_option maxRecDepth 100000 in
theorem walk27 {ro A pre fn} (hE:EnvOk ⟨A,(cxE ro),ksF,sigL [],pre,fn⟩) {P:List (List D)->Prop} {res:List (List D)->Nat->Nat->D}
  (hv:∀(a0:Rows) (a1:Rows),ShR [.int .i64,.int .i64,.int .i64] a0->ShR [.int .i64,.int .i64,.int .i64] a1->P [[.l a0],[.l a1]]->∃(I0:Bool->Int->Prop) (m0:Bool->Int->Nat),V27 a0 a1 (res [[.l a0],[.l a1]]) I0 m0) :
  PureC (cxE ro) 27 ⟨[(false,[.sl [.int .i64,.int .i64,.int .i64]]),(false,[.sl [.int .i64,.int .i64,.int .i64]])],[(false,[.bool])],false⟩ P res:=by
 have hA:=hE.A
 simp only [] at hA
 have hinl:∀f fn,inlL [] f=some fn->(cxE ro).fn f=some fn/\(cxE ro).ext f=none:=Inls.ok (by repeat (first |exact .nil |refine .cons rfl rfl ?_))
 refine PureC.of_vc hE hinl 6 (f:=27) (fn:=Try.f27) ⟨rfl,rfl⟩ ?_
 intro a0 ha0 a1 ha1 hP
 obtain ⟨R,hR⟩:∃R,res [[.l a0],[.l a1]]=R:=⟨_,rfl⟩
 rw [hR]
 obtain ⟨I0,m0,hV⟩:=hv a0 a1 ha0 ha1 hP
 rw [hR] at hV
 clear hR hP hv
 cbv
 repeat' (first |(refine Br.mk (fun _=>?_) (fun _=>?_)<;>cbv) |(refine NilB.mk (fun _=>?_) ?_<;>cbv) |refine And.intro ?_ ?_ |exact True.intro)
 next hp0_0=>
  subst hA;exact hV.g0 (df (nt hp0_0))
 rename_i hp1_0
 refine Leaf.gen fun Uz hσz=>?_
 refine loopB hE hinl 6 [] [] [] (fun x:Bool×Int=>[.b x.1,.i x.2]) (fun x=>I0 x.1 x.2) (fun x=>m0 x.1 x.2) (false,0) (by subst hA;exact hV.i0 (dt (nf hp1_0))) ?_ ?_<;>subst hσz
 ·clear hE hinl hV;cbv;(try (repeat' (first |exact True.intro |rfl |assumption |apply And.intro)))
 intro ⟨x0_0,x0_1⟩ hI0 K0 hK0
 cbv
 repeat' (first |(refine Br.mk (fun _=>?_) (fun _=>?_)<;>cbv) |(refine NilB.mk (fun _=>?_) ?_<;>cbv) |refine And.intro ?_ ?_ |exact True.intro)
 next hp2_0=>
  subst hA;exact hV.g2 _ _ hI0 (dt (nf hp1_0)) (dt hp2_0)
 next hp3_0=>
  subst hA;exact hV.g3 _ _ hI0 (dt (nf hp1_0)) (dt hp3_0)
 next hp4_0=>
  subst hA;exact hV.g4 _ _ hI0 (dt (nf hp1_0)) (dt hp4_0)
 next hp5_0=>
  subst hA;exact hV.g2 _ _ hI0 (dt (nf hp1_0)) (dt hp5_0)
 next hp6_0=>
  subst hA;exact hV.g6 _ _ hI0 (dt (nf hp1_0)) (dt hp6_0)
 next hp7_0=>
  subst hA;exact hV.g7 _ _ hI0 (dt (nf hp1_0)) (dt hp7_0)
 next hp8_0 hp8_1=>
  subst hA;exact hV.g8 _ _ hI0 (dt (nf hp1_0)) (dt hp8_0) (df (nt hp8_1))
 next hp9_0 hp9_1=>
  subst hA;exact hV.g9 _ _ hI0 (dt (nf hp1_0)) (dt hp9_0) (dt (nf hp9_1))
 next hp10_0 hp10_1=>
  subst hA;exact hV.g10 _ _ hI0 (dt (nf hp1_0)) (dt hp10_0) (dt (nf hp10_1))
 next hp11_0 hp11_1=>
  subst hA;exact hV.g11 _ _ hI0 (dt (nf hp1_0)) (dt hp11_0) (dt (nf hp11_1))
 next hp12_0 hp12_1=>
  subst hA;exact hV.g9 _ _ hI0 (dt (nf hp1_0)) (dt hp12_0) (dt (nf hp12_1))
 next hp13_0 hp13_1=>
  subst hA;exact hV.g13 _ _ hI0 (dt (nf hp1_0)) (dt hp13_0) (dt (nf hp13_1))
 next hp14_0 hp14_1=>
  subst hA;exact hV.g14 _ _ hI0 (dt (nf hp1_0)) (dt hp14_0) (dt (nf hp14_1))
 next hp15_0 hp15_1 hp15_2=>
  subst hA;exact hV.g15 _ _ hI0 (dt (nf hp1_0)) (dt hp15_0) (dt (nf hp15_1)) (df (nt hp15_2))
 next hp16_0 hp16_1 hp16_2=>
  subst hA;exact hV.g16 _ _ hI0 (dt (nf hp1_0)) (dt hp16_0) (dt (nf hp16_1)) (dt (nf hp16_2))
 next hp17_0 hp17_1 hp17_2=>
  subst hA;exact hV.g17 _ _ hI0 (dt (nf hp1_0)) (dt hp17_0) (dt (nf hp17_1)) (dt (nf hp17_2))
 next hp18_0 hp18_1 hp18_2=>
  subst hA;exact hV.g18 _ _ hI0 (dt (nf hp1_0)) (dt hp18_0) (dt (nf hp18_1)) (dt (nf hp18_2))
 next hp19_0 hp19_1 hp19_2=>
  subst hA;exact hV.g16 _ _ hI0 (dt (nf hp1_0)) (dt hp19_0) (dt (nf hp19_1)) (dt (nf hp19_2))
 next hp20_0 hp20_1 hp20_2=>
  subst hA;exact hV.g20 _ _ hI0 (dt (nf hp1_0)) (dt hp20_0) (dt (nf hp20_1)) (dt (nf hp20_2))
 next hp21_0 hp21_1 hp21_2=>
  subst hA;exact hV.g21 _ _ hI0 (dt (nf hp1_0)) (dt hp21_0) (dt (nf hp21_1)) (dt (nf hp21_2))
 next hp22_0 hp22_1 hp22_2 hp22_3=>
  subst hA;exact hV.g22 _ _ hI0 (dt (nf hp1_0)) (dt hp22_0) (dt (nf hp22_1)) (dt (nf hp22_2)) (df (nt hp22_3))
 next hp23_0 hp23_1 hp23_2 hp23_3=>
  subst hA;exact hV.g23 _ _ hI0 (dt (nf hp1_0)) (dt hp23_0) (dt (nf hp23_1)) (dt (nf hp23_2)) (dt (nf hp23_3))
 next hp24_0 hp24_1 hp24_2 hp24_3=>
  refine hK0 (x0_0,A.add x0_1 1) _ ?_ ?_ ?_
  ·subst hA;exact (hV.n24 _ _ hI0 (dt (nf hp1_0)) (dt hp24_0) (dt (nf hp24_1)) (dt (nf hp24_2)) (dt (nf hp24_3))).1
  ·subst hA;exact (hV.n24 _ _ hI0 (dt (nf hp1_0)) (dt hp24_0) (dt (nf hp24_1)) (dt (nf hp24_2)) (dt (nf hp24_3))).2
  clear hE hinl hV hK0;cbv;(try (repeat' (first |exact True.intro |rfl |assumption |apply And.intro)))
 rename_i hp25_0
 subst hA;exact hV.g25 _ _ hI0 (dt (nf hp1_0)) (df hp25_0)
end HX

namespace HX
open Go Go.Proofs CX
set_option maxHeartbeats 4000000 in
set_option maxRecDepth 100000 in
theorem walk29 {ro A pre fn} (hE:EnvOk ⟨A,(cxE ro),ksF,sigL [],pre,fn⟩) {P:List (List D)->Prop} {res:List (List D)->Nat->Nat->D}
  (hv:∀(a0:Rows),ShR [.int .i64,.int .i64,.int .i64] a0->P [[.l a0]]->∃(I0:Rows->Int->Prop) (m0:Rows->Int->Nat),V29 a0 (res [[.l a0]]) I0 m0) :
  PureC (cxE ro) 29 ⟨[(false,[.sl [.int .i64,.int .i64,.int .i64]])],[(false,[.sl [.int .i64,.int .i64,.int .i64]])],false⟩ P res:=by
 have hA:=hE.A
 simp only [] at hA
 have hinl:∀f fn,inlL [] f=some fn->(cxE ro).fn f=some fn/\(cxE ro).ext f=none:=Inls.ok (by repeat (first |exact .nil |refine .cons rfl rfl ?_))
 refine PureC.of_vc hE hinl 6 (f:=29) (fn:=Try.f29) ⟨rfl,rfl⟩ ?_
 intro a0 ha0 hP
 obtain ⟨R,hR⟩:∃R,res [[.l a0]]=R:=⟨_,rfl⟩
 rw [hR]
 obtain ⟨I0,m0,hV⟩:=hv a0 ha0 hP
 rw [hR] at hV
 clear hR hP hv
 cbv
 repeat' (first |(refine Br.mk (fun _=>?_) (fun _=>?_)<;>cbv) |(refine NilB.mk (fun _=>?_) ?_<;>cbv) |refine And.intro ?_ ?_ |exact True.intro)
 refine Leaf.gen fun Uz hσz=>?_
 refine loopB hE hinl 6 [] [] [] (fun x:Rows×Int=>[.l x.1,.i x.2]) (fun x=>I0 x.1 x.2) (fun x=>m0 x.1 x.2) ([],0) (by subst hA;exact hV.i0) ?_ ?_<;>subst hσz
 ·clear hE hinl hV;cbv;(try (repeat' (first |exact True.intro |rfl |assumption |apply And.intro)))
 intro ⟨x0_0,x0_1⟩ hI0 K0 hK0
 cbv
 repeat' (first |(refine Br.mk (fun _=>?_) (fun _=>?_)<;>cbv) |(refine NilB.mk (fun _=>?_) ?_<;>cbv) |refine And.intro ?_ ?_ |exact True.intro)
 next hp1_0=>
  subst hA;exact hV.g1 _ _ hI0 (dt hp1_0)
 next hp2_0=>
  subst hA;exact hV.g2 _ _ hI0 (dt hp2_0)
 next hp3_0=>
  subst hA;exact hV.g3 _ _ hI0 (dt hp3_0)
 next hp4_0=>
  subst hA;exact hV.g1 _ _ hI0 (dt hp4_0)
 next hp5_0=>
  subst hA;exact hV.g2 _ _ hI0 (dt hp5_0)
 next hp6_0=>
  subst hA;exact hV.g3 _ _ hI0 (dt hp6_0)
 next hp7_0=>
  subst hA;exact hV.g1 _ _ hI0 (dt hp7_0)
 next hp8_0=>
  subst hA;exact hV.g2 _ _ hI0 (dt hp8_0)
 next hp9_0=>
  subst hA;exact hV.g3 _ _ hI0 (dt hp9_0)
 next hp10_0=>
  subst hA;exact hV.g10 _ _ hI0 (dt hp10_0)
 next hp11_0=>
  subst hA;exact hV.g11 _ _ hI0 (dt hp11_0)
 next hp12_0=>
  refine hK0 (A.app x0_0 [[D.i (A.di (A.get a0 (A.toNat x0_1) 0)),D.i (A.di (A.get a0 (A.toNat x0_1) 1)),D.i (A.di (A.get a0 (A.toNat x0_1) 2))]],A.add x0_1 1) _ ?_ ?_ ?_
  ·subst hA;exact (hV.n12 _ _ hI0 (dt hp12_0)).1
  ·subst hA;exact (hV.n12 _ _ hI0 (dt hp12_0)).2
  clear hE hinl hV hK0;cbv;(try (repeat' (first |exact True.intro |rfl |assumption |apply And.intro)))
 rename_i hp13_0
 subst hA;exact hV.g13 _ _ hI0 (df hp13_0)
end HX

namespace HX
open Go Go.Proofs CX
set_option maxHeartbeats 4000000 in
set_option maxRecDepth 100000 in
theorem walk62 {ro A pre fn} (hE:EnvOk ⟨A,(cxE ro),ksF,sigL [],pre,fn⟩) {P:List (List D)->Prop} {res:List (List D)->Nat->Nat->D}
  (hv:∀(a0:Rows),ShR [.int .i64,.int .i64,.int .i64] a0->P [[.l a0],[.nil]]->∃(I0:Int->Int->Prop) (m0:Int->Int->Nat),V62 a0 (res [[.l a0],[.nil]]) I0 m0) :
  PureC (cxE ro) 62 ⟨[(false,[.sl [.int .i64,.int .i64,.int .i64]]),(false,[.fnc 63])],[(false,[.bool])],false⟩ P res:=by
 have hA:=hE.A
 simp only [] at hA
 have hinl:∀f fn,inlL [(63,Try.f63),(64,Try.f64),(72,Try.f72)] f=some fn->(cxE ro).fn f=some fn/\(cxE ro).ext f=none:=Inls.ok (by repeat (first |exact .nil |refine .cons rfl rfl ?_))
 refine PureC.of_vc hE hinl 6 (f:=62) (fn:=Try.f62) ⟨rfl,rfl⟩ ?_
 intro a0 ha0 hP
 obtain ⟨R,hR⟩:∃R,res [[.l a0],[.nil]]=R:=⟨_,rfl⟩
 rw [hR]
 obtain ⟨I0,m0,hV⟩:=hv a0 ha0 hP
 rw [hR] at hV
 clear hR hP hv
 cbv
 repeat' (first |(refine Br.mk (fun _=>?_) (fun _=>?_)<;>cbv) |(refine NilB.mk (fun _=>?_) ?_<;>cbv) |refine And.intro ?_ ?_ |exact True.intro)
 refine Leaf.gen fun Uz hσz=>?_
 refine loopB hE hinl 6 [] [] [] (fun x:Int×Int=>[.i x.1,.i x.2]) (fun x=>I0 x.1 x.2) (fun x=>m0 x.1 x.2) (0,0) (by subst hA;exact hV.i0) ?_ ?_<;>subst hσz
 ·clear hE hinl hV;cbv;(try (repeat' (first |exact True.intro |rfl |assumption |apply And.intro)))
 intro ⟨x0_0,x0_1⟩ hI0 K0 hK0
 cbv
 repeat' (first |(refine Br.mk (fun _=>?_) (fun _=>?_)<;>cbv) |(refine NilB.mk (fun _=>?_) ?_<;>cbv) |refine And.intro ?_ ?_ |exact True.intro)
 next hp1_0=>
  subst hA;exact hV.g1 _ _ hI0 (dt hp1_0)
 next hp2_0=>
  subst hA;exact hV.g2 _ _ hI0 (dt hp2_0)
 next hp3_0=>
  subst hA;exact hV.g3 _ _ hI0 (dt hp3_0)
 next hp4_0 hp4_1 hp4_2 hp4_3 hp4_4 hp4_5=>
  subst hA;exact hV.g4 _ _ hI0 (dt hp4_0) (dt hp4_1) (dt hp4_2) (dt hp4_3) (dt hp4_4) (df (nt hp4_5))
 next hp5_0 hp5_1 hp5_2 hp5_3 hp5_4 hp5_5=>
  subst hA;exact hV.g5 _ _ hI0 (dt hp5_0) (dt hp5_1) (dt hp5_2) (dt hp5_3) (dt hp5_4) (dt (nf hp5_5))
 next hp6_0 hp6_1 hp6_2 hp6_3 hp6_4 hp6_5=>
  refine hK0 (x0_0,A.add x0_1 1) _ ?_ ?_ ?_
  ·subst hA;exact (hV.n6 _ _ hI0 (dt hp6_0) (dt hp6_1) (dt hp6_2) (dt hp6_3) (dt hp6_4) (dt (nf hp6_5))).1
  ·subst hA;exact (hV.n6 _ _ hI0 (dt hp6_0) (dt hp6_1) (dt hp6_2) (dt hp6_3) (dt hp6_4) (dt (nf hp6_5))).2
  clear hE hinl hV hK0;cbv;(try (repeat' (first |exact True.intro |rfl |assumption |apply And.intro)))
 next hp7_0 hp7_1 hp7_2 hp7_3 hp7_4=>
  subst hA;exact hV.g7 _ _ hI0 (dt hp7_0) (dt hp7_1) (dt hp7_2) (dt hp7_3) (df hp7_4)
 next hp8_0 hp8_1 hp8_2 hp8_3=>
  subst hA;exact hV.g8 _ _ hI0 (dt hp8_0) (dt hp8_1) (dt hp8_2) (df hp8_3)
 next hp9_0 hp9_1 hp9_2=>
  subst hA;exact hV.g9 _ _ hI0 (dt hp9_0) (dt hp9_1) (df hp9_2)
 next hp10_0 hp10_1=>
  subst hA;exact hV.g10 _ _ hI0 (dt hp10_0) (df hp10_1)
 rename_i hp11_0
 subst hA;exact hV.g11 _ _ hI0 (df hp11_0)
end HX

namespace HX
open Go Go.Proofs CX
set_option maxHeartbeats 4000000 in
set_option maxRecDepth 100000 in
theorem walk65 {ro A pre fn} (hE:EnvOk ⟨A,(cxE ro),ksF,sigL [],pre,fn⟩) {P:List (List D)->Prop} {res:List (List D)->Nat->Nat->D}
  (hv:∀(a0:Rows),ShR [.int .i64] a0->P [[.l a0],[.nil]]->∃(I0:Int->Int->Prop) (m0:Int->Int->Nat),V65 a0 (res [[.l a0],[.nil]]) I0 m0) :
  PureC (cxE ro) 65 ⟨[(false,[.sl [.int .i64]]),(false,[.fnc 66])],[(false,[.bool])],false⟩ P res:=by
 have hA:=hE.A
 simp only [] at hA
 have hinl:∀f fn,inlL [(66,Try.f66),(92,Try.f92)] f=some fn->(cxE ro).fn f=some fn/\(cxE ro).ext f=none:=Inls.ok (by repeat (first |exact .nil |refine .cons rfl rfl ?_))
 refine PureC.of_vc hE hinl 6 (f:=65) (fn:=Try.f65) ⟨rfl,rfl⟩ ?_
 intro a0 ha0 hP
 obtain ⟨R,hR⟩:∃R,res [[.l a0],[.nil]]=R:=⟨_,rfl⟩
 rw [hR]
 obtain ⟨I0,m0,hV⟩:=hv a0 ha0 hP
 rw [hR] at hV
 clear hR hP hv
 cbv
 repeat' (first |(refine Br.mk (fun _=>?_) (fun _=>?_)<;>cbv) |(refine NilB.mk (fun _=>?_) ?_<;>cbv) |refine And.intro ?_ ?_ |exact True.intro)
 refine Leaf.gen fun Uz hσz=>?_
 refine loopB hE hinl 6 [] [] [] (fun x:Int×Int=>[.i x.1,.i x.2]) (fun x=>I0 x.1 x.2) (fun x=>m0 x.1 x.2) (0,0) (by subst hA;exact hV.i0) ?_ ?_<;>subst hσz
 ·clear hE hinl hV;cbv;(try (repeat' (first |exact True.intro |rfl |assumption |apply And.intro)))
 intro ⟨x0_0,x0_1⟩ hI0 K0 hK0
 cbv
 repeat' (first |(refine Br.mk (fun _=>?_) (fun _=>?_)<;>cbv) |(refine NilB.mk (fun _=>?_) ?_<;>cbv) |refine And.intro ?_ ?_ |exact True.intro)
 next hp1_0=>
  subst hA;exact hV.g1 _ _ hI0 (dt hp1_0)
 next hp2_0=>
  subst hA;exact hV.g2 _ _ hI0 (dt hp2_0)
 next hp3_0=>
  subst hA;exact hV.g3 _ _ hI0 (dt hp3_0)
 next hp4_0 hp4_1=>
  subst hA;exact hV.g4 _ _ hI0 (dt hp4_0) (dt hp4_1)
 next hp5_0 hp5_1 hp5_2=>
  subst hA;exact hV.g5 _ _ hI0 (dt hp5_0) (df hp5_1) (dt hp5_2)
 next hp6_0 hp6_1 hp6_2=>
  subst hA;exact hV.g6 _ _ hI0 (dt hp6_0) (df hp6_1) (df hp6_2)
 next hp7_0 hp7_1 hp7_2=>
  refine hK0 (x0_0,A.add x0_1 1) _ ?_ ?_ ?_
  ·subst hA;exact (hV.n7 _ _ hI0 (dt hp7_0) (df hp7_1) (df hp7_2)).1
  ·subst hA;exact (hV.n7 _ _ hI0 (dt hp7_0) (df hp7_1) (df hp7_2)).2
  clear hE hinl hV hK0;cbv;(try (repeat' (first |exact True.intro |rfl |assumption |apply And.intro)))
 rename_i hp8_0
 subst hA;exact hV.g8 _ _ hI0 (df hp8_0)
end HX

namespace HX
open Go Go.Proofs CX
set_option maxHeartbeats 4000000 in
set_option maxRecDepth 100000 in
theorem walk67 {ro A pre fn} (hE:EnvOk ⟨A,(cxE ro),ksF,sigL [(31,⟨[(false,[.sl [.int .i64,.int .i64,.int .i64]]),(false,[.int .i64])],[(false,[.int .i64]),(false,[.bool])],false⟩)],pre,fn⟩) {P:List (List D)->Prop} {res:List (List D)->Nat->Nat->D}
  (hv:∀(a0:Rows) (a1:Rows) (a2:Rows),ShR [.int .i64,.int .i64,.int .i64] a0->ShR [.int .i64] a1->ShR [.int .i64] a2->P [[.l a0],[.l a1],[.l a2]]->∃(I0:Bool->Int->Prop) (m0:Bool->Int->Nat),V67 pre fn a0 a1 a2 (res [[.l a0],[.l a1],[.l a2]]) I0 m0) :
  PureC (cxE ro) 67 ⟨[(false,[.sl [.int .i64,.int .i64,.int .i64]]),(false,[.pt (.sl [.int .i64])]),(false,[.pt (.sl [.int .i64])])],[(false,[.bool])],false⟩ P res:=by
 have hA:=hE.A
 simp only [] at hA
 have hinl:∀f fn,inlL [] f=some fn->(cxE ro).fn f=some fn/\(cxE ro).ext f=none:=Inls.ok (by repeat (first |exact .nil |refine .cons rfl rfl ?_))
 refine PureC.of_vc hE hinl 6 (f:=67) (fn:=Try.f67) ⟨rfl,rfl⟩ ?_
 intro a0 ha0 a1 ha1 a2 ha2 hP
 obtain ⟨R,hR⟩:∃R,res [[.l a0],[.l a1],[.l a2]]=R:=⟨_,rfl⟩
 rw [hR]
 obtain ⟨I0,m0,hV⟩:=hv a0 a1 a2 ha0 ha1 ha2 hP
 rw [hR] at hV
 clear hR hP hv
 cbv
 repeat' (first |(refine Br.mk (fun _=>?_) (fun _=>?_)<;>cbv) |(refine NilB.mk (fun _=>?_) ?_<;>cbv) |refine And.intro ?_ ?_ |exact True.intro)
 ·subst hA;exact hV.g0
 refine Leaf.gen fun Uz hσz=>?_
 refine loopB hE hinl 6 [] [] [] (fun x:Bool×Int=>[.b x.1,.i x.2]) (fun x=>I0 x.1 x.2) (fun x=>m0 x.1 x.2) (false,0) (by subst hA;exact hV.i0) ?_ ?_<;>subst hσz
 ·clear hE hinl hV;cbv;(try (repeat' (first |exact True.intro |rfl |assumption |apply And.intro)))
 intro ⟨x0_0,x0_1⟩ hI0 K0 hK0
 cbv
 repeat' (first |(refine Br.mk (fun _=>?_) (fun _=>?_)<;>cbv) |(refine NilB.mk (fun _=>?_) ?_<;>cbv) |refine And.intro ?_ ?_ |exact True.intro)
 next hp2_0=>
  subst hA;exact hV.g2 _ _ hI0 (dt hp2_0)
 next hp3_0=>
  subst hA;exact hV.g3 _ _ hI0 (dt hp3_0)
 next hp4_0=>
  subst hA;exact hV.g4 _ _ hI0 (dt hp4_0)
 next hp5_0=>
  subst hA;exact hV.g5 _ _ hI0 (dt hp5_0)
 next hp6_0=>
  subst hA;exact hV.g6 _ _ hI0 (dt hp6_0)
 next hp7_0=>
  subst hA;exact hV.g2 _ _ hI0 (dt hp7_0)
 next hp8_0=>
  subst hA;exact hV.g8 _ _ hI0 (dt hp8_0)
 next hp9_0=>
  subst hA;exact hV.g9 _ _ hI0 (dt hp9_0)
 next hp10_0 hp10_1=>
  subst hA;exact hV.g10 _ _ hI0 (dt hp10_0) (df (nt hp10_1))
 next hp11_0 hp11_1=>
  subst hA;exact hV.g11 _ _ hI0 (dt hp11_0) (dt (nf hp11_1))
 next hp12_0 hp12_1=>
  refine hK0 (x0_0,A.add x0_1 1) _ ?_ ?_ ?_
  ·subst hA;exact (hV.n12 _ _ hI0 (dt hp12_0) (dt (nf hp12_1))).1
  ·subst hA;exact (hV.n12 _ _ hI0 (dt hp12_0) (dt (nf hp12_1))).2
  clear hE hinl hV hK0;cbv;(try (repeat' (first |exact True.intro |rfl |assumption |apply And.intro)))
 rename_i hp13_0
 subst hA;exact hV.g13 _ _ hI0 (df hp13_0)
end HX
