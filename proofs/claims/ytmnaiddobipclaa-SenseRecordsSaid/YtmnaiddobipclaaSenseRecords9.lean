/-
  Texts of the executors: V29, PkR, PkU, PkT, PkV, PkX, PkY, PkW, V53, V89, V65, V66, V40, V54, PqN, V28, PqP, PqQ, PqB, PqL, PqM, PqO, PqZ, W92, W67, W50, W100, W76, W71, HxJoin.
-/
import Derived.Test.YtmnaiddobipclaaSenseRecords8
set_option linter.all false
namespace HX
open Go Go.Proofs CX
abbrev vZ29 (x:Int):=-9223372036854775808≤x∧x≤9223372036854775807
abbrev v29a (a0:Rows):=(List.take (a0.length - (Int.toNat ((a0.length:Int) - 2))) (List.drop (Int.toNat ((a0.length:Int) - 2)) a0))
abbrev v29b (a0:Rows):=((((List.take ((Int.toNat ((a0.length:Int) - 2)) - (Int.toNat 5)) (List.drop (Int.toNat 5) a0))).length:Int))
abbrev v29c (a0:Rows):=(List.take (Int.toNat ((a0.length:Int) - 2)) (List.drop 0 a0))
noncomputable abbrev v29d (a0:Rows):=(Ar.std.bit BinOp.or IntKind.i64 (Ar.std.bit BinOp.or IntKind.i64 (Ar.std.shl IntKind.i64 (D.int (gt a0 (Int.toNat 2) 0)) 16) (Ar.std.shl IntKind.i64 (D.int (gt a0 (Int.toNat 3) 0)) 8)) (D.int (gt a0 (Int.toNat 4) 0)))
abbrev v29e (fn:Nat→List (List D)→Nat→Nat→D) (b3:Int) (b4:Int):=(D.int (fn 92 [[D.i b3,D.i b4]] 0 0))
abbrev v29f (d0:Int) (b0:Rows):=(d0+(D.int (gt b0 (Int.toNat ((b0.length:Int) - 1)) 0)))
abbrev v29g (a0:Rows):=(D.int (gt [[gt (v29a a0) 0 0,gt (v29a a0) 1 0]] 0 0))
abbrev v29h (a0:Rows):=(D.int (gt [[gt (v29a a0) 0 0,gt (v29a a0) 1 0]] 0 1))
abbrev v29i (a0:Rows):=(List.take ((Int.toNat ((a0.length:Int) - 2)) - (Int.toNat 5)) (List.drop (Int.toNat 5) a0))
noncomputable abbrev v29j (e0:Int) (fn:Nat→List (List D)→Nat→Nat→D) (b3:Int) (b4:Int):=(Ar.std.shl IntKind.i64 e0 (v29e fn b3 b4))
abbrev v29k (b0:Rows):=((D.int (gt b0 (Int.toNat ((b0.length:Int) - 1)) 1))+1)
abbrev v29l (a0:Rows):=(¬((a0.length:Int) - 2) < 5)
abbrev v29m (fn:Nat→List (List D)→Nat→Nat→D) (a0:Rows):=(D.int (fn 67 [[D.l (v29c a0)]] 0 0))
abbrev v29n (fn:Nat→List (List D)→Nat→Nat→D) (a0:Rows):=(D.int (fn 67 [[D.l (v29c a0)]] 0 1))
noncomputable abbrev v29o (a0:Rows) (j2:Int):=(Ar.std.bit BinOp.and IntKind.u8 (Ar.std.shr IntKind.u8 (D.int (gt (v29i a0) (Int.toNat (Int.tdiv j2 8)) 0)) (7 - (Int.tmod j2 8))) 1)
noncomputable abbrev v29p (a0:Rows) (k2:Int):=(Ar.std.bit BinOp.and IntKind.u8 (Ar.std.shr IntKind.u8 (D.int (gt (v29i a0) (Int.toNat (Int.tdiv k2 8)) 0)) (7 - (Int.tmod k2 8))) 1)
noncomputable abbrev v29q (a0:Rows) (f2:Int):=(Ar.std.bit BinOp.and IntKind.u8 (Ar.std.shr IntKind.u8 (D.int (gt (v29i a0) (Int.toNat (Int.tdiv f2 8)) 0)) (7 - (Int.tmod f2 8))) 1)
structure V29c4 (a0:Rows) (b3:Int) (b4:Int) (j0:Int) (j1:Int) (j2:Int) (I1:Int→Bool→Int→Int→Int→Prop) (I4:Int→Int→Int→Prop) (m4:Int→Int→Int→Nat):Prop where
 g65:(j1 < 31)→(0:Int)≤1
 g66:(j1 < 31)→(8:Int)≠0
 g67:(j1 < 31)→vZ29 ((Int.tdiv j2 8))
 g68:(j1 < 31)→0≤(Int.tdiv j2 8)
 g69:(j1 < 31)→(Int.tdiv j2 8) < (v29b a0)
 g70:(j1 < 31)→(((Int.toNat (Int.tdiv j2 8):Nat):Int)) < (v29b a0)
 g72:(j1 < 31)→vZ29 ((7 - (Int.tmod j2 8)))
 g73:(j1 < 31)→0≤(7 - (Int.tmod j2 8))
 g74:(j1 < 31)→vZ29 ((v29o a0 j2))
 g75:(j1 < 31)→vZ29 ((j2+1))
 g76:(j1 < 31)→vZ29 ((j1+1))
 n77:(j1 < 31)→I4 (Ar.std.bit BinOp.or IntKind.i64 (Ar.std.shl IntKind.i64 j0 1) (v29o a0 j2)) (j1+1) (j2+1)∧m4 (Ar.std.bit BinOp.or IntKind.i64 (Ar.std.shl IntKind.i64 j0 1) (v29o a0 j2)) (j1+1) (j2+1) < m4 j0 j1 j2
 g78:(¬j1 < 31)→vZ29 ((0+j0))
 g79:(¬j1 < 31)→vZ29 ((b3+(0+j0)))
 g80:(¬j1 < 31)→vZ29 ((b4+1))
 g81:(¬j1 < 31)→((b4+1)=64)→(2:Int)≠0
 g82:(¬j1 < 31)→((b4+1)=64)→vZ29 ((Int.tdiv (b3+(0+j0)) 2))
 g84:(¬j1 < 31)→((b4+1)=64)→vZ29 ((Int.tdiv (b4+1) 2))
 g85:(¬j1 < 31)→((b4+1)=64)→vZ29 ((0+j0))
 n86:(¬j1 < 31)→((b4+1)=64)→I1 (0+j0) true j2 (Int.tdiv (b3+(0+j0)) 2) (Int.tdiv (b4+1) 2)
 g87:(¬j1 < 31)→(¬(b4+1)=64)→vZ29 ((0+j0))
 n88:(¬j1 < 31)→(¬(b4+1)=64)→I1 (0+j0) true j2 (b3+(0+j0)) (b4+1)
abbrev V29l4 (a0:Rows) (b3:Int) (b4:Int) (f2:Int) (I1:Int→Bool→Int→Int→Int→Prop):Prop:=∃(I4:Int→Int→Int→Prop) (m4:Int→Int→Int→Nat),I4 0 0 f2∧∀j0 j1 j2,I4 j0 j1 j2→V29c4 a0 b3 b4 j0 j1 j2 I1 I4 m4
structure V29c5 (fn:Nat→List (List D)→Nat→Nat→D) (a0:Rows) (b3:Int) (b4:Int) (e0:Int) (k0:Int) (k1:Int) (k2:Int) (I1:Int→Bool→Int→Int→Int→Prop) (I5:Int→Int→Int→Prop) (m5:Int→Int→Int→Nat):Prop where
 g103:(k1 < (v29e fn b3 b4))→(0:Int)≤1
 g104:(k1 < (v29e fn b3 b4))→(8:Int)≠0
 g105:(k1 < (v29e fn b3 b4))→vZ29 ((Int.tdiv k2 8))
 g106:(k1 < (v29e fn b3 b4))→0≤(Int.tdiv k2 8)
 g107:(k1 < (v29e fn b3 b4))→(Int.tdiv k2 8) < (v29b a0)
 g108:(k1 < (v29e fn b3 b4))→(((Int.toNat (Int.tdiv k2 8):Nat):Int)) < (v29b a0)
 g110:(k1 < (v29e fn b3 b4))→vZ29 ((7 - (Int.tmod k2 8)))
 g111:(k1 < (v29e fn b3 b4))→0≤(7 - (Int.tmod k2 8))
 g112:(k1 < (v29e fn b3 b4))→vZ29 ((v29p a0 k2))
 g113:(k1 < (v29e fn b3 b4))→vZ29 ((k2+1))
 g114:(k1 < (v29e fn b3 b4))→vZ29 ((k1+1))
 n115:(k1 < (v29e fn b3 b4))→I5 (Ar.std.bit BinOp.or IntKind.i64 (Ar.std.shl IntKind.i64 k0 1) (v29p a0 k2)) (k1+1) (k2+1)∧m5 (Ar.std.bit BinOp.or IntKind.i64 (Ar.std.shl IntKind.i64 k0 1) (v29p a0 k2)) (k1+1) (k2+1) < m5 k0 k1 k2
 g116:(¬k1 < (v29e fn b3 b4))→vZ29 (((v29j e0 fn b3 b4)+k0))
 g117:(¬k1 < (v29e fn b3 b4))→vZ29 ((b3+((v29j e0 fn b3 b4)+k0)))
 g118:(¬k1 < (v29e fn b3 b4))→vZ29 ((b4+1))
 g119:(¬k1 < (v29e fn b3 b4))→((b4+1)=64)→(2:Int)≠0
 g120:(¬k1 < (v29e fn b3 b4))→((b4+1)=64)→vZ29 ((Int.tdiv (b3+((v29j e0 fn b3 b4)+k0)) 2))
 g122:(¬k1 < (v29e fn b3 b4))→((b4+1)=64)→vZ29 ((Int.tdiv (b4+1) 2))
 g123:(¬k1 < (v29e fn b3 b4))→((b4+1)=64)→vZ29 (((v29j e0 fn b3 b4)+k0))
 n124:(¬k1 < (v29e fn b3 b4))→((b4+1)=64)→I1 ((v29j e0 fn b3 b4)+k0) true k2 (Int.tdiv (b3+((v29j e0 fn b3 b4)+k0)) 2) (Int.tdiv (b4+1) 2)
 g125:(¬k1 < (v29e fn b3 b4))→(¬(b4+1)=64)→vZ29 (((v29j e0 fn b3 b4)+k0))
 n126:(¬k1 < (v29e fn b3 b4))→(¬(b4+1)=64)→I1 ((v29j e0 fn b3 b4)+k0) true k2 (b3+((v29j e0 fn b3 b4)+k0)) (b4+1)
abbrev V29l5 (fn:Nat→List (List D)→Nat→Nat→D) (a0:Rows) (b3:Int) (b4:Int) (e0:Int) (f2:Int) (I1:Int→Bool→Int→Int→Int→Prop):Prop:=∃(I5:Int→Int→Int→Prop) (m5:Int→Int→Int→Nat),I5 0 0 f2∧∀k0 k1 k2,I5 k0 k1 k2→V29c5 fn a0 b3 b4 e0 k0 k1 k2 I1 I5 m5
structure V29c3 (fn:Nat→List (List D)→Nat→Nat→D) (a0:Rows) (b3:Int) (b4:Int) (e0:Int) (e1:Int) (f0:Int) (f1:Int) (f2:Int) (I1:Int→Bool→Int→Int→Int→Prop) (I2:Int→Int→Prop) (m2:Int→Int→Nat) (I3:Int→Int→Int→Prop) (m3:Int→Int→Int→Nat):Prop where
 g37:(f1 < 1)→(0:Int)≤1
 g38:(f1 < 1)→(8:Int)≠0
 g39:(f1 < 1)→vZ29 ((Int.tdiv f2 8))
 g40:(f1 < 1)→0≤(Int.tdiv f2 8)
 g41:(f1 < 1)→(Int.tdiv f2 8) < (v29b a0)
 g42:(f1 < 1)→(((Int.toNat (Int.tdiv f2 8):Nat):Int)) < (v29b a0)
 g44:(f1 < 1)→vZ29 ((7 - (Int.tmod f2 8)))
 g45:(f1 < 1)→0≤(7 - (Int.tmod f2 8))
 g46:(f1 < 1)→vZ29 ((v29q a0 f2))
 g47:(f1 < 1)→vZ29 ((f2+1))
 g48:(f1 < 1)→vZ29 ((f1+1))
 n49:(f1 < 1)→I3 (Ar.std.bit BinOp.or IntKind.i64 (Ar.std.shl IntKind.i64 f0 1) (v29q a0 f2)) (f1+1) (f2+1)∧m3 (Ar.std.bit BinOp.or IntKind.i64 (Ar.std.shl IntKind.i64 f0 1) (v29q a0 f2)) (f1+1) (f2+1) < m3 f0 f1 f2
 g50:(¬f1 < 1)→(f0=0)→0≤(v29e fn b3 b4)
 g51:(¬f1 < 1)→(f0=0)→(e0=24)→vZ29 ((f2+31))
 g52:(¬f1 < 1)→(f0=0)→(e0=24)→vZ29 ((8 * (v29b a0)))
 g53:(¬f1 < 1)→(f0=0)→(e0=24)→((8 * (v29b a0)) < (f2+31))→vZ29 (((0+0):Int))
 g54:(¬f1 < 1)→(f0=0)→(e0=24)→((8 * (v29b a0)) < (f2+31))→vZ29 ((b3+(0+0)))
 g55:(¬f1 < 1)→(f0=0)→(e0=24)→((8 * (v29b a0)) < (f2+31))→vZ29 ((b4+1))
 g56:(¬f1 < 1)→(f0=0)→(e0=24)→((8 * (v29b a0)) < (f2+31))→((b4+1)=64)→(2:Int)≠0
 g57:(¬f1 < 1)→(f0=0)→(e0=24)→((8 * (v29b a0)) < (f2+31))→((b4+1)=64)→vZ29 ((Int.tdiv (b3+(0+0)) 2))
 g59:(¬f1 < 1)→(f0=0)→(e0=24)→((8 * (v29b a0)) < (f2+31))→((b4+1)=64)→vZ29 ((Int.tdiv (b4+1) 2))
 g60:(¬f1 < 1)→(f0=0)→(e0=24)→((8 * (v29b a0)) < (f2+31))→((b4+1)=64)→vZ29 (((0+0):Int))
 n61:(¬f1 < 1)→(f0=0)→(e0=24)→((8 * (v29b a0)) < (f2+31))→((b4+1)=64)→I1 (0+0) false f2 (Int.tdiv (b3+(0+0)) 2) (Int.tdiv (b4+1) 2)
 g62:(¬f1 < 1)→(f0=0)→(e0=24)→((8 * (v29b a0)) < (f2+31))→(¬(b4+1)=64)→vZ29 (((0+0):Int))
 n63:(¬f1 < 1)→(f0=0)→(e0=24)→((8 * (v29b a0)) < (f2+31))→(¬(b4+1)=64)→I1 (0+0) false f2 (b3+(0+0)) (b4+1)
 g89:(¬f1 < 1)→(f0=0)→(¬e0=24)→vZ29 ((f2+(v29e fn b3 b4)))
 g90:(¬f1 < 1)→(f0=0)→(¬e0=24)→vZ29 ((8 * (v29b a0)))
 g91:(¬f1 < 1)→(f0=0)→(¬e0=24)→((8 * (v29b a0)) < (f2+(v29e fn b3 b4)))→vZ29 (((v29j e0 fn b3 b4)+0))
 g92:(¬f1 < 1)→(f0=0)→(¬e0=24)→((8 * (v29b a0)) < (f2+(v29e fn b3 b4)))→vZ29 ((b3+((v29j e0 fn b3 b4)+0)))
 g93:(¬f1 < 1)→(f0=0)→(¬e0=24)→((8 * (v29b a0)) < (f2+(v29e fn b3 b4)))→vZ29 ((b4+1))
 g94:(¬f1 < 1)→(f0=0)→(¬e0=24)→((8 * (v29b a0)) < (f2+(v29e fn b3 b4)))→((b4+1)=64)→(2:Int)≠0
 g95:(¬f1 < 1)→(f0=0)→(¬e0=24)→((8 * (v29b a0)) < (f2+(v29e fn b3 b4)))→((b4+1)=64)→vZ29 ((Int.tdiv (b3+((v29j e0 fn b3 b4)+0)) 2))
 g97:(¬f1 < 1)→(f0=0)→(¬e0=24)→((8 * (v29b a0)) < (f2+(v29e fn b3 b4)))→((b4+1)=64)→vZ29 ((Int.tdiv (b4+1) 2))
 g98:(¬f1 < 1)→(f0=0)→(¬e0=24)→((8 * (v29b a0)) < (f2+(v29e fn b3 b4)))→((b4+1)=64)→vZ29 (((v29j e0 fn b3 b4)+0))
 n99:(¬f1 < 1)→(f0=0)→(¬e0=24)→((8 * (v29b a0)) < (f2+(v29e fn b3 b4)))→((b4+1)=64)→I1 ((v29j e0 fn b3 b4)+0) false f2 (Int.tdiv (b3+((v29j e0 fn b3 b4)+0)) 2) (Int.tdiv (b4+1) 2)
 g100:(¬f1 < 1)→(f0=0)→(¬e0=24)→((8 * (v29b a0)) < (f2+(v29e fn b3 b4)))→(¬(b4+1)=64)→vZ29 (((v29j e0 fn b3 b4)+0))
 n101:(¬f1 < 1)→(f0=0)→(¬e0=24)→((8 * (v29b a0)) < (f2+(v29e fn b3 b4)))→(¬(b4+1)=64)→I1 ((v29j e0 fn b3 b4)+0) false f2 (b3+((v29j e0 fn b3 b4)+0)) (b4+1)
 g127:(¬f1 < 1)→(¬f0=0)→vZ29 ((e0+1))
 n128:(¬f1 < 1)→(¬f0=0)→I2 (e0+1) f2∧m2 (e0+1) f2 < m2 e0 e1
 l4:(¬f1 < 1)→(f0=0)→(e0=24)→(¬(8 * (v29b a0)) < (f2+31))→V29l4 a0 b3 b4 f2 I1
 l5:(¬f1 < 1)→(f0=0)→(¬e0=24)→(¬(8 * (v29b a0)) < (f2+(v29e fn b3 b4)))→V29l5 fn a0 b3 b4 e0 f2 I1
abbrev V29l3 (fn:Nat→List (List D)→Nat→Nat→D) (a0:Rows) (b3:Int) (b4:Int) (e0:Int) (e1:Int) (I1:Int→Bool→Int→Int→Int→Prop) (I2:Int→Int→Prop) (m2:Int→Int→Nat):Prop:=∃(I3:Int→Int→Int→Prop) (m3:Int→Int→Int→Nat),I3 0 0 e1∧∀f0 f1 f2,I3 f0 f1 f2→V29c3 fn a0 b3 b4 e0 e1 f0 f1 f2 I1 I2 m2 I3 m3
structure V29c2 (fn:Nat→List (List D)→Nat→Nat→D) (a0:Rows) (b3:Int) (b4:Int) (e0:Int) (e1:Int) (I1:Int→Bool→Int→Int→Int→Prop) (I2:Int→Int→Prop) (m2:Int→Int→Nat):Prop where
 g33:(e0 < 24)→vZ29 ((e1+1))
 g34:(e0 < 24)→vZ29 ((8 * (v29b a0)))
 n35:(e0 < 24)→((8 * (v29b a0)) < (e1+1))→I1 0 false e1 b3 b4
 g129:(¬e0 < 24)→0≤(v29e fn b3 b4)
 g130:(¬e0 < 24)→(e0=24)→vZ29 ((e1+31))
 g131:(¬e0 < 24)→(e0=24)→vZ29 ((8 * (v29b a0)))
 g132:(¬e0 < 24)→(e0=24)→((8 * (v29b a0)) < (e1+31))→vZ29 (((0+0):Int))
 g133:(¬e0 < 24)→(e0=24)→((8 * (v29b a0)) < (e1+31))→vZ29 ((b3+(0+0)))
 g134:(¬e0 < 24)→(e0=24)→((8 * (v29b a0)) < (e1+31))→vZ29 ((b4+1))
 g135:(¬e0 < 24)→(e0=24)→((8 * (v29b a0)) < (e1+31))→((b4+1)=64)→(2:Int)≠0
 g136:(¬e0 < 24)→(e0=24)→((8 * (v29b a0)) < (e1+31))→((b4+1)=64)→vZ29 ((Int.tdiv (b3+(0+0)) 2))
 g138:(¬e0 < 24)→(e0=24)→((8 * (v29b a0)) < (e1+31))→((b4+1)=64)→vZ29 ((Int.tdiv (b4+1) 2))
 g139:(¬e0 < 24)→(e0=24)→((8 * (v29b a0)) < (e1+31))→((b4+1)=64)→vZ29 (((0+0):Int))
 n140:(¬e0 < 24)→(e0=24)→((8 * (v29b a0)) < (e1+31))→((b4+1)=64)→I1 (0+0) false e1 (Int.tdiv (b3+(0+0)) 2) (Int.tdiv (b4+1) 2)
 g141:(¬e0 < 24)→(e0=24)→((8 * (v29b a0)) < (e1+31))→(¬(b4+1)=64)→vZ29 (((0+0):Int))
 n142:(¬e0 < 24)→(e0=24)→((8 * (v29b a0)) < (e1+31))→(¬(b4+1)=64)→I1 (0+0) false e1 (b3+(0+0)) (b4+1)
 g168:(¬e0 < 24)→(¬e0=24)→vZ29 ((e1+(v29e fn b3 b4)))
 g169:(¬e0 < 24)→(¬e0=24)→vZ29 ((8 * (v29b a0)))
 g170:(¬e0 < 24)→(¬e0=24)→((8 * (v29b a0)) < (e1+(v29e fn b3 b4)))→vZ29 (((v29j e0 fn b3 b4)+0))
 g171:(¬e0 < 24)→(¬e0=24)→((8 * (v29b a0)) < (e1+(v29e fn b3 b4)))→vZ29 ((b3+((v29j e0 fn b3 b4)+0)))
 g172:(¬e0 < 24)→(¬e0=24)→((8 * (v29b a0)) < (e1+(v29e fn b3 b4)))→vZ29 ((b4+1))
 g173:(¬e0 < 24)→(¬e0=24)→((8 * (v29b a0)) < (e1+(v29e fn b3 b4)))→((b4+1)=64)→(2:Int)≠0
 g174:(¬e0 < 24)→(¬e0=24)→((8 * (v29b a0)) < (e1+(v29e fn b3 b4)))→((b4+1)=64)→vZ29 ((Int.tdiv (b3+((v29j e0 fn b3 b4)+0)) 2))
 g176:(¬e0 < 24)→(¬e0=24)→((8 * (v29b a0)) < (e1+(v29e fn b3 b4)))→((b4+1)=64)→vZ29 ((Int.tdiv (b4+1) 2))
 g177:(¬e0 < 24)→(¬e0=24)→((8 * (v29b a0)) < (e1+(v29e fn b3 b4)))→((b4+1)=64)→vZ29 (((v29j e0 fn b3 b4)+0))
 n178:(¬e0 < 24)→(¬e0=24)→((8 * (v29b a0)) < (e1+(v29e fn b3 b4)))→((b4+1)=64)→I1 ((v29j e0 fn b3 b4)+0) false e1 (Int.tdiv (b3+((v29j e0 fn b3 b4)+0)) 2) (Int.tdiv (b4+1) 2)
 g179:(¬e0 < 24)→(¬e0=24)→((8 * (v29b a0)) < (e1+(v29e fn b3 b4)))→(¬(b4+1)=64)→vZ29 (((v29j e0 fn b3 b4)+0))
 n180:(¬e0 < 24)→(¬e0=24)→((8 * (v29b a0)) < (e1+(v29e fn b3 b4)))→(¬(b4+1)=64)→I1 ((v29j e0 fn b3 b4)+0) false e1 (b3+((v29j e0 fn b3 b4)+0)) (b4+1)
 l3:(e0 < 24)→(¬(8 * (v29b a0)) < (e1+1))→V29l3 fn a0 b3 b4 e0 e1 I1 I2 m2
 l6:(¬e0 < 24)→(e0=24)→(¬(8 * (v29b a0)) < (e1+31))→V29l4 a0 b3 b4 e1 I1
 l7:(¬e0 < 24)→(¬e0=24)→(¬(8 * (v29b a0)) < (e1+(v29e fn b3 b4)))→V29l5 fn a0 b3 b4 e0 e1 I1
abbrev V29l2 (fn:Nat→List (List D)→Nat→Nat→D) (a0:Rows) (b2:Int) (b3:Int) (b4:Int) (I1:Int→Bool→Int→Int→Int→Prop):Prop:=∃(I2:Int→Int→Prop) (m2:Int→Int→Nat),I2 0 b2∧∀e0 e1,I2 e0 e1→V29c2 fn a0 b3 b4 e0 e1 I1 I2 m2
structure V29r1 (pre:Nat→List (List D)→Prop) (fn:Nat→List (List D)→Nat→Nat→D) (a0:Rows) (b2:Int) (b3:Int) (b4:Int) (I1:Int→Bool→Int→Int→Int→Prop):Prop where
 g31:pre 92 [[D.i b3,D.i b4]]
 l2:V29l2 fn a0 b2 b3 b4 I1
structure V29c8 (pre:Nat→List (List D)→Prop) (fn:Nat→List (List D)→Nat→Nat→D) (R:Nat→Nat→D) (b0:Rows) (b1:Int) (b2:Int) (b3:Int) (b4:Int) (b5:Int) (b6:Int) (d0:Int) (d1:Bool) (d3:Int) (d4:Int) (r0:Int) (r1:Bool) (r2:Int) (r3:Int) (r4:Int) (I0:Rows→Int→Int→Int→Int→Int→Int→Prop) (m0:Rows→Int→Int→Int→Int→Int→Int→Nat):Prop where
 g382:(0 < (b0.length:Int))→vZ29 (((b0.length:Int) - 1))
 g383:(0 < (b0.length:Int))→0≤((b0.length:Int) - 1)
 g384:(0 < (b0.length:Int))→((b0.length:Int) - 1) < (b0.length:Int)
 g385:(0 < (b0.length:Int))→(((Int.toNat ((b0.length:Int) - 1):Nat):Int)) < (b0.length:Int)
 g387:(0 < (b0.length:Int))→vZ29 ((v29f d0 b0))
 g388:(0 < (b0.length:Int))→(d0=0)→vZ29 (((b0.length:Int) - 1))
 g389:(0 < (b0.length:Int))→(d0=0)→0≤((b0.length:Int) - 1)
 g390:(0 < (b0.length:Int))→(d0=0)→((b0.length:Int) - 1) < (b0.length:Int)
 g391:(0 < (b0.length:Int))→(d0=0)→(((Int.toNat ((b0.length:Int) - 1):Nat):Int)) < (b0.length:Int)
 g393:(0 < (b0.length:Int))→(d0=0)→vZ29 ((v29k b0))
 g394:(0 < (b0.length:Int))→(d0=0)→vZ29 ((r0+(v29k b0)))
 g395:(0 < (b0.length:Int))→(d0=0)→(d1=false)→R 0 0=D.l []
 g396:(0 < (b0.length:Int))→(d0=0)→(d1=false)→R 1 0=D.i 7
 g397:(0 < (b0.length:Int))→(d0=0)→(d1=true)→(r1=false)→R 0 0=D.l []
 g398:(0 < (b0.length:Int))→(d0=0)→(d1=true)→(r1=false)→R 1 0=D.i 7
 g399:(0 < (b0.length:Int))→(d0=0)→(d1=true)→(r1=true)→pre 71 [[D.l b0],[D.i (v29f d0 b0),D.i (r0+(v29k b0))]]
 g400:(0 < (b0.length:Int))→(d0=0)→(d1=true)→(r1=true)→(¬(D.int (fn 71 [[D.l b0],[D.i (v29f d0 b0),D.i (r0+(v29k b0))]] 0 0))=0)→R 0 0=D.l []
 g401:(0 < (b0.length:Int))→(d0=0)→(d1=true)→(r1=true)→(¬(D.int (fn 71 [[D.l b0],[D.i (v29f d0 b0),D.i (r0+(v29k b0))]] 0 0))=0)→R 1 0=D.i 7
 g402:(0 < (b0.length:Int))→(d0=0)→(d1=true)→(r1=true)→((D.int (fn 71 [[D.l b0],[D.i (v29f d0 b0),D.i (r0+(v29k b0))]] 0 0))=0)→(b0.length+(List.length ([[D.i (v29f d0 b0),D.i (r0+(v29k b0))]]:Rows))) * 16≤4294967296∧(b0.length+(List.length ([[D.i (v29f d0 b0),D.i (r0+(v29k b0))]]:Rows)))≤4294967296
 g403:(0 < (b0.length:Int))→(d0=0)→(d1=true)→(r1=true)→((D.int (fn 71 [[D.l b0],[D.i (v29f d0 b0),D.i (r0+(v29k b0))]] 0 0))=0)→vZ29 ((b1+1))
 n404:(0 < (b0.length:Int))→(d0=0)→(d1=true)→(r1=true)→((D.int (fn 71 [[D.l b0],[D.i (v29f d0 b0),D.i (r0+(v29k b0))]] 0 0))=0)→I0 (b0++[[D.i (v29f d0 b0),D.i (r0+(v29k b0))]]) (b1+1) r2 d3 d4 r3 r4∧m0 (b0++[[D.i (v29f d0 b0),D.i (r0+(v29k b0))]]) (b1+1) r2 d3 d4 r3 r4 < m0 b0 b1 b2 b3 b4 b5 b6
 g405:(0 < (b0.length:Int))→(¬d0=0)→(d1=false)→R 0 0=D.l []
 g406:(0 < (b0.length:Int))→(¬d0=0)→(d1=false)→R 1 0=D.i 7
 g407:(0 < (b0.length:Int))→(¬d0=0)→(d1=true)→(r1=false)→R 0 0=D.l []
 g408:(0 < (b0.length:Int))→(¬d0=0)→(d1=true)→(r1=false)→R 1 0=D.i 7
 g409:(0 < (b0.length:Int))→(¬d0=0)→(d1=true)→(r1=true)→pre 71 [[D.l b0],[D.i (v29f d0 b0),D.i r0]]
 g410:(0 < (b0.length:Int))→(¬d0=0)→(d1=true)→(r1=true)→(¬(D.int (fn 71 [[D.l b0],[D.i (v29f d0 b0),D.i r0]] 0 0))=0)→R 0 0=D.l []
 g411:(0 < (b0.length:Int))→(¬d0=0)→(d1=true)→(r1=true)→(¬(D.int (fn 71 [[D.l b0],[D.i (v29f d0 b0),D.i r0]] 0 0))=0)→R 1 0=D.i 7
 g412:(0 < (b0.length:Int))→(¬d0=0)→(d1=true)→(r1=true)→((D.int (fn 71 [[D.l b0],[D.i (v29f d0 b0),D.i r0]] 0 0))=0)→(b0.length+(List.length ([[D.i (v29f d0 b0),D.i r0]]:Rows))) * 16≤4294967296∧(b0.length+(List.length ([[D.i (v29f d0 b0),D.i r0]]:Rows)))≤4294967296
 g413:(0 < (b0.length:Int))→(¬d0=0)→(d1=true)→(r1=true)→((D.int (fn 71 [[D.l b0],[D.i (v29f d0 b0),D.i r0]] 0 0))=0)→vZ29 ((b1+1))
 n414:(0 < (b0.length:Int))→(¬d0=0)→(d1=true)→(r1=true)→((D.int (fn 71 [[D.l b0],[D.i (v29f d0 b0),D.i r0]] 0 0))=0)→I0 (b0++[[D.i (v29f d0 b0),D.i r0]]) (b1+1) r2 d3 d4 r3 r4∧m0 (b0++[[D.i (v29f d0 b0),D.i r0]]) (b1+1) r2 d3 d4 r3 r4 < m0 b0 b1 b2 b3 b4 b5 b6
 g415:(¬0 < (b0.length:Int))→(d1=false)→R 0 0=D.l []
 g416:(¬0 < (b0.length:Int))→(d1=false)→R 1 0=D.i 7
 g417:(¬0 < (b0.length:Int))→(d1=true)→(r1=false)→R 0 0=D.l []
 g418:(¬0 < (b0.length:Int))→(d1=true)→(r1=false)→R 1 0=D.i 7
 g419:(¬0 < (b0.length:Int))→(d1=true)→(r1=true)→pre 71 [[D.l b0],[D.i d0,D.i r0]]
 g420:(¬0 < (b0.length:Int))→(d1=true)→(r1=true)→(¬(D.int (fn 71 [[D.l b0],[D.i d0,D.i r0]] 0 0))=0)→R 0 0=D.l []
 g421:(¬0 < (b0.length:Int))→(d1=true)→(r1=true)→(¬(D.int (fn 71 [[D.l b0],[D.i d0,D.i r0]] 0 0))=0)→R 1 0=D.i 7
 g422:(¬0 < (b0.length:Int))→(d1=true)→(r1=true)→((D.int (fn 71 [[D.l b0],[D.i d0,D.i r0]] 0 0))=0)→(b0.length+(List.length ([[D.i d0,D.i r0]]:Rows))) * 16≤4294967296∧(b0.length+(List.length ([[D.i d0,D.i r0]]:Rows)))≤4294967296
 g423:(¬0 < (b0.length:Int))→(d1=true)→(r1=true)→((D.int (fn 71 [[D.l b0],[D.i d0,D.i r0]] 0 0))=0)→vZ29 ((b1+1))
 n424:(¬0 < (b0.length:Int))→(d1=true)→(r1=true)→((D.int (fn 71 [[D.l b0],[D.i d0,D.i r0]] 0 0))=0)→I0 (b0++[[D.i d0,D.i r0]]) (b1+1) r2 d3 d4 r3 r4∧m0 (b0++[[D.i d0,D.i r0]]) (b1+1) r2 d3 d4 r3 r4 < m0 b0 b1 b2 b3 b4 b5 b6
abbrev V29j8 (pre:Nat→List (List D)→Prop) (fn:Nat→List (List D)→Nat→Nat→D) (a0:Rows) (R:Nat→Nat→D) (b0:Rows) (b1:Int) (b2:Int) (b3:Int) (b4:Int) (b5:Int) (b6:Int) (d0:Int) (d1:Bool) (d2:Int) (d3:Int) (d4:Int) (I0:Rows→Int→Int→Int→Int→Int→Int→Prop) (m0:Rows→Int→Int→Int→Int→Int→Int→Nat):Prop:=∃(I8:Int→Bool→Int→Int→Int→Prop),V29r1 pre fn a0 d2 b5 b6 I8∧∀r0 r1 r2 r3 r4,I8 r0 r1 r2 r3 r4→V29c8 pre fn R b0 b1 b2 b3 b4 b5 b6 d0 d1 d3 d4 r0 r1 r2 r3 r4 I0 m0
structure V29c1 (pre:Nat→List (List D)→Prop) (fn:Nat→List (List D)→Nat→Nat→D) (a0:Rows) (R:Nat→Nat→D) (b0:Rows) (b1:Int) (b2:Int) (b3:Int) (b4:Int) (b5:Int) (b6:Int) (d0:Int) (d1:Bool) (d2:Int) (d3:Int) (d4:Int) (I0:Rows→Int→Int→Int→Int→Int→Int→Prop) (m0:Rows→Int→Int→Int→Int→Int→Int→Nat):Prop where
 l8:V29j8 pre fn a0 R b0 b1 b2 b3 b4 b5 b6 d0 d1 d2 d3 d4 I0 m0
abbrev V29j1 (pre:Nat→List (List D)→Prop) (fn:Nat→List (List D)→Nat→Nat→D) (a0:Rows) (R:Nat→Nat→D) (b0:Rows) (b1:Int) (b2:Int) (b3:Int) (b4:Int) (b5:Int) (b6:Int) (I0:Rows→Int→Int→Int→Int→Int→Int→Prop) (m0:Rows→Int→Int→Int→Int→Int→Int→Nat):Prop:=∃(I1:Int→Bool→Int→Int→Int→Prop),V29r1 pre fn a0 b2 b3 b4 I1∧∀d0 d1 d2 d3 d4,I1 d0 d1 d2 d3 d4→V29c1 pre fn a0 R b0 b1 b2 b3 b4 b5 b6 d0 d1 d2 d3 d4 I0 m0
structure V29c0 (pre:Nat→List (List D)→Prop) (fn:Nat→List (List D)→Nat→Nat→D) (a0:Rows) (R:Nat→Nat→D) (b0:Rows) (b1:Int) (b2:Int) (b3:Int) (b4:Int) (b5:Int) (b6:Int) (I0:Rows→Int→Int→Int→Int→Int→Int→Prop) (m0:Rows→Int→Int→Int→Int→Int→Int→Nat):Prop where
 g425:(¬b1 < (v29d a0))→(65536 < (b0.length:Int))→R 0 0=D.l []
 g426:(¬b1 < (v29d a0))→(65536 < (b0.length:Int))→R 1 0=D.i 7
 g427:(¬b1 < (v29d a0))→(¬65536 < (b0.length:Int))→pre 63 [[D.l b0]]
 g428:(¬b1 < (v29d a0))→(¬65536 < (b0.length:Int))→pre 72 [[D.l (D.rows (fn 63 [[D.l b0]] 0 0))],[D.l a0]]
 g429:(¬b1 < (v29d a0))→(¬65536 < (b0.length:Int))→(D.boo (fn 72 [[D.l (D.rows (fn 63 [[D.l b0]] 0 0))],[D.l a0]] 0 0)=false)→R 0 0=D.l []
 g430:(¬b1 < (v29d a0))→(¬65536 < (b0.length:Int))→(D.boo (fn 72 [[D.l (D.rows (fn 63 [[D.l b0]] 0 0))],[D.l a0]] 0 0)=false)→R 1 0=D.i 7
 g431:(¬b1 < (v29d a0))→(¬65536 < (b0.length:Int))→(D.boo (fn 72 [[D.l (D.rows (fn 63 [[D.l b0]] 0 0))],[D.l a0]] 0 0)=true)→R 0 0=D.l b0
 g432:(¬b1 < (v29d a0))→(¬65536 < (b0.length:Int))→(D.boo (fn 72 [[D.l (D.rows (fn 63 [[D.l b0]] 0 0))],[D.l a0]] 0 0)=true)→R 1 0=D.i 0
 l1:(b1 < (v29d a0))→V29j1 pre fn a0 R b0 b1 b2 b3 b4 b5 b6 I0 m0
abbrev V29l0 (pre:Nat→List (List D)→Prop) (fn:Nat→List (List D)→Nat→Nat→D) (a0:Rows) (R:Nat→Nat→D):Prop:=∃(I0:Rows→Int→Int→Int→Int→Int→Int→Prop) (m0:Rows→Int→Int→Int→Int→Int→Int→Nat),I0 [] 0 0 4 1 4 1∧∀b0 b1 b2 b3 b4 b5 b6,I0 b0 b1 b2 b3 b4 b5 b6→V29c0 pre fn a0 R b0 b1 b2 b3 b4 b5 b6 I0 m0
structure V29 (pre:Nat→List (List D)→Prop) (fn:Nat→List (List D)→Nat→Nat→D) (a0:Rows) (R:Nat→Nat→D):Prop where
 g0:vZ29 (((a0.length:Int) - 2))
 g1:(((a0.length:Int) - 2) < 5)→R 0 0=D.l []
 g2:(((a0.length:Int) - 2) < 5)→R 1 0=D.i 19
 g3:(v29l a0)→0≤((a0.length:Int) - 2)
 g4:(v29l a0)→((a0.length:Int) - 2)≤(a0.length:Int)
 g5:(v29l a0)→(((2:Nat):Int))≤((((v29a a0)).length:Int))
 g6:(v29l a0)→(((0:Nat):Int)) < ((([[gt (v29a a0) 0 0,gt (v29a a0) 1 0]]).length:Int))
 g9:(v29l a0)→pre 67 [[D.l (v29c a0)]]
 g10:(v29l a0)→((¬(v29g a0)=(v29m fn a0))∨(¬(v29h a0)=(v29n fn a0)))→R 0 0=D.l []
 g11:(v29l a0)→((¬(v29g a0)=(v29m fn a0))∨(¬(v29h a0)=(v29n fn a0)))→R 1 0=D.i 18
 g12:(v29l a0)→((v29g a0)=(v29m fn a0)∧(v29h a0)=(v29n fn a0))→(0:Int)≤5
 g13:(v29l a0)→((v29g a0)=(v29m fn a0)∧(v29h a0)=(v29n fn a0))→5≤((a0.length:Int) - 2)
 g14:(v29l a0)→((v29g a0)=(v29m fn a0)∧(v29h a0)=(v29n fn a0))→((a0.length:Int) - 2)≤(a0.length:Int)
 g15:(v29l a0)→((v29g a0)=(v29m fn a0)∧(v29h a0)=(v29n fn a0))→(0:Int)≤2
 g16:(v29l a0)→((v29g a0)=(v29m fn a0)∧(v29h a0)=(v29n fn a0))→2 < (a0.length:Int)
 g17:(v29l a0)→((v29g a0)=(v29m fn a0)∧(v29h a0)=(v29n fn a0))→(((Int.toNat 2:Nat):Int)) < (a0.length:Int)
 g18:(v29l a0)→((v29g a0)=(v29m fn a0)∧(v29h a0)=(v29n fn a0))→vZ29 ((D.int (gt a0 (Int.toNat 2) 0)))
 g19:(v29l a0)→((v29g a0)=(v29m fn a0)∧(v29h a0)=(v29n fn a0))→(0:Int)≤16
 g20:(v29l a0)→((v29g a0)=(v29m fn a0)∧(v29h a0)=(v29n fn a0))→(0:Int)≤3
 g21:(v29l a0)→((v29g a0)=(v29m fn a0)∧(v29h a0)=(v29n fn a0))→3 < (a0.length:Int)
 g22:(v29l a0)→((v29g a0)=(v29m fn a0)∧(v29h a0)=(v29n fn a0))→(((Int.toNat 3:Nat):Int)) < (a0.length:Int)
 g23:(v29l a0)→((v29g a0)=(v29m fn a0)∧(v29h a0)=(v29n fn a0))→vZ29 ((D.int (gt a0 (Int.toNat 3) 0)))
 g24:(v29l a0)→((v29g a0)=(v29m fn a0)∧(v29h a0)=(v29n fn a0))→(0:Int)≤8
 g25:(v29l a0)→((v29g a0)=(v29m fn a0)∧(v29h a0)=(v29n fn a0))→(0:Int)≤4
 g26:(v29l a0)→((v29g a0)=(v29m fn a0)∧(v29h a0)=(v29n fn a0))→4 < (a0.length:Int)
 g27:(v29l a0)→((v29g a0)=(v29m fn a0)∧(v29h a0)=(v29n fn a0))→(((Int.toNat 4:Nat):Int)) < (a0.length:Int)
 g28:(v29l a0)→((v29g a0)=(v29m fn a0)∧(v29h a0)=(v29n fn a0))→vZ29 ((D.int (gt a0 (Int.toNat 4) 0)))
 l0:(v29l a0)→((v29g a0)=(v29m fn a0)∧(v29h a0)=(v29n fn a0))→V29l0 pre fn a0 R
end HX

namespace HX
open Go Go.Proofs CX
def tkN (d:Rows):Nat→Int→Nat→Int
 |0,v,_=>v
 |n+1,v,p=>tkN d n (2 * v+bAt d p) (p+1)
def rdU (d:Rows):Nat→Nat→Option (Nat×Nat)
 |0,p=>some (24,p)
 |f+1,p=>if 8 * d.length < p+1 then none else if bAt d p=0 then some (23 - f,p+1) else rdU d f (p+1)
noncomputable def rdS (d:Rows) (m:Int×Int) (p:Nat):Option (Int×Nat):=
 match rdU d 24 p with
 |none=>none
 |some (q,p)=>if q=24 then (if 8 * d.length < p+31 then none else some (tkN d 31 0 p,p+31))
  else (if 8 * d.length < p+lowK m then none else some ((q:Int) * 2 ^ lowK m+tkN d (lowK m) 0 p,p+lowK m))
structure TI (d:Rows) (N:Nat) (p:Nat) (v t at_:Int):Prop where
 t0:0≤t
 t1:t≤N
 pl:at_=p+t
 v0:0≤v
 v1:v < 2 ^ t.toNat
 to:tkN d (N - t.toNat) v at_.toNat=tkN d N 0 p
theorem TI.start (d:Rows) (N p:Nat):TI d N p 0 0 p:=⟨by omega,by omega,by omega,by omega,by decide,rfl⟩
theorem TI.step {d:Rows} {N p:Nat} {v t at_:Int} (h:TI d N p v t at_) (ht:t < N):TI d N p (2 * v+bAt d at_.toNat) (t+1) (at_+1):=by
 obtain ⟨h1,h2,h3,h4,h5,h6⟩:=h
 have hb:=bAt_rng d at_.toNat
 refine ⟨by omega,by omega,by omega,by omega,?_,?_⟩
 ·rw [show (t+1).toNat=t.toNat+1 by omega,Int.pow_succ];omega
 ·rw [←h6,show N - t.toNat=(N - (t+1).toNat)+1 by omega,tkN,show (at_+1).toNat=at_.toNat+1 by omega]
theorem TI.stop {d:Rows} {N p:Nat} {v t at_:Int} (h:TI d N p v t at_) (ht:¬t < N):v=tkN d N 0 p∧at_=p+N:=by
 obtain ⟨h1,h2,h3,h4,h5,h6⟩:=h
 rw [show N - t.toNat=0 by omega] at h6
 exact ⟨h6,by omega⟩
theorem TI.bd {d:Rows} {N p:Nat} {v t at_:Int} (h:TI d N p v t at_) (hN:N≤31):v≤2147483647:=by
 have h5:=h.v1
 have:(2:Nat) ^ t.toNat≤2 ^ 31:=Nat.pow_le_pow_right (by omega) (by have:=h.t1;omega)
 have e:(2:Int) ^ t.toNat=((2 ^ t.toNat:Nat):Int):=by rw [Int.natCast_pow];rfl
 omega
theorem bit_eq {d:Rows} (hb:byL d) {p:Int} (h0:0≤p) (h1:p < 8 * d.length) :
  (0≤Int.tdiv p 8∧Int.tdiv p 8 < d.length)∧(0≤7 - Int.tmod p 8∧7 - Int.tmod p 8≤7)∧
  Ar.std.bit .and .u8 (Ar.std.shr .u8 (gt d (Int.tdiv p 8).toNat 0).int (7 - Int.tmod p 8)) 1=bAt d p.toNat:=by
 rw [Int.tdiv_eq_ediv_of_nonneg h0,Int.tmod_eq_emod_of_nonneg h0]
 have hx:=hb (p.toNat / 8) (by omega)
 refine ⟨by omega,by omega,?_⟩
 rw [show (p / 8).toNat=p.toNat / 8 by omega]
 show _=(gt d (p.toNat / 8) 0).int / 2 ^ (7 - p.toNat % 8) % 2
 generalize (gt d (p.toNat / 8) 0).int=x at hx
 have e:(7 - p % 8:Int)=((7 - p.toNat % 8:Nat):Int):=by omega
 rw [e,shr_u8 (by omega)]
 have h2:0≤x / 2 ^ (7 - p.toNat % 8)∧x / 2 ^ (7 - p.toNat % 8)≤x:=
  ⟨Int.ediv_nonneg hx.1 (Int.le_of_lt (Int.pow_pos (by omega))),Int.ediv_le_self _ hx.1⟩
 rw [and1_u8 h2.1 (by omega)]
structure RJ (d:Rows) (m:Int×Int) (p:Nat) (v:Int) (ok:Bool) (at_ a n:Int):Prop where
 lo:(p:Int)≤at_
 hi:at_≤8 * d.length
 mo:MOk (a,n)
 v0:0≤v
 v1:v≤4294967296
 y:ok=true→rdS d m p=some (v,at_.toNat)∧(a,n)=lrn m v∧(p:Int)+1≤at_
 no:ok=false→rdS d m p=none
end HX

namespace HX
open Go Go.Proofs CX
theorem folE_0 {l:Rows} {t i:Int} (h:folE l t i=0):(0≤t∧t≤1073741824)∧(0≤i∧i≤65535)∧(0 < l.length→eT l (l.length - 1) < t∨(eT l (l.length - 1)=t∧eI l (l.length - 1) < i)):=by
 unfold folE at h
 split at h
 ·omega
 ·rename_i h1
  have h1:inB t 0 1073741824=true∧inB i 0 65535=true:=Classical.not_not.1 h1
  have a:=of_decide_eq_true h1.1
  have b:=of_decide_eq_true h1.2
  split at h
  ·omega
  ·rename_i h2
   refine ⟨a,b,fun hl=>?_⟩
   have h3:¬0≤cmpE (eT l (l.length - 1)) (eI l (l.length - 1)) t i:=fun h=>h2 ⟨hl,h⟩
   simp only [cmpE,cmpI] at h3
   split at h3<;>(split at h3<;>(try split at h3))<;>(try omega)
   all_goals (repeat' (split at h3))<;>omega
theorem folE_of {l:Rows} {t i:Int} (h1:0≤t∧t≤1073741824) (h2:0≤i∧i≤65535) (h3:0 < l.length→eT l (l.length - 1) < t∨(eT l (l.length - 1)=t∧eI l (l.length - 1) < i)):folE l t i=0:=by
 have a:inB t 0 1073741824=true:=decide_eq_true h1
 have b:inB i 0 65535=true:=decide_eq_true h2
 rw [folE,if_neg fun h=>h ⟨a,b⟩,if_neg]
 intro ⟨hl,h⟩
 have h3:=h3 hl
 simp only [cmpE,cmpI] at h
 repeat' (split at h)
 all_goals omega
theorem ev_nil:EvOk' []:=⟨fun i h=>by simp at h,fun i h=>by simp at h,fun i h=>by simp at h⟩
theorem gt_eq (l:Rows) (i c:Nat):gt l i c=((l[i]?).getD []).getD c .nil:=by
 show (l.getD i []).getD c .nil=_
 rw [List.getD_eq_getElem?_getD (l:=l)]
theorem gtA {l:Rows} {x:List D} {i c:Nat} (h:i < l.length):gt (l++[x]) i c=gt l i c:=by
 rw [gt_eq,gt_eq,List.getElem?_append_left h]
theorem gtN {l:Rows} {x:List D} {c:Nat}:gt (l++[x]) l.length c=x.getD c .nil:=by
 rw [gt_eq,List.getElem?_append_right (Nat.le_refl _),Nat.sub_self]
 rfl
theorem gt_take {l:Rows} {n i c:Nat} (h:i < n):gt (l.take n) i c=gt l i c:=by
 rw [gt_eq,gt_eq,List.getElem?_take,if_pos h]
theorem EvOk'.push {l:Rows} (h:EvOk' l) {t i:Int} (e:folE l t i=0):EvOk' (l++[[.i t,.i i]]):=by
 obtain ⟨e1,e2,e3⟩:=folE_0 e
 have oldT:∀j,j < l.length→eT (l++[[D.i t,D.i i]]) j=eT l j:=fun j hj=>by unfold eT;rw [gtA hj]
 have oldI:∀j,j < l.length→eI (l++[[D.i t,D.i i]]) j=eI l j:=fun j hj=>by unfold eI;rw [gtA hj]
 have newT:eT (l++[[D.i t,D.i i]]) l.length=t:=by unfold eT;rw [gtN];rfl
 have newI:eI (l++[[D.i t,D.i i]]) l.length=i:=by unfold eI;rw [gtN];rfl
 have len:(l++[[D.i t,D.i i]]).length=l.length+1:=by simp
 refine ⟨fun j hj=>?_,fun j hj=>?_,fun j hj=>?_⟩<;>rw [len] at hj
 ·by_cases e:j=l.length
  ·rw [e,newT];exact e1
  ·rw [oldT j (by omega)];exact h.rt j (by omega)
 ·by_cases e:j=l.length
  ·rw [e,newI];exact e2
  ·rw [oldI j (by omega)];exact h.ri j (by omega)
 ·by_cases e:j+1=l.length
  ·rw [e,newT,newI,oldT j (by omega),oldI j (by omega),show j=l.length - 1 by omega]
   exact e3 (by omega)
  ·rw [oldT j (by omega),oldI j (by omega),oldT (j+1) (by omega),oldI (j+1) (by omega)]
   exact h.up j (by omega)
end HX

namespace HX
open Go Go.Proofs CX
structure Wb (s:Rows×Int):Prop where
 wf:Wf s
 by_:byL s.1
 z:(gt s.1 (s.1.length - 1) 0).int % 2 ^ s.2.toNat=0
theorem gt_set {o:Rows} {i j:Nat} {x:List D} (h:i < o.length):gt (o.set i x) j 0=if j=i then x.getD 0 .nil else gt o j 0:=by
 rw [gt_eq,gt_eq]
 by_cases e:j=i
 ·subst e
  rw [if_pos rfl,List.getElem?_set_self h];rfl
 ·rw [if_neg e,List.getElem?_set_ne (fun h=>e h.symm)]
theorem orL_eq {o:Rows} (hp:0 < o.length) {b:Int} {s:Nat} (hs:s≤7) (hb:byL o) (h3:(gt o (o.length - 1) 0).int % 2 ^ (s+1)=0) (b0:0≤b) (b1:b≤1) :
  orL o b s=o.set (o.length - 1) [.i ((gt o (o.length - 1) 0).int+b * 2 ^ s)]:=by
 have h:=hb (o.length - 1) (by omega)
 rw [orL,show ((o.length:Int) - 1).toNat=o.length - 1 by omega,or_u8 hs h.1 h.2 h3 b0 b1]
theorem pw:(2:Int) ^ 0=1∧(2:Int) ^ 1=2∧(2:Int) ^ 2=4∧(2:Int) ^ 3=8∧(2:Int) ^ 4=16∧(2:Int) ^ 5=32∧(2:Int) ^ 6=64∧(2:Int) ^ 7=128∧(2:Int) ^ 8=256:=by decide
theorem put1_ok {s:Rows×Int} (h:Wb s) {v k:Int} (hv:0≤v) (hv2:v≤9223372036854775807) (hk:0≤k) (hk2:k≤64) :
  Wb (put1 s v k)∧(∀p:Nat,(p:Int) < bitsN s→bAt (put1 s v k).1 p=bAt s.1 p)∧bAt (put1 s v k).1 (bitsN s).toNat=v / 2 ^ k.toNat % 2∧(∀i,i+1 < s.1.length∨(i < s.1.length∧s.2=0)→gt (put1 s v k).1 i 0=gt s.1 i 0):=by
 obtain ⟨⟨h1,h2,h3⟩,hb,hz⟩:=h
 obtain ⟨w1,w2⟩:=put1_wf ⟨h1,h2,h3⟩ v k
 obtain ⟨o,r⟩:=s
 simp only [] at h1 h2 h3 hb hz
 have eb:=bitB_eq hv hv2 hk hk2
 obtain ⟨b,hbe⟩:∃b,v / 2 ^ k.toNat % 2=b:=⟨_,rfl⟩
 rw [hbe] at eb ⊢
 have b0:0≤b∧b≤1:=by omega
 by_cases hr:r=0
 ·subst hr
  have hbo:byL (o++[[D.i 0]]):=by
   intro i hi
   by_cases e:i < o.length
   ·rw [gtA e];exact hb i e
   ·rw [show i=o.length by simp at hi;omega,gtN];decide
  have e1:put1 (o,0) v k=((o++[[D.i 0]]).set o.length [D.i (b * 128)],7):=by
   rw [put1_0 rfl,eb]
   have:=orL_eq (o:=o++[[D.i 0]]) (by simp) (b:=b) (s:=7) (by omega) hbo (by simp only [List.length_append,List.length_cons,List.length_nil,Nat.add_sub_cancel];rw [gtN];decide) b0.1 b0.2
   simp only [List.length_append,List.length_cons,List.length_nil,Nat.add_sub_cancel,gtN] at this
   rw [show ((8:Int) - 1)=((7:Nat):Int) from rfl,this]
   simp [D.int,pw]
  rw [e1] at w1 w2 ⊢
  have g1:∀j,gt ((o++[[D.i 0]]).set o.length [D.i (b * 128)]) j 0=if j=o.length then .i (b * 128) else gt (o++[[D.i 0]]) j 0:=fun j=>by rw [gt_set (by simp)];rfl
  have len:((o++[[D.i 0]]).set o.length [D.i (b * 128)]).length=o.length+1:=by simp
  refine ⟨⟨w1,fun i hi=>?_,?_⟩,fun p hp=>?_,?_,fun i hi=>?_⟩
  ·simp only [] at hi ⊢
   rw [g1]
   split
   ·show 0≤b * 128∧b * 128≤255;omega
   ·exact hbo i (by rw [len] at hi;simpa using hi)
  ·simp only [len,Nat.add_sub_cancel]
   rw [g1,if_pos rfl]
   show b * 128 % 2 ^ 7=0
   rw [pw.2.2.2.2.2.2.2.1];omega
  ·simp only [bitsN] at hp
   unfold bAt
   rw [g1,if_neg (by omega),gtA (by omega)]
  ·simp only [bitsN]
   unfold bAt
   rw [show (8 * (o.length:Int) - 0).toNat / 8=o.length by omega,show (8 * (o.length:Int) - 0).toNat % 8=0 by omega,g1,if_pos rfl]
   show b * 128 / 2 ^ 7 % 2=b
   rw [pw.2.2.2.2.2.2.2.1];omega
  ·simp only [] at hi ⊢
   rw [g1,if_neg (by omega),gtA (by omega)]
 ·obtain ⟨s,rfl⟩:∃s:Nat,r=((s+1:Nat):Int):=⟨r.toNat - 1,by omega⟩
  have hs:s≤6:=by omega
  rw [Int.toNat_natCast] at hz
  have hA:=hb (o.length - 1) (by omega)
  obtain ⟨A,hAe⟩:∃A,(gt o (o.length - 1) 0).int=A:=⟨_,rfl⟩
  have e1:put1 (o,((s+1:Nat):Int)) v k=(o.set (o.length - 1) [D.i (A+b * 2 ^ s)],(s:Int)):=by
   rw [put1_1 (by omega),eb,show (((s+1:Nat):Int) - 1)=(s:Int) by omega]
   rw [orL_eq h1 (by omega) hb hz b0.1 b0.2,hAe]
  rw [hAe] at hA hz
  rw [e1] at w1 w2 ⊢
  have g1:∀j,gt (o.set (o.length - 1) [D.i (A+b * 2 ^ s)]) j 0=if j=o.length - 1 then .i (A+b * 2 ^ s) else gt o j 0:=fun j=>by rw [gt_set (by omega)];rfl
  have len:(o.set (o.length - 1) [D.i (A+b * 2 ^ s)]).length=o.length:=by simp
  have cs:s=0∨s=1∨s=2∨s=3∨s=4∨s=5∨s=6:=by omega
  refine ⟨⟨w1,fun i hi=>?_,?_⟩,fun p hp=>?_,?_,fun i hi=>?_⟩
  ·simp only [] at hi ⊢
   rw [g1]
   split
   ·show 0≤A+b * 2 ^ s∧A+b * 2 ^ s≤255
    rcases cs with rfl |rfl |rfl |rfl |rfl |rfl |rfl<;>simp only [pw,Nat.reduceAdd] at hz ⊢<;>omega
   ·exact hb i (by rw [len] at hi;exact hi)
  ·simp only [len,Int.toNat_natCast]
   rw [g1,if_pos rfl]
   show (A+b * 2 ^ s) % 2 ^ s=0
   rcases cs with rfl |rfl |rfl |rfl |rfl |rfl |rfl<;>simp only [pw,Nat.reduceAdd] at hz ⊢<;>omega
  ·simp only [bitsN] at hp
   unfold bAt
   rw [g1]
   split
   ·rename_i e
    rw [e,hAe]
    show (A+b * 2 ^ s) / 2 ^ (7 - p % 8) % 2=_
    have hq:p % 8+s+1 < 8:=by omega
    generalize p % 8=q at hq
    have cq:q=0∨q=1∨q=2∨q=3∨q=4∨q=5∨q=6:=by omega
    rcases cs with rfl |rfl |rfl |rfl |rfl |rfl |rfl<;>rcases cq with rfl |rfl |rfl |rfl |rfl |rfl |rfl<;>first |(exfalso;omega;done) |(simp only [pw,Nat.reduceAdd,Nat.reduceSub] at hz ⊢;omega)
   ·rfl
  ·simp only [bitsN]
   unfold bAt
   rw [show (8 * (o.length:Int) - ((s+1:Nat):Int)).toNat / 8=o.length - 1 by omega,show 7 - (8 * (o.length:Int) - ((s+1:Nat):Int)).toNat % 8=s by omega,g1,if_pos rfl]
   show (A+b * 2 ^ s) / 2 ^ s % 2=b
   rcases cs with rfl |rfl |rfl |rfl |rfl |rfl |rfl<;>simp only [pw,Nat.reduceAdd] at hz ⊢<;>omega
  ·simp only [] at hi ⊢
   rw [g1,if_neg (by omega)]
end HX

namespace HX
open Go Go.Proofs CX
theorem put_hd {s:Rows×Int} (h:Wf s) (hb:40≤bitsN s) {i:Nat} (hi:i < 5):i+1 < s.1.length∨(i < s.1.length∧s.2=0):=by
 have:=h.r0;have:=h.r7
 simp only [bitsN] at hb
 omega
structure Sb (s s':Rows×Int):Prop where
 le:bitsN s≤bitsN s'
 bit:∀p:Nat,(p:Int) < bitsN s→bAt s'.1 p=bAt s.1 p
 hd:40≤bitsN s→∀i,i < 5→gt s'.1 i 0=gt s.1 i 0
theorem Sb.refl (s:Rows×Int):Sb s s:=⟨Int.le_refl _,fun _ _=>rfl,fun _ _ _=>rfl⟩
theorem Sb.trans {a b c:Rows×Int} (h:Sb a b) (g:Sb b c):Sb a c:=
 ⟨Int.le_trans h.le g.le,fun p hp=>by rw [g.bit p (Int.lt_of_lt_of_le hp h.le),h.bit p hp],fun hb i hi=>by rw [g.hd (Int.le_trans hb h.le) i hi,h.hd hb i hi]⟩
theorem putN_ok {v:Int} (hv:0≤v) (hv2:v≤9223372036854775807):∀n,n≤64→∀{s:Rows×Int},Wb s→
  Wb (putN v n s)∧Sb s (putN v n s)∧∀t,t < n→bAt (putN v n s).1 ((bitsN s).toNat+t)=v / 2 ^ (n - 1 - t) % 2
 |0,_,s,h=>⟨h,Sb.refl s,fun t ht=>by omega⟩
 |n+1,hn,s,h=>by
  obtain ⟨a1,a2,a3,a4⟩:=put1_ok h (k:=(n:Int)) hv hv2 (by omega) (by omega)
  have a5:=(put1_wf h.wf v n).2
  obtain ⟨b1,b2,b3⟩:=putN_ok hv hv2 n (by omega) a1
  have pos:0≤bitsN s:=by have:=h.wf.pos;have:=h.wf.r7;simp only [bitsN];omega
  refine ⟨b1,Sb.trans ⟨by omega,a2,fun hb i hi=>a4 i (put_hd h.wf hb hi)⟩ b2,fun t ht=>?_⟩
  cases t with
  |zero=>
   show bAt (putN v n (put1 s v n)).1 _=_
   rw [Nat.add_zero,b2.bit _ (by omega),a3]
   rfl
  |succ t=>
   have:=b3 t (by omega)
   rw [a5] at this
   rw [show (bitsN s).toNat+(t+1)=(bitsN s+1).toNat+t by omega,show n+1 - 1 - (t+1)=n - 1 - t by omega]
   exact this
theorem mod_two (v:Int) (n:Nat):v % 2 ^ (n+1)=v / 2 ^ n % 2 * 2 ^ n+v % 2 ^ n:=by
 have hp:(0:Int) < 2 ^ n:=Int.pow_pos (by omega)
 obtain ⟨P,hP⟩:∃P:Int,(2:Int) ^ n=P:=⟨_,rfl⟩
 rw [Int.pow_succ,hP]
 rw [hP] at hp
 have h1:=Int.mul_ediv_add_emod v P
 have m0:=Int.emod_nonneg v (b:=P) (by omega)
 have m1:=Int.emod_lt_of_pos v hp
 obtain ⟨Q,hQ⟩:∃Q,v / P=Q:=⟨_,rfl⟩
 obtain ⟨M,hM⟩:∃M,v % P=M:=⟨_,rfl⟩
 rw [hQ,hM] at h1
 rw [hM] at m0 m1
 rw [hQ,hM]
 have hq:Q=2 * (Q / 2)+Q % 2:=by omega
 have e:v=(Q % 2 * P+M)+P * 2 * (Q / 2):=by
  have:P * Q=P * 2 * (Q / 2)+Q % 2 * P:=by
   rw [Int.mul_assoc,Int.mul_comm (Q % 2) P,←Int.mul_add,←hq]
  omega
 rw [e,Int.add_mul_emod_self_left]
 have hr:Q % 2=0∨Q % 2=1:=by omega
 refine Int.emod_eq_of_lt ?_ ?_
 ·rcases hr with h |h<;>rw [h]<;>omega
 ·rcases hr with h |h<;>rw [h]<;>omega
theorem tk_ok {d:Rows} {v:Int}:∀(n:Nat) (x:Int) (p:Nat),(∀t,t < n→bAt d (p+t)=v / 2 ^ (n - 1 - t) % 2)→tkN d n x p=x * 2 ^ n+v % 2 ^ n
 |0,x,p,_=>by simp [tkN,Int.emod_one]
 |n+1,x,p,h=>by
  have h0:=h 0 (by omega)
  rw [Nat.add_zero,show n+1 - 1 - 0=n by omega] at h0
  rw [tkN,tk_ok n _ (p+1) fun t ht=>by
   have:=h (t+1) (by omega)
   rw [show p+1+t=p+(t+1) by omega,this]
   congr 2
   congr 1
   omega]
  rw [h0,mod_two,Int.pow_succ]
  generalize v / 2 ^ n % 2=b
  generalize v % 2 ^ n=m
  generalize (2:Int) ^ n=P
  rw [Int.add_mul,Int.mul_comm 2 x,Int.mul_assoc x 2 P,Int.mul_comm 2 P]
  omega
theorem rdU_ones {d:Rows}:∀(n f p:Nat),n≤f→p+n≤8 * d.length→(∀t,t < n→bAt d (p+t)=1)→rdU d f p=rdU d (f - n) (p+n)
 |0,f,p,_,_,_=>rfl
 |n+1,f,p,hf,hp,h=>by
  obtain ⟨g,rfl⟩:∃g,f=g+1:=⟨f - 1,by omega⟩
  have h0:=h 0 (by omega)
  rw [Nat.add_zero] at h0
  rw [rdU,if_neg (by omega),if_neg (by omega),rdU_ones n g (p+1) (by omega) (by omega) fun t ht=>by
   have:=h (t+1) (by omega)
   rw [show p+1+t=p+(t+1) by omega];exact this]
  rw [show g+1 - (n+1)=g - n by omega,show p+(n+1)=p+1+n by omega]
structure Rd (d:Rows) (s:Rows×Int):Prop where
 len:bitsN s≤40+8 * d.length
 bit:∀p:Nat,40≤p→(p:Int) < bitsN s→bAt d (p - 40)=bAt s.1 p
theorem Rd.less {d:Rows} {s s':Rows×Int} (h:Rd d s') (g:Sb s s'):Rd d s:=
 ⟨Int.le_trans g.le h.len,fun p h1 h2=>by rw [h.bit p h1 (Int.lt_of_lt_of_le h2 g.le),g.bit p h2]⟩
theorem ones24:∀t,t < 24→(16777215:Int) / 2 ^ (24 - 1 - t) % 2=1:=by decide
theorem onesq:∀q,q < 24→∀t,t < q→((2:Int) ^ (q+1) - 2) / 2 ^ (q+1 - 1 - t) % 2=1:=by decide
theorem zeroq:∀q,q < 24→((2:Int) ^ (q+1) - 2) / 2 ^ (q+1 - 1 - q) % 2=0:=by decide
theorem wr_ok {m:Int×Int} {v:Int} (hv:0≤v) (hv2:v≤2147483647) {s:Rows×Int} (h:Wb s) (hb:40≤bitsN s) :
  Wb (wrS m v s)∧Sb s (wrS m v s)∧∀d,Rd d (wrS m v s)→rdS d m (bitsN s - 40).toNat=some (v,(bitsN (wrS m v s) - 40).toNat):=by
 have hk:=lowK_le m
 obtain ⟨K,hK⟩:∃K,lowK m=K:=⟨_,rfl⟩
 have hq:=shr_bd (v:=v) (k:=(lowK m:Int)) hv (by omega) (by omega)
 have hqe:=shr_eq (v:=v) (k:=(lowK m:Int)) (by omega) (by omega)
 rw [hK] at hk hq hqe
 rw [Int.toNat_natCast] at hqe
 unfold wrS
 rw [hK]
 obtain ⟨q,hqq⟩:∃q,Ar.std.shr .i64 v (K:Int)=q:=⟨_,rfl⟩
 rw [hqq] at hq hqe ⊢
 split
 ·rename_i h24
  obtain ⟨Q,rfl⟩:∃Q:Nat,q=Q:=⟨q.toNat,by omega⟩
  have hw:Ar.std.shl .i64 1 ((Q:Int)+1) - 2=2 ^ (Q+1) - 2:=by
   rw [shl_one (by omega) (by omega),show ((Q:Int)+1).toNat=Q+1 by omega]
  rw [hw,show ((Q:Int)+1).toNat=Q+1 by omega]
  have pl:=pow_le (Q+1) (by omega)
  have p2:(2:Int)≤2 ^ (Q+1):=by rw [Int.pow_succ];have:=(pow_le Q (by omega)).1;omega
  obtain ⟨a1,a2,a3⟩:=putN_ok (v:=2 ^ (Q+1) - 2) (by omega) (by omega) (Q+1) (by omega) h
  obtain ⟨b1,b2,b3⟩:=putN_ok hv (by omega) K (by omega) a1
  have c1:=(putN_wf (2 ^ (Q+1) - 2) (Q+1) h.wf).2
  have c2:=(putN_wf v K a1.wf).2
  refine ⟨b1,a2.trans b2,fun d hd=>?_⟩
  have hd1:=hd.less b2
  have len:=hd.len
  have at1:∀t,t < Q+1→bAt d ((bitsN s - 40).toNat+t)=(2 ^ (Q+1) - 2) / 2 ^ (Q+1 - 1 - t) % 2:=fun t ht=>by
   rw [←a3 t ht,←hd1.bit ((bitsN s).toNat+t) (by omega) (by omega)]
   congr 1;omega
  have at2:∀t,t < K→bAt d ((bitsN s - 40).toNat+(Q+1)+t)=v / 2 ^ (K - 1 - t) % 2:=fun t ht=>by
   rw [←b3 t ht,←hd.bit ((bitsN (putN (2 ^ (Q+1) - 2) (Q+1) s)).toNat+t) (by omega) (by omega)]
   congr 1;omega
  have u:rdU d 24 (bitsN s - 40).toNat=some (Q,(bitsN s - 40).toNat+(Q+1)):=by
   rw [rdU_ones Q 24 _ (by omega) (by omega) fun t ht=>by rw [at1 t (by omega)];exact onesq Q (by omega) t ht]
   rw [show 24 - Q=(23 - Q)+1 by omega,rdU,if_neg (by omega),if_pos (by rw [at1 Q (by omega)];exact zeroq Q (by omega)),show 23 - (23 - Q)=Q by omega]
   rfl
  rw [rdS,u]
  simp only [hK]
  rw [if_neg (by omega),if_neg (by omega),tk_ok K 0 _ at2,Int.zero_mul,Int.zero_add]
  congr 2
  ·rw [hqe,Int.mul_comm]
   exact Int.mul_ediv_add_emod v _
  ·omega
 ·rename_i h24
  obtain ⟨N,hN⟩:∃N:Nat,N=24:=⟨_,rfl⟩
  obtain ⟨M,hM⟩:∃M:Nat,M=31:=⟨_,rfl⟩
  obtain ⟨W,hW⟩:∃W:Int,W=16777215:=⟨_,rfl⟩
  rw [←hN,←hM,←hW]
  obtain ⟨a1,a2,a3⟩:=putN_ok (v:=W) (by omega) (by omega) N (by omega) h
  obtain ⟨b1,b2,b3⟩:=putN_ok hv (by omega) M (by omega) a1
  have c1:=(putN_wf W N h.wf).2
  have c2:=(putN_wf v M a1.wf).2
  refine ⟨b1,a2.trans b2,fun d hd=>?_⟩
  have hd1:=hd.less b2
  have len:=hd.len
  have at1:∀t,t < N→bAt d ((bitsN s - 40).toNat+t)=1:=fun t ht=>by
   have e:=a3 t ht
   rw [hW,hN,ones24 t (by omega)] at e
   rw [hN] at *
   have e2:=hd1.bit ((bitsN s).toNat+t) (by omega) (by omega)
   rw [show (bitsN s - 40).toNat+t=(bitsN s).toNat+t - 40 by omega,e2]
   rw [hW]
   exact e
  have at2:∀t,t < M→bAt d ((bitsN s - 40).toNat+N+t)=v / 2 ^ (M - 1 - t) % 2:=fun t ht=>by
   have e2:=hd.bit ((bitsN (putN W N s)).toNat+t) (by omega) (by omega)
   rw [show (bitsN s - 40).toNat+N+t=(bitsN (putN W N s)).toNat+t - 40 by omega,e2]
   exact b3 t ht
  have u:rdU d 24 (bitsN s - 40).toNat=some (24,(bitsN s - 40).toNat+N):=by
   rw [←hN,rdU_ones N N _ (by omega) (by omega) at1,Nat.sub_self,rdU,hN]
  have fin:tkN d 31 0 ((bitsN s - 40).toNat+N)=v:=by
   rw [←hM,tk_ok M 0 _ at2,Int.zero_mul,Int.zero_add,hM]
   exact Int.emod_eq_of_lt hv (by omega)
  rw [rdS,u]
  simp only [hK]
  rw [if_pos trivial,if_neg (by omega),fin]
  congr 2
  omega
end HX

namespace HX
open Go Go.Proofs CX
noncomputable def stP (l:Rows) (q:Nat):Rows×Int:=((pkS l q).o,(pkS l q).r)
theorem hdr_by (l:Rows):byL (hdrP l):=by
 intro i hi
 have h1:=wrapU8_rng (Ar.std.shr .i64 (l.length:Int) 16)
 have h2:=wrapU8_rng (Ar.std.shr .i64 (l.length:Int) 8)
 have h3:=wrapU8_rng (l.length:Int)
 simp only [hdrP,List.length_cons,List.length_nil] at hi
 have:i=0∨i=1∨i=2∨i=3∨i=4:=by omega
 rcases this with rfl |rfl |rfl |rfl |rfl
 ·show (0:Int)≤71∧(71:Int)≤255;omega
 ·show (0:Int)≤83∧(83:Int)≤255;omega
 ·exact h1
 ·exact h2
 ·exact h3
theorem pk_step {l:Rows} (h:EvOk' l):∀q,q≤l.length→Wb (stP l q)∧40≤bitsN (stP l q)∧Sb (stP l 0) (stP l q)
 |0,_=>⟨⟨⟨by simp [stP,pkS,hdrP],by simp [stP,pkS],by simp [stP,pkS]⟩,hdr_by l,by show _ % (2:Int) ^ 0=0;rw [pw.1,Int.emod_one]⟩,by simp [stP,pkS,hdrP,bitsN],Sb.refl _⟩
 |q+1,hq=>by
  obtain ⟨a1,a2,a3⟩:=pk_step h q (by omega)
  obtain ⟨g1,g2⟩:=gap_bd h (q:=q) (by omega)
  obtain ⟨b1,b2,_⟩:=wr_ok (m:=(pkS l q).t) g1.1 (by omega) a1 a2
  obtain ⟨c1,c2,_⟩:=wr_ok (m:=(pkS l q).d) g2.1 (by omega) b1 (Int.le_trans a2 b2.le)
  exact ⟨c1,Int.le_trans a2 (b2.trans c2).le,a3.trans (b2.trans c2)⟩
def Can (l:Rows):Prop:=∀i,(h:i < l.length)→l[i]=[.i (eT l i),.i (eI l i)]
theorem pack_len {l:Rows} (h:EvOk' l):7≤(packP l).length∧(packP l).length≤14 * l.length+8∧(packP l).length=(stP l l.length).1.length+2∧5≤(stP l l.length).1.length:=by
 obtain ⟨a,b,c,_,_⟩:=pk_ok h l.length (Nat.le_refl _)
 have:=a.r0;have:=a.r7
 have e:(packP l).length=(stP l l.length).1.length+2:=by simp [packP,stP]
 simp only [bitsN] at b c this
 rw [e]
 show 7≤(pkS l l.length).o.length+2∧_∧_∧5≤(pkS l l.length).o.length
 refine ⟨by omega,?_,rfl,by omega⟩
 show (pkS l l.length).o.length+2≤_
 omega
theorem pack_gt {l:Rows} {j:Nat} (h:j < (stP l l.length).1.length):gt (packP l) j 0=gt (stP l l.length).1 j 0:=by
 show gt ((stP l l.length).1++[[.i (sum0 (pkS l l.length).o)],[.i (sum1 (pkS l l.length).o)]]) j 0=_
 rw [gt_eq,gt_eq,List.getElem?_append_left h]
end HX

namespace HX
open Go Go.Proofs CX
structure Pf (d e:Rows):Prop where
 len:d.length≤e.length
 bit:∀p,p < 8 * d.length→bAt e p=bAt d p
theorem chk_G {l:Rows} (h:EvOk' l):∀f,f≤l.length→chkG l f=0
 |0,_=>rfl
 |f+1,hf=>by
  have q:l.length - (f+1) < l.length:=by omega
  obtain ⟨Q,hQ⟩:∃Q,l.length - (f+1)=Q:=⟨_,rfl⟩
  rw [chkG,hQ]
  rw [hQ] at q
  have lq:(l.take Q).length=Q:=by rw [List.length_take];omega
  rw [if_pos]
  ·exact chk_G h f (by omega)
  ·refine folE_of (h.rt Q q) (h.ri Q q) fun hp=>?_
   rw [lq] at hp ⊢
   have:=h.up (Q - 1) (by omega)
   rw [show Q - 1+1=Q by omega] at this
   unfold eT eI at this ⊢
   rw [gt_take (by omega),gt_take (by omega)]
   exact this
theorem chk_0 {l:Rows} (h:EvOk' l) (hl:l.length≤65536):chkE l=0:=by
 rw [chkE,if_neg (by omega)];exact chk_G h _ (Nat.le_refl _)
theorem chk_of:∀{l:Rows},chkE l=0→l.length≤65536:=by
 intro l h
 rw [chkE] at h
 split at h<;>omega
section
variable {l:Rows} (h:EvOk' l) (hc:Can l) (hl:l.length≤255)
include h hc hl
end
end HX

namespace HX
open Go Go.Proofs CX
theorem chkG_all {l:Rows}:∀f,f≤l.length→chkG l f=0→∀j,l.length - f≤j→j < l.length→folE (l.take j) (eT l j) (eI l j)=0
 |0,_,_,j,h1,h2=>by omega
 |f+1,hf,h,j,h1,h2=>by
  rw [chkG] at h
  split at h
  ·rename_i h3
   by_cases e:j=l.length - (f+1)
   ·rw [e];exact h3
   ·exact chkG_all f (by omega) h j (by omega) h2
  ·rename_i h3;exact absurd h h3
theorem chk_ev {l:Rows} (h:chkE l=0):l.length≤65536∧EvOk' l:=by
 have hl:=chk_of h
 rw [chkE,if_neg (by omega)] at h
 have all:=fun j hj=>folE_0 (chkG_all l.length (Nat.le_refl _) h j (by omega) hj)
 refine ⟨hl,fun i hi=>(all i hi).1,fun i hi=>(all i hi).2.1,fun i hi=>?_⟩
 have:=(all (i+1) hi).2.2
 have lt:(l.take (i+1)).length=i+1:=by rw [List.length_take];omega
 rw [lt,Nat.add_sub_cancel] at this
 have:=this (by omega)
 unfold eT eI at this ⊢
 rw [gt_take (by omega),gt_take (by omega)] at this
 exact this
end HX

namespace HX
open Go Go.Proofs CX
structure V53 (a0:Int) (a1:Int) (a2:Int) (R:Nat→Nat→D)  : Prop where
 g0:(a1≤a0)→R 0 0=D.b (decide (a0≤a2))
 g1:(¬a1≤a0)→R 0 0=D.b false
end HX

namespace HX
open Go Go.Proofs CX
structure V89 (a0_0:Int) (a0_1:Int) (R:Nat→Nat→D) (I0:Int→Prop) (m0:Int→Nat):Prop where
 i0:I0 0
 g1:∀x0_0,I0 x0_0→(x0_0 < 24)→0≤x0_0
 g2:∀x0_0,I0 x0_0→(x0_0 < 24)→((Ar.std.shl IntKind.i64 a0_1 x0_0) < a0_0)→-9223372036854775808≤(x0_0+1)∧(x0_0+1)≤9223372036854775807
 n3:∀x0_0,I0 x0_0→(x0_0 < 24)→((Ar.std.shl IntKind.i64 a0_1 x0_0) < a0_0)→I0 (x0_0+1)∧m0 (x0_0+1) < m0 x0_0
 g4:∀x0_0,I0 x0_0→(x0_0 < 24)→(¬(Ar.std.shl IntKind.i64 a0_1 x0_0) < a0_0)→R 0 0=D.i x0_0
 g5:∀x0_0,I0 x0_0→(¬x0_0 < 24)→R 0 0=D.i x0_0
end HX

namespace HX
open Go Go.Proofs CX
structure V65 (a0_0:Int) (a0_1:Int) (a1:Int) (R:Nat→Nat→D)  : Prop where
 g0:-9223372036854775808≤(a0_0+a1)∧(a0_0+a1)≤9223372036854775807
 g1:-9223372036854775808≤(a0_1+1)∧(a0_1+1)≤9223372036854775807
 g2:((a0_1+1)=64)→(2:Int)≠0
 g3:((a0_1+1)=64)→-9223372036854775808≤(Int.tdiv (a0_0+a1) 2)∧(Int.tdiv (a0_0+a1) 2)≤9223372036854775807
 g5:((a0_1+1)=64)→-9223372036854775808≤(Int.tdiv (a0_1+1) 2)∧(Int.tdiv (a0_1+1) 2)≤9223372036854775807
 g6:((a0_1+1)=64)→R 0 0=D.i (Int.tdiv (a0_0+a1) 2)
 g7:((a0_1+1)=64)→R 0 1=D.i (Int.tdiv (a0_1+1) 2)
 g8:(¬(a0_1+1)=64)→R 0 0=D.i (a0_0+a1)
 g9:(¬(a0_1+1)=64)→R 0 1=D.i (a0_1+1)
end HX

namespace HX
open Go Go.Proofs CX
structure V66 (a0:Rows) (R:Nat→Nat→D) (I0:Int→Int→Int→Prop) (m0:Int→Int→Int→Nat):Prop where
 i0:I0 0 0 0
 g1:∀x0_0 x0_1 x0_2,I0 x0_0 x0_1 x0_2→(x0_2 < (a0.length:Int))→0≤x0_2
 g2:∀x0_0 x0_1 x0_2,I0 x0_0 x0_1 x0_2→(x0_2 < (a0.length:Int))→x0_2 < (a0.length:Int)
 g3:∀x0_0 x0_1 x0_2,I0 x0_0 x0_1 x0_2→(x0_2 < (a0.length:Int))→(((Int.toNat x0_2:Nat):Int)) < (a0.length:Int)
 g4:∀x0_0 x0_1 x0_2,I0 x0_0 x0_1 x0_2→(x0_2 < (a0.length:Int))→-9223372036854775808≤(D.int (gt a0 x0_2.toNat 0))∧(D.int (gt a0 x0_2.toNat 0))≤9223372036854775807
 g5:∀x0_0 x0_1 x0_2,I0 x0_0 x0_1 x0_2→(x0_2 < (a0.length:Int))→-9223372036854775808≤(x0_0+(D.int (gt a0 x0_2.toNat 0)))∧(x0_0+(D.int (gt a0 x0_2.toNat 0)))≤9223372036854775807
 g6:∀x0_0 x0_1 x0_2,I0 x0_0 x0_1 x0_2→(x0_2 < (a0.length:Int))→(255:Int)≠0
 g7:∀x0_0 x0_1 x0_2,I0 x0_0 x0_1 x0_2→(x0_2 < (a0.length:Int))→-9223372036854775808≤(x0_1+(Int.tmod (x0_0+(D.int (gt a0 x0_2.toNat 0))) 255))∧(x0_1+(Int.tmod (x0_0+(D.int (gt a0 x0_2.toNat 0))) 255))≤9223372036854775807
 g9:∀x0_0 x0_1 x0_2,I0 x0_0 x0_1 x0_2→(x0_2 < (a0.length:Int))→-9223372036854775808≤(x0_2+1)∧(x0_2+1)≤9223372036854775807
 n10:∀x0_0 x0_1 x0_2,I0 x0_0 x0_1 x0_2→(x0_2 < (a0.length:Int))→I0 (Int.tmod (x0_0+(D.int (gt a0 x0_2.toNat 0))) 255) (Int.tmod (x0_1+(Int.tmod (x0_0+(D.int (gt a0 x0_2.toNat 0))) 255)) 255) (x0_2+1)∧m0 (Int.tmod (x0_0+(D.int (gt a0 x0_2.toNat 0))) 255) (Int.tmod (x0_1+(Int.tmod (x0_0+(D.int (gt a0 x0_2.toNat 0))) 255)) 255) (x0_2+1) < m0 x0_0 x0_1 x0_2
 g11:∀x0_0 x0_1 x0_2,I0 x0_0 x0_1 x0_2→(¬x0_2 < (a0.length:Int))→R 0 0=D.i x0_0
 g12:∀x0_0 x0_1 x0_2,I0 x0_0 x0_1 x0_2→(¬x0_2 < (a0.length:Int))→R 1 0=D.i x0_1
end HX

namespace HX
open Go Go.Proofs CX
structure V40 (pre:Nat→List (List D)→Prop) (fn:Nat→List (List D)→Nat→Nat→D) (a0_0:Int) (a0_1:Int) (a1_0:Int) (a1_1:Int) (a2:Bool) (R:Nat→Nat→D)  : Prop where
 g0:pre 53 [[D.i a1_0],[D.i 0],[D.i 1073741824]]
 g1:(D.boo (fn 53 [[D.i a1_0],[D.i 0],[D.i 1073741824]] 0 0)=false)→R 0 0=D.i 3
 g2:(D.boo (fn 53 [[D.i a1_0],[D.i 0],[D.i 1073741824]] 0 0)=true)→pre 53 [[D.i a1_1],[D.i 0],[D.i 65535]]
 g3:(D.boo (fn 53 [[D.i a1_0],[D.i 0],[D.i 1073741824]] 0 0)=true)→(D.boo (fn 53 [[D.i a1_1],[D.i 0],[D.i 65535]] 0 0)=false)→R 0 0=D.i 3
 g4:(D.boo (fn 53 [[D.i a1_0],[D.i 0],[D.i 1073741824]] 0 0)=true)→(D.boo (fn 53 [[D.i a1_1],[D.i 0],[D.i 65535]] 0 0)=true)→(a2=false)→(a1_0 < a0_0)→R 0 0=D.i 2
 g5:(D.boo (fn 53 [[D.i a1_0],[D.i 0],[D.i 1073741824]] 0 0)=true)→(D.boo (fn 53 [[D.i a1_1],[D.i 0],[D.i 65535]] 0 0)=true)→(a2=false)→(¬a1_0 < a0_0)→(a1_0=a0_0)→(a1_1≤a0_1)→R 0 0=D.i 2
 g6:(D.boo (fn 53 [[D.i a1_0],[D.i 0],[D.i 1073741824]] 0 0)=true)→(D.boo (fn 53 [[D.i a1_1],[D.i 0],[D.i 65535]] 0 0)=true)→(a2=false)→(¬a1_0 < a0_0)→(a1_0=a0_0)→(¬a1_1≤a0_1)→R 0 0=D.i 0
 g7:(D.boo (fn 53 [[D.i a1_0],[D.i 0],[D.i 1073741824]] 0 0)=true)→(D.boo (fn 53 [[D.i a1_1],[D.i 0],[D.i 65535]] 0 0)=true)→(a2=false)→(¬a1_0 < a0_0)→(¬a1_0=a0_0)→R 0 0=D.i 0
 g8:(D.boo (fn 53 [[D.i a1_0],[D.i 0],[D.i 1073741824]] 0 0)=true)→(D.boo (fn 53 [[D.i a1_1],[D.i 0],[D.i 65535]] 0 0)=true)→(a2=true)→R 0 0=D.i 0
end HX

namespace HX
open Go Go.Proofs CX
structure V54 (pre:Nat→List (List D)→Prop) (fn:Nat→List (List D)→Nat→Nat→D) (a0:Rows) (R:Nat→Nat→D) (I0:Int→Int→Prop) (m0:Int→Int→Nat):Prop where
 g0:(65536 < (a0.length:Int))→R 0 0=D.i 9
 i0:(¬65536 < (a0.length:Int))→I0 0 0
 g2:∀x0_0 x0_1,I0 x0_0 x0_1→(¬65536 < (a0.length:Int))→(x0_1 < (a0.length:Int))→(0 < x0_1)→-9223372036854775808≤(x0_1 - 1)∧(x0_1 - 1)≤9223372036854775807
 g3:∀x0_0 x0_1,I0 x0_0 x0_1→(¬65536 < (a0.length:Int))→(x0_1 < (a0.length:Int))→(0 < x0_1)→0≤(x0_1 - 1)
 g4:∀x0_0 x0_1,I0 x0_0 x0_1→(¬65536 < (a0.length:Int))→(x0_1 < (a0.length:Int))→(0 < x0_1)→(x0_1 - 1) < (a0.length:Int)
 g5:∀x0_0 x0_1,I0 x0_0 x0_1→(¬65536 < (a0.length:Int))→(x0_1 < (a0.length:Int))→(0 < x0_1)→(((Int.toNat (x0_1 - 1):Nat):Int)) < (a0.length:Int)
 g6:∀x0_0 x0_1,I0 x0_0 x0_1→(¬65536 < (a0.length:Int))→(x0_1 < (a0.length:Int))→(0 < x0_1)→0≤x0_1
 g7:∀x0_0 x0_1,I0 x0_0 x0_1→(¬65536 < (a0.length:Int))→(x0_1 < (a0.length:Int))→(0 < x0_1)→x0_1 < (a0.length:Int)
 g8:∀x0_0 x0_1,I0 x0_0 x0_1→(¬65536 < (a0.length:Int))→(x0_1 < (a0.length:Int))→(0 < x0_1)→(((Int.toNat x0_1:Nat):Int)) < (a0.length:Int)
 g9:∀x0_0 x0_1,I0 x0_0 x0_1→(¬65536 < (a0.length:Int))→(x0_1 < (a0.length:Int))→(0 < x0_1)→pre 40 [[D.i (D.int (gt a0 (Int.toNat (x0_1 - 1)) 0)),D.i (D.int (gt a0 (Int.toNat (x0_1 - 1)) 1))],[D.i (D.int (gt a0 x0_1.toNat 0)),D.i (D.int (gt a0 x0_1.toNat 1))],[D.b (decide (x0_1=0))]]
 g10:∀x0_0 x0_1,I0 x0_0 x0_1→(¬65536 < (a0.length:Int))→(x0_1 < (a0.length:Int))→(0 < x0_1)→(¬(D.int (fn 40 [[D.i (D.int (gt a0 (Int.toNat (x0_1 - 1)) 0)),D.i (D.int (gt a0 (Int.toNat (x0_1 - 1)) 1))],[D.i (D.int (gt a0 x0_1.toNat 0)),D.i (D.int (gt a0 x0_1.toNat 1))],[D.b (decide (x0_1=0))]] 0 0))=0)→R 0 0=D.i (D.int (fn 40 [[D.i (D.int (gt a0 (Int.toNat (x0_1 - 1)) 0)),D.i (D.int (gt a0 (Int.toNat (x0_1 - 1)) 1))],[D.i (D.int (gt a0 x0_1.toNat 0)),D.i (D.int (gt a0 x0_1.toNat 1))],[D.b (decide (x0_1=0))]] 0 0))
 g11:∀x0_0 x0_1,I0 x0_0 x0_1→(¬65536 < (a0.length:Int))→(x0_1 < (a0.length:Int))→(0 < x0_1)→((D.int (fn 40 [[D.i (D.int (gt a0 (Int.toNat (x0_1 - 1)) 0)),D.i (D.int (gt a0 (Int.toNat (x0_1 - 1)) 1))],[D.i (D.int (gt a0 x0_1.toNat 0)),D.i (D.int (gt a0 x0_1.toNat 1))],[D.b (decide (x0_1=0))]] 0 0))=0)→-9223372036854775808≤(x0_1+1)∧(x0_1+1)≤9223372036854775807
 n12:∀x0_0 x0_1,I0 x0_0 x0_1→(¬65536 < (a0.length:Int))→(x0_1 < (a0.length:Int))→(0 < x0_1)→((D.int (fn 40 [[D.i (D.int (gt a0 (Int.toNat (x0_1 - 1)) 0)),D.i (D.int (gt a0 (Int.toNat (x0_1 - 1)) 1))],[D.i (D.int (gt a0 x0_1.toNat 0)),D.i (D.int (gt a0 x0_1.toNat 1))],[D.b (decide (x0_1=0))]] 0 0))=0)→I0 x0_0 (x0_1+1)∧m0 x0_0 (x0_1+1) < m0 x0_0 x0_1
 g13:∀x0_0 x0_1,I0 x0_0 x0_1→(¬65536 < (a0.length:Int))→(x0_1 < (a0.length:Int))→(¬0 < x0_1)→0≤x0_1
 g14:∀x0_0 x0_1,I0 x0_0 x0_1→(¬65536 < (a0.length:Int))→(x0_1 < (a0.length:Int))→(¬0 < x0_1)→x0_1 < (a0.length:Int)
 g15:∀x0_0 x0_1,I0 x0_0 x0_1→(¬65536 < (a0.length:Int))→(x0_1 < (a0.length:Int))→(¬0 < x0_1)→(((Int.toNat x0_1:Nat):Int)) < (a0.length:Int)
 g16:∀x0_0 x0_1,I0 x0_0 x0_1→(¬65536 < (a0.length:Int))→(x0_1 < (a0.length:Int))→(¬0 < x0_1)→pre 40 [[D.i 0,D.i 0],[D.i (D.int (gt a0 x0_1.toNat 0)),D.i (D.int (gt a0 x0_1.toNat 1))],[D.b (decide (x0_1=0))]]
 g17:∀x0_0 x0_1,I0 x0_0 x0_1→(¬65536 < (a0.length:Int))→(x0_1 < (a0.length:Int))→(¬0 < x0_1)→(¬(D.int (fn 40 [[D.i 0,D.i 0],[D.i (D.int (gt a0 x0_1.toNat 0)),D.i (D.int (gt a0 x0_1.toNat 1))],[D.b (decide (x0_1=0))]] 0 0))=0)→R 0 0=D.i (D.int (fn 40 [[D.i 0,D.i 0],[D.i (D.int (gt a0 x0_1.toNat 0)),D.i (D.int (gt a0 x0_1.toNat 1))],[D.b (decide (x0_1=0))]] 0 0))
 g18:∀x0_0 x0_1,I0 x0_0 x0_1→(¬65536 < (a0.length:Int))→(x0_1 < (a0.length:Int))→(¬0 < x0_1)→((D.int (fn 40 [[D.i 0,D.i 0],[D.i (D.int (gt a0 x0_1.toNat 0)),D.i (D.int (gt a0 x0_1.toNat 1))],[D.b (decide (x0_1=0))]] 0 0))=0)→-9223372036854775808≤(x0_1+1)∧(x0_1+1)≤9223372036854775807
 n19:∀x0_0 x0_1,I0 x0_0 x0_1→(¬65536 < (a0.length:Int))→(x0_1 < (a0.length:Int))→(¬0 < x0_1)→((D.int (fn 40 [[D.i 0,D.i 0],[D.i (D.int (gt a0 x0_1.toNat 0)),D.i (D.int (gt a0 x0_1.toNat 1))],[D.b (decide (x0_1=0))]] 0 0))=0)→I0 x0_0 (x0_1+1)∧m0 x0_0 (x0_1+1) < m0 x0_0 x0_1
 g20:∀x0_0 x0_1,I0 x0_0 x0_1→(¬65536 < (a0.length:Int))→(¬x0_1 < (a0.length:Int))→R 0 0=D.i 0
end HX

namespace HX
open Go Go.Proofs CX
theorem law53 {a b c:Int} {R:Nat→Nat→D} (hR:R 0 0=.b (inB a b c)):V53 a b c R:=by
 constructor
 ·intro h;rw [hR,inB];congr 1;exact decide_eq_decide.2 ⟨fun h=>h.2,fun h2=>⟨h,h2⟩⟩
 ·intro h;rw [hR,inB,decide_eq_false fun h2=>h h2.1]
theorem law89 {a n:Int} {R:Nat→Nat→D} (hR:R 0 0=.i (lowK (a,n))):V89 a n R (fun k=>∃f:Nat,f≤24∧k=(24 - f:Nat)∧lowG a n 24=lowG a n f) (fun k=>(24 - k).toNat):=by
 have hR':R 0 0=.i (lowG a n 24):=hR
 constructor
 case i0=>exact ⟨24,Nat.le_refl _,rfl,rfl⟩
 all_goals (intro k hI;obtain ⟨f,h1,h2,h3⟩:=hI;subst h2)
 case g1 |g2=>intros;omega
 case n3=>
  intro hk hs
  obtain ⟨g,rfl⟩:∃g,f=g+1:=⟨f - 1,by omega⟩
  refine ⟨⟨g,by omega,by omega,?_⟩,by omega⟩
  rw [h3,lowG,if_pos (by rw [show 23 - g=24 - (g+1) by omega];exact hs)]
 case g4=>
  intro hk hs
  obtain ⟨g,rfl⟩:∃g,f=g+1:=⟨f - 1,by omega⟩
  rw [hR',h3,lowG,if_neg (by rw [show 23 - g=24 - (g+1) by omega];exact hs)]
  congr 2
  omega
 case g5=>
  intro hk
  obtain rfl:f=0:=by omega
  rw [hR',h3]
  rfl
theorem law65 {a n v:Int} (hm:MOk (a,n)) (h0:0≤v) (h1:v≤8589934592) {R:Nat→Nat→D} (hR0:R 0 0=.i (lrn (a,n) v).1) (hR1:R 0 1=.i (lrn (a,n) v).2):V65 a n v R:=by
 have a0:=hm.a0;have a1:=hm.a1;have n0:=hm.n0;have n1:=hm.n1
 simp only [] at a0 a1 n0 n1
 have td:Int.tdiv (a+v) 2=(a+v) / 2:=Int.tdiv_eq_ediv_of_nonneg (by omega)
 have td2:Int.tdiv (n+1) 2=(n+1) / 2:=Int.tdiv_eq_ediv_of_nonneg (by omega)
 constructor
 case g6=>intro h;rw [hR0,lrn,if_pos h]
 case g7=>intro h;rw [hR1,lrn,if_pos h]
 case g8=>intro h;rw [hR0,lrn,if_neg h]
 case g9=>intro h;rw [hR1,lrn,if_neg h]
 all_goals (intros;omega)
def folF (t i t2 i2:Int) (first:Bool):Int:=
 if ¬(inB t2 0 1073741824=true∧inB i2 0 65535=true) then 3 else if first=false∧(t2 < t∨(t2=t∧i2≤i)) then 2 else 0
theorem law40 {pre:Nat→List (List D)→Prop} {fn:Nat→List (List D)→Nat→Nat→D} (hp53:∀x,pre 53 x) (hf53:∀a b c,fn 53 [[.i a],[.i b],[.i c]] 0 0=.b (inB a b c))
  {t i t2 i2:Int} {f:Bool} {R:Nat→Nat→D} (hR:R 0 0=.i (folF t i t2 i2 f)):V40 pre fn t i t2 i2 f R:=by
 have hb:∀n:Bool,(D.b n).boo=n:=fun _=>rfl
 constructor
 all_goals (try simp only [hf53,hb])
 case g0=>exact hp53 _
 case g1=>intro h;rw [hR,folF,if_pos fun h2=>by rw [h] at h2;cases h2.1]
 case g2=>intro _;exact hp53 _
 case g3=>intro _ h;rw [hR,folF,if_pos fun h2=>by rw [h] at h2;cases h2.2]
 all_goals (intro h1 h2 h3;rw [hR,folF,if_neg fun h=>h ⟨h1,h2⟩])
 case g4=>intro h;rw [if_pos ⟨h3,.inl h⟩]
 case g5=>intro _ h h5;rw [if_pos ⟨h3,.inr ⟨h,h5⟩⟩]
 case g6=>intro h4 h5 h6;rw [if_neg fun h=>by omega]
 case g7=>intro h4 h5;rw [if_neg fun h=>by omega]
 case g8=>rw [if_neg fun h=>by rw [h3] at h;cases h.1]
theorem fol_eq {l:Rows} {t2 i2:Int} {t i:Int} (h:0 < l.length→t=eT l (l.length - 1)∧i=eI l (l.length - 1)):folF t i t2 i2 (decide (l.length=0))=folE l t2 i2:=by
 unfold folF folE
 split
 ·rfl
 ·by_cases hl:0 < l.length
  ·obtain ⟨rfl,rfl⟩:=h hl
   have d:decide (l.length=0)=false:=decide_eq_false (by omega)
   rw [d]
   by_cases c:t2 < eT l (l.length - 1)∨(t2=eT l (l.length - 1)∧i2≤eI l (l.length - 1))
   ·rw [if_pos ⟨rfl,c⟩,if_pos]
    refine ⟨hl,?_⟩
    simp only [cmpE,cmpI]
    repeat' split
    all_goals omega
   ·rw [if_neg fun h=>c h.2,if_neg]
    intro ⟨_,h⟩
    simp only [cmpE,cmpI] at h
    repeat' (split at h)
    all_goals omega
  ·rw [if_neg fun h=>by have:=of_decide_eq_false h.1;omega,if_neg fun h=>hl h.1]
end HX

namespace HX
open Go Go.Proofs CX
abbrev vZ28 (x:Int):=-9223372036854775808≤x∧x≤9223372036854775807
noncomputable abbrev v28a (x1_0:Int) (fn:Nat→List (List D)→Nat→Nat→D) (x0_2:Int) (x0_3:Int):=(Ar.std.shr IntKind.i64 x1_0 (D.int (fn 89 [[D.i x0_2,D.i x0_3]] 0 0)))
abbrev v28b (a0:Rows) (x0_1:Int):=((D.int (gt a0 x0_1.toNat 0)) - (D.int (gt a0 (Int.toNat (x0_1 - 1)) 0)))
structure V28r1 (a0:Rows) (x0_1:Int) (I1:Int→Int→Prop):Prop where
 g11:(0 < x0_1)→vZ28 ((x0_1 - 1))
 g12:(0 < x0_1)→0≤(x0_1 - 1)
 g13:(0 < x0_1)→(x0_1 - 1) < (a0.length:Int)
 g14:(0 < x0_1)→(((Int.toNat (x0_1 - 1):Nat):Int)) < (a0.length:Int)
 g15:(0 < x0_1)→vZ28 ((v28b a0 x0_1))
 g16:(0 < x0_1)→((v28b a0 x0_1)=0)→vZ28 ((x0_1 - 1))
 g17:(0 < x0_1)→((v28b a0 x0_1)=0)→0≤(x0_1 - 1)
 g18:(0 < x0_1)→((v28b a0 x0_1)=0)→(x0_1 - 1) < (a0.length:Int)
 g19:(0 < x0_1)→((v28b a0 x0_1)=0)→(((Int.toNat (x0_1 - 1):Nat):Int)) < (a0.length:Int)
 g20:(0 < x0_1)→((v28b a0 x0_1)=0)→vZ28 (((D.int (gt a0 (Int.toNat (x0_1 - 1)) 1))+1))
 g21:(0 < x0_1)→((v28b a0 x0_1)=0)→vZ28 (((D.int (gt a0 x0_1.toNat 1)) - ((D.int (gt a0 (Int.toNat (x0_1 - 1)) 1))+1)))
 n22:(0 < x0_1)→((v28b a0 x0_1)=0)→I1 (v28b a0 x0_1) ((D.int (gt a0 x0_1.toNat 1)) - ((D.int (gt a0 (Int.toNat (x0_1 - 1)) 1))+1))
 n23:(0 < x0_1)→(¬(v28b a0 x0_1)=0)→I1 (v28b a0 x0_1) (D.int (gt a0 x0_1.toNat 1))
 n24:(¬0 < x0_1)→I1 (D.int (gt a0 x0_1.toNat 0)) (D.int (gt a0 x0_1.toNat 1))
structure V28c4 (x1_0:Int) (x4_0:Rows) (x4_1:Int) (I2:Rows→Prop) (I4:Rows→Int→Prop) (m4:Rows→Int→Nat):Prop where
 g34:(0≤x4_1)→0≤x4_1
 g35:(0≤x4_1)→(2:Int)≠0
 g36:(0≤x4_1)→(x4_0.length+(List.length ([[D.i (Int.tmod (Ar.std.shr IntKind.i64 x1_0 x4_1) 2)]]:Rows))) * 8≤4294967296∧(x4_0.length+(List.length ([[D.i (Int.tmod (Ar.std.shr IntKind.i64 x1_0 x4_1) 2)]]:Rows)))≤4294967296
 g37:(0≤x4_1)→vZ28 ((x4_1 - 1))
 n38:(0≤x4_1)→I4 (x4_0++[[D.i (Int.tmod (Ar.std.shr IntKind.i64 x1_0 x4_1) 2)]]) (x4_1 - 1)∧m4 (x4_0++[[D.i (Int.tmod (Ar.std.shr IntKind.i64 x1_0 x4_1) 2)]]) (x4_1 - 1) < m4 x4_0 x4_1
 n39:(¬0≤x4_1)→I2 x4_0
abbrev V28l4 (x1_0:Int) (x3_0:Rows) (I2:Rows→Prop):Prop:=∃(I4:Rows→Int→Prop) (m4:Rows→Int→Nat),I4 x3_0 (31 - 1)∧∀x4_0 x4_1,I4 x4_0 x4_1→V28c4 x1_0 x4_0 x4_1 I2 I4 m4
abbrev V28l5 (fn:Nat→List (List D)→Nat→Nat→D) (x0_2:Int) (x0_3:Int) (x1_0:Int) (x3_0:Rows) (I2:Rows→Prop):Prop:=∃(I5:Rows→Int→Prop) (m5:Rows→Int→Nat),I5 (x3_0++[[D.i 0]]) ((D.int (fn 89 [[D.i x0_2,D.i x0_3]] 0 0)) - 1)∧∀x5_0 x5_1,I5 x5_0 x5_1→V28c4 x1_0 x5_0 x5_1 I2 I5 m5
structure V28c3 (fn:Nat→List (List D)→Nat→Nat→D) (x0_2:Int) (x0_3:Int) (x1_0:Int) (x3_0:Rows) (x3_1:Int) (I2:Rows→Prop) (I3:Rows→Int→Prop) (m3:Rows→Int→Nat):Prop where
 g29:(x3_1 < (v28a x1_0 fn x0_2 x0_3))→(x3_1 < 24)→(x3_0.length+(List.length ([[D.i 1]]:Rows))) * 8≤4294967296∧(x3_0.length+(List.length ([[D.i 1]]:Rows)))≤4294967296
 g30:(x3_1 < (v28a x1_0 fn x0_2 x0_3))→(x3_1 < 24)→vZ28 ((x3_1+1))
 n31:(x3_1 < (v28a x1_0 fn x0_2 x0_3))→(x3_1 < 24)→I3 (x3_0++[[D.i 1]]) (x3_1+1)∧m3 (x3_0++[[D.i 1]]) (x3_1+1) < m3 x3_0 x3_1
 g32:(x3_1 < (v28a x1_0 fn x0_2 x0_3))→(¬x3_1 < 24)→(24≤(v28a x1_0 fn x0_2 x0_3))→vZ28 (((31 - 1):Int))
 g40:(x3_1 < (v28a x1_0 fn x0_2 x0_3))→(¬x3_1 < 24)→(¬24≤(v28a x1_0 fn x0_2 x0_3))→(x3_0.length+(List.length ([[D.i 0]]:Rows))) * 8≤4294967296∧(x3_0.length+(List.length ([[D.i 0]]:Rows)))≤4294967296
 g41:(x3_1 < (v28a x1_0 fn x0_2 x0_3))→(¬x3_1 < 24)→(¬24≤(v28a x1_0 fn x0_2 x0_3))→vZ28 (((D.int (fn 89 [[D.i x0_2,D.i x0_3]] 0 0)) - 1))
 g49:(¬x3_1 < (v28a x1_0 fn x0_2 x0_3))→(24≤(v28a x1_0 fn x0_2 x0_3))→vZ28 (((31 - 1):Int))
 g57:(¬x3_1 < (v28a x1_0 fn x0_2 x0_3))→(¬24≤(v28a x1_0 fn x0_2 x0_3))→(x3_0.length+(List.length ([[D.i 0]]:Rows))) * 8≤4294967296∧(x3_0.length+(List.length ([[D.i 0]]:Rows)))≤4294967296
 g58:(¬x3_1 < (v28a x1_0 fn x0_2 x0_3))→(¬24≤(v28a x1_0 fn x0_2 x0_3))→vZ28 (((D.int (fn 89 [[D.i x0_2,D.i x0_3]] 0 0)) - 1))
 l4:(x3_1 < (v28a x1_0 fn x0_2 x0_3))→(¬x3_1 < 24)→(24≤(v28a x1_0 fn x0_2 x0_3))→V28l4 x1_0 x3_0 I2
 l5:(x3_1 < (v28a x1_0 fn x0_2 x0_3))→(¬x3_1 < 24)→(¬24≤(v28a x1_0 fn x0_2 x0_3))→V28l5 fn x0_2 x0_3 x1_0 x3_0 I2
 l6:(¬x3_1 < (v28a x1_0 fn x0_2 x0_3))→(24≤(v28a x1_0 fn x0_2 x0_3))→V28l4 x1_0 x3_0 I2
 l7:(¬x3_1 < (v28a x1_0 fn x0_2 x0_3))→(¬24≤(v28a x1_0 fn x0_2 x0_3))→V28l5 fn x0_2 x0_3 x1_0 x3_0 I2
abbrev V28l3 (fn:Nat→List (List D)→Nat→Nat→D) (x0_0:Rows) (x0_2:Int) (x0_3:Int) (x1_0:Int) (I2:Rows→Prop):Prop:=∃(I3:Rows→Int→Prop) (m3:Rows→Int→Nat),I3 x0_0 0∧∀x3_0 x3_1,I3 x3_0 x3_1→V28c3 fn x0_2 x0_3 x1_0 x3_0 x3_1 I2 I3 m3
structure V28r2 (pre:Nat→List (List D)→Prop) (fn:Nat→List (List D)→Nat→Nat→D) (x0_0:Rows) (x0_2:Int) (x0_3:Int) (x1_0:Int) (I2:Rows→Prop):Prop where
 g26:pre 89 [[D.i x0_2,D.i x0_3]]
 g27:0≤(D.int (fn 89 [[D.i x0_2,D.i x0_3]] 0 0))
 l3:V28l3 fn x0_0 x0_2 x0_3 x1_0 I2
structure V28c8 (pre:Nat→List (List D)→Prop) (fn:Nat→List (List D)→Nat→Nat→D) (x0_0:Rows) (x0_1:Int) (x0_2:Int) (x0_3:Int) (x0_4:Int) (x0_5:Int) (x1_0:Int) (x1_1:Int) (x8_0:Rows) (I0:Rows→Int→Int→Int→Int→Int→Prop) (m0:Rows→Int→Int→Int→Int→Int→Nat):Prop where
 g108:pre 65 [[D.i x0_4,D.i x0_5],[D.i x1_1]]
 g109:vZ28 ((x0_1+1))
 n110:I0 x8_0 (x0_1+1) (D.int (fn 65 [[D.i x0_2,D.i x0_3],[D.i x1_0]] 0 0)) (D.int (fn 65 [[D.i x0_2,D.i x0_3],[D.i x1_0]] 0 1)) (D.int (fn 65 [[D.i x0_4,D.i x0_5],[D.i x1_1]] 0 0)) (D.int (fn 65 [[D.i x0_4,D.i x0_5],[D.i x1_1]] 0 1))∧m0 x8_0 (x0_1+1) (D.int (fn 65 [[D.i x0_2,D.i x0_3],[D.i x1_0]] 0 0)) (D.int (fn 65 [[D.i x0_2,D.i x0_3],[D.i x1_0]] 0 1)) (D.int (fn 65 [[D.i x0_4,D.i x0_5],[D.i x1_1]] 0 0)) (D.int (fn 65 [[D.i x0_4,D.i x0_5],[D.i x1_1]] 0 1)) < m0 x0_0 x0_1 x0_2 x0_3 x0_4 x0_5
abbrev V28j8 (pre:Nat→List (List D)→Prop) (fn:Nat→List (List D)→Nat→Nat→D) (x0_0:Rows) (x0_1:Int) (x0_2:Int) (x0_3:Int) (x0_4:Int) (x0_5:Int) (x1_0:Int) (x1_1:Int) (x2_0:Rows) (I0:Rows→Int→Int→Int→Int→Int→Prop) (m0:Rows→Int→Int→Int→Int→Int→Nat):Prop:=∃(I8:Rows→Prop),V28r2 pre fn x2_0 x0_4 x0_5 x1_1 I8∧∀x8_0,I8 x8_0→V28c8 pre fn x0_0 x0_1 x0_2 x0_3 x0_4 x0_5 x1_0 x1_1 x8_0 I0 m0
structure V28c2 (pre:Nat→List (List D)→Prop) (fn:Nat→List (List D)→Nat→Nat→D) (x0_0:Rows) (x0_1:Int) (x0_2:Int) (x0_3:Int) (x0_4:Int) (x0_5:Int) (x1_0:Int) (x1_1:Int) (x2_0:Rows) (I0:Rows→Int→Int→Int→Int→Int→Prop) (m0:Rows→Int→Int→Int→Int→Int→Nat):Prop where
 g66:pre 65 [[D.i x0_2,D.i x0_3],[D.i x1_0]]
 l8:V28j8 pre fn x0_0 x0_1 x0_2 x0_3 x0_4 x0_5 x1_0 x1_1 x2_0 I0 m0
abbrev V28j2 (pre:Nat→List (List D)→Prop) (fn:Nat→List (List D)→Nat→Nat→D) (x0_0:Rows) (x0_1:Int) (x0_2:Int) (x0_3:Int) (x0_4:Int) (x0_5:Int) (x1_0:Int) (x1_1:Int) (I0:Rows→Int→Int→Int→Int→Int→Prop) (m0:Rows→Int→Int→Int→Int→Int→Nat):Prop:=∃(I2:Rows→Prop),V28r2 pre fn x0_0 x0_2 x0_3 x1_0 I2∧∀x2_0,I2 x2_0→V28c2 pre fn x0_0 x0_1 x0_2 x0_3 x0_4 x0_5 x1_0 x1_1 x2_0 I0 m0
structure V28c1 (pre:Nat→List (List D)→Prop) (fn:Nat→List (List D)→Nat→Nat→D) (x0_0:Rows) (x0_1:Int) (x0_2:Int) (x0_3:Int) (x0_4:Int) (x0_5:Int) (x1_0:Int) (x1_1:Int) (I0:Rows→Int→Int→Int→Int→Int→Prop) (m0:Rows→Int→Int→Int→Int→Int→Nat):Prop where
 l2:V28j2 pre fn x0_0 x0_1 x0_2 x0_3 x0_4 x0_5 x1_0 x1_1 I0 m0
abbrev V28j1 (pre:Nat→List (List D)→Prop) (fn:Nat→List (List D)→Nat→Nat→D) (a0:Rows) (x0_0:Rows) (x0_1:Int) (x0_2:Int) (x0_3:Int) (x0_4:Int) (x0_5:Int) (I0:Rows→Int→Int→Int→Int→Int→Prop) (m0:Rows→Int→Int→Int→Int→Int→Nat):Prop:=∃(I1:Int→Int→Prop),V28r1 a0 x0_1 I1∧∀x1_0 x1_1,I1 x1_0 x1_1→V28c1 pre fn x0_0 x0_1 x0_2 x0_3 x0_4 x0_5 x1_0 x1_1 I0 m0
structure V28c16 (x14_0:Rows) (x15_0:Rows) (x15_1:Int) (x16_0:Int) (x16_1:Int) (I15:Rows→Int→Prop) (m15:Rows→Int→Nat) (I16:Int→Int→Prop) (m16:Int→Int→Nat):Prop where
 g119:(x16_1 < 8)→vZ28 ((2 * x16_0))
 g120:(x16_1 < 8)→vZ28 ((x15_1+x16_1))
 g121:(x16_1 < 8)→0≤(x15_1+x16_1)
 g122:(x16_1 < 8)→(x15_1+x16_1) < (x14_0.length:Int)
 g123:(x16_1 < 8)→(((Int.toNat (x15_1+x16_1):Nat):Int)) < (x14_0.length:Int)
 g124:(x16_1 < 8)→vZ28 (((2 * x16_0)+(D.int (gt x14_0 (Int.toNat (x15_1+x16_1)) 0))))
 g125:(x16_1 < 8)→vZ28 ((x16_1+1))
 n126:(x16_1 < 8)→I16 ((2 * x16_0)+(D.int (gt x14_0 (Int.toNat (x15_1+x16_1)) 0))) (x16_1+1)∧m16 ((2 * x16_0)+(D.int (gt x14_0 (Int.toNat (x15_1+x16_1)) 0))) (x16_1+1) < m16 x16_0 x16_1
 g127:(¬x16_1 < 8)→(x15_0.length+(List.length ([[D.i (Ar.std.wrap IntKind.u8 x16_0)]]:Rows))) * 1≤4294967296∧(x15_0.length+(List.length ([[D.i (Ar.std.wrap IntKind.u8 x16_0)]]:Rows)))≤4294967296
 g128:(¬x16_1 < 8)→vZ28 ((x15_1+8))
 n129:(¬x16_1 < 8)→I15 (x15_0++[[D.i (Ar.std.wrap IntKind.u8 x16_0)]]) (x15_1+8)∧m15 (x15_0++[[D.i (Ar.std.wrap IntKind.u8 x16_0)]]) (x15_1+8) < m15 x15_0 x15_1
abbrev V28l16 (x14_0:Rows) (x15_0:Rows) (x15_1:Int) (I15:Rows→Int→Prop) (m15:Rows→Int→Nat):Prop:=∃(I16:Int→Int→Prop) (m16:Int→Int→Nat),I16 0 0∧∀x16_0 x16_1,I16 x16_0 x16_1→V28c16 x14_0 x15_0 x15_1 x16_0 x16_1 I15 m15 I16 m16
structure V28c15 (pre:Nat→List (List D)→Prop) (fn:Nat→List (List D)→Nat→Nat→D) (R:Nat→Nat→D) (x14_0:Rows) (x15_0:Rows) (x15_1:Int) (I15:Rows→Int→Prop) (m15:Rows→Int→Nat):Prop where
 g130:(¬x15_1 < (x14_0.length:Int))→pre 66 [[D.l x15_0]]
 g131:(¬x15_1 < (x14_0.length:Int))→(x15_0.length+(List.length ([[D.i (Ar.std.wrap IntKind.u8 (D.int (fn 66 [[D.l x15_0]] 0 0)))],[D.i (Ar.std.wrap IntKind.u8 (D.int (fn 66 [[D.l x15_0]] 1 0)))]]:Rows))) * 1≤4294967296∧(x15_0.length+(List.length ([[D.i (Ar.std.wrap IntKind.u8 (D.int (fn 66 [[D.l x15_0]] 0 0)))],[D.i (Ar.std.wrap IntKind.u8 (D.int (fn 66 [[D.l x15_0]] 1 0)))]]:Rows)))≤4294967296
 g132:(¬x15_1 < (x14_0.length:Int))→R 0 0=D.l (x15_0++[[D.i (Ar.std.wrap IntKind.u8 (D.int (fn 66 [[D.l x15_0]] 0 0)))],[D.i (Ar.std.wrap IntKind.u8 (D.int (fn 66 [[D.l x15_0]] 1 0)))]])
 g133:(¬x15_1 < (x14_0.length:Int))→R 1 0=D.i 0
 l16:(x15_1 < (x14_0.length:Int))→V28l16 x14_0 x15_0 x15_1 I15 m15
abbrev V28l15 (pre:Nat→List (List D)→Prop) (fn:Nat→List (List D)→Nat→Nat→D) (a0:Rows) (R:Nat→Nat→D) (x14_0:Rows):Prop:=∃(I15:Rows→Int→Prop) (m15:Rows→Int→Nat),I15 [[D.i 71],[D.i 83],[D.i (Ar.std.wrap IntKind.u8 (Ar.std.shr IntKind.i64 (a0.length:Int) 16))],[D.i (Ar.std.wrap IntKind.u8 (Ar.std.shr IntKind.i64 (a0.length:Int) 8))],[D.i (Ar.std.wrap IntKind.u8 (a0.length:Int))]] 0∧∀x15_0 x15_1,I15 x15_0 x15_1→V28c15 pre fn R x14_0 x15_0 x15_1 I15 m15
structure V28c14 (pre:Nat→List (List D)→Prop) (fn:Nat→List (List D)→Nat→Nat→D) (a0:Rows) (R:Nat→Nat→D) (x14_0:Rows) (I14:Rows→Prop) (m14:Rows→Nat):Prop where
 g114:(8:Int)≠0
 g115:(¬(Int.tmod (x14_0.length:Int) 8)=0)→(x14_0.length+(List.length ([[D.i 0]]:Rows))) * 8≤4294967296∧(x14_0.length+(List.length ([[D.i 0]]:Rows)))≤4294967296
 n116:(¬(Int.tmod (x14_0.length:Int) 8)=0)→I14 (x14_0++[[D.i 0]])∧m14 (x14_0++[[D.i 0]]) < m14 x14_0
 l15:((Int.tmod (x14_0.length:Int) 8)=0)→V28l15 pre fn a0 R x14_0
abbrev V28l14 (pre:Nat→List (List D)→Prop) (fn:Nat→List (List D)→Nat→Nat→D) (a0:Rows) (R:Nat→Nat→D) (x0_0:Rows):Prop:=∃(I14:Rows→Prop) (m14:Rows→Nat),I14 x0_0∧∀x14_0,I14 x14_0→V28c14 pre fn a0 R x14_0 I14 m14
structure V28c0 (pre:Nat→List (List D)→Prop) (fn:Nat→List (List D)→Nat→Nat→D) (a0:Rows) (R:Nat→Nat→D) (x0_0:Rows) (x0_1:Int) (x0_2:Int) (x0_3:Int) (x0_4:Int) (x0_5:Int) (I0:Rows→Int→Int→Int→Int→Int→Prop) (m0:Rows→Int→Int→Int→Int→Int→Nat):Prop where
 g4:(x0_1 < (a0.length:Int))→0≤x0_1
 g5:(x0_1 < (a0.length:Int))→x0_1 < (a0.length:Int)
 g6:(x0_1 < (a0.length:Int))→(((Int.toNat x0_1:Nat):Int)) < (a0.length:Int)
 g111:(¬x0_1 < (a0.length:Int))→(0:Int)≤16
 g112:(¬x0_1 < (a0.length:Int))→(0:Int)≤8
 l1:(x0_1 < (a0.length:Int))→V28j1 pre fn a0 x0_0 x0_1 x0_2 x0_3 x0_4 x0_5 I0 m0
 l14:(¬x0_1 < (a0.length:Int))→V28l14 pre fn a0 R x0_0
abbrev V28l0 (pre:Nat→List (List D)→Prop) (fn:Nat→List (List D)→Nat→Nat→D) (a0:Rows) (R:Nat→Nat→D):Prop:=∃(I0:Rows→Int→Int→Int→Int→Int→Prop) (m0:Rows→Int→Int→Int→Int→Int→Nat),I0 [] 0 4 1 4 1∧∀x0_0 x0_1 x0_2 x0_3 x0_4 x0_5,I0 x0_0 x0_1 x0_2 x0_3 x0_4 x0_5→V28c0 pre fn a0 R x0_0 x0_1 x0_2 x0_3 x0_4 x0_5 I0 m0
structure V28 (pre:Nat→List (List D)→Prop) (fn:Nat→List (List D)→Nat→Nat→D) (a0:Rows) (R:Nat→Nat→D):Prop where
 g0:pre 54 [[D.l a0]]
 g1:(¬(D.int (fn 54 [[D.l a0]] 0 0))=0)→R 0 0=D.l []
 g2:(¬(D.int (fn 54 [[D.l a0]] 0 0))=0)→R 1 0=D.i (D.int (fn 54 [[D.l a0]] 0 0))
 l0:((D.int (fn 54 [[D.l a0]] 0 0))=0)→V28l0 pre fn a0 R
end HX

namespace HX
open Go Go.Proofs CX
def bitsR (v:Int):Nat→Rows→Rows
 |0,B=>B
 |n+1,B=>bitsR v n (B++[[.i (v / 2 ^ n % 2)]])
def ones (n:Nat) (B:Rows):Rows:=B++List.replicate n [.i 1]
noncomputable def wrR (m:Int×Int) (v:Int) (B:Rows):Rows:=
 if Ar.std.shr .i64 v (lowK m:Int) < 24 then bitsR v (lowK m) (ones (Ar.std.shr .i64 v (lowK m:Int)).toNat B++[[.i 0]]) else bitsR v 31 (ones 24 B)
theorem ones_succ (n:Nat) (B:Rows):ones n B++[[.i 1]]=ones (n+1) B:=by
 rw [ones,ones,List.append_assoc,←List.replicate_succ']
theorem ones_len (n:Nat) (B:Rows):(ones n B).length=B.length+n:=by simp [ones]
structure LR (v:Int) (N:Nat) (B0:Rows) (k:Int) (B:Rows):Prop where
 lo:-1≤k
 hi:k+1≤N
 len:(B.length:Int)+(k+1)=B0.length+N
 to:bitsR v (k+1).toNat B=bitsR v N B0
theorem LR.start (v:Int) {N:Nat} (B0:Rows) {k:Int} (e:k+1=N):LR v N B0 k B0:=⟨by omega,by omega,by omega,by rw [show (k+1).toNat=N by omega]⟩
theorem LR.step {v:Int} {N:Nat} {B0:Rows} {k:Int} {B:Rows} (h:LR v N B0 k B) (hk:0≤k):LR v N B0 (k - 1) (B++[[.i (v / 2 ^ k.toNat % 2)]]):=by
 obtain ⟨h1,h2,h3,h4⟩:=h
 refine ⟨by omega,by omega,by simp;omega,?_⟩
 rw [←h4,show (k+1).toNat=(k - 1+1).toNat+1 by omega,bitsR,show (k - 1+1).toNat=k.toNat by omega]
theorem LR.stop {v:Int} {N:Nat} {B0:Rows} {k:Int} {B:Rows} (h:LR v N B0 k B) (hk:¬0≤k):B=bitsR v N B0:=by
 have:=h.lo
 rw [←h.to,show (k+1).toNat=0 by omega,bitsR]
theorem law28r {pre:Nat→List (List D)→Prop} {fn:Nat→List (List D)→Nat→Nat→D} (hp89:∀x,pre 89 x) (hf89:∀a n,fn 89 [[.i a,.i n]] 0 0=.i (lowK (a,n)))
  {B:Rows} {a n v:Int} (hB:B.length≤100000000) (h0:0≤v) (h1:v≤8589934592):V28r2 pre fn B a n v (fun B'=>B'=wrR (a,n) v B):=by
 have hi:∀n:Int,(D.i n).int=n:=fun _=>rfl
 have hk:=lowK_le (a,n)
 have hq:=shr_bd (v:=v) (k:=(lowK (a,n):Int)) h0 (by omega) (by omega)
 obtain ⟨K,hK⟩:∃K,lowK (a,n)=K:=⟨_,rfl⟩
 obtain ⟨q,hqe⟩:∃q,Ar.std.shr .i64 v (K:Int)=q:=⟨_,rfl⟩
 rw [hK] at hk hq
 rw [hqe] at hq
 have wl:wrR (a,n) v B=if q < 24 then bitsR v K (ones q.toNat B++[[.i 0]]) else bitsR v 31 (ones 24 B):=by rw [←hqe,←hK];rfl
 have bit:∀k:Int,0≤k→k≤64→Int.tmod (Ar.std.shr .i64 v k) 2=v / 2 ^ k.toNat % 2:=fun k k0 k1=>by
  rw [Int.tmod_eq_emod_of_nonneg (shr_bd h0 k0 k1).1,shr_eq k0 k1]
 have lp:∀(N:Nat) (B0:Rows) (k0:Int),N≤31→k0+1=N→B0.length≤100000030→bitsR v N B0=wrR (a,n) v B→∃(I4:Rows→Int→Prop) (m4:Rows→Int→Nat),I4 B0 k0∧∀x k,I4 x k→V28c4 v x k (fun B'=>B'=wrR (a,n) v B) I4 m4:=by
  intro N B0 k0 hN e hl hw
  refine ⟨fun x k=>LR v N B0 k x,fun _ k=>(k+1).toNat,LR.start v B0 e,fun x k hI=>?_⟩
  have i1:=hI.lo
  have i2:=hI.hi
  have i3:=hI.len
  constructor
  case n38=>intro h;rw [bit k h (by omega)];exact ⟨hI.step h,by omega⟩
  case n39=>intro h;rw [←hw];exact hI.stop h
  all_goals (try simp only [vZ28,List.length_cons,List.length_nil])
  all_goals (intros;omega)
 constructor
 all_goals (try simp only [hf89,hi,hK])
 case g26=>exact hp89 _
 case g27=>omega
 case l3=>
  refine ⟨fun x c=>∃i:Nat,c=i∧i≤24∧(i:Int)≤q∧x=ones i B,fun _ c=>(24 - c).toNat,⟨0,rfl,by omega,by omega,by simp [ones]⟩,fun x c hI=>?_⟩
  obtain ⟨i,hc,h24,hiq,hx⟩:=hI
  subst hc hx
  have ol:=ones_len i B
  constructor
  all_goals (try simp only [v28a,hf89,hi,hK,hqe])
  case n31=>intro h2 h3;exact ⟨⟨i+1,by omega,by omega,by omega,ones_succ i B⟩,by omega⟩
  case l4=>
   intro h2 h3 h4
   obtain rfl:i=24:=by omega
   exact lp 31 _ _ (by omega) (by omega) (by omega) (by rw [wl,if_neg (by omega)])
  case l6=>
   intro h2 h4
   obtain rfl:i=24:=by omega
   exact lp 31 _ _ (by omega) (by omega) (by omega) (by rw [wl,if_neg (by omega)])
  case l5=>intro h2 h3 h4;exfalso;omega
  case l7=>
   intro h2 h4
   have:=lp K (ones i B++[[.i 0]]) ((K:Int) - 1) (by omega) (by omega) (by simp;omega) (by rw [wl,if_pos (by omega),show q.toNat=i by omega])
   simp only [V28l5,hf89,hi,hK]
   exact this
  all_goals (try simp only [vZ28,List.length_cons,List.length_nil])
  all_goals (intros;omega)
end HX

namespace HX
open Go Go.Proofs CX
structure Rel (s:Rows×Int) (B:Rows):Prop where
 len:(B.length:Int)=bitsN s - 40
 bit:∀p,p < B.length→gt B p 0=.i (bAt s.1 (40+p))
theorem gtAp {A B:Rows} {t c:Nat}:gt (A++B) (A.length+t) c=gt B t c:=by
 rw [gt_eq,gt_eq,List.getElem?_append_right (by omega),Nat.add_sub_cancel_left]
theorem gtAl {A B:Rows} {t c:Nat} (h:t < A.length):gt (A++B) t c=gt A t c:=by
 rw [gt_eq,gt_eq,List.getElem?_append_left h]
theorem Rel.put {s:Rows×Int} {B:Rows} (h:Rel s B) (w:Wb s) (hb:40≤bitsN s) {v:Int} {n:Nat} (hv:0≤v) (hv2:v≤9223372036854775807) (hn:n≤64):Rel (put1 s v n) (B++[[.i (v / 2 ^ n % 2)]]):=by
 obtain ⟨a1,a2,a3,a4⟩:=put1_ok w (k:=(n:Int)) hv hv2 (by omega) (by omega)
 have a5:=(put1_wf w.wf v n).2
 have hl:=h.len
 refine ⟨by rw [a5];simp;omega,fun p hp=>?_⟩
 by_cases e:p < B.length
 ·rw [gtAl e,h.bit p e,a2 _ (by omega)]
 ·have e:p=B.length:=by simp at hp;omega
  subst e
  rw [gtN,show 40+B.length=(bitsN s).toNat by omega,a3,Int.toNat_natCast]
  rfl
theorem Rel.putN {v:Int} (hv:0≤v) (hv2:v≤9223372036854775807):∀(n:Nat) {s:Rows×Int} {B:Rows},n≤64→Rel s B→Wb s→40≤bitsN s→Rel (HX.putN v n s) (bitsR v n B)
 |0,_,_,_,h,_,_=>h
 |n+1,s,B,hn,h,w,hb=>by
  obtain ⟨a1,_⟩:=put1_ok w (k:=(n:Int)) hv hv2 (by omega) (by omega)
  have a5:=(put1_wf w.wf v n).2
  exact Rel.putN hv hv2 n (by omega) (h.put w hb hv hv2 (by omega)) a1 (by omega)
theorem Rel.many {s:Rows×Int} {B C:Rows} (h:Rel s B) (w:Wb s) (hb:40≤bitsN s) {v:Int} (hv:0≤v) (hv2:v≤9223372036854775807) {n:Nat} (hn:n≤64) (hC:C.length=n) (hc:∀t,t < n→gt C t 0=.i (v / 2 ^ (n - 1 - t) % 2)):Rel (HX.putN v n s) (B++C):=by
 obtain ⟨a1,a2,a3⟩:=putN_ok hv hv2 n hn w
 have a5:=(putN_wf v n w.wf).2
 have hl:=h.len
 refine ⟨by rw [a5,List.length_append,hC];omega,fun p hp=>?_⟩
 by_cases e:p < B.length
 ·rw [gtAl e,h.bit p e,a2.bit _ (by omega)]
 ·obtain ⟨t,rfl⟩:∃t,p=B.length+t:=⟨p - B.length,by omega⟩
  have ht:t < n:=by rw [List.length_append,hC] at hp;omega
  rw [gtAp,hc t ht,←a3 t ht]
  congr 2
  omega
theorem Rel.wr {m:Int×Int} {v:Int} (hv:0≤v) (hv2:v≤2147483647) {s:Rows×Int} {B:Rows} (h:Rel s B) (w:Wb s) (hb:40≤bitsN s):Rel (wrS m v s) (wrR m v B):=by
 have hk:=lowK_le m
 obtain ⟨K,hK⟩:∃K,lowK m=K:=⟨_,rfl⟩
 have hq:=shr_bd (v:=v) (k:=(lowK m:Int)) hv (by omega) (by omega)
 rw [hK] at hk hq
 unfold wrS wrR
 rw [hK]
 obtain ⟨q,hqq⟩:∃q,Ar.std.shr .i64 v (K:Int)=q:=⟨_,rfl⟩
 rw [hqq] at hq ⊢
 split
 ·rename_i h24
  obtain ⟨Q,rfl⟩:∃Q:Nat,q=Q:=⟨q.toNat,by omega⟩
  have hw:Ar.std.shl .i64 1 ((Q:Int)+1) - 2=2 ^ (Q+1) - 2:=by
   rw [shl_one (by omega) (by omega),show ((Q:Int)+1).toNat=Q+1 by omega]
  rw [hw,show ((Q:Int)+1).toNat=Q+1 by omega,Int.toNat_natCast]
  have pl:=pow_le (Q+1) (by omega)
  have p2:(2:Int)≤2 ^ (Q+1):=by rw [Int.pow_succ];have:=(pow_le Q (by omega)).1;omega
  have e:ones Q B++[[.i 0]]=B++(List.replicate Q [.i 1]++[[.i 0]]):=by rw [ones,List.append_assoc]
  rw [e]
  have r1:=h.many (C:=List.replicate Q [.i 1]++[[.i 0]]) w hb (v:=2 ^ (Q+1) - 2) (by omega) (by omega) (n:=Q+1) (by omega) (by simp) fun t ht=>by
   by_cases c:t < Q
   ·rw [gtAl (by simpa using c),onesq Q (by omega) t c,gt_eq,List.getElem?_replicate,if_pos c]
    rfl
   ·have c:t=(List.replicate Q [D.i 1]).length+0:=by simp;omega
    rw [c,gtAp]
    have z:=zeroq Q (by omega)
    simp only [List.length_replicate,Nat.add_zero]
    rw [z]
    rfl
  obtain ⟨a1,a2,_⟩:=putN_ok (v:=2 ^ (Q+1) - 2) (by omega) (by omega) (Q+1) (by omega) w
  exact Rel.putN hv (by omega) K (by omega) r1 a1 (Int.le_trans hb a2.le)
 ·obtain ⟨N,hN⟩:∃N:Nat,N=24:=⟨_,rfl⟩
  obtain ⟨M,hM⟩:∃M:Nat,M=31:=⟨_,rfl⟩
  obtain ⟨W,hW⟩:∃W:Int,W=16777215:=⟨_,rfl⟩
  rw [←hN,←hM,←hW]
  have r1:=h.many (C:=List.replicate N [.i 1]) w hb (v:=W) (by omega) (by omega) (n:=N) (by omega) (by simp) fun t ht=>by
   rw [gt_eq,List.getElem?_replicate,if_pos ht]
   have:=ones24 t (by omega)
   rw [hN,hW,this]
   rfl
  obtain ⟨a1,a2,_⟩:=putN_ok (v:=W) (by omega) (by omega) N (by omega) w
  exact Rel.putN hv (by omega) M (by omega) r1 a1 (Int.le_trans hb a2.le)
noncomputable def pkB (l:Rows):Nat→Rows
 |0=>[]
 |q+1=>wrR (pkS l q).d (plcE l q (pkS l q).bt (pkS l q).bi) (wrR (pkS l q).t (gapE l q (pkS l q).bt) (pkB l q))
theorem rel_all {l:Rows} (h:EvOk' l):∀q,q≤l.length→Rel (stP l q) (pkB l q)
 |0,_=>⟨by simp [pkB,stP,pkS,hdrP,bitsN],fun p hp=>by simp [pkB] at hp⟩
 |q+1,hq=>by
  obtain ⟨a1,a2,a3⟩:=pk_step h q (by omega)
  obtain ⟨g1,g2⟩:=gap_bd h (q:=q) (by omega)
  obtain ⟨b1,b2,_⟩:=wr_ok (m:=(pkS l q).t) g1.1 (by omega) a1 a2
  exact Rel.wr g2.1 (by omega) (Rel.wr g1.1 (by omega) (rel_all h q (by omega)) a1 a2) b1 (Int.le_trans a2 b2.le)
end HX

namespace HX
open Go Go.Proofs CX
def CanB (o:Rows):Prop:=∀i,(h:i < o.length)→o[i]=[.i (gt o i 0).int]
theorem can_app {o:Rows} (h:CanB o) (z:Int):CanB (o++[[.i z]]):=fun i hi=>by
 by_cases c:i < o.length
 ·rw [List.getElem_append_left c,h i c,gtA c]
 ·have c:i=o.length:=by simp at hi;omega
  subst c
  rw [gtN]
  simp [D.int]
theorem can_set {o:Rows} (h:CanB o) (j:Nat) (z:Int):CanB (o.set j [.i z]):=fun i hi=>by
 have hi':i < o.length:=by simpa using hi
 rw [List.getElem_set]
 split
 ·rename_i e;subst e
  rw [gt_set hi',if_pos rfl];rfl
 ·rename_i e
  rw [h i hi',gt_eq,gt_eq,List.getElem?_set_ne e]
theorem can_put1 {s:Rows×Int} (h:CanB s.1) (v k:Int):CanB (put1 s v k).1:=by
 unfold put1
 split
 ·exact can_set (can_app h _) _ _
 ·exact can_set h _ _
theorem can_putN (v:Int):∀n {s:Rows×Int},CanB s.1→CanB (putN v n s).1
 |0,_,h=>h
 |n+1,_,h=>can_putN v n (can_put1 h v n)
theorem can_wr {m:Int×Int} {v:Int} {s:Rows×Int} (h:CanB s.1):CanB (wrS m v s).1:=by
 unfold wrS
 split
 ·exact can_putN _ _ (can_putN _ _ h)
 ·exact can_putN _ _ (can_putN _ _ h)
theorem can_pk (l:Rows):∀q,CanB (stP l q).1
 |0=>can_app (o:=[[.i 71],[.i 83],[.i (Ar.std.wrap .u8 (Ar.std.shr .i64 (l.length:Int) 16))],[.i (Ar.std.wrap .u8 (Ar.std.shr .i64 (l.length:Int) 8))]]) (can_app (o:=[[.i 71],[.i 83],[.i (Ar.std.wrap .u8 (Ar.std.shr .i64 (l.length:Int) 16))]]) (can_app (o:=[[.i 71],[.i 83]]) (can_app (o:=[[.i 71]]) (can_app (o:=[]) (fun i h=>by simp at h) _) _) _) _) _
 |q+1=>can_wr (can_wr (can_pk l q))
theorem pad_bit {s:Rows×Int} {B:Rows} (h:Rel s B) (w:Wb s) (hb:40≤bitsN s) {t:Nat} (ht:(t:Int)≤s.2):∀p,p < (B++List.replicate t [D.i 0]).length→gt (B++List.replicate t [D.i 0]) p 0=.i (bAt s.1 (40+p)):=by
 intro p hp
 have hl:=h.len
 have r0:=w.wf.r0
 have r7:=w.wf.r7
 rw [List.length_append,List.length_replicate] at hp
 by_cases e:p < B.length
 ·rw [gtAl e,h.bit p e]
 ·obtain ⟨j,rfl⟩:∃j,p=B.length+j:=⟨p - B.length,by omega⟩
  rw [gtAp,gt_eq,List.getElem?_replicate,if_pos (by omega)]
  show D.i 0=_
  have z:=w.z
  unfold bAt
  simp only [bitsN] at hl hb
  rw [show (40+(B.length+j)) / 8=s.1.length - 1 by omega]
  generalize (gt s.1 (s.1.length - 1) 0).int=x at z
  obtain ⟨r,hr⟩:∃r:Nat,s.2=r:=⟨s.2.toNat,by omega⟩
  rw [hr,Int.toNat_natCast] at z
  have hq:7 - (40+(B.length+j)) % 8 < r:=by omega
  generalize 7 - (40+(B.length+j)) % 8=q at hq
  have cr:r=1∨r=2∨r=3∨r=4∨r=5∨r=6∨r=7:=by omega
  have cq:q=0∨q=1∨q=2∨q=3∨q=4∨q=5∨q=6:=by omega
  have:x / 2 ^ q % 2=0:=by
   rcases cr with rfl |rfl |rfl |rfl |rfl |rfl |rfl<;>rcases cq with rfl |rfl |rfl |rfl |rfl |rfl |rfl<;>first |(exfalso;omega;done) |(simp only [pw] at z ⊢;omega)
  rw [this]
end HX

namespace HX
open Go Go.Proofs CX
theorem law66 {a0 : Rows} (hb : byL a0) (hl : a0.length ≤ 4000000000) {R : Nat → Nat → D} (h0 : R 0 0 = .i (sumS a0 a0.length).1) (h1 : R 1 0 = .i (sumS a0 a0.length).2) :
    V66 a0 R (fun s t i=>∃q:Nat,i=q∧q≤a0.length∧(s,t)=sumS a0 q) (fun _ _ i=>(a0.length - i).toNat):=by
  constructor
  case i0=>exact ⟨0,rfl,by omega,rfl⟩
  all_goals (intro s t i hI; obtain ⟨q, hq, hql, e⟩ := hI; subst hq; have bd := sumS_bd hb q hql; have e1 : (sumS a0 q).1 = s := by rw [← e]
             have e2:(sumS a0 q).2=t:=by rw [←e]
             rw [e1,e2] at bd;(try simp only [Int.toNat_natCast]);intro hx)
  case g11=>rw [h0,←e1,show q=a0.length by omega]
  case g12=>rw [h1,←e2,show q=a0.length by omega]
  case n10=>exact ⟨⟨q+1,by omega,by omega,by rw [sumS,e1,e2]⟩,by omega⟩
  all_goals (try (have c:=hb q (by omega)))
  case g7=>
    rw [Int.tmod_eq_emod_of_nonneg (by omega)]
    omega
  all_goals omega
theorem fol_at {l:Rows} {q:Nat} (hq:q < l.length) {t i:Int} (h:0 < q→t=eT l (q - 1)∧i=eI l (q - 1)) {f:Bool} (hf:f=decide (q=0)):folF t i (eT l q) (eI l q) f=folE (l.take q) (eT l q) (eI l q):=by
 have lq:(l.take q).length=q:=by rw [List.length_take];omega
 rw [←fol_eq (l:=l.take q) (t:=t) (i:=i),lq,hf]
 intro hp
 rw [lq] at hp ⊢
 obtain ⟨rfl,rfl⟩:=h hp
 unfold eT eI
 rw [gt_take (by omega),gt_take (by omega)]
 exact ⟨rfl,rfl⟩
theorem law54 {pre:Nat→List (List D)→Prop} {fn:Nat→List (List D)→Nat→Nat→D} (hp40:∀x,pre 40 x) (hf40:∀t i t2 i2 f,fn 40 [[.i t,.i i],[.i t2,.i i2],[.b f]] 0 0=.i (folF t i t2 i2 f)) {l:Rows} {R:Nat→Nat→D} (hR:R 0 0=.i (chkE l)) :
  V54 pre fn l R (fun _ i=>∃f:Nat,f≤l.length∧i=(l.length - f:Nat)∧chkG l l.length=chkG l f) (fun _ i=>(l.length - i).toNat):=by
 have hi:∀n:Int,(D.i n).int=n:=fun _=>rfl
 have e0:∀q,(gt l q 0).int=eT l q:=fun _=>rfl
 have e1:∀q,(gt l q 1).int=eI l q:=fun _=>rfl
 constructor
 all_goals (try simp only [hf40,hi,e0,e1])
 case g0=>intro h;rw [hR,chkE,if_pos (by omega)]
 case i0=>exact fun _=>⟨l.length,Nat.le_refl _,by omega,rfl⟩
 all_goals (intro e i hI;obtain ⟨f,hf,hq,hc⟩:=hI;subst hq;(try simp only [Int.toNat_natCast]);intro hl hx)
 case g9 |g16=>intros;exact hp40 _
 case g20=>
  obtain rfl:f=0:=by omega
  rw [hR,chkE,if_neg (by omega),hc];rfl
 case g10 |g17=>
  intro h0 h
  obtain ⟨g,rfl⟩:∃g,f=g+1:=⟨f - 1,by omega⟩
  rw [fol_at (q:=l.length - (g+1)) (by omega) (fun hp=>by first |(exfalso;omega;done) |(rw [show (((l.length - (g+1):Nat):Int) - 1).toNat=l.length - (g+1) - 1 by omega];exact ⟨rfl,rfl⟩)) (decide_eq_decide.2 (by omega))] at h ⊢
  rw [hR,chkE,if_neg (by omega),hc,chkG,if_neg h]
 case n12 |n19=>
  intro h0 h
  obtain ⟨g,rfl⟩:∃g,f=g+1:=⟨f - 1,by omega⟩
  rw [fol_at (q:=l.length - (g+1)) (by omega) (fun hp=>by first |(exfalso;omega;done) |(rw [show (((l.length - (g+1):Nat):Int) - 1).toNat=l.length - (g+1) - 1 by omega];exact ⟨rfl,rfl⟩)) (decide_eq_decide.2 (by omega))] at h
  refine ⟨⟨g,by omega,by omega,?_⟩,by omega⟩
  rw [hc,chkG,if_pos h]
 all_goals omega
end HX

namespace HX
open Go Go.Proofs CX
theorem law28 {pre:Nat→List (List D)→Prop} {fn:Nat→List (List D)→Nat→Nat→D} (hp89:∀x,pre 89 x) (hf89:∀a n,fn 89 [[.i a,.i n]] 0 0=.i (lowK (a,n)))
  (hp54:∀x,pre 54 x) (hf54:∀l,fn 54 [[.l l]] 0 0=.i (chkE l))
  (hp65:∀a n v,MOk (a,n)→0≤v→v≤8589934592→pre 65 [[.i a,.i n],[.i v]]) (hf65:∀a n v,fn 65 [[.i a,.i n],[.i v]] 0 0=.i (lrn (a,n) v).1∧fn 65 [[.i a,.i n],[.i v]] 0 1=.i (lrn (a,n) v).2)
  (hp66:∀l:Rows,byL l→l.length≤4000000000→pre 66 [[.l l]]) (hf66:∀l,fn 66 [[.l l]] 0 0=.i (sumS l l.length).1∧fn 66 [[.l l]] 1 0=.i (sumS l l.length).2)
  {a0:Rows} {R:Nat→Nat→D} (h0:R 0 0=.l (pacL a0)) (h1:R 1 0=.i (chkE a0)):V28 pre fn a0 R:=by
 have hi:∀n:Int,(D.i n).int=n:=fun _=>rfl
 constructor
 all_goals (try simp only [hf54,hi])
 case g0=>exact hp54 _
 case g1=>intro h;rw [h0,pacL,if_neg h]
 case g2=>intro h;rw [h1]
 case l0=>
  intro hc
  obtain ⟨hl,he⟩:=chk_ev hc
  have h0:R 0 0=.l (packP a0):=by rw [h0,pacL,if_pos hc]
  have h1:R 1 0=.i 0:=by rw [h1,hc]
  refine ⟨fun B i ta tn da dn=>∃q:Nat,i=q∧q≤a0.length∧B=pkB a0 q∧(ta,tn)=(pkS a0 q).t∧(da,dn)=(pkS a0 q).d,fun _ i _ _ _ _=>(a0.length - i).toNat,⟨0,rfl,by omega,rfl,rfl,rfl⟩,?_⟩
  intro B i ta tn da dn hI
  obtain ⟨q,hq,hql,hB,ht,hd⟩:=hI
  subst hq hB
  obtain ⟨_,b1,b2,m1,m2⟩:=pk_ok he q hql
  obtain ⟨w,wb,wh⟩:=pk_step he q hql
  have rel:=rel_all he q hql
  have rl:=rel.len
  rw [←ht] at m1
  rw [←hd] at m2
  have b2:bitsN (stP a0 q)≤40+110 * q:=b2
  constructor
  case l1=>
   intro hx
   obtain ⟨g1,g2⟩:=gap_bd he (q:=q) (by omega)
   obtain ⟨bb1,bb2⟩:=pk_before a0 q
   have tq:=he.rt q (by omega)
   have iq:=he.ri q (by omega)
   obtain ⟨g,hg⟩:∃g,gapE a0 q (pkS a0 q).bt=g:=⟨_,rfl⟩
   obtain ⟨v,hv⟩:∃v,plcE a0 q (pkS a0 q).bt (pkS a0 q).bi=v:=⟨_,rfl⟩
   rw [hg] at g1
   rw [hv] at g2
   have hg':=hg
   have hv':=hv
   rw [gapE,bb1] at hg
   rw [plcE,bb1,bb2] at hv
   have tn0:((q:Int)).toNat=q:=Int.toNat_natCast q
   have tp:0 < (q:Int)→0≤eT a0 (q - 1)∧eT a0 (q - 1)≤1073741824:=fun h=>he.rt (q - 1) (by omega)
   have ip:0 < (q:Int)→0≤eI a0 (q - 1)∧eI a0 (q - 1)≤65535:=fun h=>he.ri (q - 1) (by omega)
   have sb:0 < (q:Int)→((q:Int) - 1).toNat=q - 1:=fun h=>by omega
   have e0:∀j,(D.int (gt a0 j 0))=eT a0 j:=fun _=>rfl
   have e1:∀j,(D.int (gt a0 j 1))=eI a0 j:=fun _=>rfl
   have gp:0 < (q:Int)→eT a0 q - eT a0 (q - 1)=g:=fun h=>by rw [←hg,if_pos (by omega),if_neg (by omega)]
   have gz:¬0 < (q:Int)→eT a0 q=g:=fun h=>by rw [←hg,if_neg (by omega)]
   have vp:0 < (q:Int)→g=0→eI a0 q - (eI a0 (q - 1)+1)=v:=fun h h2=>by
    have:=gp h
    rw [←hv,if_neg (show ¬q=0 by omega),if_neg (show ¬q=0 by omega),if_pos (by omega)]
   have vn:0 < (q:Int)→¬g=0→eI a0 q=v:=fun h h2=>by
    have:=gp h
    rw [←hv,if_neg (show ¬q=0 by omega),if_neg (show ¬q=0 by omega),if_neg (by omega)]
   have vz:¬0 < (q:Int)→eI a0 q=v:=fun h=>by
    rw [←hv,if_pos (show q=0 by omega),if_pos (show q=0 by omega),if_neg (by omega)]
   have blen:(pkB a0 q).length≤100000000:=by omega
   obtain ⟨w2,wb2,_⟩:=wr_ok (m:=(pkS a0 q).t) g1.1 (by omega) w wb
   have r2:=(Rel.wr (m:=(pkS a0 q).t) g1.1 (by omega) rel w wb)
   have b3:=(wrS_wf (m:=(pkS a0 q).t) g1.1 w.wf).2.2
   refine ⟨fun g' v'=>g'=g∧v'=v,?_,fun g' v' hgv=>⟨⟨fun B'=>B'=wrR (ta,tn) g (pkB a0 q),?_,fun B' hB'=>?_⟩⟩⟩
   ·constructor
    all_goals (try simp only [vZ28,v28b,tn0,e0,e1])
    case n22=>intro h;rw [sb h,gp h];intro hz;exact ⟨rfl,vp h hz⟩
    case n23=>intro h;rw [sb h,gp h];intro hz;exact ⟨rfl,vn h hz⟩
    case n24=>intro h;exact ⟨gz h,vz h⟩
    all_goals (intro h;have tp:=tp h;have ip:=ip h;(try rw [sb h]))
    all_goals (intros;omega)
   ·rw [hgv.1]
    exact law28r hp89 hf89 blen g1.1 (by omega)
   ·rw [hgv.1,hgv.2]
    subst hB'
    have bl2:(wrR (ta,tn) g (pkB a0 q)).length≤100000000:=by
     have l2:=r2.len
     rw [←ht] at l2 b3
     omega
    constructor
    case g66=>exact hp65 _ _ _ m1 g1.1 (by omega)
    case l8=>
     refine ⟨fun B2=>B2=wrR (da,dn) v (wrR (ta,tn) g (pkB a0 q)),law28r hp89 hf89 bl2 g2.1 (by omega),fun B2 hB2=>?_⟩
     subst hB2
     constructor
     case g108=>exact hp65 _ _ _ m2 g2.1 (by omega)
     case g109=>simp only [vZ28];omega
     case n110=>
      simp only [(hf65 _ _ _).1,(hf65 _ _ _).2,hi]
      refine ⟨⟨q+1,by omega,by omega,?_,?_,?_⟩,by omega⟩
      ·rw [pkB,hg',hv',←ht,←hd]
      ·show lrn (ta,tn) g=_
       rw [pkS];simp only [];rw [hg',←ht]
      ·show lrn (da,dn) v=_
       rw [pkS];simp only [];rw [hv',←hd]
  case l14=>
   intro hx
   obtain rfl:q=a0.length:=by omega
   obtain ⟨o,ho⟩:∃o,(stP a0 a0.length).1=o:=⟨_,rfl⟩
   have can:=can_pk a0 a0.length
   have oby:=w.by_
   have r0:=w.wf.r0
   have r7:=w.wf.r7
   obtain ⟨rr,hrr⟩:∃r:Nat,(stP a0 a0.length).2=r:=⟨(stP a0 a0.length).2.toNat,by omega⟩
   have ol:(pkB a0 a0.length).length+rr=8 * (o.length - 5)∧5≤o.length:=by
    simp only [bitsN] at rl wb
    rw [ho] at rl wb
    omega
   have pb:∀t,t≤rr→∀p,p < (pkB a0 a0.length).length+t→gt (pkB a0 a0.length++List.replicate t [D.i 0]) p 0=.i (bAt o (40+p)):=fun t h p hp=>by
    have:=pad_bit rel w wb (t:=t) (by omega) p (by simp;omega)
    rw [ho] at this;exact this
   rw [ho] at can oby
   have o2:o.length≤1000000:=by
    simp only [bitsN] at b2
    rw [ho] at b2
    omega
   have hd5:o.take 5=hdrP a0:=by
    have s0:=wh.hd (by simp [stP,pkS,hdrP,bitsN])
    have c0:=can_pk a0 0
    refine List.ext_getElem (by rw [List.length_take];simp [hdrP];omega) fun j j1 j2=>?_
    have j5:j < 5:=by rw [List.length_take] at j1;omega
    rw [List.getElem_take,can j (by omega),←ho,s0 j j5]
    exact (c0 j j2).symm
   refine ⟨fun x=>∃t:Nat,t≤rr∧x=pkB a0 a0.length++List.replicate t [D.i 0],fun x=>8 * o.length - x.length,⟨0,by omega,by simp⟩,fun x hI=>?_⟩
   obtain ⟨t,ht8,hxx⟩:=hI
   subst hxx
   have xl:(pkB a0 a0.length++List.replicate t [D.i 0]).length=(pkB a0 a0.length).length+t:=by simp
   have md:Int.tmod (((pkB a0 a0.length).length+t:Nat):Int) 8=(((pkB a0 a0.length).length+t:Nat):Int) % 8:=Int.tmod_eq_emod_of_nonneg (by omega)
   constructor
   all_goals (try simp only [xl,md])
   case g114=>decide
   case g115=>intros;simp only [List.length_cons,List.length_nil];omega
   case n116=>
    intro h
    have:t+1≤rr:=by omega
    refine ⟨⟨t+1,this,?_⟩,?_⟩
    ·rw [List.append_assoc,←List.replicate_succ']
    ·simp only [List.length_append,List.length_replicate,List.length_cons,List.length_nil];omega
   case l15=>
    intro h
    obtain rfl:t=rr:=by omega
    obtain ⟨P,hP⟩:∃P,pkB a0 a0.length++List.replicate t [D.i 0]=P:=⟨_,rfl⟩
    have pb:=pb t (Nat.le_refl _)
    rw [hP] at pb xl ⊢
    refine ⟨fun x i=>∃c:Nat,i=(8 * c:Nat)∧c+5≤o.length∧x=o.take (5+c),fun _ i=>(8 * o.length - i).toNat,⟨0,rfl,by omega,by rw [Nat.add_zero];exact hd5.symm⟩,fun x i hI=>?_⟩
    obtain ⟨c,hi8,hc5,hxx⟩:=hI
    subst hi8 hxx
    constructor
    case l16=>
     intro hlt
     have cl:c+6≤o.length:=by rw [xl] at hlt;omega
     have xb:=oby (5+c) (by omega)
     obtain ⟨X,hX⟩:∃X,(gt o (5+c) 0).int=X:=⟨_,rfl⟩
     rw [hX] at xb
     refine ⟨fun b j=>∃J:Nat,j=J∧J≤8∧b=X / 2 ^ (8 - J),fun _ j=>(8 - j).toNat,⟨0,rfl,by omega,by rw [pw.2.2.2.2.2.2.2.2];omega⟩,fun b j hI=>?_⟩
     obtain ⟨J,hj,hJ8,hb⟩:=hI
     subst hj
     have bit:J < 8→(D.int (gt P (((8 * c:Nat):Int)+J).toNat 0))=X / 2 ^ (7 - J) % 2:=fun h=>by
      rw [show (((8 * c:Nat):Int)+J).toNat=8 * c+J by omega,pb _ (by omega)]
      show bAt o (40+(8 * c+J))=_
      unfold bAt
      rw [show (40+(8 * c+J)) / 8=5+c by omega,show (40+(8 * c+J)) % 8=J by omega,hX]
     have b0:0≤b∧b≤255:=by
      rw [hb]
      exact ⟨Int.ediv_nonneg xb.1 (Int.le_of_lt (Int.pow_pos (by omega))),Int.le_trans (Int.ediv_le_self _ xb.1) xb.2⟩
     constructor
     case n126=>
      intro h
      have h:J < 8:=by omega
      rw [bit h]
      refine ⟨⟨J+1,by omega,by omega,?_⟩,by omega⟩
      rw [hb]
      have:J=0∨J=1∨J=2∨J=3∨J=4∨J=5∨J=6∨J=7:=by omega
      rcases this with rfl |rfl |rfl |rfl |rfl |rfl |rfl |rfl<;>simp only [pw,Nat.reduceSub,Nat.reduceAdd]<;>omega
     case g124=>intro h;rw [bit (by omega)];simp only [vZ28];omega
     case n129=>
      intro h
      obtain rfl:J=8:=by omega
      have hb:b=X:=by rw [hb,Nat.sub_self,pw.1];omega
      refine ⟨⟨c+1,by omega,by omega,?_⟩,by omega⟩
      rw [show 5+(c+1)=5+c+1 by omega,List.take_succ_eq_append_getElem (by omega),can (5+c) (by omega)]
      rw [hX]
      have:Ar.std.wrap .u8 b=X:=by rw [hb];exact wrapU8 xb.1 xb.2
      rw [this]
     all_goals (try simp only [vZ28,List.length_cons,List.length_nil,List.length_take])
     all_goals (intros;omega)
    all_goals intro hlt
    all_goals (obtain rfl:c=o.length - 5:=by omega)
    all_goals (try rw [show o.take (5+(o.length - 5))=o from List.take_of_length_le (by omega)])
    case g130=>exact hp66 _ oby (by omega)
    case g131=>simp only [List.length_cons,List.length_nil];omega
    case g132=>
     rw [(hf66 o).1,(hf66 o).2,h0,packP,sum0,sum1]
     have:(pkS a0 a0.length).o=o:=ho
     rw [this]
     rfl
    case g133=>exact h1
  all_goals (intros;omega)
end HX

namespace HX
open Go Go.Proofs CX
theorem pack_byR {l:Rows} (h:EvOk' l):byL (packP l):=by
 obtain ⟨l1,l2,l3,l4⟩:=pack_len h
 intro i hi
 have hb:=(pk_step h l.length (Nat.le_refl _)).1.by_
 by_cases c:i < (stP l l.length).1.length
 ·rw [pack_gt c];exact hb i c
 ·have e:packP l=(stP l l.length).1++[[.i (sum0 (stP l l.length).1)],[.i (sum1 (stP l l.length).1)]]:=rfl
  have g:gt (packP l) i 0=if i - (stP l l.length).1.length=0 then D.i (sum0 (stP l l.length).1) else D.i (sum1 (stP l l.length).1):=by
   have:i - (stP l l.length).1.length=0∨i - (stP l l.length).1.length=1:=by omega
   rw [e,gt_eq,List.getElem?_append_right (by omega)]
   rcases this with h |h<;>rw [h]<;>rfl
  rw [g]
  split
  ·exact wrapU8_rng _
  ·exact wrapU8_rng _
end HX

namespace HX
open Go Go.Proofs CX
theorem law11 {pre:Nat→List (List D)→Prop} {fn:Nat→List (List D)→Nat→Nat→D} (hp13:pre 13 []) (hf13:fn 13 [] 0 0=.b true)
  (hp28:∀x,pre 28 x) (hf28:∀l,fn 28 [[.l l]] 0 0=.l (pacL l)∧fn 28 [[.l l]] 1 0=.i (chkE l))
  (hp40:∀x,pre 40 x) (hf40:∀t i t2 i2 f,fn 40 [[.i t,.i i],[.i t2,.i i2],[.b f]] 0 0=.i (folF t i t2 i2 f))
  (hp63:∀l:Rows,l.length≤65536→EvOk' l→pre 63 [[.l l]]) (hf63:∀l,fn 63 [[.l l]] 0 0=.l (packP l))
  (hp71:∀x,pre 71 x) (hf71:∀l a b,fn 71 [[.l l],[.i a,.i b]] 0 0=.i (folE l a b))
  {a0:Rows} {R:Nat→Nat→D} (hR:R 0 0=.b true):V11 pre fn a0 R:=by
 have hi:∀n:Int,(D.i n).int=n:=fun _=>rfl
 have hb:∀n:Bool,(D.b n).boo=n:=fun _=>rfl
 have hrw:∀n:Rows,(D.l n).rows=n:=fun _=>rfl
 constructor
 case g0=>intro _;exact hp13
 case g1=>intro _;rw [hf13];exact hR
 case l0=>
  intro hl
  refine ⟨fun B i m C=>m=true∧C=B∧EvOk' B∧∃q:Nat,i=q∧q≤a0.length∧B.length≤q,fun _ i _ _=>(a0.length - i).toNat,⟨rfl,rfl,ev_nil,0,rfl,by omega,by simp⟩,fun B i m C hI=>?_⟩
  obtain ⟨hm,hC,ev,q,hq,hql,hBq⟩:=hI
  subst hm hC hq
  have b2:C.length≤200:=by omega
  have hlst:0 < (C.length:Int)→((C.length:Int) - 1).toNat=C.length - 1:=fun h=>by omega
  obtain ⟨T,hT⟩:∃T,v11l a0 q=T:=⟨_,rfl⟩
  obtain ⟨I,hI⟩:∃I,v11m a0 q=I:=⟨_,rfl⟩
  have hdec:decide ((C.length:Int)=0)=decide (C.length=0):=decide_eq_decide.2 (by omega)
  have hA:0 < (C.length:Int)→v11a fn C a0 q=folE C T I:=fun h=>by
   unfold v11a
   rw [hf40,hi,hdec,hlst h]
   exact (fol_eq (l:=C) fun _=>⟨rfl,rfl⟩).trans (by rw [←hT,←hI])
  have hB:¬0 < (C.length:Int)→v11b fn a0 q C=folE C T I:=fun h=>by
   unfold v11b
   rw [hf40,hi,hdec]
   exact (fol_eq (l:=C) fun h2=>absurd h2 (by omega)).trans (by rw [←hT,←hI])
  have hC:v11c fn C a0 q=folE C T I:=by
   unfold v11c
   rw [hf71,hi,←hT,←hI]
  have hev:folE C T I=0→EvOk' (v11d C a0 q):=fun h=>by
   unfold v11d
   have:=ev.push h
   rw [←hT,←hI] at this
   exact this
  have hdl:(v11d C a0 q).length=C.length+1:=by simp
  have ek:chkE C=0:=chk_0 ev (by omega)
  have ep:pacL C=packP C:=by rw [pacL,if_pos ek]
  have ne:(q:Int) < a0.length→folE C T I=0→(true=true∧v11e C a0 q=v11d C a0 q∧EvOk' (v11d C a0 q)∧∃q':Nat,(q:Int)+1=q'∧q'≤a0.length∧(v11d C a0 q).length≤q')∧(a0.length - ((q:Int)+1)).toNat < (a0.length - (q:Int)).toNat:=fun h h0=>
   ⟨⟨rfl,rfl,hev h0,q+1,by omega,by omega,by omega⟩,by omega⟩
  have nk:(q:Int) < a0.length→(true=true∧C=C∧EvOk' C∧∃q':Nat,(q:Int)+1=q'∧q'≤a0.length∧C.length≤q')∧(a0.length - ((q:Int)+1)).toNat < (a0.length - (q:Int)).toNat:=fun h=>
   ⟨⟨rfl,rfl,ev,q+1,by omega,by omega,by omega⟩,by omega⟩
  generalize hE:folE C T I=E at hA hB hC ne
  constructor
  case g10 |g134=>intros;exact hp40 _
  case g60 |g184=>intros;exact hp71 _
  case g255 |g263=>intros;exact hp28 _
  case g258 |g266=>intros;exact hp13
  case g262=>intros;exact hp63 _ (by omega) ev
  case g264=>intros;rw [hf63];exact pack_byR ev
  case g265=>intros;rw [(hf28 _).1,ep];exact pack_byR ev
  case g267=>intros;rw [hf13];exact hR
  case g268=>intro _ _ _ _ h;rw [(hf28 _).2,ek] at h;exact absurd rfl h
  case g269=>intro _ _ _ h;rw [(hf28 _).1,hf63,ep] at h;exact absurd rfl h
  have hel:(v11e C a0 q).length=C.length+1:=hdl
  all_goals (intro h1 h2)
  all_goals (try simp only [v11j,v11k,v11o,v11n,v11i,v11f,v11g,v11h,vZ11,List.length_cons,List.length_nil] at *)
  all_goals (try simp only [hA h2])
  all_goals (try simp only [hB h2])
  all_goals (try simp only [hC])
  all_goals (intros;first |contradiction |omega |(exfalso;omega;done) |exact ne h1 (by assumption) |exact nk h1 |skip)
end HX

namespace HX
open Go Go.Proofs CX
set_option maxHeartbeats 4000000 in
set_option maxRecDepth 100000 in
theorem walk92 {ro A pre fn} (hE:EnvOk ⟨A,(cxE ro),ksF,sigL [],pre,fn⟩) {P:List (List D)→Prop} {res:List (List D)→Nat→Nat→D}
  (hv:∀(a0_0:Int) (a0_1:Int),P [[.i a0_0,.i a0_1]]→∃(I0:Int→Prop) (m0:Int→Nat),V92 a0_0 a0_1 (res [[.i a0_0,.i a0_1]]) I0 m0) :
  PureC (cxE ro) 92 ⟨[(true,[.int .i64,.int .i64])],[(false,[.int .i64])],false⟩ P res:=by
 have h:=hE.A
 simp only [] at h
 have hinl:∀f fn,inlL [] f=some fn→(cxE ro).fn f=some fn∧(cxE ro).ext f=none:=Inls.ok (by repeat (first |exact .nil |refine .cons rfl rfl ?_))
 refine PureC.of_vc hE hinl 6 (f:=92) (fn:=Try.f92) ⟨rfl,rfl⟩ ?_
 intro a0_0 a0_1 hP
 obtain ⟨R,hR⟩:∃R,res [[.i a0_0,.i a0_1]]=R:=⟨_,rfl⟩
 rw [hR]
 obtain ⟨I0,m0,hV⟩:=hv a0_0 a0_1  hP
 rw [hR] at hV
 clear hR hP hv
 cbv
 repeat' first|(refine Br.mk (fun _=>?_) (fun _=>?_)<;>cbv)|(refine NilB.mk (fun _=>?_) ?_<;>cbv)|refine And.intro ?_ ?_|exact True.intro
 ·refine Leaf.gen fun σz hσz=>?_
  refine loopB hE hinl 6 [] [] [] (fun x:Int=>[.i x]) (fun x=>I0 x) (fun x=>m0 x) (0) (by subst h;exact hV.i0) ?_ ?_<;>subst hσz
  ·clear hE hinl hV;cbv;(try repeat' first|rfl|assumption|constructor)
  ·intro x0_0 hI0 K0 hK0
   cbv
   repeat' first|(refine Br.mk (fun _=>?_) (fun _=>?_)<;>cbv)|(refine NilB.mk (fun _=>?_) ?_<;>cbv)|refine And.intro ?_ ?_|exact True.intro
   ·rename_i hp1_0
    subst h;exact hV.g1 _ hI0 (dt hp1_0)
   ·rename_i hp2_0 hp2_1
    subst h;exact hV.g2 _ hI0 (dt hp2_0) (dt hp2_1)
   ·rename_i hp3_0 hp3_1
    refine hK0 (A.add x0_0 1) _ ?_ ?_ ?_
    ·subst h;exact (hV.n3 _ hI0 (dt hp3_0) (dt hp3_1)).1
    ·subst h;exact (hV.n3 _ hI0 (dt hp3_0) (dt hp3_1)).2
    ·clear hE hinl hV hK0;cbv;(try repeat' first|rfl|assumption|constructor)
   ·rename_i hp4_0 hp4_1
    subst h;exact hV.g4 _ hI0 (dt hp4_0) (df hp4_1)
   ·rename_i hp5_0
    subst h;exact hV.g5 _ hI0 (df hp5_0)
end HX

namespace HX
open Go Go.Proofs CX
set_option maxHeartbeats 4000000 in
set_option maxRecDepth 100000 in
theorem walk67 {ro A pre fn} (hE:EnvOk ⟨A,(cxE ro),ksF,sigL [],pre,fn⟩) {P:List (List D)→Prop} {res:List (List D)→Nat→Nat→D}
  (hv:∀(a0:Rows),ShR [.int .u8] a0→P [[.l a0]]→∃(I0:Int→Int→Int→Prop) (m0:Int→Int→Int→Nat),V67 a0 (res [[.l a0]]) I0 m0) :
  PureC (cxE ro) 67 ⟨[(false,[.sl [.int .u8]])],[(true,[.int .u8,.int .u8])],false⟩ P res:=by
 have h:=hE.A
 simp only [] at h
 have hinl:∀f fn,inlL [] f=some fn→(cxE ro).fn f=some fn∧(cxE ro).ext f=none:=Inls.ok (by repeat (first |exact .nil |refine .cons rfl rfl ?_))
 refine PureC.of_vc hE hinl 6 (f:=67) (fn:=Try.f67) ⟨rfl,rfl⟩ ?_
 intro a0 ha0 hP
 obtain ⟨R,hR⟩:∃R,res [[.l a0]]=R:=⟨_,rfl⟩
 rw [hR]
 obtain ⟨I0,m0,hV⟩:=hv a0 ha0 hP
 rw [hR] at hV
 clear hR hP hv
 cbv
 repeat' first|(refine Br.mk (fun _=>?_) (fun _=>?_)<;>cbv)|(refine NilB.mk (fun _=>?_) ?_<;>cbv)|refine And.intro ?_ ?_|exact True.intro
 ·refine Leaf.gen fun σz hσz=>?_
  refine loopB hE hinl 6 [] [] [] (fun x:Int×Int×Int=>[.i x.1,.i x.2.1,.i x.2.2]) (fun x=>I0 x.1 x.2.1 x.2.2) (fun x=>m0 x.1 x.2.1 x.2.2) (0,0,0) (by subst h;exact hV.i0) ?_ ?_<;>subst hσz
  ·clear hE hinl hV;cbv;(try repeat' first|rfl|assumption|constructor)
  ·intro ⟨x0_0,x0_1,x0_2⟩ hI0 K0 hK0
   cbv
   repeat' first|(refine Br.mk (fun _=>?_) (fun _=>?_)<;>cbv)|(refine NilB.mk (fun _=>?_) ?_<;>cbv)|refine And.intro ?_ ?_|exact True.intro
   ·next a=>subst h;exact hV.g1 _ _ _ hI0 (dt a)
   ·next a=>subst h;exact hV.g2 _ _ _ hI0 (dt a)
   ·next a=>subst h;exact hV.g3 _ _ _ hI0 (dt a)
   ·next a=>subst h;exact hV.g4 _ _ _ hI0 (dt a)
   ·next a=>subst h;exact hV.g5 _ _ _ hI0 (dt a)
   ·next a=>subst h;exact hV.g6 _ _ _ hI0 (dt a)
   ·next a=>subst h;exact hV.g7 _ _ _ hI0 (dt a)
   ·next a=>subst h;exact hV.g6 _ _ _ hI0 (dt a)
   ·next a=>subst h;exact hV.g9 _ _ _ hI0 (dt a)
   ·rename_i p10a
    refine hK0 (A.tmod (A.add x0_0 (A.di (A.get a0 (A.toNat x0_2) 0))) 255,A.tmod (A.add x0_1 (A.tmod (A.add x0_0 (A.di (A.get a0 (A.toNat x0_2) 0))) 255)) 255,A.add x0_2 1) _ ?_ ?_ ?_
    ·subst h;exact (hV.n10 _ _ _ hI0 (dt p10a)).1
    ·subst h;exact (hV.n10 _ _ _ hI0 (dt p10a)).2
    ·clear hE hinl hV hK0;cbv;(try repeat' first|rfl|assumption|constructor)
   ·next a=>subst h;exact hV.g11 _ _ _ hI0 (df a)
   ·next a=>subst h;exact hV.g12 _ _ _ hI0 (df a)
end HX

namespace HX
open Go Go.Proofs CX
set_option maxHeartbeats 4000000 in
set_option maxRecDepth 100000 in
theorem walk50 {ro A pre fn} (hE:EnvOk ⟨A,(cxE ro),ksF,sigL [],pre,fn⟩) {P:List (List D)→Prop} {res:List (List D)→Nat→Nat→D}
  (hv:∀(a0:Int) (a1:Int) (a2:Int),P [[.i a0],[.i a1],[.i a2]]→V50 a0 a1 a2 (res [[.i a0],[.i a1],[.i a2]]) ) :
  PureC (cxE ro) 50 ⟨[(false,[.int .i64]),(false,[.int .i64]),(false,[.int .i64])],[(false,[.bool])],false⟩ P res:=by
 have h:=hE.A
 simp only [] at h
 have hinl:∀f fn,inlL [] f=some fn→(cxE ro).fn f=some fn∧(cxE ro).ext f=none:=Inls.ok (by repeat (first |exact .nil |refine .cons rfl rfl ?_))
 refine PureC.of_vc hE hinl 6 (f:=50) (fn:=Try.f50) ⟨rfl,rfl⟩ ?_
 intro a0 a1 a2 hP
 obtain ⟨R,hR⟩:∃R,res [[.i a0],[.i a1],[.i a2]]=R:=⟨_,rfl⟩
 rw [hR]
 have hV:=hv a0 a1 a2  hP
 rw [hR] at hV
 clear hR hP hv
 cbv
 repeat' first|(refine Br.mk (fun _=>?_) (fun _=>?_)<;>cbv)|(refine NilB.mk (fun _=>?_) ?_<;>cbv)|refine And.intro ?_ ?_|exact True.intro
 ·rename_i hp0_0
  subst h;exact hV.g0 (dt hp0_0)
 ·rename_i hp1_0
  subst h;exact hV.g1 (df hp1_0)
end HX

namespace HX
open Go Go.Proofs CX
set_option maxHeartbeats 4000000 in
set_option maxRecDepth 100000 in
theorem walk100 {ro A pre fn} (hE:EnvOk ⟨A,(cxE ro),ksF,sigL [],pre,fn⟩) {P:List (List D)→Prop} {res:List (List D)→Nat→Nat→D}
  (hv:∀(a0:Int) (a1:Int),P [[.i a0],[.i a1]]→V100 a0 a1 (res [[.i a0],[.i a1]]) ) :
  PureC (cxE ro) 100 ⟨[(false,[.int .i64]),(false,[.int .i64])],[(false,[.int .i64])],false⟩ P res:=by
 have h:=hE.A
 simp only [] at h
 have hinl:∀f fn,inlL [(112,Try.f112)] f=some fn→(cxE ro).fn f=some fn∧(cxE ro).ext f=none:=Inls.ok (by repeat (first |exact .nil |refine .cons rfl rfl ?_))
 refine PureC.of_vc hE hinl 6 (f:=100) (fn:=Try.f100) ⟨rfl,rfl⟩ ?_
 intro a0 a1 hP
 obtain ⟨R,hR⟩:∃R,res [[.i a0],[.i a1]]=R:=⟨_,rfl⟩
 rw [hR]
 have hV:=hv a0 a1  hP
 rw [hR] at hV
 clear hR hP hv
 cbv
 repeat' first|(refine Br.mk (fun _=>?_) (fun _=>?_)<;>cbv)|(refine NilB.mk (fun _=>?_) ?_<;>cbv)|refine And.intro ?_ ?_|exact True.intro
 ·rename_i hp0_0 hp0_1
  subst h;exact hV.g0 (df (nt hp0_0)) (df (nt hp0_1))
 ·rename_i hp1_0 hp1_1
  subst h;exact hV.g1 (df (nt hp1_0)) (dt (nf hp1_1))
 ·rename_i hp2_0 hp2_1
  subst h;exact hV.g2 (dt (nf hp2_0)) (df (nt hp2_1))
 ·rename_i hp3_0 hp3_1 hp3_2
  subst h;exact hV.g3 (dt (nf hp3_0)) (dt (nf hp3_1)) (dt hp3_2)
 ·rename_i hp4_0 hp4_1 hp4_2 hp4_3
  subst h;exact hV.g4 (dt (nf hp4_0)) (dt (nf hp4_1)) (df hp4_2) (dt hp4_3)
 ·rename_i hp5_0 hp5_1 hp5_2 hp5_3
  subst h;exact hV.g5 (dt (nf hp5_0)) (dt (nf hp5_1)) (df hp5_2) (df hp5_3)
end HX

namespace HX
open Go Go.Proofs CX
set_option maxHeartbeats 4000000 in
set_option maxRecDepth 100000 in
theorem walk76 {ro A pre fn} (hE:EnvOk ⟨A,(cxE ro),ksF,sigL [(100,⟨[(false,[.int .i64]),(false,[.int .i64])],[(false,[.int .i64])],false⟩)],pre,fn⟩) {P:List (List D)→Prop} {res:List (List D)→Nat→Nat→D}
  (hv:∀(a0_0:Int) (a0_1:Int) (a1_0:Int) (a1_1:Int),P [[.i a0_0,.i a0_1],[.i a1_0,.i a1_1]]→∃(I0:Int→Int→Prop) (m0:Int→Int→Nat),V76 pre fn a0_0 a0_1 a1_0 a1_1 (res [[.i a0_0,.i a0_1],[.i a1_0,.i a1_1]]) I0 m0) :
  PureC (cxE ro) 76 ⟨[(true,[.int .i64,.int .i64]),(true,[.int .i64,.int .i64])],[(false,[.int .i64])],false⟩ P res:=by
 have h:=hE.A
 simp only [] at h
 have hinl:∀f fn,inlL [(99,Try.f99)] f=some fn→(cxE ro).fn f=some fn∧(cxE ro).ext f=none:=Inls.ok (by repeat (first |exact .nil |refine .cons rfl rfl ?_))
 refine PureC.of_vc hE hinl 6 (f:=76) (fn:=Try.f76) ⟨rfl,rfl⟩ ?_
 intro a0_0 a0_1 a1_0 a1_1 hP
 obtain ⟨R,hR⟩:∃R,res [[.i a0_0,.i a0_1],[.i a1_0,.i a1_1]]=R:=⟨_,rfl⟩
 rw [hR]
 obtain ⟨I0,m0,hV⟩:=hv a0_0 a0_1 a1_0 a1_1  hP
 rw [hR] at hV
 clear hR hP hv
 cbv
 repeat' first|(refine Br.mk (fun _=>?_) (fun _=>?_)<;>cbv)|(refine NilB.mk (fun _=>?_) ?_<;>cbv)|refine And.intro ?_ ?_|exact True.intro
 ·subst h;exact hV.g0
 ·subst h;exact hV.g1
 ·refine Leaf.gen fun σz hσz=>?_
  refine loopB hE hinl 6 [] [] [] (fun x:Int×Int=>[.i x.1,.i x.2]) (fun x=>I0 x.1 x.2) (fun x=>m0 x.1 x.2) (0,0) (by subst h;exact hV.i0) ?_ ?_<;>subst hσz
  ·clear hE hinl hV;cbv;(try repeat' first|rfl|assumption|constructor)
  ·intro ⟨x0_0,x0_1⟩ hI0 K0 hK0
   cbv
   repeat' first|(refine Br.mk (fun _=>?_) (fun _=>?_)<;>cbv)|(refine NilB.mk (fun _=>?_) ?_<;>cbv)|refine And.intro ?_ ?_|exact True.intro
   ·next a=>subst h;exact hV.g3 _ _ hI0 (dt a)
   ·next a=>subst h;exact hV.g4 _ _ hI0 (dt a)
   ·next a=>subst h;exact hV.g5 _ _ hI0 (dt a)
   ·next a b=>subst h;exact hV.g6 _ _ hI0 (dt a) (df (nt b))
   ·next a b=>subst h;exact hV.g7 _ _ hI0 (dt a) (dt (nf b))
   ·rename_i p8a p8b
    refine hK0 (x0_0,A.add x0_1 1) _ ?_ ?_ ?_
    ·subst h;exact (hV.n8 _ _ hI0 (dt p8a) (dt (nf p8b))).1
    ·subst h;exact (hV.n8 _ _ hI0 (dt p8a) (dt (nf p8b))).2
    ·clear hE hinl hV hK0;cbv;(try repeat' first|rfl|assumption|constructor)
   ·next a=>subst h;exact hV.g9 _ _ hI0 (df a)
end HX

namespace HX
open Go Go.Proofs CX
set_option maxHeartbeats 4000000 in
set_option maxRecDepth 100000 in
theorem walk71 {ro A pre fn} (hE:EnvOk ⟨A,(cxE ro),ksF,sigL [(50,⟨[(false,[.int .i64]),(false,[.int .i64]),(false,[.int .i64])],[(false,[.bool])],false⟩),(76,⟨[(true,[.int .i64,.int .i64]),(true,[.int .i64,.int .i64])],[(false,[.int .i64])],false⟩)],pre,fn⟩) {P:List (List D)→Prop} {res:List (List D)→Nat→Nat→D}
  (hv:∀(a0:Rows) (a1_0:Int) (a1_1:Int),ShR [.int .i64,.int .i64] a0→P [[.l a0],[.i a1_0,.i a1_1]]→V71 pre fn a0 a1_0 a1_1 (res [[.l a0],[.i a1_0,.i a1_1]]) ) :
  PureC (cxE ro) 71 ⟨[(false,[.sl [.int .i64,.int .i64]]),(true,[.int .i64,.int .i64])],[(false,[.int .i64])],false⟩ P res:=by
 have h:=hE.A
 simp only [] at h
 have hinl:∀f fn,inlL [] f=some fn→(cxE ro).fn f=some fn∧(cxE ro).ext f=none:=Inls.ok (by repeat (first |exact .nil |refine .cons rfl rfl ?_))
 refine PureC.of_vc hE hinl 6 (f:=71) (fn:=Try.f71) ⟨rfl,rfl⟩ ?_
 intro a0 ha0 a1_0 a1_1 hP
 obtain ⟨R,hR⟩:∃R,res [[.l a0],[.i a1_0,.i a1_1]]=R:=⟨_,rfl⟩
 rw [hR]
 have hV:=hv a0 a1_0 a1_1 ha0 hP
 rw [hR] at hV
 clear hR hP hv
 cbv
 repeat' first|(refine Br.mk (fun _=>?_) (fun _=>?_)<;>cbv)|(refine NilB.mk (fun _=>?_) ?_<;>cbv)|refine And.intro ?_ ?_|exact True.intro
 ·subst h;exact hV.g0
 ·next a=>subst h;exact hV.g1 (nt a)
 ·next a=>subst h;exact hV.g2 (nf a)
 ·next a b=>subst h;exact hV.g3 (nf a) (nt b)
 ·next a b c=>subst h;exact hV.g4 (nf a) (nf b) (dt c)
 ·next a b c=>subst h;exact hV.g5 (nf a) (nf b) (dt c)
 ·next a b c=>subst h;exact hV.g6 (nf a) (nf b) (dt c)
 ·next a b c=>subst h;exact hV.g7 (nf a) (nf b) (dt c)
 ·next a b c=>subst h;exact hV.g8 (nf a) (nf b) (dt c)
 ·next a b c d=>subst h;exact hV.g9 (nf a) (nf b) (dt c) (dt d)
 ·next a b c d=>subst h;exact hV.g10 (nf a) (nf b) (dt c) (df d)
 ·next a b c=>subst h;exact hV.g11 (nf a) (nf b) (df c)
end HX

namespace HX
open Go CX
def headId:Code→Nat
 |.region id _ _=>id
 |.seq a _=>headId a
 |.block _ b=>headId b
 |_=>0
def memB:List Nat→Nat→Bool
 |[],_=>false
 |a :: r,x=>match beqN a x with
  |true=>true
  |false=>memB r x
def vcJ (E:Env) (rd:Option Nat) (lo:Nat) (ci:CI) (js:List Nat):Code→(Ex→St→Prop)→St→Prop
 |.seq a b,Q,σ=>vcJ E rd lo ci js a (thenQ (fun σ'=>vcJ E rd lo ci js b Q σ') Q) σ
 |.block id b,Q,σ=>vcJ E rd lo ci js b (inBlockQ id Q) σ
 |.cond c a b,Q,σ=>match memB js (headId a) with
  |true=>Leaf E.E rd lo (.cond c a b) Q σ
  |false=>match evR σ.regs c with
   |.bool true=>vcJ E rd lo ci js a Q σ
   |.bool false=>vcJ E rd lo ci js b Q σ
   |.sym p=>Br p (fun _=>vcJ E rd lo ci js a Q (knowO σ c true)) (fun _=>vcJ E rd lo ci js b Q (knowO σ c false))
   |_=>StuckC (.cond c .skip .skip) σ
 |.region id ops draw,Q,σ=>match memB js id with
  |true=>Leaf E.E rd lo (.region id ops draw) Q σ
  |false=>vc E rd lo ci (.region id ops draw) Q σ
 |c,Q,σ=>vc E rd lo ci c Q σ
section
variable {E:Env} (hE:EnvOk E)
include hE
theorem vcJ_ok {ci:CI} (hci:CIOk E.E ci) (js:List Nat) {rd:Option Nat} {lo:Nat}:∀(c:Code) (Q:Ex→St→Prop) (σ:St),vcJ E rd lo ci js c Q σ→SWP E.E rd lo c Q σ
 |.seq a b,Q,σ,h=>fun C S hS hlo hrd=>by
  obtain ⟨e,S1,C1,σ1,k1,k2,k3,k4⟩:=vcJ_ok hci js a _ σ h C S hS hlo hrd
  cases e with
  |normal=>
   obtain ⟨e,S2,C2,σ2,l1,l2,l3,l4⟩:=vcJ_ok hci js b Q σ1 k4 C1 S1 k2 k3.m.le hrd
   refine ⟨e,S2,C2,σ2,(k1.and l1).succ fun n hn=>?_,l2,k3.trans l3,l4⟩
   show cxBody E.E (cx E.E n) (rd.map C.ids) (.seq a b) S=_
   have hn2:=hn.2
   rw [rd_ag hE hrd k3.m.ag] at hn2
   simp only [cxBody,hn.1,hn2]
  |ret=>
   refine ⟨.ret,S1,C1,σ1,k1.succ fun n hn=>?_,k2,k3,k4⟩
   show cxBody E.E (cx E.E n) (rd.map C.ids) (.seq a b) S=_
   simp only [cxBody,hn]
  |exit i=>
   refine ⟨.exit i,S1,C1,σ1,k1.succ fun n hn=>?_,k2,k3,k4⟩
   show cxBody E.E (cx E.E n) (rd.map C.ids) (.seq a b) S=_
   simp only [cxBody,hn]
 |.block id b,Q,σ,h=>fun C S hS hlo hrd=>by
  obtain ⟨e,S1,C1,σ1,k1,k2,k3,k4⟩:=vcJ_ok hci js b _ σ h C S hS hlo hrd
  cases e with
  |normal=>
   refine ⟨.normal,S1,C1,σ1,k1.succ fun n hn=>?_,k2,k3,k4⟩
   show cxBody E.E (cx E.E n) (rd.map C.ids) (.block id b) S=_
   simp only [cxBody,hn]
  |ret=>
   refine ⟨.ret,S1,C1,σ1,k1.succ fun n hn=>?_,k2,k3,k4⟩
   show cxBody E.E (cx E.E n) (rd.map C.ids) (.block id b) S=_
   simp only [cxBody,hn]
  |exit i=>
   simp only [inBlockQ] at k4
   split at k4
   ·rename_i hb
    simp only [beqN_iff] at hb
    refine ⟨.normal,S1,C1,σ1,k1.succ fun n hn=>?_,k2,k3,k4⟩
    show cxBody E.E (cx E.E n) (rd.map C.ids) (.block id b) S=_
    simp only [cxBody,hn,hb,Nat.beq_refl]
   ·rename_i hb
    simp only [beqN_not] at hb
    refine ⟨.exit i,S1,C1,σ1,k1.succ fun n hn=>?_,k2,k3,k4⟩
    show cxBody E.E (cx E.E n) (rd.map C.ids) (.block id b) S=_
    have hne:Nat.beq i id=false:=by
     cases he:Nat.beq i id with
     |true=>exact absurd (Nat.eq_of_beq_eq_true he) hb
     |false=>rfl
    simp only [cxBody,hn,hne]
 |.cond c a b,Q,σ,h=>fun C S hS hlo hrd=>by
  simp only [vcJ] at h
  split at h
  ·exact h.out C S hS hlo hrd
  have hx:=evR_ok hS.regs
  have go:∀(bb:Bool) (σ:St),Sim C σ S→lo≤σ.next→CX.evR S.regs c=some (.bool bb)→(match bb with |true=>vcJ E rd lo ci js a Q σ |false=>vcJ E rd lo ci js b Q σ)→∃e S' C' σ',Evt (fun n=>cx E.E n (rd.map C.ids) (.cond c a b) S=some (e,S'))∧Sim C' σ' S'∧Ext lo C σ S C' σ' S'∧Q e σ':=by
   intro bb σ hS hlo hb h
   cases bb with
   |true=>
    obtain ⟨e,S1,C1,σ1,k1,k2,k3,k4⟩:=vcJ_ok hci js a Q σ h C S hS hlo hrd
    refine ⟨e,S1,C1,σ1,k1.succ fun n hn=>?_,k2,k3,k4⟩
    show cxBody E.E (cx E.E n) (rd.map C.ids) (.cond c a b) S=_
    simp only [cxBody,hb,hn]
   |false=>
    obtain ⟨e,S1,C1,σ1,k1,k2,k3,k4⟩:=vcJ_ok hci js b Q σ h C S hS hlo hrd
    refine ⟨e,S1,C1,σ1,k1.succ fun n hn=>?_,k2,k3,k4⟩
    show cxBody E.E (cx E.E n) (rd.map C.ids) (.cond c a b) S=_
    simp only [cxBody,hb,hn]
  have kn:∀bb,CX.evR S.regs c=some (.bool bb)→Sim C (knowO σ c bb) S∧lo≤(knowO σ c bb).next∧Ext lo C σ S C (knowO σ c bb) S:=by
   intro bb hb
   unfold knowO
   split
   ·exact ⟨⟨hS.nt,know_ok hS.regs hb,hS.m,hS.df,hS.dflt⟩,hlo,(MExt.refl _ _ _ _ _).less hlo,rfl,fun _ h=>.inl h⟩
   ·exact ⟨hS,hlo,Ext.refl _ _ _ hlo⟩
  split at h
  ·rename_i he
   obtain ⟨v,v1,v2⟩:=hx.get he (by intro e;cases e)
   simp only [RvS] at v2
   subst v2
   exact go true σ hS hlo v1 h
  ·rename_i he
   obtain ⟨v,v1,v2⟩:=hx.get he (by intro e;cases e)
   simp only [RvS] at v2
   subst v2
   exact go false σ hS hlo v1 h
  ·rename_i p he
   obtain ⟨v,v1,v2⟩:=hx.get he (by intro e;cases e)
   simp only [RvS] at v2
   subst v2
   cases hp:p with
   |true=>rw [hp] at v1;exact let ⟨e,S',C',σ',k1,k2,k3,k4⟩:=go true (knowO σ c true) (kn true v1).1 (kn true v1).2.1 v1 (h.t hp);⟨e,S',C',σ',k1,k2,(kn true v1).2.2.trans k3,k4⟩
   |false=>rw [hp] at v1;exact let ⟨e,S',C',σ',k1,k2,k3,k4⟩:=go false (knowO σ c false) (kn false v1).1 (kn false v1).2.1 v1 (h.e hp);⟨e,S',C',σ',k1,k2,(kn false v1).2.2.trans k3,k4⟩
  ·exact h.out.elim
 |.region id ops draw,Q,σ,h=>by
  simp only [vcJ] at h
  split at h
  ·exact h.out
  ·exact vc_ok hE hci _ Q σ h
 |.skip,Q,σ,h=>vc_ok hE hci _ Q σ h
 |.label _,Q,σ,h=>vc_ok hE hci _ Q σ h
 |.ret,Q,σ,h=>vc_ok hE hci _ Q σ h
 |.exit _,Q,σ,h=>vc_ok hE hci _ Q σ h
 |.loop _,Q,σ,h=>vc_ok hE hci _ Q σ h
 |.rangeFunc ..,Q,σ,h=>vc_ok hE hci _ Q σ h
 |.scope ..,Q,σ,h=>vc_ok hE hci _ Q σ h
 |.goto ..,Q,σ,h=>vc_ok hE hci _ Q σ h
 |.refuse ..,Q,σ,h=>vc_ok hE hci _ Q σ h
end
def killL (kl:List Nat):List (Nat×SV)→List (Nat×SV)
 |[]=>[]
 |(t,v) :: r=>match memB kl t with
  |true=>killL kl r
  |false=>(t,v) :: killL kl r
def killR (kl:List Nat) (σ:St):St:=⟨σ.nt,killL kl σ.regs,σ.objs,σ.next,σ.df⟩
theorem joinB {E:Env} (hE:EnvOk E) {inl:Nat→Option Func} (hinl:∀f fn,inl f=some fn→E.E.fn f=some fn∧E.E.ext f=none) {rd:Option Nat} {lo:Nat} (n:Nat) (kl fz drop:List Nat) (names:List (Nat×List Nat)) {c:Code} {Q:Ex→St→Prop} {σ:St} {X:Type} (vals:X→List D) (J:X→Prop)
  (run:∀K:St→Prop,(∀x σ',J x→subP lo (frzT fz σ') (updT E lo c (killR kl (frzT fz σ)) drop names (vals x))→K σ')→vc E rd lo (ciN E inl n) c (thenQ K Q) σ)
  (cont:∀x,J x→Q .normal (updT E lo c (killR kl (frzT fz σ)) drop names (vals x))):Leaf E.E rd lo c Q σ:=by
 refine ⟨fun C S hS hlo hrd=>?_⟩
 obtain ⟨e,S1,C1,σ1,k1,k2,k3,k4⟩:=vc_ok hE (ciN_ok hE hinl n) c _ σ (run (fun σ'=>∃x,J x∧Sub lo σ' (updT E lo c (killR kl (frzT fz σ)) drop names (vals x))) fun x σ' h1 h2=>⟨x,h1,(subP_ok h2).frz fz⟩) C S hS hlo hrd
 cases e with
 |normal=>
  obtain ⟨x,hx,hs⟩:=k4
  obtain ⟨C2,s1,s2⟩:=hs _ C1 S1 k2 k3.m.le
  exact ⟨.normal,S1,C2,_,k1,s1,k3.trans s2,cont x hx⟩
 |ret=>exact ⟨_,S1,C1,σ1,k1,k2,k3,k4⟩
 |exit i=>exact ⟨_,S1,C1,σ1,k1,k2,k3,k4⟩
theorem loopBJ {E:Env} (hE:EnvOk E) (js:List Nat) {inl:Nat→Option Func} (hinl:∀f fn,inl f=some fn→E.E.fn f=some fn∧E.E.ext f=none) {rd:Option Nat} {lo:Nat} (n:Nat) (fz drop:List Nat) (names:List (Nat×List Nat)) {c:Code} {Q:Ex→St→Prop} {σ:St} {X:Type} (vals:X→List D) (Inv:X→Prop) (μ:X→Nat) (x0:X) (h0:Inv x0)
  (hs:subP lo (frzT fz σ) (updT E lo c (frzT fz σ) drop names (vals x0)))
  (round:∀x,Inv x→∀K:St→Prop,(∀x' σ',Inv x'→μ x' < μ x→subP lo (frzT fz σ') (updT E lo c (frzT fz σ) drop names (vals x'))→K σ')→vcJ E rd lo (ciN E inl n) js c (endQ K Q) (updT E lo c (frzT fz σ) drop names (vals x))) :
  Leaf E.E rd lo (.loop c) Q σ:=by
 refine ⟨loop_ok (fun x=>updT E lo c (frzT fz σ) drop names (vals x)) Inv μ x0 h0 ((subP_ok hs).frz fz) (fun _=>updT_lo) fun x hx=>?_⟩
 have e:loopQ lo (fun x=>updT E lo c (frzT fz σ) drop names (vals x)) Inv μ Q x=endQ (fun σ'=>∃x',Inv x'∧μ x' < μ x∧Sub lo σ' (updT E lo c (frzT fz σ) drop names (vals x'))) Q:=by
  funext e σ'
  cases e<;>rfl
 rw [e]
 exact vcJ_ok hE (ciN_ok hE hinl n) js c _ _ (round x hx _ fun x' σ' h1 h2 h3=>⟨x',h1,h2,(subP_ok h3).frz fz⟩)
def fnVCJ (js:List Nat) (b0 n0:Nat) (E:Env) (inl:Nat→Option Func) (n:Nat) (fn:Func) (sg:Sig) (r:Nat→Nat→D) (ds:List (List D)):Prop:=
 match fn.body with
 |some c=>match argsSV b0 sg.params ds with
  |some vs=>match bleN vs.length fn.ntmps with
   |true=>vcJ E none 0 (ciN E inl n) js c (retX E fn sg r) ⟨fn.ntmps,enterS 0 vs,[],n0,[]⟩
   |false=>False
  |none=>False
 |none=>False
theorem of_vcGJ {E:Env} (hE:EnvOk E) (js:List Nat) {inl:Nat→Option Func} (hinl:∀f fn,inl f=some fn→E.E.fn f=some fn∧E.E.ext f=none) (n:Nat) {f:Nat} {fn:Func} {sg:Sig} {pre:List (List D)→Prop} {res:List (List D)→Nat→Nat→D} (hf:E.E.fn f=some fn∧E.E.ext f=none)
  (b0 n0:Nat) (hb0:b0≤n0) (h:allA sg.params fun ds=>pre ds→fnVCJ js b0 n0 E inl n fn sg (res ds) ds) {ds:List (List D)} (hpre:pre ds) {g:Nat→Option O} {bar nx:Nat} {hp:T O} {args:List V} (C:Cx E.E.ro) (hCg:C.g=g) (hM:MSim C [] n0 bar hp.get nx)
  (hargs:ArgsFz E.E.ro C.g (C.bd b0) sg.params ds args) :
  ∃(vs:List V) (h':T O) (nx':Nat) (g':Nat→Option O),Evt (fun n=>∀k,callF E.E (cx E.E n) bar hp nx f args k=k (CX.one vs) h' nx')∧nx≤nx'∧(∀id,id < nx→h'.get id=hp.get id)∧(∀id o,g id=some o→g' id=some o)∧
   (∀id o,g' id=some o→(id < nx'∧h'.get id=some o)∧(g id=some o∨nx≤id))∧ResFz E.E.ro g' nx' (res ds) sg.results 0 vs:=by
 subst hCg
 have hvc:=allA_ok h hargs hpre
 unfold fnVCJ at hvc
 split at hvc
 ·rename_i c hc
  split at hvc
  ·rename_i vs hvs
   split at hvc
   ·rename_i hle
    simp only [bleN_iff] at hle
    have hrel:RvSL C n0 vs args:=argsSV_ok hb0 hvs hargs
    obtain ⟨t',t1,t2⟩:=enter_ok (C:=C) (n:=n0) _ _ 0 .e [] hrel (fun t s h=>by simp [look] at h) (fun j s h=>by simp [look] at h)
    obtain ⟨e,S',C',σ',k1,k2,k3,k4⟩:=vcJ_ok hE (ciN_ok hE hinl n) js (rd:=none) (lo:=0) c _ _ hvc C ⟨fn.ntmps,bar,t',hp,nx,[]⟩ ⟨rfl,fun j s hl=>.inr (t2 j s hl),hM,.nil,fun d hd=>by cases hd⟩ (Nat.zero_le _) (fun l hl=>by cases hl)
    have none0:∀id,¬OwnId C [] id:=fun id h=>by obtain ⟨_,_,hl,_⟩:=h;simp [look] at hl
    have fin:retRP E fn sg (res ds) σ'→(e=.normal∨e=.ret)→∃(vs:List V) (h':T O) (nx':Nat) (g':Nat→Option O),Evt (fun n=>∀k,callF E.E (cx E.E n) bar hp nx f args k=k (CX.one vs) h' nx')∧nx≤nx'∧(∀id,id < nx→h'.get id=hp.get id)∧(∀id o,C.g id=some o→g' id=some o)∧
      (∀id o,g' id=some o→(id < nx'∧h'.get id=some o)∧(C.g id=some o∨nx≤id))∧ResFz E.E.ro g' nx' (res ds) sg.results 0 vs:=by
     intro hr he
     unfold retRP at hr
     split at hr
     ·rename_i objs ho
      split at hr
      ·rename_i rs hrs
       unfold retD at hr
       split at hr
       ·rename_i ds' hds
        obtain ⟨h',t1',t2',t3'⟩:=take_ok S'.df σ'.df σ'.objs objs S'.h ho k2.m k2.df k2.dflt
        obtain ⟨x,x1,x2⟩:=resAll_ok (σ:=σ'.mem objs σ'.next) hE t2' k2.regs fn.results.toList hrs
        obtain ⟨C2,m2,e2⟩:=t2'.frzL rs
        have hA:=argsD_ok (σ:=σ'.mem (frzL objs rs) σ'.next) m2 (fun _ _ h=>h) (fun e=>by cases e) hds (RvSL.ag e2.ag (Nat.le_refl _) _ _ x1)
        have hext:MExt C [] 0 hp.get nx C2 (frzL objs rs) σ'.next h'.get S'.nx:=yext (k3.m.took t3' (fun i hi=>(k3.df i hi).resolve_left (by intro h;cases h))) (MExt.refl _ _ _ _ _) ((MExt.refl _ _ _ _ _).less (Nat.zero_le _)) e2
        have hbar':S'.bar=bar:=k3.bar
        refine ⟨x,h',S'.nx,C2.g,k1.mono fun n hn k=>?_,hext.nxle,fun id hid=>hext.keep id hid (none0 id),fun id o hgo=>hext.ag.g id o hgo,fun id o hgo=>⟨m2.fz id o hgo,?_⟩,eqRes_ok (allP_ok _ hr) hA⟩
        ·have hlen:Nat.ble (CX.len args) fn.ntmps=true:=bleT (by rw [len_eq,hrel.length];exact hle)
         have hn':cx E.E n none c ⟨fn.ntmps,bar,t',hp,nx,[]⟩=some (e,S'):=hn
         have hrun:outV (takeDf bar S'.df S'.h fun h=>resultsX E.E S'.regs h fn.results.toList fun l=>retV (CX.one l) h S'.nx) k=k (CX.one x) h' S'.nx:=by
          rw [←hbar',t1',x2];rfl
         simp only [callF,hf.1,hf.2,hc,hlen,t1,hn']
         rcases he with rfl |rfl<;>exact hrun
        ·rcases hext.g id o hgo with h |h |h
         ·exact .inl h
         ·exact absurd h (none0 id)
         ·exact .inr h
       ·exact hr.out.elim
      ·exact hr.out.elim
     ·exact hr.out.elim
    cases e with
    |normal=>exact fin k4 (.inl rfl)
    |ret=>exact fin k4 (.inr rfl)
    |exit i=>exact (StuckR.out k4).elim
   ·exact hvc.elim
  ·exact hvc.elim
 ·exact hvc.elim
theorem PureC.of_vcJ {E:Env} (hE:EnvOk E) (js:List Nat) {inl:Nat→Option Func} (hinl:∀f fn,inl f=some fn→E.E.fn f=some fn∧E.E.ext f=none) (n:Nat) {f:Nat} {fn:Func} {sg:Sig} {pre:List (List D)→Prop} {res:List (List D)→Nat→Nat→D} (hf:E.E.fn f=some fn∧E.E.ext f=none)
  (h:allA sg.params fun ds=>pre ds→fnVCJ js 1 1 E inl n fn sg (res ds) ds):PureC E.E f sg pre res:=by
 intro ds hpre g bar nx hp args hg hbar hargs
 refine of_vcGJ hE js hinl n hf 1 1 (Nat.le_refl _) h hpre (bar:=bar) ⟨fun _=>0,fun _=>.nils,g,fun b=>if b=0 then 0 else nx⟩ rfl ?_ hargs
 exact ⟨fun _ _ h=>by simp [look] at h,fun _ _ h=>by simp [look] at h,fun _ _ h=>by simp [look] at h,fun _ _ _ _ h=>by simp [look] at h,hg,fun b _=>by show (if b=0 then 0 else nx)≤nx;split<;>omega,rfl,hbar,rfl⟩
theorem PureC0.of_vcJ {E:Env} (hE:EnvOk E) (js:List Nat) {inl:Nat→Option Func} (hinl:∀f fn,inl f=some fn→E.E.fn f=some fn∧E.E.ext f=none) (n:Nat) {f:Nat} {fn:Func} {sg:Sig} {pre:List (List D)→Prop} {res:List (List D)→Nat→Nat→D} (hf:E.E.fn f=some fn∧E.E.ext f=none)
  (h:allA sg.params fun ds=>pre ds→fnVCJ js 0 0 E inl n fn sg (res ds) ds):PureC0 E.E f sg pre res:=by
 intro ds hpre args hargs
 obtain ⟨vs,h',nx',g',c1,_,_,_,_,c6⟩:=of_vcGJ hE js hinl n hf 0 0 (Nat.le_refl _) h hpre (bar:=0) (hp:=.e) (nx:=0) ⟨fun _=>0,fun _=>.nils,fun _=>none,fun _=>0⟩ rfl
  ⟨fun _ _ h=>by simp [look] at h,fun _ _ h=>by simp [look] at h,fun _ _ h=>by simp [look] at h,fun _ _ _ _ h=>by simp [look] at h,fun _ _ h=>(by cases h),fun _ _=>Nat.le_refl _,rfl,Nat.le_refl _,rfl⟩ hargs
 exact ⟨vs,h',nx',g',c1,c6⟩
end HX
