/-
  Texts of the executors: CxFn, CxWorks, HxTab, HxC, HxLib, V11.
-/
import Derived.Test.YtmnaiddobipclaaSenseRecords6
import Derived.KernelRfl
set_option linter.all false
namespace CX
open Go Go.Proofs
theorem fnT_ok:T.All (fun f fn=>Try.prog.funcs[f]?=some fn) fnT id:=(And.intro (And.intro (And.intro (And.intro (And.intro (And.intro (And.intro trivial (And.intro Try.func63 trivial)) (And.intro Try.func31 (And.intro trivial (And.intro Try.func95 trivial)))) (And.intro Try.func15 (And.intro (And.intro trivial (And.intro Try.func79 trivial)) (And.intro Try.func47 (And.intro trivial (And.intro Try.func111 trivial)))))) (And.intro Try.func7 (And.intro (And.intro (And.intro trivial (And.intro Try.func71 trivial)) (And.intro Try.func39 (And.intro trivial (And.intro Try.func103 trivial)))) (And.intro Try.func23 (And.intro (And.intro trivial (And.intro Try.func87 trivial)) (And.intro Try.func55 trivial)))))) (And.intro Try.func3 (And.intro (And.intro (And.intro (And.intro trivial (And.intro Try.func67 trivial)) (And.intro Try.func35 (And.intro trivial (And.intro Try.func99 trivial)))) (And.intro Try.func19 (And.intro (And.intro trivial (And.intro Try.func83 trivial)) (And.intro Try.func51 (And.intro trivial (And.intro Try.func115 trivial)))))) (And.intro Try.func11 (And.intro (And.intro (And.intro trivial (And.intro Try.func75 trivial)) (And.intro Try.func43 (And.intro trivial (And.intro Try.func107 trivial)))) (And.intro Try.func27 (And.intro (And.intro trivial (And.intro Try.func91 trivial)) (And.intro Try.func59 trivial)))))))) (And.intro trivial (And.intro (And.intro (And.intro (And.intro (And.intro trivial (And.intro Try.func65 trivial)) (And.intro Try.func33 (And.intro trivial (And.intro Try.func97 trivial)))) (And.intro Try.func17 (And.intro (And.intro trivial (And.intro Try.func81 trivial)) (And.intro Try.func49 (And.intro trivial (And.intro Try.func113 trivial)))))) (And.intro Try.func9 (And.intro (And.intro (And.intro trivial (And.intro Try.func73 trivial)) (And.intro Try.func41 (And.intro trivial (And.intro Try.func105 trivial)))) (And.intro Try.func25 (And.intro (And.intro trivial (And.intro Try.func89 trivial)) (And.intro Try.func57 trivial)))))) (And.intro Try.func5 (And.intro (And.intro (And.intro (And.intro trivial (And.intro Try.func69 trivial)) (And.intro Try.func37 (And.intro trivial (And.intro Try.func101 trivial)))) (And.intro Try.func21 (And.intro (And.intro trivial (And.intro Try.func85 trivial)) (And.intro Try.func53 (And.intro trivial (And.intro Try.func117 trivial)))))) (And.intro Try.func13 (And.intro (And.intro (And.intro trivial (And.intro Try.func77 trivial)) (And.intro Try.func45 (And.intro trivial (And.intro Try.func109 trivial)))) (And.intro Try.func29 (And.intro (And.intro trivial (And.intro Try.func93 trivial)) (And.intro Try.func61 trivial)))))))))) (And.intro trivial (And.intro (And.intro (And.intro (And.intro (And.intro (And.intro trivial (And.intro Try.func64 trivial)) (And.intro Try.func32 (And.intro trivial (And.intro Try.func96 trivial)))) (And.intro Try.func16 (And.intro (And.intro trivial (And.intro Try.func80 trivial)) (And.intro Try.func48 (And.intro trivial (And.intro Try.func112 trivial)))))) (And.intro Try.func8 (And.intro (And.intro (And.intro trivial (And.intro Try.func72 trivial)) (And.intro Try.func40 (And.intro trivial (And.intro Try.func104 trivial)))) (And.intro Try.func24 (And.intro (And.intro trivial (And.intro Try.func88 trivial)) (And.intro Try.func56 trivial)))))) (And.intro Try.func4 (And.intro (And.intro (And.intro (And.intro trivial (And.intro Try.func68 trivial)) (And.intro Try.func36 (And.intro trivial (And.intro Try.func100 trivial)))) (And.intro Try.func20 (And.intro (And.intro trivial (And.intro Try.func84 trivial)) (And.intro Try.func52 (And.intro trivial (And.intro Try.func116 trivial)))))) (And.intro Try.func12 (And.intro (And.intro (And.intro trivial (And.intro Try.func76 trivial)) (And.intro Try.func44 (And.intro trivial (And.intro Try.func108 trivial)))) (And.intro Try.func28 (And.intro (And.intro trivial (And.intro Try.func92 trivial)) (And.intro Try.func60 trivial)))))))) (And.intro Try.func2 (And.intro (And.intro (And.intro (And.intro (And.intro trivial (And.intro Try.func66 trivial)) (And.intro Try.func34 (And.intro trivial (And.intro Try.func98 trivial)))) (And.intro Try.func18 (And.intro (And.intro trivial (And.intro Try.func82 trivial)) (And.intro Try.func50 (And.intro trivial (And.intro Try.func114 trivial)))))) (And.intro Try.func10 (And.intro (And.intro (And.intro trivial (And.intro Try.func74 trivial)) (And.intro Try.func42 (And.intro trivial (And.intro Try.func106 trivial)))) (And.intro Try.func26 (And.intro (And.intro trivial (And.intro Try.func90 trivial)) (And.intro Try.func58 trivial)))))) (And.intro Try.func6 (And.intro (And.intro (And.intro (And.intro trivial (And.intro Try.func70 trivial)) (And.intro Try.func38 (And.intro trivial (And.intro Try.func102 trivial)))) (And.intro Try.func22 (And.intro (And.intro trivial (And.intro Try.func86 trivial)) (And.intro Try.func54 (And.intro trivial (And.intro Try.func118 trivial)))))) (And.intro Try.func14 (And.intro (And.intro (And.intro trivial (And.intro Try.func78 trivial)) (And.intro Try.func46 (And.intro trivial (And.intro Try.func110 trivial)))) (And.intro Try.func30 (And.intro (And.intro trivial (And.intro Try.func94 trivial)) (And.intro Try.func62 trivial))))))))))))
end CX

namespace CX
open Go Go.Proofs
theorem names_ok:T.allB (fun fn:Func=>fn.name != "runtime.NumGoroutine") fnT=true:=by kernel_rfl
theorem types_ok:tabChk Try.prog env.T 184=true:=by kernel_rfl
theorem env_ok:EnvOk env Try.prog:=by
 refine ⟨fun t ty h=>?_,fun f fn h=>?_,by kernel_rfl,fun _ _ h=>(by cases h),fun _ _ _ _ _ _ _ h=>(by cases h),fun _ h=>by cases h⟩
 ·refine tabChk_ok 184 types_ok t ty ?_ h
  simp only [env] at h
  split at h
  ·rename_i hb;simpa [Nat.blt_eq] using hb
  ·cases h
 ·refine ⟨T.All.get fnT id fnT_ok f fn h,?_⟩
  have:=T.All.get fnT id (T.allB_ok fnT id names_ok) f fn h
  simpa using this
theorem works_run:callF env (cx env 1000) 0 .e 0 13 [] (fun v _ _=>retV v .e 0)=some (.normal,⟨0,0,.n .e (some (.bool true)) .e,.e,0,[]⟩):=by kernel_rfl
theorem works_ok (w:World):Calls Try.prog 13 #[] w fun e w'=>e=.returned (.bool true)∧Kept w w':=by
 refine (cx_call env_ok (fun _=>rfl) (xs:=[]) (by simp [RvL]) works_run w).mono fun e w' he=>?_
 obtain ⟨u,ρ,n,rfl,h,rest⟩:=he
 simp only [Rv] at h
 subst h
 exact ⟨rfl,rest⟩
end CX

namespace HX
open Go Go.Proofs
noncomputable def tyB:BT CX.Ty:=(.n (.n (.n (.n (.n (.n (.n (.n .e 1 CX.ty1 .e) 2 CX.ty2 .e) 3 CX.ty3 (.n (.n .e 4 CX.ty4 .e) 5 CX.ty5 .e)) 6 CX.ty6 (.n (.n (.n .e 7 CX.ty7 .e) 8 CX.ty8 .e) 9 CX.ty9 (.n (.n .e 10 CX.ty10 .e) 11 CX.ty11 .e))) 12 CX.ty12 (.n (.n (.n (.n .e 13 CX.ty13 .e) 14 CX.ty14 .e) 15 CX.ty15 (.n (.n .e 16 CX.ty16 .e) 17 CX.ty17 .e)) 18 CX.ty18 (.n (.n (.n .e 19 CX.ty19 .e) 20 CX.ty20 .e) 21 CX.ty21 (.n .e 22 CX.ty22 .e)))) 23 CX.ty23 (.n (.n (.n (.n (.n .e 24 CX.ty24 .e) 25 CX.ty25 .e) 26 CX.ty26 (.n (.n .e 27 CX.ty27 .e) 28 CX.ty28 .e)) 30 CX.ty30 (.n (.n (.n .e 31 CX.ty31 .e) 32 CX.ty32 .e) 33 CX.ty33 (.n .e 34 CX.ty34 .e))) 36 CX.ty36 (.n (.n (.n (.n .e 37 CX.ty37 .e) 38 CX.ty38 .e) 39 CX.ty39 (.n (.n .e 40 CX.ty40 .e) 41 CX.ty41 .e)) 42 CX.ty42 (.n (.n (.n .e 43 CX.ty43 .e) 44 CX.ty44 .e) 45 CX.ty45 (.n .e 46 CX.ty46 .e))))) 47 CX.ty47 (.n (.n (.n (.n (.n (.n .e 48 CX.ty48 .e) 49 CX.ty49 .e) 50 CX.ty50 (.n (.n .e 51 CX.ty51 .e) 52 CX.ty52 .e)) 53 CX.ty53 (.n (.n (.n .e 55 CX.ty55 .e) 56 CX.ty56 .e) 57 CX.ty57 (.n .e 58 CX.ty58 .e))) 59 CX.ty59 (.n (.n (.n (.n .e 60 CX.ty60 .e) 61 CX.ty61 .e) 62 CX.ty62 (.n (.n .e 63 CX.ty63 .e) 64 CX.ty64 .e)) 65 CX.ty65 (.n (.n (.n .e 66 CX.ty66 .e) 67 CX.ty67 .e) 68 CX.ty68 (.n .e 69 CX.ty69 .e)))) 70 CX.ty70 (.n (.n (.n (.n (.n .e 71 CX.ty71 .e) 72 CX.ty72 .e) 73 CX.ty73 (.n (.n .e 74 CX.ty74 .e) 75 CX.ty75 .e)) 76 CX.ty76 (.n (.n (.n .e 77 CX.ty77 .e) 78 CX.ty78 .e) 79 CX.ty79 (.n .e 80 CX.ty80 .e))) 81 CX.ty81 (.n (.n (.n (.n .e 82 CX.ty82 .e) 83 CX.ty83 .e) 84 CX.ty84 (.n (.n .e 85 CX.ty85 .e) 86 CX.ty86 .e)) 87 CX.ty87 (.n (.n (.n .e 88 CX.ty88 .e) 89 CX.ty89 .e) 90 CX.ty90 (.n .e 91 CX.ty91 .e)))))) 92 CX.ty92 (.n (.n (.n (.n (.n (.n (.n .e 93 CX.ty93 .e) 94 CX.ty94 .e) 95 CX.ty95 (.n (.n .e 96 CX.ty96 .e) 97 CX.ty97 .e)) 98 CX.ty98 (.n (.n (.n .e 99 CX.ty99 .e) 100 CX.ty100 .e) 101 CX.ty101 (.n (.n .e 103 CX.ty103 .e) 104 CX.ty104 .e))) 105 CX.ty105 (.n (.n (.n (.n .e 106 CX.ty106 .e) 107 CX.ty107 .e) 108 CX.ty108 (.n (.n .e 109 CX.ty109 .e) 110 CX.ty110 .e)) 111 CX.ty111 (.n (.n (.n .e 112 CX.ty112 .e) 113 CX.ty113 .e) 115 CX.ty115 (.n .e 116 CX.ty116 .e)))) 117 CX.ty117 (.n (.n (.n (.n (.n .e 118 CX.ty118 .e) 119 CX.ty119 .e) 120 CX.ty120 (.n (.n .e 121 CX.ty121 .e) 122 CX.ty122 .e)) 123 CX.ty123 (.n (.n (.n .e 124 CX.ty124 .e) 125 CX.ty125 .e) 126 CX.ty126 (.n .e 127 CX.ty127 .e))) 128 CX.ty128 (.n (.n (.n (.n .e 129 CX.ty129 .e) 130 CX.ty130 .e) 131 CX.ty131 (.n (.n .e 132 CX.ty132 .e) 133 CX.ty133 .e)) 134 CX.ty134 (.n (.n (.n .e 135 CX.ty135 .e) 136 CX.ty136 .e) 137 CX.ty137 (.n .e 138 CX.ty138 .e))))) 139 CX.ty139 (.n (.n (.n (.n (.n (.n .e 140 CX.ty140 .e) 141 CX.ty141 .e) 142 CX.ty142 (.n (.n .e 143 CX.ty143 .e) 144 CX.ty144 .e)) 145 CX.ty145 (.n (.n (.n .e 146 CX.ty146 .e) 147 CX.ty147 .e) 148 CX.ty148 (.n .e 149 CX.ty149 .e))) 150 CX.ty150 (.n (.n (.n (.n .e 151 CX.ty151 .e) 152 CX.ty152 .e) 154 CX.ty154 (.n (.n .e 155 CX.ty155 .e) 156 CX.ty156 .e)) 157 CX.ty157 (.n (.n (.n .e 158 CX.ty158 .e) 159 CX.ty159 .e) 160 CX.ty160 (.n .e 161 CX.ty161 .e)))) 162 CX.ty162 (.n (.n (.n (.n (.n .e 163 CX.ty163 .e) 164 CX.ty164 .e) 165 CX.ty165 (.n (.n .e 166 CX.ty166 .e) 167 CX.ty167 .e)) 168 CX.ty168 (.n (.n (.n .e 169 CX.ty169 .e) 170 CX.ty170 .e) 171 CX.ty171 (.n .e 172 CX.ty172 .e))) 173 CX.ty173 (.n (.n (.n (.n .e 174 CX.ty174 .e) 175 CX.ty175 .e) 176 CX.ty176 (.n (.n .e 177 CX.ty177 .e) 178 CX.ty178 .e)) 179 CX.ty179 (.n (.n (.n .e 180 CX.ty180 .e) 181 CX.ty181 .e) 182 CX.ty182 (.n .e 183 CX.ty183 .e)))))))
def ksB:BT (List Kd):=(.n (.n (.n (.n (.n (.n .e 2 [.int .i64] .e) 3 [.int .i64] (.n .e 4 [.bool] .e)) 5 [.int .u8] (.n (.n .e 6 [.int .u8] .e) 7 [.int .i64,.int .i64,.bool,.int .u8] .e)) 8 [.int .i64,.int .i64,.bool,.int .u8] (.n (.n (.n .e 9 [.str] .e) 10 [.str] (.n .e 11 [.str] .e)) 12 [.int .u64] (.n (.n .e 13 [.str,.int .u64] .e) 14 [.str,.int .u64] .e))) 21 [.int .i32] (.n (.n (.n (.n .e 22 [.int .i64,.int .i64,.int .i64] .e) 23 [.int .i64,.int .i64,.int .i64] (.n .e 24 [.sl [.sl [.int .i64]]] .e)) 25 [.sl [.int .i64]] (.n (.n .e 26 [.sl [.int .i64,.int .i64]] .e) 28 [.int .i64] .e)) 31 [.int .i64,.int .i64,.int .i64] (.n (.n (.n .e 42 [.int .i64,.int .i64] .e) 43 [.int .i64,.int .i64] (.n .e 44 [.int .i64,.int .i64] .e)) 45 [.int .i64,.int .i64] (.n (.n .e 47 [.int .i64,.int .i64] .e) 50 [.int .i64,.int .i64] .e)))) 53 [.sl [.int .u8]] (.n (.n (.n (.n (.n .e 64 [.int .i64,.int .i64] .e) 65 [.int .i64,.int .i64] (.n .e 67 [.int .u16] .e)) 68 [.sl [.int .i16]] (.n (.n .e 69 [.int .i16] .e) 72 [.sl [.int .u32,.int .u32]] .e)) 73 [.int .u32] (.n (.n (.n .e 84 [.bool,.sl [.int .i64,.int .i64]] .e) 85 [.bool,.sl [.int .i64,.int .i64]] (.n .e 107 [.int .u64] .e)) 110 [.int .i64,.int .i64] (.n (.n .e 111 [.int .i64,.int .i64] .e) 116 [.int .u8,.int .u8] .e))) 120 [.int .i64,.int .i64] (.n (.n (.n (.n .e 121 [.int .i64,.int .i64] .e) 127 [.sl [.int .u8],.int .i64,.bool] (.n .e 128 [.sl [.int .u8],.int .i64,.bool] .e)) 130 [.sl [.sl [.int .i64,.int .i64]]] (.n (.n .e 137 [.int .u32,.int .u32] .e) 152 [.int .i64] .e)) 160 [.int .u64] (.n (.n (.n .e 161 [.int .u64] .e) 175 [.int .u8] .e) 176 [.int .u8] (.n (.n .e 179 [.int .i32] .e) 180 [.int .i32] .e)))))
end HX

namespace HX
open Go Go.Proofs CX
noncomputable def tyF (t:Nat):Option CX.Ty:=tyB.get t
def ksF (t:Nat):Option (List Kd):=ksB.get t
noncomputable def fnF (f:Nat):Option Func:=CX.env.fn f
def extF (f:Nat):Option CX.Ext:=match beqN f 13 with
 |true=>some (.bool true)
 |false=>none
noncomputable def cxE (ro:Addr→Option V):CX.Env:=⟨tyF,fnF,extF,ro⟩
structure Ctr where
 f:Nat
 sg:Sig
 pre:List (List D)→Prop
 res:List (List D)→Nat→Nat→D
def inlL (l:List (Nat×Func)) (f:Nat):Option Func:=look l f
def sigL (l:List (Nat×Sig)) (f:Nat):Option Sig:=look l f
def sigs (l:List Ctr):List (Nat×Sig):=l.map fun c=>(c.f,c.sg)
def ctrOf:List Ctr→Nat→Option Ctr
 |[],_=>none
 |c :: r,f=>if c.f=f then some c else ctrOf r f
def preOf (l:List Ctr) (f:Nat) (ds:List (List D)):Prop:=match ctrOf l f with
 |some c=>c.pre ds
 |none=>False
def resOf (l:List Ctr) (f:Nat) (ds:List (List D)):Nat→Nat→D:=match ctrOf l f with
 |some c=>c.res ds
 |none=>fun _ _=>.nil
end HX

namespace HX
open Go Go.Proofs CX
inductive Inls (E:CX.Env):List (Nat×Func)→Prop
 |nil:Inls E []
 |cons {f:Nat} {fn:Func} {l:List (Nat×Func)} (h:E.fn f=some fn) (h':E.ext f=none) (r:Inls E l):Inls E ((f,fn) :: l)
theorem Inls.ok {E:CX.Env}:∀{l:List (Nat×Func)},Inls E l→∀f fn,inlL l f=some fn→E.fn f=some fn∧E.ext f=none
 |[],_,f,fn,h=>by simp [inlL,look] at h
 |(g,gn) :: l,.cons h1 h2 r,f,fn,h=>by
  unfold inlL at h
  rw [look_cons] at h
  split at h
  ·rename_i e
   simp only [Option.some.injEq] at h
   subst e h
   exact ⟨h1,h2⟩
  ·exact r.ok f fn h
def mxI (x y:Int):Int:=if x < y then y else x
theorem dt {p:Prop} [d:Decidable p] (h:decide p=true):p:=of_decide_eq_true h
theorem df {p:Prop} [d:Decidable p] (h:decide p=false):¬p:=of_decide_eq_false h
theorem nt {b:Bool} (h:(!b)=true):b=false:=by simpa using h
theorem nf {b:Bool} (h:(!b)=false):b=true:=by simpa using h
end HX

namespace HX
open Go Go.Proofs CX
abbrev vZ11 (x:Int):=-9223372036854775808≤x∧x≤9223372036854775807
abbrev v11a (fn:Nat→List (List D)→Nat→Nat→D) (b0:Rows) (a0:Rows) (b1:Int):=(D.int (fn 40 [[D.i (D.int (gt b0 (Int.toNat ((b0.length:Int) - 1)) 0)),D.i (D.int (gt b0 (Int.toNat ((b0.length:Int) - 1)) 1))],[D.i (D.int (gt a0 b1.toNat 0)),D.i (D.int (gt a0 b1.toNat 1))],[D.b (decide ((b0.length:Int)=0))]] 0 0))
abbrev v11b (fn:Nat→List (List D)→Nat→Nat→D) (a0:Rows) (b1:Int) (b0:Rows):=(D.int (fn 40 [[D.i 0,D.i 0],[D.i (D.int (gt a0 b1.toNat 0)),D.i (D.int (gt a0 b1.toNat 1))],[D.b (decide ((b0.length:Int)=0))]] 0 0))
abbrev v11c (fn:Nat→List (List D)→Nat→Nat→D) (b3:Rows) (a0:Rows) (b1:Int):=(D.int (fn 71 [[D.l b3],[D.i (D.int (gt a0 b1.toNat 0)),D.i (D.int (gt a0 b1.toNat 1))]] 0 0))
abbrev v11d (b0:Rows) (a0:Rows) (b1:Int):=(b0++[[D.i (D.int (gt a0 b1.toNat 0)),D.i (D.int (gt a0 b1.toNat 1))]])
abbrev v11e (b3:Rows) (a0:Rows) (b1:Int):=(b3++[[D.i (D.int (gt a0 b1.toNat 0)),D.i (D.int (gt a0 b1.toNat 1))]])
abbrev v11f (b3:Rows):=(¬(b3.length:Int)=65536)
abbrev v11g (b0:Rows):=(¬0 < (b0.length:Int))
abbrev v11h (b0:Rows) (a0:Rows) (b1:Int):=((((v11d b0 a0 b1)).length:Int))
abbrev v11i (b3:Rows):=((b3.length:Int)=65536)
abbrev v11j (fn:Nat→List (List D)→Nat→Nat→D) (b3:Rows) (a0:Rows) (b1:Int) (b0:Rows):=((v11c fn b3 a0 b1)=(v11a fn b0 a0 b1))
abbrev v11k (fn:Nat→List (List D)→Nat→Nat→D) (b3:Rows) (a0:Rows) (b1:Int) (b0:Rows):=((v11c fn b3 a0 b1)=(v11b fn a0 b1 b0))
abbrev v11l (a0:Rows) (b1:Int):=(D.int (gt a0 b1.toNat 0))
abbrev v11m (a0:Rows) (b1:Int):=(D.int (gt a0 b1.toNat 1))
abbrev v11n (b3:Rows) (b0:Rows):=((b3.length:Int)=(b0.length:Int))
abbrev v11o (fn:Nat→List (List D)→Nat→Nat→D) (b3:Rows) (a0:Rows) (b1:Int):=(¬(v11c fn b3 a0 b1)=0)
structure V11c0 (pre:Nat→List (List D)→Prop) (fn:Nat→List (List D)→Nat→Nat→D) (a0:Rows) (R:Nat→Nat→D) (b0:Rows) (b1:Int) (b2:Bool) (b3:Rows) (I0:Rows→Int→Bool→Rows→Prop) (m0:Rows→Int→Bool→Rows→Nat):Prop where
 g3:(b1 < (a0.length:Int))→(0 < (b0.length:Int))→vZ11 (((b0.length:Int) - 1))
 g4:(b1 < (a0.length:Int))→(0 < (b0.length:Int))→0≤((b0.length:Int) - 1)
 g5:(b1 < (a0.length:Int))→(0 < (b0.length:Int))→((b0.length:Int) - 1) < (b0.length:Int)
 g6:(b1 < (a0.length:Int))→(0 < (b0.length:Int))→(((Int.toNat ((b0.length:Int) - 1):Nat):Int)) < (b0.length:Int)
 g7:(b1 < (a0.length:Int))→(0 < (b0.length:Int))→0≤b1
 g8:(b1 < (a0.length:Int))→(0 < (b0.length:Int))→b1 < (a0.length:Int)
 g9:(b1 < (a0.length:Int))→(0 < (b0.length:Int))→(((Int.toNat b1:Nat):Int)) < (a0.length:Int)
 g10:(b1 < (a0.length:Int))→(0 < (b0.length:Int))→pre 40 [[D.i (D.int (gt b0 (Int.toNat ((b0.length:Int) - 1)) 0)),D.i (D.int (gt b0 (Int.toNat ((b0.length:Int) - 1)) 1))],[D.i (v11l a0 b1),D.i (v11m a0 b1)],[D.b (decide ((b0.length:Int)=0))]]
 g14:(b1 < (a0.length:Int))→(0 < (b0.length:Int))→(false=false)→(b2=false)→(¬1=(v11a fn b0 a0 b1))→R 0 0=D.b false
 g15:(b1 < (a0.length:Int))→(0 < (b0.length:Int))→(false=false)→(b2=false)→(1=(v11a fn b0 a0 b1))→((v11a fn b0 a0 b1)=0)→0≤b1
 g16:(b1 < (a0.length:Int))→(0 < (b0.length:Int))→(false=false)→(b2=false)→(1=(v11a fn b0 a0 b1))→((v11a fn b0 a0 b1)=0)→b1 < (a0.length:Int)
 g17:(b1 < (a0.length:Int))→(0 < (b0.length:Int))→(false=false)→(b2=false)→(1=(v11a fn b0 a0 b1))→((v11a fn b0 a0 b1)=0)→(((Int.toNat b1:Nat):Int)) < (a0.length:Int)
 g18:(b1 < (a0.length:Int))→(0 < (b0.length:Int))→(false=false)→(b2=false)→(1=(v11a fn b0 a0 b1))→((v11a fn b0 a0 b1)=0)→(b0.length+(List.length ([[D.i (v11l a0 b1),D.i (v11m a0 b1)]]:Rows))) * 16≤4294967296∧(b0.length+(List.length ([[D.i (v11l a0 b1),D.i (v11m a0 b1)]]:Rows)))≤4294967296
 g19:(b1 < (a0.length:Int))→(0 < (b0.length:Int))→(false=false)→(b2=false)→(1=(v11a fn b0 a0 b1))→((v11a fn b0 a0 b1)=0)→(false=false)→(b2=false)→(¬0=(v11h b0 a0 b1))→R 0 0=D.b false
 g20:(b1 < (a0.length:Int))→(0 < (b0.length:Int))→(false=false)→(b2=false)→(1=(v11a fn b0 a0 b1))→((v11a fn b0 a0 b1)=0)→(false=false)→(b2=false)→(0=(v11h b0 a0 b1))→vZ11 ((b1+1))
 n21:(b1 < (a0.length:Int))→(0 < (b0.length:Int))→(false=false)→(b2=false)→(1=(v11a fn b0 a0 b1))→((v11a fn b0 a0 b1)=0)→(false=false)→(b2=false)→(0=(v11h b0 a0 b1))→I0 (v11d b0 a0 b1) (b1+1) b2 b3∧m0 (v11d b0 a0 b1) (b1+1) b2 b3 < m0 b0 b1 b2 b3
 g22:(b1 < (a0.length:Int))→(0 < (b0.length:Int))→(false=false)→(b2=false)→(1=(v11a fn b0 a0 b1))→((v11a fn b0 a0 b1)=0)→(false=false)→(b2=true)→(¬(b3.length:Int)=(v11h b0 a0 b1))→R 0 0=D.b false
 g23:(b1 < (a0.length:Int))→(0 < (b0.length:Int))→(false=false)→(b2=false)→(1=(v11a fn b0 a0 b1))→((v11a fn b0 a0 b1)=0)→(false=false)→(b2=true)→((b3.length:Int)=(v11h b0 a0 b1))→vZ11 ((b1+1))
 n24:(b1 < (a0.length:Int))→(0 < (b0.length:Int))→(false=false)→(b2=false)→(1=(v11a fn b0 a0 b1))→((v11a fn b0 a0 b1)=0)→(false=false)→(b2=true)→((b3.length:Int)=(v11h b0 a0 b1))→I0 (v11d b0 a0 b1) (b1+1) b2 b3∧m0 (v11d b0 a0 b1) (b1+1) b2 b3 < m0 b0 b1 b2 b3
 g28:(b1 < (a0.length:Int))→(0 < (b0.length:Int))→(false=false)→(b2=false)→(1=(v11a fn b0 a0 b1))→(¬(v11a fn b0 a0 b1)=0)→(false=false)→(b2=false)→(¬0=(b0.length:Int))→R 0 0=D.b false
 g29:(b1 < (a0.length:Int))→(0 < (b0.length:Int))→(false=false)→(b2=false)→(1=(v11a fn b0 a0 b1))→(¬(v11a fn b0 a0 b1)=0)→(false=false)→(b2=false)→(0=(b0.length:Int))→vZ11 ((b1+1))
 n30:(b1 < (a0.length:Int))→(0 < (b0.length:Int))→(false=false)→(b2=false)→(1=(v11a fn b0 a0 b1))→(¬(v11a fn b0 a0 b1)=0)→(false=false)→(b2=false)→(0=(b0.length:Int))→I0 b0 (b1+1) b2 b3∧m0 b0 (b1+1) b2 b3 < m0 b0 b1 b2 b3
 g31:(b1 < (a0.length:Int))→(0 < (b0.length:Int))→(false=false)→(b2=false)→(1=(v11a fn b0 a0 b1))→(¬(v11a fn b0 a0 b1)=0)→(false=false)→(b2=true)→(¬(b3.length:Int)=(b0.length:Int))→R 0 0=D.b false
 g32:(b1 < (a0.length:Int))→(0 < (b0.length:Int))→(false=false)→(b2=false)→(1=(v11a fn b0 a0 b1))→(¬(v11a fn b0 a0 b1)=0)→(false=false)→(b2=true)→(v11n b3 b0)→vZ11 ((b1+1))
 n33:(b1 < (a0.length:Int))→(0 < (b0.length:Int))→(false=false)→(b2=false)→(1=(v11a fn b0 a0 b1))→(¬(v11a fn b0 a0 b1)=0)→(false=false)→(b2=true)→(v11n b3 b0)→I0 b0 (b1+1) b2 b3∧m0 b0 (b1+1) b2 b3 < m0 b0 b1 b2 b3
 g37:(b1 < (a0.length:Int))→(0 < (b0.length:Int))→(false=false)→(b2=true)→(v11i b3)→(¬9=(v11a fn b0 a0 b1))→R 0 0=D.b false
 g38:(b1 < (a0.length:Int))→(0 < (b0.length:Int))→(false=false)→(b2=true)→(v11i b3)→(9=(v11a fn b0 a0 b1))→((v11a fn b0 a0 b1)=0)→0≤b1
 g39:(b1 < (a0.length:Int))→(0 < (b0.length:Int))→(false=false)→(b2=true)→(v11i b3)→(9=(v11a fn b0 a0 b1))→((v11a fn b0 a0 b1)=0)→b1 < (a0.length:Int)
 g40:(b1 < (a0.length:Int))→(0 < (b0.length:Int))→(false=false)→(b2=true)→(v11i b3)→(9=(v11a fn b0 a0 b1))→((v11a fn b0 a0 b1)=0)→(((Int.toNat b1:Nat):Int)) < (a0.length:Int)
 g41:(b1 < (a0.length:Int))→(0 < (b0.length:Int))→(false=false)→(b2=true)→(v11i b3)→(9=(v11a fn b0 a0 b1))→((v11a fn b0 a0 b1)=0)→(b0.length+(List.length ([[D.i (v11l a0 b1),D.i (v11m a0 b1)]]:Rows))) * 16≤4294967296∧(b0.length+(List.length ([[D.i (v11l a0 b1),D.i (v11m a0 b1)]]:Rows)))≤4294967296
 g42:(b1 < (a0.length:Int))→(0 < (b0.length:Int))→(false=false)→(b2=true)→(v11i b3)→(9=(v11a fn b0 a0 b1))→((v11a fn b0 a0 b1)=0)→(false=false)→(b2=false)→(¬0=(v11h b0 a0 b1))→R 0 0=D.b false
 g43:(b1 < (a0.length:Int))→(0 < (b0.length:Int))→(false=false)→(b2=true)→(v11i b3)→(9=(v11a fn b0 a0 b1))→((v11a fn b0 a0 b1)=0)→(false=false)→(b2=false)→(0=(v11h b0 a0 b1))→vZ11 ((b1+1))
 n44:(b1 < (a0.length:Int))→(0 < (b0.length:Int))→(false=false)→(b2=true)→(v11i b3)→(9=(v11a fn b0 a0 b1))→((v11a fn b0 a0 b1)=0)→(false=false)→(b2=false)→(0=(v11h b0 a0 b1))→I0 (v11d b0 a0 b1) (b1+1) b2 b3∧m0 (v11d b0 a0 b1) (b1+1) b2 b3 < m0 b0 b1 b2 b3
 g45:(b1 < (a0.length:Int))→(0 < (b0.length:Int))→(false=false)→(b2=true)→(v11i b3)→(9=(v11a fn b0 a0 b1))→((v11a fn b0 a0 b1)=0)→(false=false)→(b2=true)→(¬(b3.length:Int)=(v11h b0 a0 b1))→R 0 0=D.b false
 g46:(b1 < (a0.length:Int))→(0 < (b0.length:Int))→(false=false)→(b2=true)→(v11i b3)→(9=(v11a fn b0 a0 b1))→((v11a fn b0 a0 b1)=0)→(false=false)→(b2=true)→((b3.length:Int)=(v11h b0 a0 b1))→vZ11 ((b1+1))
 n47:(b1 < (a0.length:Int))→(0 < (b0.length:Int))→(false=false)→(b2=true)→(v11i b3)→(9=(v11a fn b0 a0 b1))→((v11a fn b0 a0 b1)=0)→(false=false)→(b2=true)→((b3.length:Int)=(v11h b0 a0 b1))→I0 (v11d b0 a0 b1) (b1+1) b2 b3∧m0 (v11d b0 a0 b1) (b1+1) b2 b3 < m0 b0 b1 b2 b3
 g51:(b1 < (a0.length:Int))→(0 < (b0.length:Int))→(false=false)→(b2=true)→(v11i b3)→(9=(v11a fn b0 a0 b1))→(¬(v11a fn b0 a0 b1)=0)→(false=false)→(b2=false)→(¬0=(b0.length:Int))→R 0 0=D.b false
 g52:(b1 < (a0.length:Int))→(0 < (b0.length:Int))→(false=false)→(b2=true)→(v11i b3)→(9=(v11a fn b0 a0 b1))→(¬(v11a fn b0 a0 b1)=0)→(false=false)→(b2=false)→(0=(b0.length:Int))→vZ11 ((b1+1))
 n53:(b1 < (a0.length:Int))→(0 < (b0.length:Int))→(false=false)→(b2=true)→(v11i b3)→(9=(v11a fn b0 a0 b1))→(¬(v11a fn b0 a0 b1)=0)→(false=false)→(b2=false)→(0=(b0.length:Int))→I0 b0 (b1+1) b2 b3∧m0 b0 (b1+1) b2 b3 < m0 b0 b1 b2 b3
 g54:(b1 < (a0.length:Int))→(0 < (b0.length:Int))→(false=false)→(b2=true)→(v11i b3)→(9=(v11a fn b0 a0 b1))→(¬(v11a fn b0 a0 b1)=0)→(false=false)→(b2=true)→(¬(b3.length:Int)=(b0.length:Int))→R 0 0=D.b false
 g55:(b1 < (a0.length:Int))→(0 < (b0.length:Int))→(false=false)→(b2=true)→(v11i b3)→(9=(v11a fn b0 a0 b1))→(¬(v11a fn b0 a0 b1)=0)→(false=false)→(b2=true)→(v11n b3 b0)→vZ11 ((b1+1))
 n56:(b1 < (a0.length:Int))→(0 < (b0.length:Int))→(false=false)→(b2=true)→(v11i b3)→(9=(v11a fn b0 a0 b1))→(¬(v11a fn b0 a0 b1)=0)→(false=false)→(b2=true)→(v11n b3 b0)→I0 b0 (b1+1) b2 b3∧m0 b0 (b1+1) b2 b3 < m0 b0 b1 b2 b3
 g60:(b1 < (a0.length:Int))→(0 < (b0.length:Int))→(false=false)→(b2=true)→(v11f b3)→pre 71 [[D.l b3],[D.i (v11l a0 b1),D.i (v11m a0 b1)]]
 g61:(b1 < (a0.length:Int))→(0 < (b0.length:Int))→(false=false)→(b2=true)→(v11f b3)→((v11c fn b3 a0 b1)=0)→(b3.length+(List.length ([[D.i (v11l a0 b1),D.i (v11m a0 b1)]]:Rows))) * 16≤4294967296∧(b3.length+(List.length ([[D.i (v11l a0 b1),D.i (v11m a0 b1)]]:Rows)))≤4294967296
 g62:(b1 < (a0.length:Int))→(0 < (b0.length:Int))→(false=false)→(b2=true)→(v11f b3)→((v11c fn b3 a0 b1)=0)→(¬(v11c fn b3 a0 b1)=(v11a fn b0 a0 b1))→R 0 0=D.b false
 g63:(b1 < (a0.length:Int))→(0 < (b0.length:Int))→(false=false)→(b2=true)→(v11f b3)→((v11c fn b3 a0 b1)=0)→(v11j fn b3 a0 b1 b0)→((v11a fn b0 a0 b1)=0)→0≤b1
 g64:(b1 < (a0.length:Int))→(0 < (b0.length:Int))→(false=false)→(b2=true)→(v11f b3)→((v11c fn b3 a0 b1)=0)→(v11j fn b3 a0 b1 b0)→((v11a fn b0 a0 b1)=0)→b1 < (a0.length:Int)
 g65:(b1 < (a0.length:Int))→(0 < (b0.length:Int))→(false=false)→(b2=true)→(v11f b3)→((v11c fn b3 a0 b1)=0)→(v11j fn b3 a0 b1 b0)→((v11a fn b0 a0 b1)=0)→(((Int.toNat b1:Nat):Int)) < (a0.length:Int)
 g66:(b1 < (a0.length:Int))→(0 < (b0.length:Int))→(false=false)→(b2=true)→(v11f b3)→((v11c fn b3 a0 b1)=0)→(v11j fn b3 a0 b1 b0)→((v11a fn b0 a0 b1)=0)→(b0.length+(List.length ([[D.i (v11l a0 b1),D.i (v11m a0 b1)]]:Rows))) * 16≤4294967296∧(b0.length+(List.length ([[D.i (v11l a0 b1),D.i (v11m a0 b1)]]:Rows)))≤4294967296
 g67:(b1 < (a0.length:Int))→(0 < (b0.length:Int))→(false=false)→(b2=true)→(v11f b3)→((v11c fn b3 a0 b1)=0)→(v11j fn b3 a0 b1 b0)→((v11a fn b0 a0 b1)=0)→(false=false)→(b2=false)→(¬0=(v11h b0 a0 b1))→R 0 0=D.b false
 g68:(b1 < (a0.length:Int))→(0 < (b0.length:Int))→(false=false)→(b2=true)→(v11f b3)→((v11c fn b3 a0 b1)=0)→(v11j fn b3 a0 b1 b0)→((v11a fn b0 a0 b1)=0)→(false=false)→(b2=false)→(0=(v11h b0 a0 b1))→vZ11 ((b1+1))
 n69:(b1 < (a0.length:Int))→(0 < (b0.length:Int))→(false=false)→(b2=true)→(v11f b3)→((v11c fn b3 a0 b1)=0)→(v11j fn b3 a0 b1 b0)→((v11a fn b0 a0 b1)=0)→(false=false)→(b2=false)→(0=(v11h b0 a0 b1))→I0 (v11d b0 a0 b1) (b1+1) b2 (v11e b3 a0 b1)∧m0 (v11d b0 a0 b1) (b1+1) b2 (v11e b3 a0 b1) < m0 b0 b1 b2 b3
 g70:(b1 < (a0.length:Int))→(0 < (b0.length:Int))→(false=false)→(b2=true)→(v11f b3)→((v11c fn b3 a0 b1)=0)→(v11j fn b3 a0 b1 b0)→((v11a fn b0 a0 b1)=0)→(false=false)→(b2=true)→(¬((((v11e b3 a0 b1)).length:Int))=(v11h b0 a0 b1))→R 0 0=D.b false
 g71:(b1 < (a0.length:Int))→(0 < (b0.length:Int))→(false=false)→(b2=true)→(v11f b3)→((v11c fn b3 a0 b1)=0)→(v11j fn b3 a0 b1 b0)→((v11a fn b0 a0 b1)=0)→(false=false)→(b2=true)→(((((v11e b3 a0 b1)).length:Int))=(v11h b0 a0 b1))→vZ11 ((b1+1))
 n72:(b1 < (a0.length:Int))→(0 < (b0.length:Int))→(false=false)→(b2=true)→(v11f b3)→((v11c fn b3 a0 b1)=0)→(v11j fn b3 a0 b1 b0)→((v11a fn b0 a0 b1)=0)→(false=false)→(b2=true)→(((((v11e b3 a0 b1)).length:Int))=(v11h b0 a0 b1))→I0 (v11d b0 a0 b1) (b1+1) b2 (v11e b3 a0 b1)∧m0 (v11d b0 a0 b1) (b1+1) b2 (v11e b3 a0 b1) < m0 b0 b1 b2 b3
 g76:(b1 < (a0.length:Int))→(0 < (b0.length:Int))→(false=false)→(b2=true)→(v11f b3)→((v11c fn b3 a0 b1)=0)→(v11j fn b3 a0 b1 b0)→(¬(v11a fn b0 a0 b1)=0)→(false=false)→(b2=false)→(¬0=(b0.length:Int))→R 0 0=D.b false
 g77:(b1 < (a0.length:Int))→(0 < (b0.length:Int))→(false=false)→(b2=true)→(v11f b3)→((v11c fn b3 a0 b1)=0)→(v11j fn b3 a0 b1 b0)→(¬(v11a fn b0 a0 b1)=0)→(false=false)→(b2=false)→(0=(b0.length:Int))→vZ11 ((b1+1))
 n78:(b1 < (a0.length:Int))→(0 < (b0.length:Int))→(false=false)→(b2=true)→(v11f b3)→((v11c fn b3 a0 b1)=0)→(v11j fn b3 a0 b1 b0)→(¬(v11a fn b0 a0 b1)=0)→(false=false)→(b2=false)→(0=(b0.length:Int))→I0 b0 (b1+1) b2 (v11e b3 a0 b1)∧m0 b0 (b1+1) b2 (v11e b3 a0 b1) < m0 b0 b1 b2 b3
 g79:(b1 < (a0.length:Int))→(0 < (b0.length:Int))→(false=false)→(b2=true)→(v11f b3)→((v11c fn b3 a0 b1)=0)→(v11j fn b3 a0 b1 b0)→(¬(v11a fn b0 a0 b1)=0)→(false=false)→(b2=true)→(¬((((v11e b3 a0 b1)).length:Int))=(b0.length:Int))→R 0 0=D.b false
 g80:(b1 < (a0.length:Int))→(0 < (b0.length:Int))→(false=false)→(b2=true)→(v11f b3)→((v11c fn b3 a0 b1)=0)→(v11j fn b3 a0 b1 b0)→(¬(v11a fn b0 a0 b1)=0)→(false=false)→(b2=true)→(((((v11e b3 a0 b1)).length:Int))=(b0.length:Int))→vZ11 ((b1+1))
 n81:(b1 < (a0.length:Int))→(0 < (b0.length:Int))→(false=false)→(b2=true)→(v11f b3)→((v11c fn b3 a0 b1)=0)→(v11j fn b3 a0 b1 b0)→(¬(v11a fn b0 a0 b1)=0)→(false=false)→(b2=true)→(((((v11e b3 a0 b1)).length:Int))=(b0.length:Int))→I0 b0 (b1+1) b2 (v11e b3 a0 b1)∧m0 b0 (b1+1) b2 (v11e b3 a0 b1) < m0 b0 b1 b2 b3
 g85:(b1 < (a0.length:Int))→(0 < (b0.length:Int))→(false=false)→(b2=true)→(v11f b3)→(v11o fn b3 a0 b1)→(¬(v11c fn b3 a0 b1)=(v11a fn b0 a0 b1))→R 0 0=D.b false
 g86:(b1 < (a0.length:Int))→(0 < (b0.length:Int))→(false=false)→(b2=true)→(v11f b3)→(v11o fn b3 a0 b1)→(v11j fn b3 a0 b1 b0)→((v11a fn b0 a0 b1)=0)→0≤b1
 g87:(b1 < (a0.length:Int))→(0 < (b0.length:Int))→(false=false)→(b2=true)→(v11f b3)→(v11o fn b3 a0 b1)→(v11j fn b3 a0 b1 b0)→((v11a fn b0 a0 b1)=0)→b1 < (a0.length:Int)
 g88:(b1 < (a0.length:Int))→(0 < (b0.length:Int))→(false=false)→(b2=true)→(v11f b3)→(v11o fn b3 a0 b1)→(v11j fn b3 a0 b1 b0)→((v11a fn b0 a0 b1)=0)→(((Int.toNat b1:Nat):Int)) < (a0.length:Int)
 g89:(b1 < (a0.length:Int))→(0 < (b0.length:Int))→(false=false)→(b2=true)→(v11f b3)→(v11o fn b3 a0 b1)→(v11j fn b3 a0 b1 b0)→((v11a fn b0 a0 b1)=0)→(b0.length+(List.length ([[D.i (v11l a0 b1),D.i (v11m a0 b1)]]:Rows))) * 16≤4294967296∧(b0.length+(List.length ([[D.i (v11l a0 b1),D.i (v11m a0 b1)]]:Rows)))≤4294967296
 g90:(b1 < (a0.length:Int))→(0 < (b0.length:Int))→(false=false)→(b2=true)→(v11f b3)→(v11o fn b3 a0 b1)→(v11j fn b3 a0 b1 b0)→((v11a fn b0 a0 b1)=0)→(false=false)→(b2=false)→(¬0=(v11h b0 a0 b1))→R 0 0=D.b false
 g91:(b1 < (a0.length:Int))→(0 < (b0.length:Int))→(false=false)→(b2=true)→(v11f b3)→(v11o fn b3 a0 b1)→(v11j fn b3 a0 b1 b0)→((v11a fn b0 a0 b1)=0)→(false=false)→(b2=false)→(0=(v11h b0 a0 b1))→vZ11 ((b1+1))
 n92:(b1 < (a0.length:Int))→(0 < (b0.length:Int))→(false=false)→(b2=true)→(v11f b3)→(v11o fn b3 a0 b1)→(v11j fn b3 a0 b1 b0)→((v11a fn b0 a0 b1)=0)→(false=false)→(b2=false)→(0=(v11h b0 a0 b1))→I0 (v11d b0 a0 b1) (b1+1) b2 b3∧m0 (v11d b0 a0 b1) (b1+1) b2 b3 < m0 b0 b1 b2 b3
 g93:(b1 < (a0.length:Int))→(0 < (b0.length:Int))→(false=false)→(b2=true)→(v11f b3)→(v11o fn b3 a0 b1)→(v11j fn b3 a0 b1 b0)→((v11a fn b0 a0 b1)=0)→(false=false)→(b2=true)→(¬(b3.length:Int)=(v11h b0 a0 b1))→R 0 0=D.b false
 g94:(b1 < (a0.length:Int))→(0 < (b0.length:Int))→(false=false)→(b2=true)→(v11f b3)→(v11o fn b3 a0 b1)→(v11j fn b3 a0 b1 b0)→((v11a fn b0 a0 b1)=0)→(false=false)→(b2=true)→((b3.length:Int)=(v11h b0 a0 b1))→vZ11 ((b1+1))
 n95:(b1 < (a0.length:Int))→(0 < (b0.length:Int))→(false=false)→(b2=true)→(v11f b3)→(v11o fn b3 a0 b1)→(v11j fn b3 a0 b1 b0)→((v11a fn b0 a0 b1)=0)→(false=false)→(b2=true)→((b3.length:Int)=(v11h b0 a0 b1))→I0 (v11d b0 a0 b1) (b1+1) b2 b3∧m0 (v11d b0 a0 b1) (b1+1) b2 b3 < m0 b0 b1 b2 b3
 g99:(b1 < (a0.length:Int))→(0 < (b0.length:Int))→(false=false)→(b2=true)→(v11f b3)→(v11o fn b3 a0 b1)→(v11j fn b3 a0 b1 b0)→(¬(v11a fn b0 a0 b1)=0)→(false=false)→(b2=false)→(¬0=(b0.length:Int))→R 0 0=D.b false
 g100:(b1 < (a0.length:Int))→(0 < (b0.length:Int))→(false=false)→(b2=true)→(v11f b3)→(v11o fn b3 a0 b1)→(v11j fn b3 a0 b1 b0)→(¬(v11a fn b0 a0 b1)=0)→(false=false)→(b2=false)→(0=(b0.length:Int))→vZ11 ((b1+1))
 n101:(b1 < (a0.length:Int))→(0 < (b0.length:Int))→(false=false)→(b2=true)→(v11f b3)→(v11o fn b3 a0 b1)→(v11j fn b3 a0 b1 b0)→(¬(v11a fn b0 a0 b1)=0)→(false=false)→(b2=false)→(0=(b0.length:Int))→I0 b0 (b1+1) b2 b3∧m0 b0 (b1+1) b2 b3 < m0 b0 b1 b2 b3
 g102:(b1 < (a0.length:Int))→(0 < (b0.length:Int))→(false=false)→(b2=true)→(v11f b3)→(v11o fn b3 a0 b1)→(v11j fn b3 a0 b1 b0)→(¬(v11a fn b0 a0 b1)=0)→(false=false)→(b2=true)→(¬(b3.length:Int)=(b0.length:Int))→R 0 0=D.b false
 g103:(b1 < (a0.length:Int))→(0 < (b0.length:Int))→(false=false)→(b2=true)→(v11f b3)→(v11o fn b3 a0 b1)→(v11j fn b3 a0 b1 b0)→(¬(v11a fn b0 a0 b1)=0)→(false=false)→(b2=true)→(v11n b3 b0)→vZ11 ((b1+1))
 n104:(b1 < (a0.length:Int))→(0 < (b0.length:Int))→(false=false)→(b2=true)→(v11f b3)→(v11o fn b3 a0 b1)→(v11j fn b3 a0 b1 b0)→(¬(v11a fn b0 a0 b1)=0)→(false=false)→(b2=true)→(v11n b3 b0)→I0 b0 (b1+1) b2 b3∧m0 b0 (b1+1) b2 b3 < m0 b0 b1 b2 b3
 g131:(b1 < (a0.length:Int))→(v11g b0)→0≤b1
 g132:(b1 < (a0.length:Int))→(v11g b0)→b1 < (a0.length:Int)
 g133:(b1 < (a0.length:Int))→(v11g b0)→(((Int.toNat b1:Nat):Int)) < (a0.length:Int)
 g134:(b1 < (a0.length:Int))→(v11g b0)→pre 40 [[D.i 0,D.i 0],[D.i (v11l a0 b1),D.i (v11m a0 b1)],[D.b (decide ((b0.length:Int)=0))]]
 g138:(b1 < (a0.length:Int))→(v11g b0)→(false=false)→(b2=false)→(¬1=(v11b fn a0 b1 b0))→R 0 0=D.b false
 g139:(b1 < (a0.length:Int))→(v11g b0)→(false=false)→(b2=false)→(1=(v11b fn a0 b1 b0))→((v11b fn a0 b1 b0)=0)→0≤b1
 g140:(b1 < (a0.length:Int))→(v11g b0)→(false=false)→(b2=false)→(1=(v11b fn a0 b1 b0))→((v11b fn a0 b1 b0)=0)→b1 < (a0.length:Int)
 g141:(b1 < (a0.length:Int))→(v11g b0)→(false=false)→(b2=false)→(1=(v11b fn a0 b1 b0))→((v11b fn a0 b1 b0)=0)→(((Int.toNat b1:Nat):Int)) < (a0.length:Int)
 g142:(b1 < (a0.length:Int))→(v11g b0)→(false=false)→(b2=false)→(1=(v11b fn a0 b1 b0))→((v11b fn a0 b1 b0)=0)→(b0.length+(List.length ([[D.i (v11l a0 b1),D.i (v11m a0 b1)]]:Rows))) * 16≤4294967296∧(b0.length+(List.length ([[D.i (v11l a0 b1),D.i (v11m a0 b1)]]:Rows)))≤4294967296
 g143:(b1 < (a0.length:Int))→(v11g b0)→(false=false)→(b2=false)→(1=(v11b fn a0 b1 b0))→((v11b fn a0 b1 b0)=0)→(false=false)→(b2=false)→(¬0=(v11h b0 a0 b1))→R 0 0=D.b false
 g144:(b1 < (a0.length:Int))→(v11g b0)→(false=false)→(b2=false)→(1=(v11b fn a0 b1 b0))→((v11b fn a0 b1 b0)=0)→(false=false)→(b2=false)→(0=(v11h b0 a0 b1))→vZ11 ((b1+1))
 n145:(b1 < (a0.length:Int))→(v11g b0)→(false=false)→(b2=false)→(1=(v11b fn a0 b1 b0))→((v11b fn a0 b1 b0)=0)→(false=false)→(b2=false)→(0=(v11h b0 a0 b1))→I0 (v11d b0 a0 b1) (b1+1) b2 b3∧m0 (v11d b0 a0 b1) (b1+1) b2 b3 < m0 b0 b1 b2 b3
 g146:(b1 < (a0.length:Int))→(v11g b0)→(false=false)→(b2=false)→(1=(v11b fn a0 b1 b0))→((v11b fn a0 b1 b0)=0)→(false=false)→(b2=true)→(¬(b3.length:Int)=(v11h b0 a0 b1))→R 0 0=D.b false
 g147:(b1 < (a0.length:Int))→(v11g b0)→(false=false)→(b2=false)→(1=(v11b fn a0 b1 b0))→((v11b fn a0 b1 b0)=0)→(false=false)→(b2=true)→((b3.length:Int)=(v11h b0 a0 b1))→vZ11 ((b1+1))
 n148:(b1 < (a0.length:Int))→(v11g b0)→(false=false)→(b2=false)→(1=(v11b fn a0 b1 b0))→((v11b fn a0 b1 b0)=0)→(false=false)→(b2=true)→((b3.length:Int)=(v11h b0 a0 b1))→I0 (v11d b0 a0 b1) (b1+1) b2 b3∧m0 (v11d b0 a0 b1) (b1+1) b2 b3 < m0 b0 b1 b2 b3
 g152:(b1 < (a0.length:Int))→(v11g b0)→(false=false)→(b2=false)→(1=(v11b fn a0 b1 b0))→(¬(v11b fn a0 b1 b0)=0)→(false=false)→(b2=false)→(¬0=(b0.length:Int))→R 0 0=D.b false
 g153:(b1 < (a0.length:Int))→(v11g b0)→(false=false)→(b2=false)→(1=(v11b fn a0 b1 b0))→(¬(v11b fn a0 b1 b0)=0)→(false=false)→(b2=false)→(0=(b0.length:Int))→vZ11 ((b1+1))
 n154:(b1 < (a0.length:Int))→(v11g b0)→(false=false)→(b2=false)→(1=(v11b fn a0 b1 b0))→(¬(v11b fn a0 b1 b0)=0)→(false=false)→(b2=false)→(0=(b0.length:Int))→I0 b0 (b1+1) b2 b3∧m0 b0 (b1+1) b2 b3 < m0 b0 b1 b2 b3
 g155:(b1 < (a0.length:Int))→(v11g b0)→(false=false)→(b2=false)→(1=(v11b fn a0 b1 b0))→(¬(v11b fn a0 b1 b0)=0)→(false=false)→(b2=true)→(¬(b3.length:Int)=(b0.length:Int))→R 0 0=D.b false
 g156:(b1 < (a0.length:Int))→(v11g b0)→(false=false)→(b2=false)→(1=(v11b fn a0 b1 b0))→(¬(v11b fn a0 b1 b0)=0)→(false=false)→(b2=true)→(v11n b3 b0)→vZ11 ((b1+1))
 n157:(b1 < (a0.length:Int))→(v11g b0)→(false=false)→(b2=false)→(1=(v11b fn a0 b1 b0))→(¬(v11b fn a0 b1 b0)=0)→(false=false)→(b2=true)→(v11n b3 b0)→I0 b0 (b1+1) b2 b3∧m0 b0 (b1+1) b2 b3 < m0 b0 b1 b2 b3
 g161:(b1 < (a0.length:Int))→(v11g b0)→(false=false)→(b2=true)→(v11i b3)→(¬9=(v11b fn a0 b1 b0))→R 0 0=D.b false
 g162:(b1 < (a0.length:Int))→(v11g b0)→(false=false)→(b2=true)→(v11i b3)→(9=(v11b fn a0 b1 b0))→((v11b fn a0 b1 b0)=0)→0≤b1
 g163:(b1 < (a0.length:Int))→(v11g b0)→(false=false)→(b2=true)→(v11i b3)→(9=(v11b fn a0 b1 b0))→((v11b fn a0 b1 b0)=0)→b1 < (a0.length:Int)
 g164:(b1 < (a0.length:Int))→(v11g b0)→(false=false)→(b2=true)→(v11i b3)→(9=(v11b fn a0 b1 b0))→((v11b fn a0 b1 b0)=0)→(((Int.toNat b1:Nat):Int)) < (a0.length:Int)
 g165:(b1 < (a0.length:Int))→(v11g b0)→(false=false)→(b2=true)→(v11i b3)→(9=(v11b fn a0 b1 b0))→((v11b fn a0 b1 b0)=0)→(b0.length+(List.length ([[D.i (v11l a0 b1),D.i (v11m a0 b1)]]:Rows))) * 16≤4294967296∧(b0.length+(List.length ([[D.i (v11l a0 b1),D.i (v11m a0 b1)]]:Rows)))≤4294967296
 g166:(b1 < (a0.length:Int))→(v11g b0)→(false=false)→(b2=true)→(v11i b3)→(9=(v11b fn a0 b1 b0))→((v11b fn a0 b1 b0)=0)→(false=false)→(b2=false)→(¬0=(v11h b0 a0 b1))→R 0 0=D.b false
 g167:(b1 < (a0.length:Int))→(v11g b0)→(false=false)→(b2=true)→(v11i b3)→(9=(v11b fn a0 b1 b0))→((v11b fn a0 b1 b0)=0)→(false=false)→(b2=false)→(0=(v11h b0 a0 b1))→vZ11 ((b1+1))
 n168:(b1 < (a0.length:Int))→(v11g b0)→(false=false)→(b2=true)→(v11i b3)→(9=(v11b fn a0 b1 b0))→((v11b fn a0 b1 b0)=0)→(false=false)→(b2=false)→(0=(v11h b0 a0 b1))→I0 (v11d b0 a0 b1) (b1+1) b2 b3∧m0 (v11d b0 a0 b1) (b1+1) b2 b3 < m0 b0 b1 b2 b3
 g169:(b1 < (a0.length:Int))→(v11g b0)→(false=false)→(b2=true)→(v11i b3)→(9=(v11b fn a0 b1 b0))→((v11b fn a0 b1 b0)=0)→(false=false)→(b2=true)→(¬(b3.length:Int)=(v11h b0 a0 b1))→R 0 0=D.b false
 g170:(b1 < (a0.length:Int))→(v11g b0)→(false=false)→(b2=true)→(v11i b3)→(9=(v11b fn a0 b1 b0))→((v11b fn a0 b1 b0)=0)→(false=false)→(b2=true)→((b3.length:Int)=(v11h b0 a0 b1))→vZ11 ((b1+1))
 n171:(b1 < (a0.length:Int))→(v11g b0)→(false=false)→(b2=true)→(v11i b3)→(9=(v11b fn a0 b1 b0))→((v11b fn a0 b1 b0)=0)→(false=false)→(b2=true)→((b3.length:Int)=(v11h b0 a0 b1))→I0 (v11d b0 a0 b1) (b1+1) b2 b3∧m0 (v11d b0 a0 b1) (b1+1) b2 b3 < m0 b0 b1 b2 b3
 g175:(b1 < (a0.length:Int))→(v11g b0)→(false=false)→(b2=true)→(v11i b3)→(9=(v11b fn a0 b1 b0))→(¬(v11b fn a0 b1 b0)=0)→(false=false)→(b2=false)→(¬0=(b0.length:Int))→R 0 0=D.b false
 g176:(b1 < (a0.length:Int))→(v11g b0)→(false=false)→(b2=true)→(v11i b3)→(9=(v11b fn a0 b1 b0))→(¬(v11b fn a0 b1 b0)=0)→(false=false)→(b2=false)→(0=(b0.length:Int))→vZ11 ((b1+1))
 n177:(b1 < (a0.length:Int))→(v11g b0)→(false=false)→(b2=true)→(v11i b3)→(9=(v11b fn a0 b1 b0))→(¬(v11b fn a0 b1 b0)=0)→(false=false)→(b2=false)→(0=(b0.length:Int))→I0 b0 (b1+1) b2 b3∧m0 b0 (b1+1) b2 b3 < m0 b0 b1 b2 b3
 g178:(b1 < (a0.length:Int))→(v11g b0)→(false=false)→(b2=true)→(v11i b3)→(9=(v11b fn a0 b1 b0))→(¬(v11b fn a0 b1 b0)=0)→(false=false)→(b2=true)→(¬(b3.length:Int)=(b0.length:Int))→R 0 0=D.b false
 g179:(b1 < (a0.length:Int))→(v11g b0)→(false=false)→(b2=true)→(v11i b3)→(9=(v11b fn a0 b1 b0))→(¬(v11b fn a0 b1 b0)=0)→(false=false)→(b2=true)→(v11n b3 b0)→vZ11 ((b1+1))
 n180:(b1 < (a0.length:Int))→(v11g b0)→(false=false)→(b2=true)→(v11i b3)→(9=(v11b fn a0 b1 b0))→(¬(v11b fn a0 b1 b0)=0)→(false=false)→(b2=true)→(v11n b3 b0)→I0 b0 (b1+1) b2 b3∧m0 b0 (b1+1) b2 b3 < m0 b0 b1 b2 b3
 g184:(b1 < (a0.length:Int))→(v11g b0)→(false=false)→(b2=true)→(v11f b3)→pre 71 [[D.l b3],[D.i (v11l a0 b1),D.i (v11m a0 b1)]]
 g185:(b1 < (a0.length:Int))→(v11g b0)→(false=false)→(b2=true)→(v11f b3)→((v11c fn b3 a0 b1)=0)→(b3.length+(List.length ([[D.i (v11l a0 b1),D.i (v11m a0 b1)]]:Rows))) * 16≤4294967296∧(b3.length+(List.length ([[D.i (v11l a0 b1),D.i (v11m a0 b1)]]:Rows)))≤4294967296
 g186:(b1 < (a0.length:Int))→(v11g b0)→(false=false)→(b2=true)→(v11f b3)→((v11c fn b3 a0 b1)=0)→(¬(v11c fn b3 a0 b1)=(v11b fn a0 b1 b0))→R 0 0=D.b false
 g187:(b1 < (a0.length:Int))→(v11g b0)→(false=false)→(b2=true)→(v11f b3)→((v11c fn b3 a0 b1)=0)→(v11k fn b3 a0 b1 b0)→((v11b fn a0 b1 b0)=0)→0≤b1
 g188:(b1 < (a0.length:Int))→(v11g b0)→(false=false)→(b2=true)→(v11f b3)→((v11c fn b3 a0 b1)=0)→(v11k fn b3 a0 b1 b0)→((v11b fn a0 b1 b0)=0)→b1 < (a0.length:Int)
 g189:(b1 < (a0.length:Int))→(v11g b0)→(false=false)→(b2=true)→(v11f b3)→((v11c fn b3 a0 b1)=0)→(v11k fn b3 a0 b1 b0)→((v11b fn a0 b1 b0)=0)→(((Int.toNat b1:Nat):Int)) < (a0.length:Int)
 g190:(b1 < (a0.length:Int))→(v11g b0)→(false=false)→(b2=true)→(v11f b3)→((v11c fn b3 a0 b1)=0)→(v11k fn b3 a0 b1 b0)→((v11b fn a0 b1 b0)=0)→(b0.length+(List.length ([[D.i (v11l a0 b1),D.i (v11m a0 b1)]]:Rows))) * 16≤4294967296∧(b0.length+(List.length ([[D.i (v11l a0 b1),D.i (v11m a0 b1)]]:Rows)))≤4294967296
 g191:(b1 < (a0.length:Int))→(v11g b0)→(false=false)→(b2=true)→(v11f b3)→((v11c fn b3 a0 b1)=0)→(v11k fn b3 a0 b1 b0)→((v11b fn a0 b1 b0)=0)→(false=false)→(b2=false)→(¬0=(v11h b0 a0 b1))→R 0 0=D.b false
 g192:(b1 < (a0.length:Int))→(v11g b0)→(false=false)→(b2=true)→(v11f b3)→((v11c fn b3 a0 b1)=0)→(v11k fn b3 a0 b1 b0)→((v11b fn a0 b1 b0)=0)→(false=false)→(b2=false)→(0=(v11h b0 a0 b1))→vZ11 ((b1+1))
 n193:(b1 < (a0.length:Int))→(v11g b0)→(false=false)→(b2=true)→(v11f b3)→((v11c fn b3 a0 b1)=0)→(v11k fn b3 a0 b1 b0)→((v11b fn a0 b1 b0)=0)→(false=false)→(b2=false)→(0=(v11h b0 a0 b1))→I0 (v11d b0 a0 b1) (b1+1) b2 (v11e b3 a0 b1)∧m0 (v11d b0 a0 b1) (b1+1) b2 (v11e b3 a0 b1) < m0 b0 b1 b2 b3
 g194:(b1 < (a0.length:Int))→(v11g b0)→(false=false)→(b2=true)→(v11f b3)→((v11c fn b3 a0 b1)=0)→(v11k fn b3 a0 b1 b0)→((v11b fn a0 b1 b0)=0)→(false=false)→(b2=true)→(¬((((v11e b3 a0 b1)).length:Int))=(v11h b0 a0 b1))→R 0 0=D.b false
 g195:(b1 < (a0.length:Int))→(v11g b0)→(false=false)→(b2=true)→(v11f b3)→((v11c fn b3 a0 b1)=0)→(v11k fn b3 a0 b1 b0)→((v11b fn a0 b1 b0)=0)→(false=false)→(b2=true)→(((((v11e b3 a0 b1)).length:Int))=(v11h b0 a0 b1))→vZ11 ((b1+1))
 n196:(b1 < (a0.length:Int))→(v11g b0)→(false=false)→(b2=true)→(v11f b3)→((v11c fn b3 a0 b1)=0)→(v11k fn b3 a0 b1 b0)→((v11b fn a0 b1 b0)=0)→(false=false)→(b2=true)→(((((v11e b3 a0 b1)).length:Int))=(v11h b0 a0 b1))→I0 (v11d b0 a0 b1) (b1+1) b2 (v11e b3 a0 b1)∧m0 (v11d b0 a0 b1) (b1+1) b2 (v11e b3 a0 b1) < m0 b0 b1 b2 b3
 g200:(b1 < (a0.length:Int))→(v11g b0)→(false=false)→(b2=true)→(v11f b3)→((v11c fn b3 a0 b1)=0)→(v11k fn b3 a0 b1 b0)→(¬(v11b fn a0 b1 b0)=0)→(false=false)→(b2=false)→(¬0=(b0.length:Int))→R 0 0=D.b false
 g201:(b1 < (a0.length:Int))→(v11g b0)→(false=false)→(b2=true)→(v11f b3)→((v11c fn b3 a0 b1)=0)→(v11k fn b3 a0 b1 b0)→(¬(v11b fn a0 b1 b0)=0)→(false=false)→(b2=false)→(0=(b0.length:Int))→vZ11 ((b1+1))
 n202:(b1 < (a0.length:Int))→(v11g b0)→(false=false)→(b2=true)→(v11f b3)→((v11c fn b3 a0 b1)=0)→(v11k fn b3 a0 b1 b0)→(¬(v11b fn a0 b1 b0)=0)→(false=false)→(b2=false)→(0=(b0.length:Int))→I0 b0 (b1+1) b2 (v11e b3 a0 b1)∧m0 b0 (b1+1) b2 (v11e b3 a0 b1) < m0 b0 b1 b2 b3
 g203:(b1 < (a0.length:Int))→(v11g b0)→(false=false)→(b2=true)→(v11f b3)→((v11c fn b3 a0 b1)=0)→(v11k fn b3 a0 b1 b0)→(¬(v11b fn a0 b1 b0)=0)→(false=false)→(b2=true)→(¬((((v11e b3 a0 b1)).length:Int))=(b0.length:Int))→R 0 0=D.b false
 g204:(b1 < (a0.length:Int))→(v11g b0)→(false=false)→(b2=true)→(v11f b3)→((v11c fn b3 a0 b1)=0)→(v11k fn b3 a0 b1 b0)→(¬(v11b fn a0 b1 b0)=0)→(false=false)→(b2=true)→(((((v11e b3 a0 b1)).length:Int))=(b0.length:Int))→vZ11 ((b1+1))
 n205:(b1 < (a0.length:Int))→(v11g b0)→(false=false)→(b2=true)→(v11f b3)→((v11c fn b3 a0 b1)=0)→(v11k fn b3 a0 b1 b0)→(¬(v11b fn a0 b1 b0)=0)→(false=false)→(b2=true)→(((((v11e b3 a0 b1)).length:Int))=(b0.length:Int))→I0 b0 (b1+1) b2 (v11e b3 a0 b1)∧m0 b0 (b1+1) b2 (v11e b3 a0 b1) < m0 b0 b1 b2 b3
 g209:(b1 < (a0.length:Int))→(v11g b0)→(false=false)→(b2=true)→(v11f b3)→(v11o fn b3 a0 b1)→(¬(v11c fn b3 a0 b1)=(v11b fn a0 b1 b0))→R 0 0=D.b false
 g210:(b1 < (a0.length:Int))→(v11g b0)→(false=false)→(b2=true)→(v11f b3)→(v11o fn b3 a0 b1)→(v11k fn b3 a0 b1 b0)→((v11b fn a0 b1 b0)=0)→0≤b1
 g211:(b1 < (a0.length:Int))→(v11g b0)→(false=false)→(b2=true)→(v11f b3)→(v11o fn b3 a0 b1)→(v11k fn b3 a0 b1 b0)→((v11b fn a0 b1 b0)=0)→b1 < (a0.length:Int)
 g212:(b1 < (a0.length:Int))→(v11g b0)→(false=false)→(b2=true)→(v11f b3)→(v11o fn b3 a0 b1)→(v11k fn b3 a0 b1 b0)→((v11b fn a0 b1 b0)=0)→(((Int.toNat b1:Nat):Int)) < (a0.length:Int)
 g213:(b1 < (a0.length:Int))→(v11g b0)→(false=false)→(b2=true)→(v11f b3)→(v11o fn b3 a0 b1)→(v11k fn b3 a0 b1 b0)→((v11b fn a0 b1 b0)=0)→(b0.length+(List.length ([[D.i (v11l a0 b1),D.i (v11m a0 b1)]]:Rows))) * 16≤4294967296∧(b0.length+(List.length ([[D.i (v11l a0 b1),D.i (v11m a0 b1)]]:Rows)))≤4294967296
 g214:(b1 < (a0.length:Int))→(v11g b0)→(false=false)→(b2=true)→(v11f b3)→(v11o fn b3 a0 b1)→(v11k fn b3 a0 b1 b0)→((v11b fn a0 b1 b0)=0)→(false=false)→(b2=false)→(¬0=(v11h b0 a0 b1))→R 0 0=D.b false
 g215:(b1 < (a0.length:Int))→(v11g b0)→(false=false)→(b2=true)→(v11f b3)→(v11o fn b3 a0 b1)→(v11k fn b3 a0 b1 b0)→((v11b fn a0 b1 b0)=0)→(false=false)→(b2=false)→(0=(v11h b0 a0 b1))→vZ11 ((b1+1))
 n216:(b1 < (a0.length:Int))→(v11g b0)→(false=false)→(b2=true)→(v11f b3)→(v11o fn b3 a0 b1)→(v11k fn b3 a0 b1 b0)→((v11b fn a0 b1 b0)=0)→(false=false)→(b2=false)→(0=(v11h b0 a0 b1))→I0 (v11d b0 a0 b1) (b1+1) b2 b3∧m0 (v11d b0 a0 b1) (b1+1) b2 b3 < m0 b0 b1 b2 b3
 g217:(b1 < (a0.length:Int))→(v11g b0)→(false=false)→(b2=true)→(v11f b3)→(v11o fn b3 a0 b1)→(v11k fn b3 a0 b1 b0)→((v11b fn a0 b1 b0)=0)→(false=false)→(b2=true)→(¬(b3.length:Int)=(v11h b0 a0 b1))→R 0 0=D.b false
 g218:(b1 < (a0.length:Int))→(v11g b0)→(false=false)→(b2=true)→(v11f b3)→(v11o fn b3 a0 b1)→(v11k fn b3 a0 b1 b0)→((v11b fn a0 b1 b0)=0)→(false=false)→(b2=true)→((b3.length:Int)=(v11h b0 a0 b1))→vZ11 ((b1+1))
 n219:(b1 < (a0.length:Int))→(v11g b0)→(false=false)→(b2=true)→(v11f b3)→(v11o fn b3 a0 b1)→(v11k fn b3 a0 b1 b0)→((v11b fn a0 b1 b0)=0)→(false=false)→(b2=true)→((b3.length:Int)=(v11h b0 a0 b1))→I0 (v11d b0 a0 b1) (b1+1) b2 b3∧m0 (v11d b0 a0 b1) (b1+1) b2 b3 < m0 b0 b1 b2 b3
 g223:(b1 < (a0.length:Int))→(v11g b0)→(false=false)→(b2=true)→(v11f b3)→(v11o fn b3 a0 b1)→(v11k fn b3 a0 b1 b0)→(¬(v11b fn a0 b1 b0)=0)→(false=false)→(b2=false)→(¬0=(b0.length:Int))→R 0 0=D.b false
 g224:(b1 < (a0.length:Int))→(v11g b0)→(false=false)→(b2=true)→(v11f b3)→(v11o fn b3 a0 b1)→(v11k fn b3 a0 b1 b0)→(¬(v11b fn a0 b1 b0)=0)→(false=false)→(b2=false)→(0=(b0.length:Int))→vZ11 ((b1+1))
 n225:(b1 < (a0.length:Int))→(v11g b0)→(false=false)→(b2=true)→(v11f b3)→(v11o fn b3 a0 b1)→(v11k fn b3 a0 b1 b0)→(¬(v11b fn a0 b1 b0)=0)→(false=false)→(b2=false)→(0=(b0.length:Int))→I0 b0 (b1+1) b2 b3∧m0 b0 (b1+1) b2 b3 < m0 b0 b1 b2 b3
 g226:(b1 < (a0.length:Int))→(v11g b0)→(false=false)→(b2=true)→(v11f b3)→(v11o fn b3 a0 b1)→(v11k fn b3 a0 b1 b0)→(¬(v11b fn a0 b1 b0)=0)→(false=false)→(b2=true)→(¬(b3.length:Int)=(b0.length:Int))→R 0 0=D.b false
 g227:(b1 < (a0.length:Int))→(v11g b0)→(false=false)→(b2=true)→(v11f b3)→(v11o fn b3 a0 b1)→(v11k fn b3 a0 b1 b0)→(¬(v11b fn a0 b1 b0)=0)→(false=false)→(b2=true)→(v11n b3 b0)→vZ11 ((b1+1))
 n228:(b1 < (a0.length:Int))→(v11g b0)→(false=false)→(b2=true)→(v11f b3)→(v11o fn b3 a0 b1)→(v11k fn b3 a0 b1 b0)→(¬(v11b fn a0 b1 b0)=0)→(false=false)→(b2=true)→(v11n b3 b0)→I0 b0 (b1+1) b2 b3∧m0 b0 (b1+1) b2 b3 < m0 b0 b1 b2 b3
 g255:(¬b1 < (a0.length:Int))→(false=false)→(b2=false)→pre 28 [[D.l b0]]
 g256:(¬b1 < (a0.length:Int))→(false=false)→(b2=false)→Ar.std.pU8 []
 g257:(¬b1 < (a0.length:Int))→(false=false)→(b2=false)→Ar.std.pU8 (D.rows (fn 28 [[D.l b0]] 0 0))
 g258:(¬b1 < (a0.length:Int))→(false=false)→(b2=false)→((Ar.std.strD [])=(Ar.std.strD (D.rows (fn 28 [[D.l b0]] 0 0))))→(1=(D.int (fn 28 [[D.l b0]] 1 0)))→pre 13 []
 g259:(¬b1 < (a0.length:Int))→(false=false)→(b2=false)→((Ar.std.strD [])=(Ar.std.strD (D.rows (fn 28 [[D.l b0]] 0 0))))→(1=(D.int (fn 28 [[D.l b0]] 1 0)))→R 0 0=D.b (D.boo (fn 13 [] 0 0))
 g260:(¬b1 < (a0.length:Int))→(false=false)→(b2=false)→((Ar.std.strD [])=(Ar.std.strD (D.rows (fn 28 [[D.l b0]] 0 0))))→(¬1=(D.int (fn 28 [[D.l b0]] 1 0)))→R 0 0=D.b false
 g261:(¬b1 < (a0.length:Int))→(false=false)→(b2=false)→(¬(Ar.std.strD [])=(Ar.std.strD (D.rows (fn 28 [[D.l b0]] 0 0))))→R 0 0=D.b false
 g262:(¬b1 < (a0.length:Int))→(false=false)→(b2=true)→pre 63 [[D.l b3]]
 g263:(¬b1 < (a0.length:Int))→(false=false)→(b2=true)→pre 28 [[D.l b0]]
 g264:(¬b1 < (a0.length:Int))→(false=false)→(b2=true)→Ar.std.pU8 (D.rows (fn 63 [[D.l b3]] 0 0))
 g265:(¬b1 < (a0.length:Int))→(false=false)→(b2=true)→Ar.std.pU8 (D.rows (fn 28 [[D.l b0]] 0 0))
 g266:(¬b1 < (a0.length:Int))→(false=false)→(b2=true)→((Ar.std.strD (D.rows (fn 63 [[D.l b3]] 0 0)))=(Ar.std.strD (D.rows (fn 28 [[D.l b0]] 0 0))))→(0=(D.int (fn 28 [[D.l b0]] 1 0)))→pre 13 []
 g267:(¬b1 < (a0.length:Int))→(false=false)→(b2=true)→((Ar.std.strD (D.rows (fn 63 [[D.l b3]] 0 0)))=(Ar.std.strD (D.rows (fn 28 [[D.l b0]] 0 0))))→(0=(D.int (fn 28 [[D.l b0]] 1 0)))→R 0 0=D.b (D.boo (fn 13 [] 0 0))
 g268:(¬b1 < (a0.length:Int))→(false=false)→(b2=true)→((Ar.std.strD (D.rows (fn 63 [[D.l b3]] 0 0)))=(Ar.std.strD (D.rows (fn 28 [[D.l b0]] 0 0))))→(¬0=(D.int (fn 28 [[D.l b0]] 1 0)))→R 0 0=D.b false
 g269:(¬b1 < (a0.length:Int))→(false=false)→(b2=true)→(¬(Ar.std.strD (D.rows (fn 63 [[D.l b3]] 0 0)))=(Ar.std.strD (D.rows (fn 28 [[D.l b0]] 0 0))))→R 0 0=D.b false
abbrev V11l0 (pre:Nat→List (List D)→Prop) (fn:Nat→List (List D)→Nat→Nat→D) (a0:Rows) (R:Nat→Nat→D):Prop:=∃(I0:Rows→Int→Bool→Rows→Prop) (m0:Rows→Int→Bool→Rows→Nat),I0 [] 0 true []∧∀b0 b1 b2 b3,I0 b0 b1 b2 b3→V11c0 pre fn a0 R b0 b1 b2 b3 I0 m0
structure V11 (pre:Nat→List (List D)→Prop) (fn:Nat→List (List D)→Nat→Nat→D) (a0:Rows) (R:Nat→Nat→D):Prop where
 g0:(200 < (a0.length:Int))→pre 13 []
 g1:(200 < (a0.length:Int))→R 0 0=D.b (D.boo (fn 13 [] 0 0))
 l0:(¬200 < (a0.length:Int))→V11l0 pre fn a0 R
end HX
