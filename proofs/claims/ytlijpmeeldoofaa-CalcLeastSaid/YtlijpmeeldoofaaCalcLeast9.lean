/-
  Texts of the executors: CxWorks1, CxWorks, HxTab, HxC, HxLib, V3, W3, HxEnv, CxClose, HxBase, HxClose, HxOwn, HxCtr, CbB, CtT, V21, V20, V38, V18, V7, V10, V12, V9, ClL, V6, V8, ClM, ClN.
-/
import Derived.Test.YtlijpmeeldoofaaCalcLeast8
import Derived.WalkKit
import Derived.ProofKit
import Derived.JoinedCond
import Derived.RowKit3
import Derived.ChangeArms
import Derived.ChangeCalls
import Derived.WideKeyArgs
set_option linter.all false
namespace CX
open Go Go.Proofs

noncomputable def args1 : List V := [gR p0R 0]
theorem ent1 : leS p0 ⟨Try.f26.ntmps, 0, entered args1 0 .e, p0H, p0.nx, []⟩ = true := by kernel_rfl
theorem res1 : resultsX env pz.regs pz.h Try.f26.results.toList (fun l => retV (one l) pz.h pz.nx) = retV (gR pvR 0) pz.h pz.nx := by kernel_rfl
theorem fits1 : Nat.ble (len args1) Try.f26.ntmps = true := by kernel_rfl
noncomputable def env1 : Env := env.and 26 (.known p0H p0.nx args1 (gR pvR 0) pzH pz.nx)
theorem env1_ok : EnvOk env1 Try.prog :=
  EnvOk.and env_ok (known_call env_ok (fun _ => rfl) fP_fn rfl fP_body fits1 (Known.from (leS_ok ent1) run1) (.inr rfl) rfl res1)

noncomputable def args2 : List V := [gR q0R 0]
theorem ent2 : leS q0 ⟨Try.f26.ntmps, 0, entered args2 0 .e, q0H, q0.nx, []⟩ = true := by kernel_rfl
theorem res2 : resultsX env qz.regs qz.h Try.f26.results.toList (fun l => retV (one l) qz.h qz.nx) = retV (gR qvR 0) qz.h qz.nx := by kernel_rfl
theorem fits2 : Nat.ble (len args2) Try.f26.ntmps = true := by kernel_rfl
noncomputable def env2 : Env := env.and 26 (.known q0H q0.nx args2 (gR qvR 0) qzH qz.nx)
theorem env2_ok : EnvOk env2 Try.prog :=
  EnvOk.and env_ok (known_call env_ok (fun _ => rfl) fP_fn rfl fP_body fits2 (Known.from (leS_ok ent2) run2) (.inr rfl) rfl res2)

noncomputable def args3 : List V := [gR r0R 0]
theorem ent3 : leS r0 ⟨Try.f26.ntmps, 0, entered args3 0 .e, r0H, r0.nx, []⟩ = true := by kernel_rfl
theorem res3 : resultsX env rz.regs rz.h Try.f26.results.toList (fun l => retV (one l) rz.h rz.nx) = retV (gR rvR 0) rz.h rz.nx := by kernel_rfl
theorem fits3 : Nat.ble (len args3) Try.f26.ntmps = true := by kernel_rfl
noncomputable def env3 : Env := env.and 26 (.known r0H r0.nx args3 (gR rvR 0) rzH rz.nx)
theorem env3_ok : EnvOk env3 Try.prog :=
  EnvOk.and env_ok (known_call env_ok (fun _ => rfl) fP_fn rfl fP_body fits3 (Known.from (leS_ok ent3) run3) (.inr rfl) rfl res3)
end CX

namespace CX
open Go Go.Proofs

theorem w1 : isS s16 (runL env 1000 none (pcW.take 16) ⟨196, 0, .e, .e, 0, []⟩) = true := by kernel_rfl
theorem w2 : isS s20 (runL env1 1000 none ((pcW.drop 16).take 4) s16) = true := by kernel_rfl
theorem w3 : isS s22 (runL env2 1000 none ((pcW.drop 20).take 2) s20) = true := by kernel_rfl
theorem w4 : isE .ret wZ (runE env3 1000 none (pcW.drop 22) s22) = true := by kernel_rfl
theorem w_res : resultsX env wZ.regs wZ.h Try.f5.results.toList (fun l => retV (one l) wZ.h wZ.nx) = retV (.bool true) wZ.h wZ.nx := by kernel_rfl

theorem cut (n m : Nat) : pcW.drop n = (pcW.drop n).take m ++ pcW.drop (n + m) := by
  rw [← List.drop_drop, List.take_append_drop]

theorem works_known : Known env Try.prog none (fb Try.f5) ⟨196, 0, .e, .e, 0, []⟩ .ret wZ := by
  refine KnownL.code ?_
  rw [show flatC (fb Try.f5) = pcW.take 16 ++ pcW.drop 16 from (List.take_append_drop 16 pcW).symm]
  refine KnownL.chunk env_ok w1 ?_
  refine KnownL.env (E := env1) (E' := env) rfl ?_
  rw [cut 16 4]
  refine KnownL.chunk env1_ok w2 ?_
  refine KnownL.env (E := env2) (E' := env1) rfl ?_
  rw [cut 20 2]
  refine KnownL.chunk env2_ok w3 ?_
  refine KnownL.env (E := env3) (E' := env2) rfl ?_
  exact KnownL.endC env3_ok w4

theorem works_ok (w : World) : Calls Try.prog 5 #[] w fun e w' => e = .returned (.bool true) ∧ Kept w w' :=
  known_closed env_ok (fun _ => rfl) fW_fn rfl fW_body works_known (.inr rfl) rfl w_res w
end CX

namespace HX
open Go Go.Proofs

noncomputable def tyB : BT CX.Ty := (.n (.n (.n (.n (.n (.n (.n (.n .e 1 CX.ty1 .e) 2 CX.ty2 .e) 3 CX.ty3 (.n (.n .e 4 CX.ty4 .e) 5 CX.ty5 .e)) 6 CX.ty6 (.n (.n (.n .e 7 CX.ty7 .e) 8 CX.ty8 .e) 9 CX.ty9 (.n (.n .e 10 CX.ty10 .e) 11 CX.ty11 .e))) 12 CX.ty12 (.n (.n (.n (.n .e 13 CX.ty13 .e) 14 CX.ty14 .e) 15 CX.ty15 (.n (.n .e 16 CX.ty16 .e) 17 CX.ty17 .e)) 18 CX.ty18 (.n (.n (.n .e 19 CX.ty19 .e) 20 CX.ty20 .e) 21 CX.ty21 (.n .e 22 CX.ty22 .e)))) 23 CX.ty23 (.n (.n (.n (.n (.n .e 24 CX.ty24 .e) 25 CX.ty25 .e) 26 CX.ty26 (.n (.n .e 27 CX.ty27 .e) 29 CX.ty29 .e)) 30 CX.ty30 (.n (.n (.n .e 31 CX.ty31 .e) 32 CX.ty32 .e) 33 CX.ty33 (.n .e 35 CX.ty35 .e))) 36 CX.ty36 (.n (.n (.n (.n .e 38 CX.ty38 .e) 39 CX.ty39 .e) 40 CX.ty40 (.n (.n .e 42 CX.ty42 .e) 44 CX.ty44 .e)) 45 CX.ty45 (.n (.n (.n .e 46 CX.ty46 .e) 47 CX.ty47 .e) 48 CX.ty48 (.n .e 49 CX.ty49 .e))))) 50 CX.ty50 (.n (.n (.n (.n (.n (.n .e 51 CX.ty51 .e) 52 CX.ty52 .e) 53 CX.ty53 (.n (.n .e 54 CX.ty54 .e) 55 CX.ty55 .e)) 57 CX.ty57 (.n (.n (.n .e 58 CX.ty58 .e) 59 CX.ty59 .e) 60 CX.ty60 (.n .e 61 CX.ty61 .e))) 62 CX.ty62 (.n (.n (.n (.n .e 63 CX.ty63 .e) 64 CX.ty64 .e) 65 CX.ty65 (.n (.n .e 66 CX.ty66 .e) 67 CX.ty67 .e)) 68 CX.ty68 (.n (.n (.n .e 70 CX.ty70 .e) 71 CX.ty71 .e) 72 CX.ty72 (.n .e 73 CX.ty73 .e)))) 74 CX.ty74 (.n (.n (.n (.n (.n .e 75 CX.ty75 .e) 76 CX.ty76 .e) 77 CX.ty77 (.n (.n .e 78 CX.ty78 .e) 79 CX.ty79 .e)) 80 CX.ty80 (.n (.n (.n .e 81 CX.ty81 .e) 82 CX.ty82 .e) 83 CX.ty83 (.n .e 84 CX.ty84 .e))) 85 CX.ty85 (.n (.n (.n (.n .e 86 CX.ty86 .e) 87 CX.ty87 .e) 88 CX.ty88 (.n (.n .e 89 CX.ty89 .e) 90 CX.ty90 .e)) 91 CX.ty91 (.n (.n (.n .e 92 CX.ty92 .e) 93 CX.ty93 .e) 94 CX.ty94 (.n .e 95 CX.ty95 .e)))))) 96 CX.ty96 (.n (.n (.n (.n (.n (.n (.n .e 97 CX.ty97 .e) 98 CX.ty98 .e) 100 CX.ty100 (.n (.n .e 101 CX.ty101 .e) 102 CX.ty102 .e)) 103 CX.ty103 (.n (.n (.n .e 104 CX.ty104 .e) 105 CX.ty105 .e) 106 CX.ty106 (.n (.n .e 107 CX.ty107 .e) 109 CX.ty109 .e))) 110 CX.ty110 (.n (.n (.n (.n .e 111 CX.ty111 .e) 112 CX.ty112 .e) 113 CX.ty113 (.n (.n .e 114 CX.ty114 .e) 115 CX.ty115 .e)) 116 CX.ty116 (.n (.n (.n .e 117 CX.ty117 .e) 118 CX.ty118 .e) 119 CX.ty119 (.n .e 120 CX.ty120 .e)))) 121 CX.ty121 (.n (.n (.n (.n (.n .e 122 CX.ty122 .e) 123 CX.ty123 .e) 124 CX.ty124 (.n (.n .e 125 CX.ty125 .e) 126 CX.ty126 .e)) 127 CX.ty127 (.n (.n (.n .e 128 CX.ty128 .e) 129 CX.ty129 .e) 130 CX.ty130 (.n .e 131 CX.ty131 .e))) 132 CX.ty132 (.n (.n (.n (.n .e 133 CX.ty133 .e) 134 CX.ty134 .e) 135 CX.ty135 (.n (.n .e 136 CX.ty136 .e) 137 CX.ty137 .e)) 138 CX.ty138 (.n (.n (.n .e 139 CX.ty139 .e) 141 CX.ty141 .e) 142 CX.ty142 (.n .e 143 CX.ty143 .e))))) 144 CX.ty144 (.n (.n (.n (.n (.n (.n .e 146 CX.ty146 .e) 147 CX.ty147 .e) 148 CX.ty148 (.n (.n .e 149 CX.ty149 .e) 150 CX.ty150 .e)) 151 CX.ty151 (.n (.n (.n .e 152 CX.ty152 .e) 153 CX.ty153 .e) 156 CX.ty156 (.n .e 157 CX.ty157 .e))) 158 CX.ty158 (.n (.n (.n (.n .e 159 CX.ty159 .e) 160 CX.ty160 .e) 161 CX.ty161 (.n (.n .e 162 CX.ty162 .e) 163 CX.ty163 .e)) 164 CX.ty164 (.n (.n (.n .e 165 CX.ty165 .e) 166 CX.ty166 .e) 167 CX.ty167 (.n .e 168 CX.ty168 .e)))) 169 CX.ty169 (.n (.n (.n (.n (.n .e 170 CX.ty170 .e) 171 CX.ty171 .e) 172 CX.ty172 (.n (.n .e 174 CX.ty174 .e) 175 CX.ty175 .e)) 176 CX.ty176 (.n (.n (.n .e 177 CX.ty177 .e) 178 CX.ty178 .e) 179 CX.ty179 (.n .e 180 CX.ty180 .e))) 181 CX.ty181 (.n (.n (.n (.n .e 182 CX.ty182 .e) 183 CX.ty183 .e) 184 CX.ty184 (.n (.n .e 185 CX.ty185 .e) 186 CX.ty186 .e)) 187 CX.ty187 (.n (.n (.n .e 188 CX.ty188 .e) 189 CX.ty189 .e) 190 CX.ty190 (.n .e 191 CX.ty191 .e)))))))
def ksB : BT (List Kd) := (.n (.n (.n (.n (.n (.n .e 2 [.int .i64] .e) 3 [.int .i64] (.n .e 4 [.bool] .e)) 5 [.int .u8] (.n (.n .e 6 [.int .u8] .e) 7 [.int .i64, .int .i64, .bool, .int .u8] (.n .e 8 [.int .i64, .int .i64, .bool, .int .u8] .e))) 9 [.str] (.n (.n (.n .e 10 [.str] .e) 11 [.str] (.n .e 12 [.int .u64] .e)) 13 [.str, .int .u64] (.n (.n .e 14 [.str, .int .u64] .e) 21 [.int .i32] .e))) 22 [.sl [.int .u8]] (.n (.n (.n (.n .e 23 [.int .u16] .e) 25 [.sl [.int .i64]] (.n .e 27 [.int .i64] .e)) 31 [.int .i64, .int .i64] (.n (.n .e 32 [.int .i64, .int .i64] .e) 45 [.int .i64, .int .i64, .int .i64] (.n .e 46 [.int .i64, .int .i64, .int .i64] .e))) 47 [.int .i64, .int .i64, .sl [.int .i64]] (.n (.n (.n .e 48 [.int .i64, .int .i64, .sl [.int .i64]] .e) 49 [.int .i64, .int .i64, .sl [.int .i64], .int .i64, .int .i64, .int .i64] (.n .e 50 [.int .i64, .int .i64, .sl [.int .i64], .int .i64, .int .i64, .int .i64] .e)) 51 [.sl [.int .i64, .int .i64, .sl [.int .i64], .int .i64, .int .i64, .int .i64]] (.n (.n .e 52 [.sl [.int .i64, .int .i64, .int .i64, .int .i64, .int .i64]] .e) 53 [.sl [.sl [.int .i64]]] .e)))) 54 [.sl [.int .i64, .int .i64, .int .i64, .int .i64, .int .i64], .sl [.sl [.int .i64]]] (.n (.n (.n (.n (.n .e 55 [.sl [.int .i64, .int .i64, .int .i64, .int .i64, .int .i64], .sl [.sl [.int .i64]]] .e) 58 [.int .i64, .int .i64, .int .i64, .int .i64, .int .i64] (.n .e 59 [.int .i64, .int .i64, .int .i64, .int .i64, .int .i64] .e)) 72 [.sl [.int .i64, .int .i64, .int .i64]] (.n (.n .e 74 [.int .i64, .int .i64, .int .i64] .e) 75 [.int .i64, .int .i64, .int .i64] (.n .e 76 [.int .i64, .int .i64] .e))) 77 [.int .i64, .int .i64] (.n (.n (.n .e 87 [.sl [.sl [.sl [.int .i64, .int .i64, .int .i64]]]] .e) 96 [.sl [.int .i64, .int .i64]] (.n .e 97 [.sl [.int .i64, .int .i64, .sl [.int .i64]]] .e)) 98 [.sl [.sl [.int .i64, .int .i64, .int .i64]]] (.n (.n .e 101 [.sl [.sl [.int .i64, .int .i64, .int .i64]]] .e) 117 [.sl [.int .i64, .int .i64, .int .i64]] .e))) 118 [.int .i64, .int .i64, .int .i64] (.n (.n (.n (.n .e 119 [.int .i64, .int .i64, .int .i64] .e) 130 [.int .i64, .int .i64, .int .i64, .int .i64] (.n .e 131 [.int .i64, .int .i64, .int .i64, .int .i64] .e)) 134 [.int .u64] (.n (.n .e 144 [.int .i64] .e) 151 [.int .u32] (.n .e 153 [.int .u64] .e))) 156 [.int .i64, .int .i64] (.n (.n (.n .e 157 [.int .i64, .int .i64] .e) 164 [.int .u64] (.n .e 183 [.int .u8] .e)) 184 [.int .u8] (.n (.n .e 187 [.int .i32] .e) 188 [.int .i32] .e)))))
end HX

namespace HX
open Go Go.Proofs CX

noncomputable def tyF (t : Nat) : Option CX.Ty := tyB.get t
def ksF (t : Nat) : Option (List Kd) := ksB.get t
noncomputable def fnF (f : Nat) : Option Func := CX.env.fn f
def extF (f : Nat) : Option CX.Ext := match beqN f 5 with
  | true => some (.bool true)
  | false => none
noncomputable def cxE (ro : Addr → Option V) : CX.Env := ⟨tyF, fnF, extF, ro⟩

structure Ctr where
  f : Nat
  sg : Sig
  pre : List (List D) → Prop
  res : List (List D) → Nat → Nat → D

def inlL (l : List (Nat × Func)) (f : Nat) : Option Func := look l f
def sigL (l : List (Nat × Sig)) (f : Nat) : Option Sig := look l f
def sigs (l : List Ctr) : List (Nat × Sig) := l.map fun c => (c.f, c.sg)
def ctrOf : List Ctr → Nat → Option Ctr
  | [], _ => none
  | c :: r, f => if c.f = f then some c else ctrOf r f
def preOf (l : List Ctr) (f : Nat) (ds : List (List D)) : Prop := match ctrOf l f with
  | some c => c.pre ds
  | none => False
def resOf (l : List Ctr) (f : Nat) (ds : List (List D)) : Nat → Nat → D := match ctrOf l f with
  | some c => c.res ds
  | none => fun _ _ => .nil
end HX

namespace HX
open Go Go.Proofs CX

inductive Inls (E : CX.Env) : List (Nat × Func) → Prop
  | nil : Inls E []
  | cons {f : Nat} {fn : Func} {l : List (Nat × Func)} (h : E.fn f = some fn) (h' : E.ext f = none) (r : Inls E l) : Inls E ((f, fn) :: l)
theorem Inls.ok {E : CX.Env} : ∀ {l : List (Nat × Func)}, Inls E l → ∀ f fn, inlL l f = some fn → E.fn f = some fn ∧ E.ext f = none
  | [], _, f, fn, h => by simp [inlL, look] at h
  | (g, gn) :: l, .cons h1 h2 r, f, fn, h => by
    unfold inlL at h
    rw [look_cons] at h
    split at h
    · rename_i e
      simp only [Option.some.injEq] at h
      subst e h
      exact ⟨h1, h2⟩
    · exact r.ok f fn h

def mxI (x y : Int) : Int := if x < y then y else x
theorem mxI_eq (x y : Int) : mxI x y = max x y := by unfold mxI; split <;> omega
theorem dt {p : Prop} [d : Decidable p] (h : decide p = true) : p := of_decide_eq_true h
theorem df {p : Prop} [d : Decidable p] (h : decide p = false) : ¬ p := of_decide_eq_false h
theorem nt {b : Bool} (h : (!b) = true) : b = false := by simpa using h
theorem nf {b : Bool} (h : (!b) = false) : b = true := by simpa using h
end HX

namespace HX
open Go Go.Proofs CX
abbrev v3a (fn : Nat → List (List D) → Nat → Nat → D) (a0 : Rows) (a1 : Int) := (D.int (fn 7 [[D.l (D.rows (fn 6 [[D.l a0]] 0 0))], [D.i (Int.tmod a1 1025)]] 0 0))
abbrev v3b (fn : Nat → List (List D) → Nat → Nat → D) (a0 : Rows) (a1 : Int) := (D.boo (fn 8 [[D.l (D.rows (fn 6 [[D.l a0]] 0 0))], [D.i (D.int (fn 9 [[D.i (v3a fn a0 a1)], [D.i (Int.tmod a1 1025)]] 0 0)), D.i (D.int (fn 9 [[D.i (v3a fn a0 a1)], [D.i (Int.tmod a1 1025)]] 0 1))]] 0 0) = true)
abbrev v3c (fn : Nat → List (List D) → Nat → Nat → D) (a0 : Rows) (a1 : Int) := (D.boo (fn 8 [[D.l (D.rows (fn 6 [[D.l a0]] 0 0))], [D.i (D.int (fn 9 [[D.i ((v3a fn a0 a1) - 1)], [D.i (Int.tmod a1 1025)]] 0 0)), D.i (D.int (fn 9 [[D.i ((v3a fn a0 a1) - 1)], [D.i (Int.tmod a1 1025)]] 0 1))]] 0 0) = false)
abbrev v3d (fn : Nat → List (List D) → Nat → Nat → D) (a0 : Rows) (a1 : Int) := (D.boo (fn 10 [[D.l (D.rows (fn 6 [[D.l a0]] 0 0))], [D.i (D.int (fn 9 [[D.i (v3a fn a0 a1)], [D.i (Int.tmod a1 1025)]] 0 0)), D.i (D.int (fn 9 [[D.i (v3a fn a0 a1)], [D.i (Int.tmod a1 1025)]] 0 1))]] 0 0) = true)
abbrev v3e (fn : Nat → List (List D) → Nat → Nat → D) (a0 : Rows) (a1 : Int) := (D.int (fn 10 [[D.l (D.rows (fn 6 [[D.l a0]] 0 0))], [D.i (D.int (fn 9 [[D.i (v3a fn a0 a1)], [D.i (Int.tmod a1 1025)]] 0 0)), D.i (D.int (fn 9 [[D.i (v3a fn a0 a1)], [D.i (Int.tmod a1 1025)]] 0 1))]] 1 0))
abbrev v3f (fn : Nat → List (List D) → Nat → Nat → D) (a0 : Rows) (a1 : Int) := ((D.int (fn 7 [[D.l (D.rows (fn 6 [[D.l a0]] 0 0))], [D.i (Int.tmod a1 1025)]] 1 0)) = 0)
abbrev v3g (fn : Nat → List (List D) → Nat → Nat → D) (a0 : Rows) (a1 : Int) := (fn 10 [[D.l (D.rows (fn 6 [[D.l a0]] 0 0))], [D.i (D.int (fn 9 [[D.i ((v3a fn a0 a1) - 1)], [D.i (Int.tmod a1 1025)]] 0 0)), D.i (D.int (fn 9 [[D.i ((v3a fn a0 a1) - 1)], [D.i (Int.tmod a1 1025)]] 0 1))]] 0 0)
abbrev v3h (fn : Nat → List (List D) → Nat → Nat → D) (a0 : Rows) (a1 : Int) := (D.int (fn 10 [[D.l (D.rows (fn 6 [[D.l a0]] 0 0))], [D.i (D.int (fn 9 [[D.i ((v3a fn a0 a1) - 1)], [D.i (Int.tmod a1 1025)]] 0 0)), D.i (D.int (fn 9 [[D.i ((v3a fn a0 a1) - 1)], [D.i (Int.tmod a1 1025)]] 0 1))]] 1 0))
structure V3 (pre : Nat → List (List D) → Prop) (fn : Nat → List (List D) → Nat → Nat → D) (a0 : Rows) (a1 : Int) (R : Nat → Nat → D)  : Prop where
  g0 : (60 < (a0.length : Int)) → pre 5 []
  g1 : (60 < (a0.length : Int)) → R 0 0 = D.b (D.boo (fn 5 [] 0 0))
  g2 : (¬ 60 < (a0.length : Int)) → pre 6 [[D.l a0]]
  g3 : (¬ 60 < (a0.length : Int)) → -9223372036854775808 ≤ a1 ∧ a1 ≤ 9223372036854775807
  g4 : (¬ 60 < (a0.length : Int)) → (1025 : Int) ≠ 0
  g5 : (¬ 60 < (a0.length : Int)) → pre 7 [[D.l (D.rows (fn 6 [[D.l a0]] 0 0))], [D.i (Int.tmod a1 1025)]]
  g6 : (¬ 60 < (a0.length : Int)) → (¬ (D.int (fn 7 [[D.l (D.rows (fn 6 [[D.l a0]] 0 0))], [D.i (Int.tmod a1 1025)]] 1 0)) = 0) → R 0 0 = D.b false
  g7 : (¬ 60 < (a0.length : Int)) → (v3f fn a0 a1) → ((v3a fn a0 a1) < 0) → R 0 0 = D.b false
  g8 : (¬ 60 < (a0.length : Int)) → (v3f fn a0 a1) → (¬ (v3a fn a0 a1) < 0) → pre 9 [[D.i (v3a fn a0 a1)], [D.i (Int.tmod a1 1025)]]
  g9 : (¬ 60 < (a0.length : Int)) → (v3f fn a0 a1) → (¬ (v3a fn a0 a1) < 0) → pre 8 [[D.l (D.rows (fn 6 [[D.l a0]] 0 0))], [D.i (D.int (fn 9 [[D.i (v3a fn a0 a1)], [D.i (Int.tmod a1 1025)]] 0 0)), D.i (D.int (fn 9 [[D.i (v3a fn a0 a1)], [D.i (Int.tmod a1 1025)]] 0 1))]]
  g10 : (¬ 60 < (a0.length : Int)) → (v3f fn a0 a1) → (¬ (v3a fn a0 a1) < 0) → (D.boo (fn 8 [[D.l (D.rows (fn 6 [[D.l a0]] 0 0))], [D.i (D.int (fn 9 [[D.i (v3a fn a0 a1)], [D.i (Int.tmod a1 1025)]] 0 0)), D.i (D.int (fn 9 [[D.i (v3a fn a0 a1)], [D.i (Int.tmod a1 1025)]] 0 1))]] 0 0) = false) → R 0 0 = D.b false
  g11 : (¬ 60 < (a0.length : Int)) → (v3f fn a0 a1) → (¬ (v3a fn a0 a1) < 0) → (v3b fn a0 a1) → (0 < (v3a fn a0 a1)) → -9223372036854775808 ≤ ((v3a fn a0 a1) - 1) ∧ ((v3a fn a0 a1) - 1) ≤ 9223372036854775807
  g12 : (¬ 60 < (a0.length : Int)) → (v3f fn a0 a1) → (¬ (v3a fn a0 a1) < 0) → (v3b fn a0 a1) → (0 < (v3a fn a0 a1)) → pre 9 [[D.i ((v3a fn a0 a1) - 1)], [D.i (Int.tmod a1 1025)]]
  g13 : (¬ 60 < (a0.length : Int)) → (v3f fn a0 a1) → (¬ (v3a fn a0 a1) < 0) → (v3b fn a0 a1) → (0 < (v3a fn a0 a1)) → pre 8 [[D.l (D.rows (fn 6 [[D.l a0]] 0 0))], [D.i (D.int (fn 9 [[D.i ((v3a fn a0 a1) - 1)], [D.i (Int.tmod a1 1025)]] 0 0)), D.i (D.int (fn 9 [[D.i ((v3a fn a0 a1) - 1)], [D.i (Int.tmod a1 1025)]] 0 1))]]
  g14 : (¬ 60 < (a0.length : Int)) → (v3f fn a0 a1) → (¬ (v3a fn a0 a1) < 0) → (v3b fn a0 a1) → (0 < (v3a fn a0 a1)) → (D.boo (fn 8 [[D.l (D.rows (fn 6 [[D.l a0]] 0 0))], [D.i (D.int (fn 9 [[D.i ((v3a fn a0 a1) - 1)], [D.i (Int.tmod a1 1025)]] 0 0)), D.i (D.int (fn 9 [[D.i ((v3a fn a0 a1) - 1)], [D.i (Int.tmod a1 1025)]] 0 1))]] 0 0) = true) → R 0 0 = D.b false
  g15 : (¬ 60 < (a0.length : Int)) → (v3f fn a0 a1) → (¬ (v3a fn a0 a1) < 0) → (v3b fn a0 a1) → (0 < (v3a fn a0 a1)) → (v3c fn a0 a1) → ((v3a fn a0 a1) ≤ 65536) → pre 9 [[D.i (v3a fn a0 a1)], [D.i (Int.tmod a1 1025)]]
  g16 : (¬ 60 < (a0.length : Int)) → (v3f fn a0 a1) → (¬ (v3a fn a0 a1) < 0) → (v3b fn a0 a1) → (0 < (v3a fn a0 a1)) → (v3c fn a0 a1) → ((v3a fn a0 a1) ≤ 65536) → pre 10 [[D.l (D.rows (fn 6 [[D.l a0]] 0 0))], [D.i (D.int (fn 9 [[D.i (v3a fn a0 a1)], [D.i (Int.tmod a1 1025)]] 0 0)), D.i (D.int (fn 9 [[D.i (v3a fn a0 a1)], [D.i (Int.tmod a1 1025)]] 0 1))]]
  g17 : (¬ 60 < (a0.length : Int)) → (v3f fn a0 a1) → (¬ (v3a fn a0 a1) < 0) → (v3b fn a0 a1) → (0 < (v3a fn a0 a1)) → (v3c fn a0 a1) → ((v3a fn a0 a1) ≤ 65536) → (D.boo (fn 10 [[D.l (D.rows (fn 6 [[D.l a0]] 0 0))], [D.i (D.int (fn 9 [[D.i (v3a fn a0 a1)], [D.i (Int.tmod a1 1025)]] 0 0)), D.i (D.int (fn 9 [[D.i (v3a fn a0 a1)], [D.i (Int.tmod a1 1025)]] 0 1))]] 0 0) = false) → R 0 0 = D.b false
  g18 : (¬ 60 < (a0.length : Int)) → (v3f fn a0 a1) → (¬ (v3a fn a0 a1) < 0) → (v3b fn a0 a1) → (0 < (v3a fn a0 a1)) → (v3c fn a0 a1) → ((v3a fn a0 a1) ≤ 65536) → (v3d fn a0 a1) → (¬ (v3e fn a0 a1) = 0) → R 0 0 = D.b false
  g19 : (¬ 60 < (a0.length : Int)) → (v3f fn a0 a1) → (¬ (v3a fn a0 a1) < 0) → (v3b fn a0 a1) → (0 < (v3a fn a0 a1)) → (v3c fn a0 a1) → ((v3a fn a0 a1) ≤ 65536) → (v3d fn a0 a1) → ((v3e fn a0 a1) = 0) → (0 < (v3a fn a0 a1)) → -9223372036854775808 ≤ ((v3a fn a0 a1) - 1) ∧ ((v3a fn a0 a1) - 1) ≤ 9223372036854775807
  g20 : (¬ 60 < (a0.length : Int)) → (v3f fn a0 a1) → (¬ (v3a fn a0 a1) < 0) → (v3b fn a0 a1) → (0 < (v3a fn a0 a1)) → (v3c fn a0 a1) → ((v3a fn a0 a1) ≤ 65536) → (v3d fn a0 a1) → ((v3e fn a0 a1) = 0) → (0 < (v3a fn a0 a1)) → (((v3a fn a0 a1) - 1) ≤ 65536) → -9223372036854775808 ≤ ((v3a fn a0 a1) - 1) ∧ ((v3a fn a0 a1) - 1) ≤ 9223372036854775807
  g21 : (¬ 60 < (a0.length : Int)) → (v3f fn a0 a1) → (¬ (v3a fn a0 a1) < 0) → (v3b fn a0 a1) → (0 < (v3a fn a0 a1)) → (v3c fn a0 a1) → ((v3a fn a0 a1) ≤ 65536) → (v3d fn a0 a1) → ((v3e fn a0 a1) = 0) → (0 < (v3a fn a0 a1)) → (((v3a fn a0 a1) - 1) ≤ 65536) → pre 9 [[D.i ((v3a fn a0 a1) - 1)], [D.i (Int.tmod a1 1025)]]
  g22 : (¬ 60 < (a0.length : Int)) → (v3f fn a0 a1) → (¬ (v3a fn a0 a1) < 0) → (v3b fn a0 a1) → (0 < (v3a fn a0 a1)) → (v3c fn a0 a1) → ((v3a fn a0 a1) ≤ 65536) → (v3d fn a0 a1) → ((v3e fn a0 a1) = 0) → (0 < (v3a fn a0 a1)) → (((v3a fn a0 a1) - 1) ≤ 65536) → pre 10 [[D.l (D.rows (fn 6 [[D.l a0]] 0 0))], [D.i (D.int (fn 9 [[D.i ((v3a fn a0 a1) - 1)], [D.i (Int.tmod a1 1025)]] 0 0)), D.i (D.int (fn 9 [[D.i ((v3a fn a0 a1) - 1)], [D.i (Int.tmod a1 1025)]] 0 1))]]
  g23 : (¬ 60 < (a0.length : Int)) → (v3f fn a0 a1) → (¬ (v3a fn a0 a1) < 0) → (v3b fn a0 a1) → (0 < (v3a fn a0 a1)) → (v3c fn a0 a1) → ((v3a fn a0 a1) ≤ 65536) → (v3d fn a0 a1) → ((v3e fn a0 a1) = 0) → (0 < (v3a fn a0 a1)) → (((v3a fn a0 a1) - 1) ≤ 65536) → (D.boo (v3g fn a0 a1) = true) → R 0 0 = D.b false
  g24 : (¬ 60 < (a0.length : Int)) → (v3f fn a0 a1) → (¬ (v3a fn a0 a1) < 0) → (v3b fn a0 a1) → (0 < (v3a fn a0 a1)) → (v3c fn a0 a1) → ((v3a fn a0 a1) ≤ 65536) → (v3d fn a0 a1) → ((v3e fn a0 a1) = 0) → (0 < (v3a fn a0 a1)) → (((v3a fn a0 a1) - 1) ≤ 65536) → (D.boo (v3g fn a0 a1) = false) → (¬ (v3h fn a0 a1) = 0) → R 0 0 = D.b false
  g25 : (¬ 60 < (a0.length : Int)) → (v3f fn a0 a1) → (¬ (v3a fn a0 a1) < 0) → (v3b fn a0 a1) → (0 < (v3a fn a0 a1)) → (v3c fn a0 a1) → ((v3a fn a0 a1) ≤ 65536) → (v3d fn a0 a1) → ((v3e fn a0 a1) = 0) → (0 < (v3a fn a0 a1)) → (((v3a fn a0 a1) - 1) ≤ 65536) → (D.boo (v3g fn a0 a1) = false) → ((v3h fn a0 a1) = 0) → pre 5 []
  g26 : (¬ 60 < (a0.length : Int)) → (v3f fn a0 a1) → (¬ (v3a fn a0 a1) < 0) → (v3b fn a0 a1) → (0 < (v3a fn a0 a1)) → (v3c fn a0 a1) → ((v3a fn a0 a1) ≤ 65536) → (v3d fn a0 a1) → ((v3e fn a0 a1) = 0) → (0 < (v3a fn a0 a1)) → (((v3a fn a0 a1) - 1) ≤ 65536) → (D.boo (v3g fn a0 a1) = false) → ((v3h fn a0 a1) = 0) → R 0 0 = D.b (D.boo (fn 5 [] 0 0))
  g27 : (¬ 60 < (a0.length : Int)) → (v3f fn a0 a1) → (¬ (v3a fn a0 a1) < 0) → (v3b fn a0 a1) → (0 < (v3a fn a0 a1)) → (v3c fn a0 a1) → ((v3a fn a0 a1) ≤ 65536) → (v3d fn a0 a1) → ((v3e fn a0 a1) = 0) → (0 < (v3a fn a0 a1)) → (¬ ((v3a fn a0 a1) - 1) ≤ 65536) → pre 5 []
  g28 : (¬ 60 < (a0.length : Int)) → (v3f fn a0 a1) → (¬ (v3a fn a0 a1) < 0) → (v3b fn a0 a1) → (0 < (v3a fn a0 a1)) → (v3c fn a0 a1) → ((v3a fn a0 a1) ≤ 65536) → (v3d fn a0 a1) → ((v3e fn a0 a1) = 0) → (0 < (v3a fn a0 a1)) → (¬ ((v3a fn a0 a1) - 1) ≤ 65536) → R 0 0 = D.b (D.boo (fn 5 [] 0 0))
  g29 : (¬ 60 < (a0.length : Int)) → (v3f fn a0 a1) → (¬ (v3a fn a0 a1) < 0) → (v3b fn a0 a1) → (0 < (v3a fn a0 a1)) → (v3c fn a0 a1) → ((v3a fn a0 a1) ≤ 65536) → (v3d fn a0 a1) → ((v3e fn a0 a1) = 0) → (¬ 0 < (v3a fn a0 a1)) → pre 5 []
  g30 : (¬ 60 < (a0.length : Int)) → (v3f fn a0 a1) → (¬ (v3a fn a0 a1) < 0) → (v3b fn a0 a1) → (0 < (v3a fn a0 a1)) → (v3c fn a0 a1) → ((v3a fn a0 a1) ≤ 65536) → (v3d fn a0 a1) → ((v3e fn a0 a1) = 0) → (¬ 0 < (v3a fn a0 a1)) → R 0 0 = D.b (D.boo (fn 5 [] 0 0))
  g31 : (¬ 60 < (a0.length : Int)) → (v3f fn a0 a1) → (¬ (v3a fn a0 a1) < 0) → (v3b fn a0 a1) → (0 < (v3a fn a0 a1)) → (v3c fn a0 a1) → (¬ (v3a fn a0 a1) ≤ 65536) → (0 < (v3a fn a0 a1)) → -9223372036854775808 ≤ ((v3a fn a0 a1) - 1) ∧ ((v3a fn a0 a1) - 1) ≤ 9223372036854775807
  g32 : (¬ 60 < (a0.length : Int)) → (v3f fn a0 a1) → (¬ (v3a fn a0 a1) < 0) → (v3b fn a0 a1) → (0 < (v3a fn a0 a1)) → (v3c fn a0 a1) → (¬ (v3a fn a0 a1) ≤ 65536) → (0 < (v3a fn a0 a1)) → (((v3a fn a0 a1) - 1) ≤ 65536) → -9223372036854775808 ≤ ((v3a fn a0 a1) - 1) ∧ ((v3a fn a0 a1) - 1) ≤ 9223372036854775807
  g33 : (¬ 60 < (a0.length : Int)) → (v3f fn a0 a1) → (¬ (v3a fn a0 a1) < 0) → (v3b fn a0 a1) → (0 < (v3a fn a0 a1)) → (v3c fn a0 a1) → (¬ (v3a fn a0 a1) ≤ 65536) → (0 < (v3a fn a0 a1)) → (((v3a fn a0 a1) - 1) ≤ 65536) → pre 9 [[D.i ((v3a fn a0 a1) - 1)], [D.i (Int.tmod a1 1025)]]
  g34 : (¬ 60 < (a0.length : Int)) → (v3f fn a0 a1) → (¬ (v3a fn a0 a1) < 0) → (v3b fn a0 a1) → (0 < (v3a fn a0 a1)) → (v3c fn a0 a1) → (¬ (v3a fn a0 a1) ≤ 65536) → (0 < (v3a fn a0 a1)) → (((v3a fn a0 a1) - 1) ≤ 65536) → pre 10 [[D.l (D.rows (fn 6 [[D.l a0]] 0 0))], [D.i (D.int (fn 9 [[D.i ((v3a fn a0 a1) - 1)], [D.i (Int.tmod a1 1025)]] 0 0)), D.i (D.int (fn 9 [[D.i ((v3a fn a0 a1) - 1)], [D.i (Int.tmod a1 1025)]] 0 1))]]
  g35 : (¬ 60 < (a0.length : Int)) → (v3f fn a0 a1) → (¬ (v3a fn a0 a1) < 0) → (v3b fn a0 a1) → (0 < (v3a fn a0 a1)) → (v3c fn a0 a1) → (¬ (v3a fn a0 a1) ≤ 65536) → (0 < (v3a fn a0 a1)) → (((v3a fn a0 a1) - 1) ≤ 65536) → (D.boo (v3g fn a0 a1) = true) → R 0 0 = D.b false
  g36 : (¬ 60 < (a0.length : Int)) → (v3f fn a0 a1) → (¬ (v3a fn a0 a1) < 0) → (v3b fn a0 a1) → (0 < (v3a fn a0 a1)) → (v3c fn a0 a1) → (¬ (v3a fn a0 a1) ≤ 65536) → (0 < (v3a fn a0 a1)) → (((v3a fn a0 a1) - 1) ≤ 65536) → (D.boo (v3g fn a0 a1) = false) → (¬ (v3h fn a0 a1) = 0) → R 0 0 = D.b false
  g37 : (¬ 60 < (a0.length : Int)) → (v3f fn a0 a1) → (¬ (v3a fn a0 a1) < 0) → (v3b fn a0 a1) → (0 < (v3a fn a0 a1)) → (v3c fn a0 a1) → (¬ (v3a fn a0 a1) ≤ 65536) → (0 < (v3a fn a0 a1)) → (((v3a fn a0 a1) - 1) ≤ 65536) → (D.boo (v3g fn a0 a1) = false) → ((v3h fn a0 a1) = 0) → pre 5 []
  g38 : (¬ 60 < (a0.length : Int)) → (v3f fn a0 a1) → (¬ (v3a fn a0 a1) < 0) → (v3b fn a0 a1) → (0 < (v3a fn a0 a1)) → (v3c fn a0 a1) → (¬ (v3a fn a0 a1) ≤ 65536) → (0 < (v3a fn a0 a1)) → (((v3a fn a0 a1) - 1) ≤ 65536) → (D.boo (v3g fn a0 a1) = false) → ((v3h fn a0 a1) = 0) → R 0 0 = D.b (D.boo (fn 5 [] 0 0))
  g39 : (¬ 60 < (a0.length : Int)) → (v3f fn a0 a1) → (¬ (v3a fn a0 a1) < 0) → (v3b fn a0 a1) → (0 < (v3a fn a0 a1)) → (v3c fn a0 a1) → (¬ (v3a fn a0 a1) ≤ 65536) → (0 < (v3a fn a0 a1)) → (¬ ((v3a fn a0 a1) - 1) ≤ 65536) → pre 5 []
  g40 : (¬ 60 < (a0.length : Int)) → (v3f fn a0 a1) → (¬ (v3a fn a0 a1) < 0) → (v3b fn a0 a1) → (0 < (v3a fn a0 a1)) → (v3c fn a0 a1) → (¬ (v3a fn a0 a1) ≤ 65536) → (0 < (v3a fn a0 a1)) → (¬ ((v3a fn a0 a1) - 1) ≤ 65536) → R 0 0 = D.b (D.boo (fn 5 [] 0 0))
  g41 : (¬ 60 < (a0.length : Int)) → (v3f fn a0 a1) → (¬ (v3a fn a0 a1) < 0) → (v3b fn a0 a1) → (0 < (v3a fn a0 a1)) → (v3c fn a0 a1) → (¬ (v3a fn a0 a1) ≤ 65536) → (¬ 0 < (v3a fn a0 a1)) → pre 5 []
  g42 : (¬ 60 < (a0.length : Int)) → (v3f fn a0 a1) → (¬ (v3a fn a0 a1) < 0) → (v3b fn a0 a1) → (0 < (v3a fn a0 a1)) → (v3c fn a0 a1) → (¬ (v3a fn a0 a1) ≤ 65536) → (¬ 0 < (v3a fn a0 a1)) → R 0 0 = D.b (D.boo (fn 5 [] 0 0))
  g43 : (¬ 60 < (a0.length : Int)) → (v3f fn a0 a1) → (¬ (v3a fn a0 a1) < 0) → (v3b fn a0 a1) → (¬ 0 < (v3a fn a0 a1)) → ((v3a fn a0 a1) ≤ 65536) → pre 9 [[D.i (v3a fn a0 a1)], [D.i (Int.tmod a1 1025)]]
  g44 : (¬ 60 < (a0.length : Int)) → (v3f fn a0 a1) → (¬ (v3a fn a0 a1) < 0) → (v3b fn a0 a1) → (¬ 0 < (v3a fn a0 a1)) → ((v3a fn a0 a1) ≤ 65536) → pre 10 [[D.l (D.rows (fn 6 [[D.l a0]] 0 0))], [D.i (D.int (fn 9 [[D.i (v3a fn a0 a1)], [D.i (Int.tmod a1 1025)]] 0 0)), D.i (D.int (fn 9 [[D.i (v3a fn a0 a1)], [D.i (Int.tmod a1 1025)]] 0 1))]]
  g45 : (¬ 60 < (a0.length : Int)) → (v3f fn a0 a1) → (¬ (v3a fn a0 a1) < 0) → (v3b fn a0 a1) → (¬ 0 < (v3a fn a0 a1)) → ((v3a fn a0 a1) ≤ 65536) → (D.boo (fn 10 [[D.l (D.rows (fn 6 [[D.l a0]] 0 0))], [D.i (D.int (fn 9 [[D.i (v3a fn a0 a1)], [D.i (Int.tmod a1 1025)]] 0 0)), D.i (D.int (fn 9 [[D.i (v3a fn a0 a1)], [D.i (Int.tmod a1 1025)]] 0 1))]] 0 0) = false) → R 0 0 = D.b false
  g46 : (¬ 60 < (a0.length : Int)) → (v3f fn a0 a1) → (¬ (v3a fn a0 a1) < 0) → (v3b fn a0 a1) → (¬ 0 < (v3a fn a0 a1)) → ((v3a fn a0 a1) ≤ 65536) → (v3d fn a0 a1) → (¬ (v3e fn a0 a1) = 0) → R 0 0 = D.b false
  g47 : (¬ 60 < (a0.length : Int)) → (v3f fn a0 a1) → (¬ (v3a fn a0 a1) < 0) → (v3b fn a0 a1) → (¬ 0 < (v3a fn a0 a1)) → ((v3a fn a0 a1) ≤ 65536) → (v3d fn a0 a1) → ((v3e fn a0 a1) = 0) → (0 < (v3a fn a0 a1)) → -9223372036854775808 ≤ ((v3a fn a0 a1) - 1) ∧ ((v3a fn a0 a1) - 1) ≤ 9223372036854775807
  g48 : (¬ 60 < (a0.length : Int)) → (v3f fn a0 a1) → (¬ (v3a fn a0 a1) < 0) → (v3b fn a0 a1) → (¬ 0 < (v3a fn a0 a1)) → ((v3a fn a0 a1) ≤ 65536) → (v3d fn a0 a1) → ((v3e fn a0 a1) = 0) → (0 < (v3a fn a0 a1)) → (((v3a fn a0 a1) - 1) ≤ 65536) → -9223372036854775808 ≤ ((v3a fn a0 a1) - 1) ∧ ((v3a fn a0 a1) - 1) ≤ 9223372036854775807
  g49 : (¬ 60 < (a0.length : Int)) → (v3f fn a0 a1) → (¬ (v3a fn a0 a1) < 0) → (v3b fn a0 a1) → (¬ 0 < (v3a fn a0 a1)) → ((v3a fn a0 a1) ≤ 65536) → (v3d fn a0 a1) → ((v3e fn a0 a1) = 0) → (0 < (v3a fn a0 a1)) → (((v3a fn a0 a1) - 1) ≤ 65536) → pre 9 [[D.i ((v3a fn a0 a1) - 1)], [D.i (Int.tmod a1 1025)]]
  g50 : (¬ 60 < (a0.length : Int)) → (v3f fn a0 a1) → (¬ (v3a fn a0 a1) < 0) → (v3b fn a0 a1) → (¬ 0 < (v3a fn a0 a1)) → ((v3a fn a0 a1) ≤ 65536) → (v3d fn a0 a1) → ((v3e fn a0 a1) = 0) → (0 < (v3a fn a0 a1)) → (((v3a fn a0 a1) - 1) ≤ 65536) → pre 10 [[D.l (D.rows (fn 6 [[D.l a0]] 0 0))], [D.i (D.int (fn 9 [[D.i ((v3a fn a0 a1) - 1)], [D.i (Int.tmod a1 1025)]] 0 0)), D.i (D.int (fn 9 [[D.i ((v3a fn a0 a1) - 1)], [D.i (Int.tmod a1 1025)]] 0 1))]]
  g51 : (¬ 60 < (a0.length : Int)) → (v3f fn a0 a1) → (¬ (v3a fn a0 a1) < 0) → (v3b fn a0 a1) → (¬ 0 < (v3a fn a0 a1)) → ((v3a fn a0 a1) ≤ 65536) → (v3d fn a0 a1) → ((v3e fn a0 a1) = 0) → (0 < (v3a fn a0 a1)) → (((v3a fn a0 a1) - 1) ≤ 65536) → (D.boo (v3g fn a0 a1) = true) → R 0 0 = D.b false
  g52 : (¬ 60 < (a0.length : Int)) → (v3f fn a0 a1) → (¬ (v3a fn a0 a1) < 0) → (v3b fn a0 a1) → (¬ 0 < (v3a fn a0 a1)) → ((v3a fn a0 a1) ≤ 65536) → (v3d fn a0 a1) → ((v3e fn a0 a1) = 0) → (0 < (v3a fn a0 a1)) → (((v3a fn a0 a1) - 1) ≤ 65536) → (D.boo (v3g fn a0 a1) = false) → (¬ (v3h fn a0 a1) = 0) → R 0 0 = D.b false
  g53 : (¬ 60 < (a0.length : Int)) → (v3f fn a0 a1) → (¬ (v3a fn a0 a1) < 0) → (v3b fn a0 a1) → (¬ 0 < (v3a fn a0 a1)) → ((v3a fn a0 a1) ≤ 65536) → (v3d fn a0 a1) → ((v3e fn a0 a1) = 0) → (0 < (v3a fn a0 a1)) → (((v3a fn a0 a1) - 1) ≤ 65536) → (D.boo (v3g fn a0 a1) = false) → ((v3h fn a0 a1) = 0) → pre 5 []
  g54 : (¬ 60 < (a0.length : Int)) → (v3f fn a0 a1) → (¬ (v3a fn a0 a1) < 0) → (v3b fn a0 a1) → (¬ 0 < (v3a fn a0 a1)) → ((v3a fn a0 a1) ≤ 65536) → (v3d fn a0 a1) → ((v3e fn a0 a1) = 0) → (0 < (v3a fn a0 a1)) → (((v3a fn a0 a1) - 1) ≤ 65536) → (D.boo (v3g fn a0 a1) = false) → ((v3h fn a0 a1) = 0) → R 0 0 = D.b (D.boo (fn 5 [] 0 0))
  g55 : (¬ 60 < (a0.length : Int)) → (v3f fn a0 a1) → (¬ (v3a fn a0 a1) < 0) → (v3b fn a0 a1) → (¬ 0 < (v3a fn a0 a1)) → ((v3a fn a0 a1) ≤ 65536) → (v3d fn a0 a1) → ((v3e fn a0 a1) = 0) → (0 < (v3a fn a0 a1)) → (¬ ((v3a fn a0 a1) - 1) ≤ 65536) → pre 5 []
  g56 : (¬ 60 < (a0.length : Int)) → (v3f fn a0 a1) → (¬ (v3a fn a0 a1) < 0) → (v3b fn a0 a1) → (¬ 0 < (v3a fn a0 a1)) → ((v3a fn a0 a1) ≤ 65536) → (v3d fn a0 a1) → ((v3e fn a0 a1) = 0) → (0 < (v3a fn a0 a1)) → (¬ ((v3a fn a0 a1) - 1) ≤ 65536) → R 0 0 = D.b (D.boo (fn 5 [] 0 0))
  g57 : (¬ 60 < (a0.length : Int)) → (v3f fn a0 a1) → (¬ (v3a fn a0 a1) < 0) → (v3b fn a0 a1) → (¬ 0 < (v3a fn a0 a1)) → ((v3a fn a0 a1) ≤ 65536) → (v3d fn a0 a1) → ((v3e fn a0 a1) = 0) → (¬ 0 < (v3a fn a0 a1)) → pre 5 []
  g58 : (¬ 60 < (a0.length : Int)) → (v3f fn a0 a1) → (¬ (v3a fn a0 a1) < 0) → (v3b fn a0 a1) → (¬ 0 < (v3a fn a0 a1)) → ((v3a fn a0 a1) ≤ 65536) → (v3d fn a0 a1) → ((v3e fn a0 a1) = 0) → (¬ 0 < (v3a fn a0 a1)) → R 0 0 = D.b (D.boo (fn 5 [] 0 0))
  g59 : (¬ 60 < (a0.length : Int)) → (v3f fn a0 a1) → (¬ (v3a fn a0 a1) < 0) → (v3b fn a0 a1) → (¬ 0 < (v3a fn a0 a1)) → (¬ (v3a fn a0 a1) ≤ 65536) → (0 < (v3a fn a0 a1)) → -9223372036854775808 ≤ ((v3a fn a0 a1) - 1) ∧ ((v3a fn a0 a1) - 1) ≤ 9223372036854775807
  g60 : (¬ 60 < (a0.length : Int)) → (v3f fn a0 a1) → (¬ (v3a fn a0 a1) < 0) → (v3b fn a0 a1) → (¬ 0 < (v3a fn a0 a1)) → (¬ (v3a fn a0 a1) ≤ 65536) → (0 < (v3a fn a0 a1)) → (((v3a fn a0 a1) - 1) ≤ 65536) → -9223372036854775808 ≤ ((v3a fn a0 a1) - 1) ∧ ((v3a fn a0 a1) - 1) ≤ 9223372036854775807
  g61 : (¬ 60 < (a0.length : Int)) → (v3f fn a0 a1) → (¬ (v3a fn a0 a1) < 0) → (v3b fn a0 a1) → (¬ 0 < (v3a fn a0 a1)) → (¬ (v3a fn a0 a1) ≤ 65536) → (0 < (v3a fn a0 a1)) → (((v3a fn a0 a1) - 1) ≤ 65536) → pre 9 [[D.i ((v3a fn a0 a1) - 1)], [D.i (Int.tmod a1 1025)]]
  g62 : (¬ 60 < (a0.length : Int)) → (v3f fn a0 a1) → (¬ (v3a fn a0 a1) < 0) → (v3b fn a0 a1) → (¬ 0 < (v3a fn a0 a1)) → (¬ (v3a fn a0 a1) ≤ 65536) → (0 < (v3a fn a0 a1)) → (((v3a fn a0 a1) - 1) ≤ 65536) → pre 10 [[D.l (D.rows (fn 6 [[D.l a0]] 0 0))], [D.i (D.int (fn 9 [[D.i ((v3a fn a0 a1) - 1)], [D.i (Int.tmod a1 1025)]] 0 0)), D.i (D.int (fn 9 [[D.i ((v3a fn a0 a1) - 1)], [D.i (Int.tmod a1 1025)]] 0 1))]]
  g63 : (¬ 60 < (a0.length : Int)) → (v3f fn a0 a1) → (¬ (v3a fn a0 a1) < 0) → (v3b fn a0 a1) → (¬ 0 < (v3a fn a0 a1)) → (¬ (v3a fn a0 a1) ≤ 65536) → (0 < (v3a fn a0 a1)) → (((v3a fn a0 a1) - 1) ≤ 65536) → (D.boo (v3g fn a0 a1) = true) → R 0 0 = D.b false
  g64 : (¬ 60 < (a0.length : Int)) → (v3f fn a0 a1) → (¬ (v3a fn a0 a1) < 0) → (v3b fn a0 a1) → (¬ 0 < (v3a fn a0 a1)) → (¬ (v3a fn a0 a1) ≤ 65536) → (0 < (v3a fn a0 a1)) → (((v3a fn a0 a1) - 1) ≤ 65536) → (D.boo (v3g fn a0 a1) = false) → (¬ (v3h fn a0 a1) = 0) → R 0 0 = D.b false
  g65 : (¬ 60 < (a0.length : Int)) → (v3f fn a0 a1) → (¬ (v3a fn a0 a1) < 0) → (v3b fn a0 a1) → (¬ 0 < (v3a fn a0 a1)) → (¬ (v3a fn a0 a1) ≤ 65536) → (0 < (v3a fn a0 a1)) → (((v3a fn a0 a1) - 1) ≤ 65536) → (D.boo (v3g fn a0 a1) = false) → ((v3h fn a0 a1) = 0) → pre 5 []
  g66 : (¬ 60 < (a0.length : Int)) → (v3f fn a0 a1) → (¬ (v3a fn a0 a1) < 0) → (v3b fn a0 a1) → (¬ 0 < (v3a fn a0 a1)) → (¬ (v3a fn a0 a1) ≤ 65536) → (0 < (v3a fn a0 a1)) → (((v3a fn a0 a1) - 1) ≤ 65536) → (D.boo (v3g fn a0 a1) = false) → ((v3h fn a0 a1) = 0) → R 0 0 = D.b (D.boo (fn 5 [] 0 0))
  g67 : (¬ 60 < (a0.length : Int)) → (v3f fn a0 a1) → (¬ (v3a fn a0 a1) < 0) → (v3b fn a0 a1) → (¬ 0 < (v3a fn a0 a1)) → (¬ (v3a fn a0 a1) ≤ 65536) → (0 < (v3a fn a0 a1)) → (¬ ((v3a fn a0 a1) - 1) ≤ 65536) → pre 5 []
  g68 : (¬ 60 < (a0.length : Int)) → (v3f fn a0 a1) → (¬ (v3a fn a0 a1) < 0) → (v3b fn a0 a1) → (¬ 0 < (v3a fn a0 a1)) → (¬ (v3a fn a0 a1) ≤ 65536) → (0 < (v3a fn a0 a1)) → (¬ ((v3a fn a0 a1) - 1) ≤ 65536) → R 0 0 = D.b (D.boo (fn 5 [] 0 0))
  g69 : (¬ 60 < (a0.length : Int)) → (v3f fn a0 a1) → (¬ (v3a fn a0 a1) < 0) → (v3b fn a0 a1) → (¬ 0 < (v3a fn a0 a1)) → (¬ (v3a fn a0 a1) ≤ 65536) → (¬ 0 < (v3a fn a0 a1)) → pre 5 []
  g70 : (¬ 60 < (a0.length : Int)) → (v3f fn a0 a1) → (¬ (v3a fn a0 a1) < 0) → (v3b fn a0 a1) → (¬ 0 < (v3a fn a0 a1)) → (¬ (v3a fn a0 a1) ≤ 65536) → (¬ 0 < (v3a fn a0 a1)) → R 0 0 = D.b (D.boo (fn 5 [] 0 0))
end HX

namespace HX
open Go Go.Proofs CX
set_option maxHeartbeats 4000000 in
set_option maxRecDepth 100000 in
theorem walk3 {ro A pre fn} (hE : EnvOk ⟨A, (cxE ro), ksF, sigL [(5, ⟨[], [(false, [.bool])], false⟩), (6, ⟨[(false, [.sl [.int .u8]])], [(false, [.sl [.int .i64]])], false⟩), (7, ⟨[(false, [.sl [.int .i64]]), (false, [.int .i64])], [(false, [.int .i64]), (false, [.int .i64])], false⟩), (8, ⟨[(false, [.sl [.int .i64]]), (true, [.int .i64, .int .i64])], [(false, [.bool])], false⟩), (9, ⟨[(false, [.int .i64]), (false, [.int .i64])], [(true, [.int .i64, .int .i64])], false⟩), (10, ⟨[(false, [.sl [.int .i64]]), (true, [.int .i64, .int .i64])], [(false, [.bool]), (false, [.int .i64])], false⟩)], pre, fn⟩) {P : List (List D) → Prop} {res : List (List D) → Nat → Nat → D}
    (hv : ∀ (a0 : Rows) (a1 : Int), ShR [.int .u8] a0 → P [[.l a0], [.i a1]] → V3 pre fn a0 a1 (res [[.l a0], [.i a1]]) ) :
    PureC0 (cxE ro) 3 ⟨[(false, [.sl [.int .u8]]), (false, [.int .u16])], [(false, [.bool])], false⟩ P res := by
  have hA := hE.A
  simp only [] at hA
  have hinl : ∀ f fn, inlL [] f = some fn → (cxE ro).fn f = some fn ∧ (cxE ro).ext f = none := Inls.ok (by repeat (first | exact .nil | refine .cons rfl rfl ?_))
  refine PureC0.of_vc hE hinl 6 (f := 3) (fn := Try.f3) ⟨rfl, rfl⟩ ?_
  intro a0 ha0 a1 hP
  obtain ⟨R, hR⟩ : ∃ R, res [[.l a0], [.i a1]] = R := ⟨_, rfl⟩
  rw [hR]
  have hV := hv a0 a1 ha0 hP
  rw [hR] at hV
  clear hR hP hv
  cbv
  repeat' (first | (refine Br.mk (fun _ => ?_) (fun _ => ?_) <;> cbv) | (refine NilB.mk (fun _ => ?_) ?_ <;> cbv) | refine And.intro ?_ ?_ | exact True.intro)
  · rename_i hp0_0
    subst hA; exact hV.g0 (dt hp0_0)
  · rename_i hp1_0
    subst hA; exact hV.g1 (dt hp1_0)
  · rename_i hp2_0
    subst hA; exact hV.g2 (df hp2_0)
  · rename_i hp3_0
    subst hA; exact hV.g3 (df hp3_0)
  · rename_i hp4_0
    subst hA; exact hV.g4 (df hp4_0)
  · rename_i hp5_0
    subst hA; exact hV.g5 (df hp5_0)
  · rename_i hp6_0 hp6_1
    subst hA; exact hV.g6 (df hp6_0) (df (nt hp6_1))
  · rename_i hp7_0 hp7_1 hp7_2
    subst hA; exact hV.g7 (df hp7_0) (dt (nf hp7_1)) (dt hp7_2)
  · rename_i hp8_0 hp8_1 hp8_2
    subst hA; exact hV.g8 (df hp8_0) (dt (nf hp8_1)) (df hp8_2)
  · rename_i hp9_0 hp9_1 hp9_2
    subst hA; exact hV.g9 (df hp9_0) (dt (nf hp9_1)) (df hp9_2)
  · rename_i hp10_0 hp10_1 hp10_2 hp10_3
    subst hA; exact hV.g10 (df hp10_0) (dt (nf hp10_1)) (df hp10_2) (nt hp10_3)
  · rename_i hp11_0 hp11_1 hp11_2 hp11_3 hp11_4
    subst hA; exact hV.g11 (df hp11_0) (dt (nf hp11_1)) (df hp11_2) (nf hp11_3) (dt hp11_4)
  · rename_i hp12_0 hp12_1 hp12_2 hp12_3 hp12_4
    subst hA; exact hV.g12 (df hp12_0) (dt (nf hp12_1)) (df hp12_2) (nf hp12_3) (dt hp12_4)
  · rename_i hp13_0 hp13_1 hp13_2 hp13_3 hp13_4
    subst hA; exact hV.g13 (df hp13_0) (dt (nf hp13_1)) (df hp13_2) (nf hp13_3) (dt hp13_4)
  · rename_i hp14_0 hp14_1 hp14_2 hp14_3 hp14_4 hp14_5
    subst hA; exact hV.g14 (df hp14_0) (dt (nf hp14_1)) (df hp14_2) (nf hp14_3) (dt hp14_4) hp14_5
  · rename_i hp15_0 hp15_1 hp15_2 hp15_3 hp15_4 hp15_5 hp15_6
    subst hA; exact hV.g15 (df hp15_0) (dt (nf hp15_1)) (df hp15_2) (nf hp15_3) (dt hp15_4) hp15_5 (dt hp15_6)
  · rename_i hp16_0 hp16_1 hp16_2 hp16_3 hp16_4 hp16_5 hp16_6
    subst hA; exact hV.g16 (df hp16_0) (dt (nf hp16_1)) (df hp16_2) (nf hp16_3) (dt hp16_4) hp16_5 (dt hp16_6)
  · rename_i hp17_0 hp17_1 hp17_2 hp17_3 hp17_4 hp17_5 hp17_6 hp17_7
    subst hA; exact hV.g17 (df hp17_0) (dt (nf hp17_1)) (df hp17_2) (nf hp17_3) (dt hp17_4) hp17_5 (dt hp17_6) (nt hp17_7)
  · rename_i hp18_0 hp18_1 hp18_2 hp18_3 hp18_4 hp18_5 hp18_6 hp18_7 hp18_8
    subst hA; exact hV.g18 (df hp18_0) (dt (nf hp18_1)) (df hp18_2) (nf hp18_3) (dt hp18_4) hp18_5 (dt hp18_6) (nf hp18_7) (df (nt hp18_8))
  · rename_i hp19_0 hp19_1 hp19_2 hp19_3 hp19_4 hp19_5 hp19_6 hp19_7 hp19_8 hp19_9
    subst hA; exact hV.g19 (df hp19_0) (dt (nf hp19_1)) (df hp19_2) (nf hp19_3) (dt hp19_4) hp19_5 (dt hp19_6) (nf hp19_7) (dt (nf hp19_8)) (dt hp19_9)
  · rename_i hp20_0 hp20_1 hp20_2 hp20_3 hp20_4 hp20_5 hp20_6 hp20_7 hp20_8 hp20_9 hp20_10
    subst hA; exact hV.g20 (df hp20_0) (dt (nf hp20_1)) (df hp20_2) (nf hp20_3) (dt hp20_4) hp20_5 (dt hp20_6) (nf hp20_7) (dt (nf hp20_8)) (dt hp20_9) (dt hp20_10)
  · rename_i hp21_0 hp21_1 hp21_2 hp21_3 hp21_4 hp21_5 hp21_6 hp21_7 hp21_8 hp21_9 hp21_10
    subst hA; exact hV.g21 (df hp21_0) (dt (nf hp21_1)) (df hp21_2) (nf hp21_3) (dt hp21_4) hp21_5 (dt hp21_6) (nf hp21_7) (dt (nf hp21_8)) (dt hp21_9) (dt hp21_10)
  · rename_i hp22_0 hp22_1 hp22_2 hp22_3 hp22_4 hp22_5 hp22_6 hp22_7 hp22_8 hp22_9 hp22_10
    subst hA; exact hV.g22 (df hp22_0) (dt (nf hp22_1)) (df hp22_2) (nf hp22_3) (dt hp22_4) hp22_5 (dt hp22_6) (nf hp22_7) (dt (nf hp22_8)) (dt hp22_9) (dt hp22_10)
  · rename_i hp23_0 hp23_1 hp23_2 hp23_3 hp23_4 hp23_5 hp23_6 hp23_7 hp23_8 hp23_9 hp23_10 hp23_11
    subst hA; exact hV.g23 (df hp23_0) (dt (nf hp23_1)) (df hp23_2) (nf hp23_3) (dt hp23_4) hp23_5 (dt hp23_6) (nf hp23_7) (dt (nf hp23_8)) (dt hp23_9) (dt hp23_10) hp23_11
  · rename_i hp24_0 hp24_1 hp24_2 hp24_3 hp24_4 hp24_5 hp24_6 hp24_7 hp24_8 hp24_9 hp24_10 hp24_11 hp24_12
    subst hA; exact hV.g24 (df hp24_0) (dt (nf hp24_1)) (df hp24_2) (nf hp24_3) (dt hp24_4) hp24_5 (dt hp24_6) (nf hp24_7) (dt (nf hp24_8)) (dt hp24_9) (dt hp24_10) hp24_11 (df (nt hp24_12))
  · rename_i hp25_0 hp25_1 hp25_2 hp25_3 hp25_4 hp25_5 hp25_6 hp25_7 hp25_8 hp25_9 hp25_10 hp25_11 hp25_12
    subst hA; exact hV.g25 (df hp25_0) (dt (nf hp25_1)) (df hp25_2) (nf hp25_3) (dt hp25_4) hp25_5 (dt hp25_6) (nf hp25_7) (dt (nf hp25_8)) (dt hp25_9) (dt hp25_10) hp25_11 (dt (nf hp25_12))
  · rename_i hp26_0 hp26_1 hp26_2 hp26_3 hp26_4 hp26_5 hp26_6 hp26_7 hp26_8 hp26_9 hp26_10 hp26_11 hp26_12
    subst hA; exact hV.g26 (df hp26_0) (dt (nf hp26_1)) (df hp26_2) (nf hp26_3) (dt hp26_4) hp26_5 (dt hp26_6) (nf hp26_7) (dt (nf hp26_8)) (dt hp26_9) (dt hp26_10) hp26_11 (dt (nf hp26_12))
  · rename_i hp27_0 hp27_1 hp27_2 hp27_3 hp27_4 hp27_5 hp27_6 hp27_7 hp27_8 hp27_9 hp27_10
    subst hA; exact hV.g27 (df hp27_0) (dt (nf hp27_1)) (df hp27_2) (nf hp27_3) (dt hp27_4) hp27_5 (dt hp27_6) (nf hp27_7) (dt (nf hp27_8)) (dt hp27_9) (df hp27_10)
  · rename_i hp28_0 hp28_1 hp28_2 hp28_3 hp28_4 hp28_5 hp28_6 hp28_7 hp28_8 hp28_9 hp28_10
    subst hA; exact hV.g28 (df hp28_0) (dt (nf hp28_1)) (df hp28_2) (nf hp28_3) (dt hp28_4) hp28_5 (dt hp28_6) (nf hp28_7) (dt (nf hp28_8)) (dt hp28_9) (df hp28_10)
  · rename_i hp29_0 hp29_1 hp29_2 hp29_3 hp29_4 hp29_5 hp29_6 hp29_7 hp29_8 hp29_9
    subst hA; exact hV.g29 (df hp29_0) (dt (nf hp29_1)) (df hp29_2) (nf hp29_3) (dt hp29_4) hp29_5 (dt hp29_6) (nf hp29_7) (dt (nf hp29_8)) (df hp29_9)
  · rename_i hp30_0 hp30_1 hp30_2 hp30_3 hp30_4 hp30_5 hp30_6 hp30_7 hp30_8 hp30_9
    subst hA; exact hV.g30 (df hp30_0) (dt (nf hp30_1)) (df hp30_2) (nf hp30_3) (dt hp30_4) hp30_5 (dt hp30_6) (nf hp30_7) (dt (nf hp30_8)) (df hp30_9)
  · rename_i hp31_0 hp31_1 hp31_2 hp31_3 hp31_4 hp31_5 hp31_6 hp31_7
    subst hA; exact hV.g31 (df hp31_0) (dt (nf hp31_1)) (df hp31_2) (nf hp31_3) (dt hp31_4) hp31_5 (df hp31_6) (dt hp31_7)
  · rename_i hp32_0 hp32_1 hp32_2 hp32_3 hp32_4 hp32_5 hp32_6 hp32_7 hp32_8
    subst hA; exact hV.g32 (df hp32_0) (dt (nf hp32_1)) (df hp32_2) (nf hp32_3) (dt hp32_4) hp32_5 (df hp32_6) (dt hp32_7) (dt hp32_8)
  · rename_i hp33_0 hp33_1 hp33_2 hp33_3 hp33_4 hp33_5 hp33_6 hp33_7 hp33_8
    subst hA; exact hV.g33 (df hp33_0) (dt (nf hp33_1)) (df hp33_2) (nf hp33_3) (dt hp33_4) hp33_5 (df hp33_6) (dt hp33_7) (dt hp33_8)
  · rename_i hp34_0 hp34_1 hp34_2 hp34_3 hp34_4 hp34_5 hp34_6 hp34_7 hp34_8
    subst hA; exact hV.g34 (df hp34_0) (dt (nf hp34_1)) (df hp34_2) (nf hp34_3) (dt hp34_4) hp34_5 (df hp34_6) (dt hp34_7) (dt hp34_8)
  · rename_i hp35_0 hp35_1 hp35_2 hp35_3 hp35_4 hp35_5 hp35_6 hp35_7 hp35_8 hp35_9
    subst hA; exact hV.g35 (df hp35_0) (dt (nf hp35_1)) (df hp35_2) (nf hp35_3) (dt hp35_4) hp35_5 (df hp35_6) (dt hp35_7) (dt hp35_8) hp35_9
  · rename_i hp36_0 hp36_1 hp36_2 hp36_3 hp36_4 hp36_5 hp36_6 hp36_7 hp36_8 hp36_9 hp36_10
    subst hA; exact hV.g36 (df hp36_0) (dt (nf hp36_1)) (df hp36_2) (nf hp36_3) (dt hp36_4) hp36_5 (df hp36_6) (dt hp36_7) (dt hp36_8) hp36_9 (df (nt hp36_10))
  · rename_i hp37_0 hp37_1 hp37_2 hp37_3 hp37_4 hp37_5 hp37_6 hp37_7 hp37_8 hp37_9 hp37_10
    subst hA; exact hV.g37 (df hp37_0) (dt (nf hp37_1)) (df hp37_2) (nf hp37_3) (dt hp37_4) hp37_5 (df hp37_6) (dt hp37_7) (dt hp37_8) hp37_9 (dt (nf hp37_10))
  · rename_i hp38_0 hp38_1 hp38_2 hp38_3 hp38_4 hp38_5 hp38_6 hp38_7 hp38_8 hp38_9 hp38_10
    subst hA; exact hV.g38 (df hp38_0) (dt (nf hp38_1)) (df hp38_2) (nf hp38_3) (dt hp38_4) hp38_5 (df hp38_6) (dt hp38_7) (dt hp38_8) hp38_9 (dt (nf hp38_10))
  · rename_i hp39_0 hp39_1 hp39_2 hp39_3 hp39_4 hp39_5 hp39_6 hp39_7 hp39_8
    subst hA; exact hV.g39 (df hp39_0) (dt (nf hp39_1)) (df hp39_2) (nf hp39_3) (dt hp39_4) hp39_5 (df hp39_6) (dt hp39_7) (df hp39_8)
  · rename_i hp40_0 hp40_1 hp40_2 hp40_3 hp40_4 hp40_5 hp40_6 hp40_7 hp40_8
    subst hA; exact hV.g40 (df hp40_0) (dt (nf hp40_1)) (df hp40_2) (nf hp40_3) (dt hp40_4) hp40_5 (df hp40_6) (dt hp40_7) (df hp40_8)
  · rename_i hp41_0 hp41_1 hp41_2 hp41_3 hp41_4 hp41_5 hp41_6 hp41_7
    subst hA; exact hV.g41 (df hp41_0) (dt (nf hp41_1)) (df hp41_2) (nf hp41_3) (dt hp41_4) hp41_5 (df hp41_6) (df hp41_7)
  · rename_i hp42_0 hp42_1 hp42_2 hp42_3 hp42_4 hp42_5 hp42_6 hp42_7
    subst hA; exact hV.g42 (df hp42_0) (dt (nf hp42_1)) (df hp42_2) (nf hp42_3) (dt hp42_4) hp42_5 (df hp42_6) (df hp42_7)
  · rename_i hp43_0 hp43_1 hp43_2 hp43_3 hp43_4 hp43_5
    subst hA; exact hV.g43 (df hp43_0) (dt (nf hp43_1)) (df hp43_2) (nf hp43_3) (df hp43_4) (dt hp43_5)
  · rename_i hp44_0 hp44_1 hp44_2 hp44_3 hp44_4 hp44_5
    subst hA; exact hV.g44 (df hp44_0) (dt (nf hp44_1)) (df hp44_2) (nf hp44_3) (df hp44_4) (dt hp44_5)
  · rename_i hp45_0 hp45_1 hp45_2 hp45_3 hp45_4 hp45_5 hp45_6
    subst hA; exact hV.g45 (df hp45_0) (dt (nf hp45_1)) (df hp45_2) (nf hp45_3) (df hp45_4) (dt hp45_5) (nt hp45_6)
  · rename_i hp46_0 hp46_1 hp46_2 hp46_3 hp46_4 hp46_5 hp46_6 hp46_7
    subst hA; exact hV.g46 (df hp46_0) (dt (nf hp46_1)) (df hp46_2) (nf hp46_3) (df hp46_4) (dt hp46_5) (nf hp46_6) (df (nt hp46_7))
  · rename_i hp47_0 hp47_1 hp47_2 hp47_3 hp47_4 hp47_5 hp47_6 hp47_7 hp47_8
    subst hA; exact hV.g47 (df hp47_0) (dt (nf hp47_1)) (df hp47_2) (nf hp47_3) (df hp47_4) (dt hp47_5) (nf hp47_6) (dt (nf hp47_7)) (dt hp47_8)
  · rename_i hp48_0 hp48_1 hp48_2 hp48_3 hp48_4 hp48_5 hp48_6 hp48_7 hp48_8 hp48_9
    subst hA; exact hV.g48 (df hp48_0) (dt (nf hp48_1)) (df hp48_2) (nf hp48_3) (df hp48_4) (dt hp48_5) (nf hp48_6) (dt (nf hp48_7)) (dt hp48_8) (dt hp48_9)
  · rename_i hp49_0 hp49_1 hp49_2 hp49_3 hp49_4 hp49_5 hp49_6 hp49_7 hp49_8 hp49_9
    subst hA; exact hV.g49 (df hp49_0) (dt (nf hp49_1)) (df hp49_2) (nf hp49_3) (df hp49_4) (dt hp49_5) (nf hp49_6) (dt (nf hp49_7)) (dt hp49_8) (dt hp49_9)
  · rename_i hp50_0 hp50_1 hp50_2 hp50_3 hp50_4 hp50_5 hp50_6 hp50_7 hp50_8 hp50_9
    subst hA; exact hV.g50 (df hp50_0) (dt (nf hp50_1)) (df hp50_2) (nf hp50_3) (df hp50_4) (dt hp50_5) (nf hp50_6) (dt (nf hp50_7)) (dt hp50_8) (dt hp50_9)
  · rename_i hp51_0 hp51_1 hp51_2 hp51_3 hp51_4 hp51_5 hp51_6 hp51_7 hp51_8 hp51_9 hp51_10
    subst hA; exact hV.g51 (df hp51_0) (dt (nf hp51_1)) (df hp51_2) (nf hp51_3) (df hp51_4) (dt hp51_5) (nf hp51_6) (dt (nf hp51_7)) (dt hp51_8) (dt hp51_9) hp51_10
  · rename_i hp52_0 hp52_1 hp52_2 hp52_3 hp52_4 hp52_5 hp52_6 hp52_7 hp52_8 hp52_9 hp52_10 hp52_11
    subst hA; exact hV.g52 (df hp52_0) (dt (nf hp52_1)) (df hp52_2) (nf hp52_3) (df hp52_4) (dt hp52_5) (nf hp52_6) (dt (nf hp52_7)) (dt hp52_8) (dt hp52_9) hp52_10 (df (nt hp52_11))
  · rename_i hp53_0 hp53_1 hp53_2 hp53_3 hp53_4 hp53_5 hp53_6 hp53_7 hp53_8 hp53_9 hp53_10 hp53_11
    subst hA; exact hV.g53 (df hp53_0) (dt (nf hp53_1)) (df hp53_2) (nf hp53_3) (df hp53_4) (dt hp53_5) (nf hp53_6) (dt (nf hp53_7)) (dt hp53_8) (dt hp53_9) hp53_10 (dt (nf hp53_11))
  · rename_i hp54_0 hp54_1 hp54_2 hp54_3 hp54_4 hp54_5 hp54_6 hp54_7 hp54_8 hp54_9 hp54_10 hp54_11
    subst hA; exact hV.g54 (df hp54_0) (dt (nf hp54_1)) (df hp54_2) (nf hp54_3) (df hp54_4) (dt hp54_5) (nf hp54_6) (dt (nf hp54_7)) (dt hp54_8) (dt hp54_9) hp54_10 (dt (nf hp54_11))
  · rename_i hp55_0 hp55_1 hp55_2 hp55_3 hp55_4 hp55_5 hp55_6 hp55_7 hp55_8 hp55_9
    subst hA; exact hV.g55 (df hp55_0) (dt (nf hp55_1)) (df hp55_2) (nf hp55_3) (df hp55_4) (dt hp55_5) (nf hp55_6) (dt (nf hp55_7)) (dt hp55_8) (df hp55_9)
  · rename_i hp56_0 hp56_1 hp56_2 hp56_3 hp56_4 hp56_5 hp56_6 hp56_7 hp56_8 hp56_9
    subst hA; exact hV.g56 (df hp56_0) (dt (nf hp56_1)) (df hp56_2) (nf hp56_3) (df hp56_4) (dt hp56_5) (nf hp56_6) (dt (nf hp56_7)) (dt hp56_8) (df hp56_9)
  · rename_i hp57_0 hp57_1 hp57_2 hp57_3 hp57_4 hp57_5 hp57_6 hp57_7 hp57_8
    subst hA; exact hV.g57 (df hp57_0) (dt (nf hp57_1)) (df hp57_2) (nf hp57_3) (df hp57_4) (dt hp57_5) (nf hp57_6) (dt (nf hp57_7)) (df hp57_8)
  · rename_i hp58_0 hp58_1 hp58_2 hp58_3 hp58_4 hp58_5 hp58_6 hp58_7 hp58_8
    subst hA; exact hV.g58 (df hp58_0) (dt (nf hp58_1)) (df hp58_2) (nf hp58_3) (df hp58_4) (dt hp58_5) (nf hp58_6) (dt (nf hp58_7)) (df hp58_8)
  · rename_i hp59_0 hp59_1 hp59_2 hp59_3 hp59_4 hp59_5 hp59_6
    subst hA; exact hV.g59 (df hp59_0) (dt (nf hp59_1)) (df hp59_2) (nf hp59_3) (df hp59_4) (df hp59_5) (dt hp59_6)
  · rename_i hp60_0 hp60_1 hp60_2 hp60_3 hp60_4 hp60_5 hp60_6 hp60_7
    subst hA; exact hV.g60 (df hp60_0) (dt (nf hp60_1)) (df hp60_2) (nf hp60_3) (df hp60_4) (df hp60_5) (dt hp60_6) (dt hp60_7)
  · rename_i hp61_0 hp61_1 hp61_2 hp61_3 hp61_4 hp61_5 hp61_6 hp61_7
    subst hA; exact hV.g61 (df hp61_0) (dt (nf hp61_1)) (df hp61_2) (nf hp61_3) (df hp61_4) (df hp61_5) (dt hp61_6) (dt hp61_7)
  · rename_i hp62_0 hp62_1 hp62_2 hp62_3 hp62_4 hp62_5 hp62_6 hp62_7
    subst hA; exact hV.g62 (df hp62_0) (dt (nf hp62_1)) (df hp62_2) (nf hp62_3) (df hp62_4) (df hp62_5) (dt hp62_6) (dt hp62_7)
  · rename_i hp63_0 hp63_1 hp63_2 hp63_3 hp63_4 hp63_5 hp63_6 hp63_7 hp63_8
    subst hA; exact hV.g63 (df hp63_0) (dt (nf hp63_1)) (df hp63_2) (nf hp63_3) (df hp63_4) (df hp63_5) (dt hp63_6) (dt hp63_7) hp63_8
  · rename_i hp64_0 hp64_1 hp64_2 hp64_3 hp64_4 hp64_5 hp64_6 hp64_7 hp64_8 hp64_9
    subst hA; exact hV.g64 (df hp64_0) (dt (nf hp64_1)) (df hp64_2) (nf hp64_3) (df hp64_4) (df hp64_5) (dt hp64_6) (dt hp64_7) hp64_8 (df (nt hp64_9))
  · rename_i hp65_0 hp65_1 hp65_2 hp65_3 hp65_4 hp65_5 hp65_6 hp65_7 hp65_8 hp65_9
    subst hA; exact hV.g65 (df hp65_0) (dt (nf hp65_1)) (df hp65_2) (nf hp65_3) (df hp65_4) (df hp65_5) (dt hp65_6) (dt hp65_7) hp65_8 (dt (nf hp65_9))
  · rename_i hp66_0 hp66_1 hp66_2 hp66_3 hp66_4 hp66_5 hp66_6 hp66_7 hp66_8 hp66_9
    subst hA; exact hV.g66 (df hp66_0) (dt (nf hp66_1)) (df hp66_2) (nf hp66_3) (df hp66_4) (df hp66_5) (dt hp66_6) (dt hp66_7) hp66_8 (dt (nf hp66_9))
  · rename_i hp67_0 hp67_1 hp67_2 hp67_3 hp67_4 hp67_5 hp67_6 hp67_7
    subst hA; exact hV.g67 (df hp67_0) (dt (nf hp67_1)) (df hp67_2) (nf hp67_3) (df hp67_4) (df hp67_5) (dt hp67_6) (df hp67_7)
  · rename_i hp68_0 hp68_1 hp68_2 hp68_3 hp68_4 hp68_5 hp68_6 hp68_7
    subst hA; exact hV.g68 (df hp68_0) (dt (nf hp68_1)) (df hp68_2) (nf hp68_3) (df hp68_4) (df hp68_5) (dt hp68_6) (df hp68_7)
  · rename_i hp69_0 hp69_1 hp69_2 hp69_3 hp69_4 hp69_5 hp69_6
    subst hA; exact hV.g69 (df hp69_0) (dt (nf hp69_1)) (df hp69_2) (nf hp69_3) (df hp69_4) (df hp69_5) (df hp69_6)
  · rename_i hp70_0 hp70_1 hp70_2 hp70_3 hp70_4 hp70_5 hp70_6
    subst hA; exact hV.g70 (df hp70_0) (dt (nf hp70_1)) (df hp70_2) (nf hp70_3) (df hp70_4) (df hp70_5) (df hp70_6)
end HX

namespace HX
open Go Go.Proofs CX

theorem tyB_ok : tyB.All (fun t ty => CX.env.T t = some ty) := by
  unfold tyB
  simp only [BT.All, true_and, and_true]
  repeat' apply And.intro
  all_goals rfl

theorem cxE_ok (ro : Addr → Option V) : CX.EnvOk (cxE ro) Try.prog := by
  refine ⟨fun t ty h => CX.env_ok.T t ty (tyB_ok.get h), fun f fn h => CX.env_ok.fn f fn h, CX.env_ok.mixed, fun f b h w => ?_, fun f _ _ _ _ _ _ h => ?_, fun f h => ?_⟩
  rotate_left
  · simp only [cxE, extF] at h
    split at h <;> cases h
  · simp only [cxE, extF] at h
    split at h <;> cases h
  simp only [cxE, extF] at h
  split at h
  · rename_i hb
    simp only [beqN_iff] at hb
    simp only [Option.some.injEq, CX.Ext.bool.injEq] at h
    subst hb h
    exact (CX.works_ok w).mono fun e w' ⟨h1, h2, h3, h4, h5, h6⟩ => ⟨h1, h2, h3, h4, h5, h6⟩
  · cases h

theorem hxT {ro : Addr → Option V} : TOk (cxE ro) := TOk.of (cxE_ok ro)

theorem hxEnv {ro : Addr → Option V} {sig : Nat → Option Sig} {pre : Nat → List (List D) → Prop} {fn : Nat → List (List D) → Nat → Nat → D} (h : ∀ f sg, sig f = some sg → PureC (cxE ro) f sg (pre f) (fn f)) : EnvOk ⟨Ar.std, cxE ro, ksF, sig, pre, fn⟩ := ⟨rfl, hxT, h⟩

theorem works_pure {ro : Addr → Option V} : PureC (cxE ro) 5 ⟨[], [(false, [.bool])], false⟩ (fun _ => True) (fun _ _ _ => .b true) := by
  intro ds _ g bar nx h args hg hbar ha
  cases args with
  | cons _ _ => cases ds <;> simp [ArgsFz] at ha
  | nil =>
    have hfn : ∃ fn c, (cxE ro).fn 5 = some fn ∧ fn.body = some c := ⟨_, _, rfl, rfl⟩
    obtain ⟨fn, c, h1, h2⟩ := hfn
    refine ⟨[.bool true], h, nx, g, Evt.of fun n k => ?_, Nat.le_refl _, fun _ _ => rfl, fun _ _ h => h, fun id o hgo => ⟨hg id o hgo, .inl hgo⟩, ⟨[.bool true], rfl, fun j k hj => ?_, _, rfl, rfl⟩, trivial⟩
    · have hx : (cxE ro).ext 5 = some (.bool true) := rfl
      simp only [callF, h1, h2, hx]
      rfl
    · cases j with
      | zero =>
        simp only [List.getElem?_cons_zero, Option.some.injEq] at hj
        subst hj
        exact ⟨_, rfl, by simp only [FzC]; exact ⟨⟨_, rfl⟩, rfl⟩⟩
      | succ j => simp at hj

theorem call_ro {P : Program} {E : CX.Env} (hE : CX.EnvOk E P) {f : FuncId} {n : Nat} {v : V} {args : List V} {xs : List Value} {h' : T O} {nx' : Nat} {w : World} (hro : RoAt E.ro w) (ha : RvL (fun _ => none) 0 args xs)
    (h : callF E (cx E n) 0 .e 0 f args (fun v h nx => retV v h nx) = retV v h' nx') :
    Calls P f xs.toArray w fun e w' => ∃ u ρ n, e = .returned u ∧ Rv ρ n v u ∧ Kept w w' := by
  obtain ⟨v', g', n', fn, h1, _, _, h2⟩ := callF_ok hE (cx_ok hE n).1 (ρ := fun _ => none) (n := 0) (bar := 0) (g := .e) (w := w) (xs := xs) ⟨hro, fun a v h id o L _ _ hL => by cases hL⟩ ⟨fun id o h => by simp [T.get] at h, fun id o id' o' h => by simp [T.get] at h, fun _ _ => rfl, fun _ _ h => by cases h⟩ ha h
  have e : v' = v := by
    simp only [retV, Option.some.injEq, Prod.mk.injEq, CX.St.mk.injEq, CX.T.n.injEq, true_and, and_true] at h1
    exact h1.1
  subst e
  refine (callsIn_wide.1 (h2 none)).mono fun e w' he => ?_
  obtain ⟨u, ρ', rfl, d1, _, _, _, d5⟩ := he
  refine ⟨u, ρ', n', rfl, d1, d5.os, d5.tape, d5.output, d5.size, fun b hb => d5.keep b hb ?_⟩
  rintro ⟨id, o, L, _, h, _⟩
  simp [T.get] at h
end HX

namespace CX
open Go Go.ChangeShapes Go.WideShapes

theorem Kept.frozen {w w' : World} (h : Kept w w') {a : Addr} (ha : a.block < w.heap.size) : w'.frozen? a = w.frozen? a := by
  simp only [World.frozen?, h.2.2.2.2 a.block ha]

theorem Kept.but {w w' : World} (h : Kept w w') (may : MemPlace → Prop) : w.keptBut w' may := by
  refine ⟨h.1, h.2.2.1, fun i hi => ?_⟩
  rw [h.2.2.2.2 i hi]
  obtain ⟨o, ho⟩ : ∃ o, w.heap[i]? = some o := ⟨w.heap[i], by simp [hi]⟩
  rw [ho]
  cases o with
  | cells c t fr => exact ⟨rfl, rfl, rfl, fun _ _ => rfl⟩
  | map es c => exact .inr ⟨rfl, rfl⟩
  | _ => rfl

section
variable {H : Type} {enc : TypeId × Value → H} {P : Program}

theorem post_kept {f : Func} {s : ChangeSpec} {apart fresh handsOn again : Bool} {W W' : World} {args : Array Value} {v : Value} {ds gs : List (DataW H)} {before pa pv : List MemPlace}
    (hW : DataW.Whole enc P f.params.toList s.vars apart W args.toList ds gs before)
    (hres : ∀ (b : Nat) (sp : Nat → Bool) (hd : Bool), DataW.TrodAll enc P W' b sp hd f.resultTypes.toList (v.resultList f.resultTypes.size) (s.fn H (ds ++ gs)).results [])
    (hargs : ∀ sp : Nat → Bool, (∀ p ∈ before, sp p.block = true) → DataW.TrodAll enc P W' 0 sp true f.params.toList args.toList (s.fn H (ds ++ gs)).args pa)
    (hvars : ∀ sp : Nat → Bool, (∀ p ∈ before, sp p.block = true) → DataW.TrodVars enc P W' sp s.vars (s.fn H (ds ++ gs)).vars pv)
    (hps : before = pa ++ pv) (hk : Kept W W')
    (hok : ∀ (j : Nat) (t : TypeId) (r : Value), f.resultTypes[j]? = some t → (v.resultList f.resultTypes.size)[j]? = some r → Value.okWide P W' .any 0 t r) :
    s.post enc P f apart fresh handsOn again W args v W' := by
  have hold : ∀ p ∈ before, (fun b => decide (b < W.heap.size)) p.block = true := fun p hp => by simpa using hW.lt p hp
  have hlt := hW.lt
  refine ⟨ds, gs, before, [], pa, pv, hW, hres _ _ _, hargs _ hold, hvars _ hold, World.keptBut_mono (fun p hp => ⟨hp, ?_⟩) (hk.but (· ∈ before)), fun _ => ?_⟩
  · rw [hps, List.mem_append] at hp
    exact Or.inr hp
  · obtain ⟨_, _, _, _, _, hz, hn⟩ := hW
    refine ⟨hok, _, _, ([] ++ pa) ++ pv, ⟨[] ++ pa, pv, trodAll_append (hargs _ (fun _ _ => rfl)) (hres _ _ _), hvars _ (fun _ _ => rfl), rfl, ?_, ?_⟩, ?_⟩
    · intro b off hp
      have hp' : MemPlace.cell b off ∈ before := by rw [hps]; simpa using hp
      rw [hk.frozen (hlt _ hp')]
      exact hz b off hp'
    · intro ha
      have := hn ha
      rw [hps] at this
      simpa using this
    · intro p hp _
      rw [hps]
      simpa using hp
end
end CX

namespace HB
open Go Go.ChangeShapes Go.WideShapes Go.ChangeAt Go.RowKit

theorem add_block (a : Addr) (n : Nat) : (a.add n).block = a.block := by unfold Addr.add; split <;> rfl
theorem addr_add2 (a : Addr) (i c : Nat) : (a.add i).add c = a.add (i + c) := by
  unfold Addr.add
  by_cases hi : i = 0
  · subst hi; simp
  · by_cases hc : c = 0
    · subst hc; simp [hi]
    · simp [hi, hc, Nat.add_assoc]

theorem mapM_at {α β : Type} {f : α → Option β} : ∀ {l : List α} {r : List β}, l.mapM f = some r → r.length = l.length ∧ ∀ (i : Nat) (h : i < l.length), ∃ y, f l[i] = some y ∧ r[i]? = some y
  | [], r, h => by
    simp only [List.mapM_nil, Option.pure_def, Option.some.injEq] at h
    subst h
    exact ⟨rfl, fun i h => by simp at h⟩
  | x :: xs, r, h => by
    rw [List.mapM_cons] at h
    cases hx : f x with
    | none => simp [hx] at h
    | some y =>
      cases hxs : xs.mapM f with
      | none => simp [hx, hxs] at h
      | some ys =>
        simp only [hx, hxs, Option.bind_eq_bind, Option.bind_some, Option.pure_def, Option.some.injEq] at h
        subst h
        obtain ⟨h1, h2⟩ := mapM_at hxs
        refine ⟨by simp [h1], fun i hi => ?_⟩
        cases i with
        | zero => exact ⟨y, by simpa using hx, by simp⟩
        | succ i =>
          obtain ⟨z, e1, e2⟩ := h2 i (by simpa using hi)
          exact ⟨z, by simpa using e1, by simpa using e2⟩

theorem cells_get {w : World} {base : Nat} {a : Addr} {n : Nat} {cs : List Value} (h : w.cells? base a n = some cs) : cs.length = n ∧ (0 < n → a.block < w.heap.size) ∧ ∀ c, c < n → w.cell? (a.add c) = cs[c]? := by
  unfold World.cells? at h
  split at h
  · obtain ⟨h1, h2⟩ := mapM_at h
    rw [List.length_range] at h1
    have key : ∀ c, c < n → w.cell? (a.add c) = cs[c]? := fun c hc => by
      obtain ⟨y, e1, e2⟩ := h2 c (by simpa using hc)
      rw [List.getElem_range] at e1
      rw [e1, e2]
    refine ⟨h1, fun h0 => ?_, key⟩
    obtain ⟨y, e1, _⟩ := h2 0 (by simpa using h0)
    rw [List.getElem_range] at e1
    rcases Nat.lt_or_ge a.block w.heap.size with hb | hb
    · exact hb
    · exfalso
      unfold World.cell? at e1
      rw [add_block] at e1
      rw [Array.getElem?_eq_none (by omega)] at e1
      cases e1
  · cases h

section
variable {H : Type} {enc : TypeId × Value → H} {P : Program} {w : World} {base : Nat} {spare : Nat → Bool} {held : Bool}
theorem wf_rng {k : IntKind} {n : Int} (h : (Lit.int k n).wf = true) : k.min ≤ n ∧ n ≤ k.max := by
  simpa [Lit.wf] using h

theorem trod_array {t e : TypeId} {n m : Nat} {cs : List Value} {x : DataW H × List MemPlace} (ht : P.underlying t = some (.array n e)) (h : DataW.trod enc P w base spare held (m + 1) t cs = some x) :
    cs.length = P.cellsOf t ∧ ∀ i, i < n → ∃ y, DataW.trod enc P w base spare held m e ((cs.drop (i * P.cellsOf e)).take (P.cellsOf e)) = some y := by
  unfold DataW.trod at h
  rw [ht] at h
  split at h <;> simp_all
  obtain ⟨hl, h⟩ := h
  obtain ⟨a, h, _⟩ := h
  obtain ⟨h1, h2⟩ := mapM_at h
  intro i hi
  obtain ⟨y, e1, _⟩ := h2 i (by simpa using hi)
  rw [List.getElem_range] at e1
  exact ⟨y.1, y.2, by simpa using e1⟩

def isAgg (P : Program) (t : TypeId) : Bool := match P.underlying t with
  | some (.struct _) => true
  | some (.array _ _) => true
  | _ => false

theorem Kept_same {W W' : World} (h : CX.Kept W W') {p : MemPlace} (hp : p.block < W.heap.size) : W.sameAt W' p := by
  cases p with
  | cell b off =>
    simp only [World.sameAt, World.cell?]
    rw [h.2.2.2.2 b hp]
  | map b => exact h.2.2.2.2 b hp

theorem args_stay (hl : laidOutB P = true) {W W' : World} {sp : Nat → Bool} : ∀ {ts : List TypeId} {vs : List Value} {ds : List (DataW H)} {ps : List MemPlace}, (ts.all fun t => P.readableRec t && decide (t < P.types.size)) = true →
    DataW.TrodAll enc P W base (fun _ => true) true ts vs ds ps → (∀ p ∈ ps, W.sameAt W' p) → (∀ p ∈ ps, sp p.block = true) → DataW.TrodAll enc P W' base sp true ts vs ds ps
  | [], vs, ds, ps, _, h, _, _ => by
    obtain ⟨rfl, rfl, rfl⟩ := trodAll_nil h
    exact trodAll_mk0
  | t :: ts, [], ds, ps, _, h, _, _ => by simp [DataW.TrodAll] at h
  | t :: ts, v :: vs, [], ps, _, h, _, _ => by simp [DataW.TrodAll] at h
  | t :: ts, v :: vs, d :: ds, ps, hr, h, h1, h2 => by
    obtain ⟨p, q, ha, hb, rfl⟩ := h
    simp only [List.all_cons, Bool.and_eq_true, decide_eq_true_eq] at hr
    exact ⟨p, q, Go.WideElems.Trod_stays hl hr.1.1 hr.1.2 ha (fun x hx => h1 x (by simp [hx])) (fun x hx => h2 x (by simp [hx])),
      args_stay hl (by simpa using hr.2) hb (fun x hx => h1 x (by simp [hx])) (fun x hx => h2 x (by simp [hx])), rfl⟩

end
end HB

namespace HX
open Go Go.Proofs Go.ChangeShapes Go.WideShapes Go.ChangeAt Go.RowKit CX

def descF (g : TypeId → Option (List Kd)) (P : Program) : List Field → Nat → Option (List Kd)
  | [], _ => some []
  | f :: r, off => match g f.type with
    | some ks => match beqN f.offset off && beqN (P.cellsOf f.type) ks.length with
      | true => match descF g P r (off + ks.length) with
        | some ks' => some (ks ++ ks')
        | none => none
      | false => none
    | none => none

def repK (ks : List Kd) : Nat → List Kd
  | 0 => []
  | n + 1 => ks ++ repK ks n

def desc (P : Program) : Nat → TypeId → Option (List Kd)
  | 0, _ => none
  | n + 1, t => match P.underlying t with
    | some .bool => some [.bool]
    | some (.int k) => some [.int k]
    | some .string => some [.str]
    | some (.slice e) => match desc P n e with
      | some (k :: ks) => match beqN (P.cellsOf e) (ks.length + 1) with
        | true => some [.sl (k :: ks)]
        | false => none
      | _ => none
    | some (.struct fs) => match descF (desc P n) P fs.toList 0 with
      | some ks => match beqN (P.cellsOf t) ks.length with
        | true => some ks
        | false => none
      | none => none
    | some (.array m e) => match desc P n e with
      | some ks => match beqN (P.cellsOf e) ks.length && beqN (P.cellsOf t) (repK ks m).length with
        | true => some (repK ks m)
        | false => none
      | none => none
    | _ => none

mutual
def RngK : Kd → D → Prop
  | .int k, d => k.min ≤ d.int ∧ d.int ≤ k.max
  | .str, d => ∀ b ∈ d.str, b < 256
  | .sl ks, d => ∀ row ∈ d.rows, RngL ks row
  | _, _ => True
def RngL : List Kd → List D → Prop
  | k :: ks, d :: ds => RngK k d ∧ RngL ks ds
  | _, _ => True
end

mutual
def RdK (w : World) : Kd → D → Value → Prop
  | .int k, d, u => (∃ n, d = .i n) ∧ u = .int k d.int
  | .bool, d, u => (∃ b, d = .b b) ∧ u = .bool d.boo
  | .str, d, u => (∃ s, d = .s s) ∧ u = .string (bytesOf d.str)
  | .fnc _, _, _ => False
  | .pt _, _, _ => False
  | .sl ks, d, u => (∃ rows, d = .l rows ∧ LenR ks rows) ∧ 0 < ks.length ∧ ((d.rows = [] ∧ u = .slice none 0 0) ∨ ∃ a cap, u = .slice (some a) d.rows.length cap ∧ d.rows.length ≤ cap ∧
      ∀ i row, d.rows[i]? = some row → ∃ cs : List Value, (∀ c, c < ks.length → w.cell? (a.add (i * ks.length + c)) = cs[c]?) ∧ RdL w ks row cs)
def RdL (w : World) : List Kd → List D → List Value → Prop
  | [], [], [] => True
  | k :: ks, d :: ds, c :: cs => RdK w k d c ∧ RdL w ks ds cs
  | _, _, _ => False
end

def Holds (w : World) (ks : List Kd) (cs : List Value) : Prop := ∃ l, RdL w ks l cs ∧ RngL ks l

theorem RdL.append {w : World} : ∀ {ks ks' : List Kd} {l l' : List D} {cs cs' : List Value}, RdL w ks l cs → RdL w ks' l' cs' → RdL w (ks ++ ks') (l ++ l') (cs ++ cs')
  | [], _, [], _, [], _, _, h => h
  | _ :: _, _, _ :: _, _, _ :: _, _, h, h' => by
    simp only [RdL, List.cons_append] at h ⊢
    exact ⟨h.1, RdL.append h.2 h'⟩
  | [], _, [], _, _ :: _, _, h, _ => by simp [RdL] at h
  | [], _, _ :: _, _, _, _, h, _ => by simp [RdL] at h
  | _ :: _, _, [], _, _, _, h, _ => by simp [RdL] at h
  | _ :: _, _, _ :: _, _, [], _, h, _ => by simp [RdL] at h

theorem RdL.len {w : World} : ∀ {ks : List Kd} {l : List D} {cs : List Value}, RdL w ks l cs → l.length = ks.length ∧ cs.length = ks.length
  | [], [], [], _ => ⟨rfl, rfl⟩
  | _ :: _, _ :: _, _ :: _, h => by
    simp only [RdL] at h
    have := RdL.len h.2
    exact ⟨by simp [this.1], by simp [this.2]⟩
  | [], [], _ :: _, h => by simp [RdL] at h
  | [], _ :: _, _, h => by simp [RdL] at h
  | _ :: _, [], _, h => by simp [RdL] at h
  | _ :: _, _ :: _, [], h => by simp [RdL] at h

theorem RngL.append : ∀ {ks ks' : List Kd} {l l' : List D}, l.length = ks.length → RngL ks l → RngL ks' l' → RngL (ks ++ ks') (l ++ l')
  | [], _, [], _, _, _, h => h
  | _ :: _, _, _ :: _, _, hl, h, h' => by
    simp only [RngL, List.cons_append] at h ⊢
    exact ⟨h.1, RngL.append (by simpa using hl) h.2 h'⟩
  | [], _, _ :: _, _, hl, _, _ => by simp at hl
  | _ :: _, _, [], _, hl, _, _ => by simp at hl

theorem Holds.append {w : World} {ks ks' : List Kd} {cs cs' : List Value} (h : Holds w ks cs) (h' : Holds w ks' cs') : Holds w (ks ++ ks') (cs ++ cs') := by
  obtain ⟨l, a, b⟩ := h
  obtain ⟨l', a', b'⟩ := h'
  exact ⟨l ++ l', a.append a', b.append a.len.1 b'⟩

theorem Holds.nil {w : World} : Holds w [] [] := ⟨[], trivial, trivial⟩

section
variable {H : Type} {enc : TypeId × Value → H} {P : Program} {w : World} {base : Nat} {spare : Nat → Bool} {held : Bool}

theorem holds_one {k : Kd} {d : D} {u : Value} (h : RdK w k d u) (hr : RngK k d) : Holds w [k] [u] := ⟨[d], ⟨h, trivial⟩, ⟨hr, trivial⟩⟩

theorem holds_rep {ks : List Kd} {cs : List Value} (m : Nat) (hl : cs.length = (repK ks m).length) (h : ∀ i, i < m → Holds w ks ((cs.drop (i * ks.length)).take ks.length)) : Holds w (repK ks m) cs := by
  induction m generalizing cs with
  | zero =>
    have : cs = [] := List.length_eq_zero_iff.1 (by simpa [repK] using hl)
    subst this
    exact Holds.nil
  | succ m ih =>
    have e : cs = cs.take ks.length ++ cs.drop ks.length := (List.take_append_drop _ _).symm
    rw [e]
    refine Holds.append (by simpa using h 0 (by omega)) (ih ?_ fun i hi => ?_)
    · simp only [List.length_drop, hl, repK, List.length_append]
      omega
    · have := h (i + 1) (by omega)
      rwa [List.drop_drop, show ks.length + i * ks.length = (i + 1) * ks.length by rw [Nat.add_mul]; omega]

theorem holds_fields {g : TypeId → Option (List Kd)} {cs : List Value} : ∀ (fs : List Field) (off : Nat) (ks : List Kd), descF g P fs off = some ks → cs.length = off + ks.length →
    (∀ f ∈ fs, ∀ ks', g f.type = some ks' → Holds w ks' ((cs.drop f.offset).take (P.cellsOf f.type))) → Holds w ks (cs.drop off)
  | [], off, ks, h, hl, _ => by
    simp only [descF, Option.some.injEq] at h
    subst h
    have : cs.drop off = [] := List.drop_eq_nil_of_le (by simp at hl; omega)
    rw [this]
    exact Holds.nil
  | f :: r, off, ks, h, hl, hf => by
    simp only [descF] at h
    split at h
    · rename_i ks1 hk
      split at h
      · rename_i hb
        simp only [Bool.and_eq_true, beqN_iff] at hb
        split at h
        · rename_i ks2 hks2
          simp only [Option.some.injEq] at h
          subst h
          have e : cs.drop off = (cs.drop off).take ks1.length ++ (cs.drop off).drop ks1.length := (List.take_append_drop _ _).symm
          rw [e]
          refine Holds.append ?_ ?_
          · have := hf f (by simp) ks1 hk
            rwa [hb.1, hb.2] at this
          · rw [List.drop_drop]
            exact holds_fields r (off + ks1.length) ks2 hks2 (by rw [hl, List.length_append]; omega) (fun f' hf' => hf f' (by simp [hf']))
        · cases h
      · cases h
    · cases h

theorem bytes_of (z : ByteArray) : bytesOf (z.data.toList.map UInt8.toNat) = z := by
  obtain ⟨d⟩ := z
  simp only [bytesOf, List.map_map]
  congr 1
  have : (UInt8.ofNat ∘ UInt8.toNat) = id := by funext x; simp
  rw [this]
  simp

theorem holds_of_trod : ∀ (n : Nat) (t : TypeId) (ks : List Kd), desc P n t = some ks → ∀ (m : Nat) (cs : List Value) (x : DataW H × List MemPlace), DataW.trod enc P w base spare held m t cs = some x → Holds w ks cs
  | 0, _, _, h, _, _, _, _ => by simp [desc] at h
  | n + 1, t, ks, h, m, cs, x, hx => by
    unfold desc at h
    split at h
    · rename_i hu
      simp only [Option.some.injEq] at h
      subst h
      obtain ⟨b, rfl, _⟩ := DataW.trod_bool hu hx
      exact holds_one (d := .b b) ⟨⟨_, rfl⟩, rfl⟩ trivial
    · rename_i k hu
      simp only [Option.some.injEq] at h
      subst h
      obtain ⟨z, rfl, _, hw⟩ := DataW.trod_int hu hx
      exact holds_one (d := .i z) ⟨⟨_, rfl⟩, rfl⟩ (HB.wf_rng hw)
    · rename_i hu
      simp only [Option.some.injEq] at h
      subst h
      obtain ⟨z, rfl, _, _⟩ := DataW.trod_string hu hx
      refine holds_one (d := .s (z.data.toList.map UInt8.toNat)) ⟨⟨_, rfl⟩, ?_⟩ ?_
      · show Value.string z = .string (bytesOf (z.data.toList.map UInt8.toNat))
        rw [bytes_of]
      · intro b hb
        obtain ⟨x, _, rfl⟩ := List.mem_map.1 (show b ∈ z.data.toList.map UInt8.toNat from hb)
        exact x.toNat_lt
    · rename_i e hu
      split at h
      · rename_i k ks' hd
        split at h
        · rename_i hb
          have hb : P.cellsOf e = ks'.length + 1 := by rw [beqN_iff] at hb; exact hb
          simp only [Option.some.injEq] at h
          subst h
          rcases DataW.trod_slice hu hx with ⟨rfl, _⟩ | ⟨a, len, cap, elems, rest, m', rfl, rfl, _, _, h2, h3, h4, h5, _, _⟩
          · exact holds_one (d := .l []) ⟨⟨_, rfl, fun _ h => (by cases h), by simp⟩, by simp, .inl ⟨rfl, rfl⟩⟩ (fun _ h => (by cases h))
          · have row : ∀ i, i < len → ∃ l cs', (∀ c, c < ks'.length + 1 → w.cell? (a.add (i * (ks'.length + 1) + c)) = cs'[c]?) ∧ RdL w (k :: ks') l cs' ∧ RngL (k :: ks') l := by
              intro i hi
              have e1 := h5 i hi
              rw [List.getElem?_eq_getElem (by omega)] at e1
              obtain ⟨cs', c1, c2⟩ := Option.bind_eq_some_iff.1 e1
              obtain ⟨d1, d2, d3⟩ := HB.cells_get c1
              rw [hb] at d1 d2 d3 c1
              obtain ⟨l, g1, g2⟩ := holds_of_trod n e (k :: ks') hd m' cs' _ c2
              refine ⟨l, cs', fun c hc => ?_, g1, g2⟩
              rw [← d3 c hc, HB.addr_add2]
            let rows : Rows := (List.range len).map fun i => if h : i < len then Classical.choose (row i h) else []
            have hlen : rows.length = len := by simp [rows]
            have hget : ∀ i r, rows[i]? = some r → ∃ h : i < len, r = Classical.choose (row i h) := by
              intro i r hr
              have hi : i < len := by rw [← hlen]; exact (List.getElem?_eq_some_iff.1 hr).1
              refine ⟨hi, ?_⟩
              simp only [rows, List.getElem?_map, List.getElem?_range hi, Option.map_some, Option.some.injEq] at hr
              rw [← hr, dif_pos hi]
            refine holds_one (d := .l rows) ⟨⟨_, rfl, fun r hr => ?_, ?_⟩, by simp, .inr ⟨a, cap, ?_, ?_, fun i r hr => ?_⟩⟩ (fun r hr => ?_)
            · obtain ⟨i, hi⟩ := List.getElem?_of_mem hr
              obtain ⟨h, rfl⟩ := hget i r hi
              obtain ⟨_, _, h6, _⟩ := Classical.choose_spec (row i h)
              exact h6.len.1
            · have h3 : cap ≤ 9223372036854775807 := h3
              rw [hlen]; omega
            · show Value.slice (some a) len cap = .slice (some a) rows.length cap
              rw [hlen]
            · show rows.length ≤ cap
              rw [hlen]; exact h2
            · obtain ⟨h, rfl⟩ := hget i r hr
              obtain ⟨cs', h5', h6, _⟩ := Classical.choose_spec (row i h)
              exact ⟨cs', fun c hc => h5' c (by simpa using hc), h6⟩
            · obtain ⟨i, hi⟩ := List.getElem?_of_mem (show r ∈ rows from hr)
              obtain ⟨h, rfl⟩ := hget i r hi
              obtain ⟨_, _, _, h7⟩ := Classical.choose_spec (row i h)
              exact h7
        · cases h
      · cases h
    · rename_i fs hu
      split at h
      · rename_i ks' hd
        split at h
        · rename_i hb
          rw [beqN_iff] at hb
          simp only [Option.some.injEq] at h
          subst h
          obtain ⟨xs, m', rfl, _, hl, hxs, hf⟩ := DataW.trod_struct hu hx
          have := holds_fields (w := w) (cs := cs) fs.toList 0 ks' hd (by rw [hl, hb]; simp) (fun f hm ks1 hk1 => ?_)
          · simpa using this
          · obtain ⟨i, hi, rfl⟩ := List.mem_iff_getElem.1 hm
            have hi' : i < fs.size := by simpa using hi
            have e1 := hf i fs[i] (by simp [hi'])
            rw [List.getElem?_eq_getElem (by omega)] at e1
            have e2 : fs.toList[i] = fs[i] := by simp
            rw [e2] at hk1 ⊢
            exact holds_of_trod n _ ks1 hk1 m' _ _ e1
        · cases h
      · cases h
    · rename_i m0 e hu
      split at h
      · rename_i ks' hd
        split at h
        · rename_i hb
          simp only [Bool.and_eq_true, beqN_iff] at hb
          simp only [Option.some.injEq] at h
          subst h
          cases m with
          | zero => simp [DataW.trod] at hx
          | succ m' =>
            obtain ⟨hl, hi⟩ := HB.trod_array hu hx
            refine holds_rep m0 (by rw [hl, hb.2]) fun i h => ?_
            obtain ⟨y, hy⟩ := hi i h
            rw [hb.1] at hy
            exact holds_of_trod n e ks' hd m' _ y hy
        · cases h
      · cases h
    · cases h


def strOf (z : ByteArray) : List Nat := z.data.toList.map UInt8.toNat

def valOf : Value → Option V
  | .int k n => some (.int k n)
  | .bool b => some (.bool b)
  | .string z => some (.str (strOf z))
  | .slice none 0 0 => some .nils
  | .slice (some a) n cap => if n ≤ cap then some (.rslc a n cap) else none
  | _ => none

noncomputable def roOf (w : World) (a : Addr) : Option V := match w.cell? a with
  | some u => valOf u
  | none => none

theorem valOf_rv {u : Value} {v : V} (h : valOf u = some v) : one1 v = true ∧ ∀ ρ n, Rv ρ n v u := by
  unfold valOf at h
  split at h
  · cases h; exact ⟨rfl, fun _ _ => by simp only [Rv]⟩
  · cases h; exact ⟨rfl, fun _ _ => by simp only [Rv]⟩
  · cases h
    rename_i z
    refine ⟨rfl, fun _ _ => ?_⟩
    simp only [Rv]
    refine ⟨fun b hb => ?_, by rw [strOf, bytes_of]⟩
    obtain ⟨x, _, rfl⟩ := List.mem_map.1 (show b ∈ z.data.toList.map UInt8.toNat from hb)
    exact x.toNat_lt
  · cases h; exact ⟨rfl, fun _ _ => by simp only [Rv]⟩
  · split at h
    · rename_i hle
      cases h
      exact ⟨rfl, fun _ _ => by simp only [Rv]; exact ⟨hle, trivial⟩⟩
    · cases h
  · cases h

theorem roOf_ok (w : World) : RoAt (roOf w) w := by
  intro a v h
  unfold roOf at h
  split at h
  · rename_i u hu
    obtain ⟨h1, h2⟩ := valOf_rv h
    exact ⟨h1, u, hu, fun ρ n => h2 ρ n⟩
  · cases h

theorem str_bytes {s : List Nat} (h : ∀ b ∈ s, b < 256) : strOf (bytesOf s) = s := by
  simp only [strOf, bytesOf, List.map_map]
  induction s with
  | nil => rfl
  | cons b s ih =>
    have hb := h b (.head _)
    simp only [List.map_cons, Function.comp_apply, UInt8.toNat_ofNat', List.cons.injEq]
    exact ⟨Nat.mod_eq_of_lt hb, ih fun x hx => h x (.tail _ hx)⟩

mutual
theorem rdK_fz {g : Nat → Option O} {B : Nat} : ∀ (k : Kd) (d : D) (u : Value), RdK w k d u → RngK k d → ∃ v, valOf u = some v ∧ FzC (roOf w) g B k d v
  | .int k, d, u, h, _ => by
    simp only [RdK] at h
    obtain ⟨⟨n, rfl⟩, rfl⟩ := h
    exact ⟨_, rfl, by simp only [FzC]; exact ⟨⟨_, rfl⟩, trivial⟩⟩
  | .bool, d, u, h, _ => by
    simp only [RdK] at h
    obtain ⟨⟨n, rfl⟩, rfl⟩ := h
    exact ⟨_, rfl, by simp only [FzC]; exact ⟨⟨_, rfl⟩, trivial⟩⟩
  | .str, d, u, h, hr => by
    simp only [RdK] at h
    obtain ⟨⟨n, rfl⟩, rfl⟩ := h
    simp only [RngK, D.str] at hr
    refine ⟨_, rfl, ?_⟩
    simp only [FzC, D.str, str_bytes hr]
    exact ⟨⟨_, rfl⟩, trivial⟩
  | .sl ks, d, u, h, hr => by
    simp only [RdK] at h
    obtain ⟨⟨rows, rfl, hl⟩, hpos, h⟩ := h
    simp only [RngK, D.rows] at hr h
    rcases h with ⟨rfl, rfl⟩ | ⟨a, cap, rfl, hcap, hrow⟩
    · exact ⟨.nils, rfl, by simp only [FzC]; exact ⟨⟨_, rfl, hl⟩, .inl ⟨rfl, trivial⟩⟩⟩
    · refine ⟨.rslc a rows.length cap, by simp only [valOf]; rw [if_pos hcap], ?_⟩
      simp only [FzC, D.rows]
      refine ⟨⟨_, rfl, hl⟩, .inr (.inr ⟨a, cap, rfl, hpos, hcap, fun i hi => ?_⟩)⟩
      obtain ⟨cs, c1, c2⟩ := hrow i rows[i] (List.getElem?_eq_getElem hi)
      have hg := hr rows[i] (List.getElem_mem hi)
      refine FzR.of _ _ _ _ fun j k hk => ?_
      have hj : j < ks.length := (List.getElem?_eq_some_iff.1 hk).1
      obtain ⟨v, e1, e2⟩ := rdL_fz (g := g) (B := B) ks rows[i] cs c2 hg j k hk
      refine ⟨v, ?_, ?_⟩
      · simp only [roOf, Nat.zero_add, c1 j hj]
        revert e1
        cases cs[j]? with
        | none => intro e1; cases e1
        | some u => intro e1; exact e1
      · have : gt rows i (0 + j) = rows[i].getD j .nil := by simp [gt, List.getD_eq_getElem?_getD, hi]
        rw [this]; exact e2
theorem rdL_fz {g : Nat → Option O} {B : Nat} : ∀ (ks : List Kd) (l : List D) (cs : List Value), RdL w ks l cs → RngL ks l → ∀ j k, ks[j]? = some k → ∃ v, (cs[j]?).bind valOf = some v ∧ FzC (roOf w) g B k (l.getD j .nil) v
  | [], _, _, _, _, j, k, hk => by simp at hk
  | k0 :: ks, d :: l, c :: cs, h, hr, 0, k, hk => by
    simp only [RdL] at h
    simp only [RngL] at hr
    simp only [List.getElem?_cons_zero, Option.some.injEq] at hk
    subst hk
    obtain ⟨v, a, b⟩ := rdK_fz (g := g) (B := B) k0 d c h.1 hr.1
    exact ⟨v, by simpa using a, by simpa using b⟩
  | k0 :: ks, d :: l, c :: cs, h, hr, j + 1, k, hk => by
    simp only [RdL] at h
    simp only [RngL] at hr
    obtain ⟨v, a, b⟩ := rdL_fz (g := g) (B := B) ks l cs h.2 hr.2 j k (by simpa using hk)
    exact ⟨v, by simpa using a, by simpa using b⟩
  | _ :: _, [], _, h, _, _, _, _ => by simp [RdL] at h
  | _ :: _, _ :: _, [], h, _, _, _, _ => by simp [RdL] at h
end

theorem rdL_vals {g : Nat → Option O} {B : Nat} {ρ : Nm} {n : Nat} : ∀ (ks : List Kd) (l : List D) (cs : List Value), RdL w ks l cs → RngL ks l →
    ∃ x : List V, x.length = ks.length ∧ (∀ j k, ks[j]? = some k → ∃ u, x[j]? = some u ∧ FzC (roOf w) g B k (l.getD j .nil) u) ∧ RvL ρ n x cs
  | [], [], [], _, _ => ⟨[], rfl, fun j k h => by simp at h, by simp [RvL]⟩
  | k :: ks, d :: l, c :: cs, h, hr => by
    simp only [RdL] at h
    simp only [RngL] at hr
    obtain ⟨v, a, b⟩ := rdK_fz (g := g) (B := B) k d c h.1 hr.1
    obtain ⟨x, e1, e2, e3⟩ := rdL_vals (g := g) (B := B) (ρ := ρ) (n := n) ks l cs h.2 hr.2
    refine ⟨v :: x, by simp [e1], fun j k' hk => ?_, by simp only [RvL]; exact ⟨(valOf_rv a).2 ρ n, e3⟩⟩
    cases j with
    | zero =>
      simp only [List.getElem?_cons_zero, Option.some.injEq] at hk
      subst hk
      exact ⟨v, rfl, by simpa using b⟩
    | succ j => simpa using e2 j k' (by simpa using hk)
  | [], [], _ :: _, h, _ => by simp [RdL] at h
  | [], _ :: _, _, h, _ => by simp [RdL] at h
  | _ :: _, [], _, h, _ => by simp [RdL] at h
  | _ :: _, _ :: _, [], h, _ => by simp [RdL] at h

def descAll (P : Program) (n : Nat) : List TypeId → Option (List (Bool × List Kd))
  | [] => some []
  | t :: r => match desc P n t, descAll P n r with
    | some ks, some l => some ((HB.isAgg P t, ks) :: l)
    | _, _ => none

def RngAll : List (Bool × List Kd) → List (List D) → Prop
  | (_, ks) :: r, d :: ds => RngL ks d ∧ RngAll r ds
  | _, _ => True

def trueRes (_ : List (List D)) (_ _ : Nat) : D := .b true

def ArgsRd (w : World) : List (Bool × List Kd) → List (List D) → List Value → Prop
  | [], [], [] => True
  | (g, ks) :: r, d :: ds, v :: vs => (RdL w ks d v.cells.toList ∧ (g = true → v = .agg (v.cells.toList).toArray) ∧ (g = false → v.cells.toList = [v])) ∧ ArgsRd w r ds vs
  | _, _, _ => False

theorem args_fz {g : Nat → Option O} {B : Nat} {ρ : Nm} {n : Nat} : ∀ (ps : List (Bool × List Kd)) (ds : List (List D)) (vs : List Value), ArgsRd w ps ds vs → RngAll ps ds → ∃ x : List V, ArgsFz (roOf w) g B ps ds x ∧ RvL ρ n x vs
  | [], [], [], _, _ => ⟨[], trivial, by simp [RvL]⟩
  | (a, ks) :: ps, d :: ds, v :: vs, h, hr => by
    obtain ⟨⟨h1, h2, h3⟩, h4⟩ := h
    obtain ⟨x, e1, e2, e3⟩ := rdL_vals (g := g) (B := B) (ρ := ρ) (n := n) ks d _ h1 hr.1
    obtain ⟨xs, f1, f2⟩ := args_fz (g := g) (B := B) (ρ := ρ) (n := n) ps ds vs h4 hr.2
    cases a with
    | true => exact ⟨.agg x :: xs, ⟨h1.len.1, ⟨x, e1, e2, rfl⟩, f1⟩, by simp only [RvL, Rv]; exact ⟨⟨_, e3, h2 rfl⟩, f2⟩⟩
    | false =>
      rw [h3 rfl] at e3
      match x, e3 with
      | [y], e3 =>
        simp only [RvL, and_true] at e3
        exact ⟨y :: xs, ⟨h1.len.1, ⟨[y], e1, e2, y, rfl, rfl⟩, f1⟩, by simp only [RvL]; exact ⟨e3, f2⟩⟩
      | [], e3 => simp [RvL] at e3
      | _ :: _ :: _, e3 => simp [RvL] at e3
  | [], [], _ :: _, h, _ => h.elim
  | [], _ :: _, _, h, _ => h.elim
  | _ :: _, [], _, h, _ => h.elim
  | _ :: _, _ :: _, [], h, _ => h.elim

theorem shape_of {r : Reach} {n : Nat} {t : TypeId} {ks : List Kd} {v : Value} (hd : desc P n t = some ks) (h : Value.okWide P w r base t v) :
    (HB.isAgg P t = true → v = .agg (v.cells.toList).toArray) ∧ (HB.isAgg P t = false → v.cells.toList = [v]) := by
  cases n with
  | zero => simp [desc] at hd
  | succ n =>
    unfold desc at hd
    unfold HB.isAgg
    split at hd
    · rename_i hu
      obtain ⟨b, rfl⟩ := okWide_bool hu h
      rw [hu]
      exact ⟨fun h => (by cases h), fun _ => rfl⟩
    · rename_i k hu
      obtain ⟨z, rfl⟩ := okWide_int hu h
      rw [hu]
      exact ⟨fun h => (by cases h), fun _ => rfl⟩
    · rename_i hu
      obtain ⟨z, rfl⟩ := okWide_string hu h
      rw [hu]
      exact ⟨fun h => (by cases h), fun _ => rfl⟩
    · rename_i e hu
      obtain ⟨a, l, c, rfl⟩ := okWide_slice hu h
      rw [hu]
      exact ⟨fun h => (by cases h), fun _ => rfl⟩
    · rename_i fs hu
      obtain ⟨cs, rfl, _⟩ := okWide_struct hu h
      rw [hu]
      exact ⟨fun _ => by simp [Value.cells], fun h => by cases h⟩
    · rename_i m e hu
      have : ∃ cs, v = .agg cs := by
        unfold Value.okWide at h
        rw [hu] at h
        obtain ⟨cs, hc, _⟩ := h
        exact ⟨cs, hc⟩
      obtain ⟨cs, rfl⟩ := this
      rw [hu]
      exact ⟨fun _ => by simp [Value.cells], fun h => by cases h⟩
    · cases hd

theorem args_read {r : Reach} {n : Nat} : ∀ (ts : List TypeId) (params : List (Bool × List Kd)) (vs : List Value) (ds : List (DataW H)) (ps : List MemPlace), descAll P n ts = some params →
    (∀ (j : Nat) t v, ts[j]? = some t → vs[j]? = some v → Value.okWide P w r base t v) → DataW.TrodAll enc P w 0 spare held ts vs ds ps →
    ∃ dss, ArgsRd w params dss vs ∧ RngAll params dss
  | [], params, vs, ds, ps, hd, _, h => by
    simp only [descAll, Option.some.injEq] at hd
    subst hd
    obtain ⟨rfl, _, _⟩ := trodAll_nil h
    exact ⟨[], trivial, trivial⟩
  | t :: ts, params, vs, ds, ps, hd, hok, h => by
    unfold descAll at hd
    split at hd
    · rename_i ks l hks hl
      simp only [Option.some.injEq] at hd
      subst hd
      cases vs with
      | nil => simp [DataW.TrodAll] at h
      | cons v vs =>
        cases ds with
        | nil => simp [DataW.TrodAll] at h
        | cons d ds =>
          obtain ⟨p, q, ⟨m, hm⟩, h2, _⟩ := h
          obtain ⟨f, g1, g2⟩ := holds_of_trod n t ks hks m _ _ hm
          obtain ⟨dss, i1, i2⟩ := args_read ts l vs ds q hl (fun j t' v' ht hv => hok (j + 1) t' v' (by simpa using ht) (by simpa using hv)) h2
          obtain ⟨s1, s2⟩ := shape_of hks (hok 0 t v (by simp) (by simp))
          exact ⟨f :: dss, ⟨⟨g1, s1, s2⟩, i1⟩, g2, i2⟩
    · cases hd
end

section
variable {H : Type} {enc : TypeId × Value → H} {P : Program}

theorem said {fnum : FuncId} {f : Func} {s : ChangeSpec} {fresh handsOn again : Bool} {n : Nat} {params : List (Bool × List Kd)} {tb : TypeId}
    (hE : ∀ ro, CX.EnvOk (cxE ro) P) (hpure : ∀ ro, PureC0 (cxE ro) fnum ⟨params, [(false, [.bool])], false⟩ (RngAll params) trueRes) (hd : descAll P n f.params.toList = some params) (hl : laidOutB P = true)
    (hr : (f.params.toList.all fun t => P.readableRec t && decide (t < P.types.size)) = true) (hres : f.resultTypes = #[tb]) (hb : P.underlying tb = some .bool)
    (hs : ∀ ds : List (DataW H), ds.length = f.params.toList.length → s.fn H ds = ⟨[.lit (.bool true)], ds, []⟩) (hv : s.vars = []) {apart : Bool} (W : World) (base : Nat) (args : Array Value) (ds gs : List (DataW H)) (before : List MemPlace)
    (hval : ∀ (j : Nat) t v, f.params[j]? = some t → args[j]? = some v → Value.okWide P W .any base t v) (hW : DataW.Whole enc P f.params.toList s.vars apart W args.toList ds gs before) :
    Calls P fnum args W fun e W' => ∃ v, e = .returned v ∧ s.post enc P f apart fresh handsOn again W args v W' := by
  have hW' := hW
  obtain ⟨p, q, hA, hV, rfl, _, _⟩ := hW
  rw [hv] at hV
  obtain ⟨rfl, rfl⟩ := trodVars_none hV
  obtain ⟨dss, h1, h2⟩ := args_read (r := .any) (base := base) f.params.toList params args.toList ds p hd (fun j t v ht hv => hval j t v (by simpa using ht) (by simpa using hv)) hA
  have hlen := (trodAll_length hA).2
  have hfn : s.fn H (ds ++ []) = ⟨[.lit (.bool true)], ds, []⟩ := by rw [List.append_nil]; exact hs ds hlen
  obtain ⟨xs, x1, x2⟩ := args_fz (g := fun _ => none) (B := 0) (ρ := fun _ => none) (n := 0) params dss args.toList h1 h2
  obtain ⟨vs, h', nx', g', ⟨n0, hrun⟩, hresF⟩ := hpure (roOf W) dss h2 xs x1
  have hvs : vs = [.bool true] := by
    match vs, hresF with
    | [v], hresF =>
      obtain ⟨⟨x, _, e2, u, rfl, rfl⟩, _⟩ := hresF
      obtain ⟨u, e3, e4⟩ := e2 0 .bool rfl
      simp only [List.getElem?_cons_zero, Option.some.injEq] at e3
      subst e3
      simp only [FzC] at e4
      rw [e4.2]; rfl
    | [], hresF => simp [ResFz] at hresF
    | _ :: _ :: _, hresF => simp [ResFz] at hresF
  subst hvs
  have hcall := call_ro (hE (roOf W)) (w := W) (roOf_ok W) x2 (hrun n0 (Nat.le_refl _) retV)
  rw [show args.toList.toArray = args by simp] at hcall
  refine hcall.mono fun e W' h => ?_
  obtain ⟨u, ρ, m, rfl, hu, hk⟩ := h
  simp only [CX.one, Rv] at hu
  subst hu
  have hlt := hW'.lt
  simp only [List.append_nil] at hW' hlt
  refine ⟨_, rfl, CX.post_kept (pa := p) (pv := []) hW' (fun b sp hd => ?_) (fun sp hsp => ?_) (fun sp _ => ?_) (by simp) hk (ok_one hres rfl (okWide_bool_mk hb _))⟩
  · rw [hfn, hres]
    exact trodAll_mk1 (shut_bool hb _)
  · rw [hfn]
    exact HB.args_stay hl hr hA (fun x hx => HB.Kept_same hk (hlt x hx)) (fun x hx => hsp x hx)
  · rw [hfn, hv]
    rfl
end
end HX

namespace HX
open Go Go.Proofs
theorem own : ownKnob Try.prog.godebug = none := by kernel_rfl
theorem laid : laidOutB Try.prog = true := by kernel_rfl
end HX

namespace HX
open Go Go.Proofs CX

inductive Ctrs (E : CX.Env) : List Ctr → Prop
  | nil : Ctrs E []
  | cons {c : Ctr} {l : List Ctr} (h : PureC E c.f c.sg c.pre c.res) (r : Ctrs E l) : Ctrs E (c :: l)

theorem Ctrs.find {E : CX.Env} : ∀ {l : List Ctr}, Ctrs E l → ∀ {f : Nat} {sg : Sig}, sigL (sigs l) f = some sg → PureC E f sg (preOf l f) (resOf l f)
  | [], _, f, sg, h => by simp [sigL, sigs, look] at h
  | c :: l, .cons h1 h2, f, sg, h => by
    simp only [sigL, sigs, List.map_cons] at h
    rw [look_cons] at h
    split at h
    · rename_i e
      simp only [Option.some.injEq] at h
      subst e h
      have e1 : preOf (c :: l) c.f = c.pre := by funext ds; simp [preOf, ctrOf]
      have e2 : resOf (c :: l) c.f = c.res := by funext ds; simp [resOf, ctrOf]
      rw [e1, e2]; exact h1
    · rename_i e
      have e1 : preOf (c :: l) f = preOf l f := by funext ds; simp [preOf, ctrOf, e]
      have e2 : resOf (c :: l) f = resOf l f := by funext ds; simp [resOf, ctrOf, e]
      rw [e1, e2]
      exact h2.find h

theorem envL {ro : Addr → Option V} {l : List Ctr} (h : Ctrs (cxE ro) l) : EnvOk ⟨Ar.std, cxE ro, ksF, sigL (sigs l), preOf l, resOf l⟩ := hxEnv fun _ _ hs => h.find hs
end HX

namespace HX
open Go Go.Proofs CX

def wI (r : List D) : Int := (r.getD 0 .nil).int
theorem gt_wI (l : Rows) (q : Nat) : (gt l q 0).int = wI (l.getD q []) := rfl
theorem row_mem {l : Rows} {q : Nat} (h : q < l.length) : l.getD q [] ∈ l := by
  rw [List.getD_eq_getElem?_getD, List.getElem?_eq_getElem h]; exact List.getElem_mem h
theorem mem_row {l : Rows} {r : List D} (h : r ∈ l) : ∃ q, q < l.length ∧ l.getD q [] = r := by
  obtain ⟨q, hq, e⟩ := List.getElem_of_mem h
  exact ⟨q, hq, by rw [List.getD_eq_getElem?_getD, List.getElem?_eq_getElem hq]; exact e⟩
def rI (r : List D) : Int := (r.getD 1 .nil).int
theorem gt_rI (l : Rows) (q : Nat) : (gt l q 1).int = rI (l.getD q []) := rfl

def crE (b r : Int) : Int := if (0 ≤ b ∧ b ≤ 65536) ∧ 0 ≤ r ∧ r ≤ 1024 then 0 else 3
theorem crE_0 {b r : Int} : crE b r = 0 ↔ (0 ≤ b ∧ b ≤ 65536) ∧ 0 ≤ r ∧ r ≤ 1024 := by
  unfold crE
  split
  · exact ⟨fun _ => by assumption, fun _ => rfl⟩
  · exact ⟨fun h => (by cases h), fun h => (by contradiction)⟩
theorem crE_ne {b r : Int} (h : ¬ crE b r = 0) : crE b r = 3 := by
  unfold crE at h ⊢
  split at h
  · exact absurd rfl h
  · rw [if_neg (by assumption)]
def okC (l : Rows) : Prop := ∀ x ∈ l, crE (wI x) (rI x) = 0
open Classical in
noncomputable def allE (l : Rows) : Int := if okC l then 0 else 3
theorem allE_0 {l : Rows} : allE l = 0 ↔ okC l := by
  unfold allE
  split
  · exact ⟨fun _ => by assumption, fun _ => rfl⟩
  · exact ⟨fun h => (by cases h), fun h => (by contradiction)⟩
theorem allE_ne {l : Rows} (h : ¬ allE l = 0) : allE l = 3 := by
  unfold allE at h ⊢
  split at h
  · exact absurd rfl h
  · rw [if_neg (by assumption)]
theorem okC_row {l : Rows} (h : okC l) {q : Nat} (hq : q < l.length) : (0 ≤ wI (l.getD q []) ∧ wI (l.getD q []) ≤ 65536) ∧ 0 ≤ rI (l.getD q []) ∧ rI (l.getD q []) ≤ 1024 := crE_0.1 (h _ (row_mem hq))
end HX

namespace HX
open Go Go.Proofs CX

abbrev tI (l : Rows) (q : Nat) : Int := wI (l.getD q [])
theorem gt_tI (l : Rows) (q : Nat) : (gt l q 0).int = tI l q := rfl
theorem mulN {r w N : Int} (h1 : 0 ≤ r) (h2 : r ≤ 1024) (h3 : 0 ≤ w) (h4 : w ≤ N) : 0 ≤ r * w ∧ r * w ≤ 1024 * N :=
  ⟨Int.mul_nonneg h1 h3, Int.le_trans (Int.mul_le_mul_of_nonneg_right h2 h3) (Int.mul_le_mul_of_nonneg_left h4 (by omega))⟩
def inT (l : Rows) : Prop := ∀ j < l.length, 0 ≤ tI l j ∧ tI l j ≤ 10000
def srt (l : Rows) : Prop := ∀ j, j + 1 < l.length → tI l j ≤ tI l (j + 1)
open Classical in
noncomputable def tmE (l : Rows) : Int := if 1024 < (l.length : Int) then 9 else if ¬ inT l then 3 else if ¬ srt l then 2 else 0
theorem tmE_0 {l : Rows} (h : tmE l = 0) : (l.length : Int) ≤ 1024 ∧ inT l ∧ srt l := by
  unfold tmE at h
  split at h
  · cases h
  split at h
  · cases h
  split at h
  · cases h
  · rename_i h1 h2 h3
    exact ⟨by omega, Classical.not_not.1 h2, Classical.not_not.1 h3⟩

def ndE (l : Rows) (i k r : Int) : Int := 1024 * ((k - i) + 1) - r * ((tI l k.toNat - tI l i.toNat) + 1)
def lst (l : Rows) : Nat → Int
  | 0 => 0
  | q + 1 => tI l q
def lev (l : Rows) (r : Int) : Nat → Int
  | 0 => 0
  | q + 1 => mxI 0 (lev l r q - r * (tI l q - lst l q)) + 1024
def mst (l : Rows) (r : Int) : Nat → Int
  | 0 => 0
  | q + 1 => mxI (mst l r q) (mxI 0 (lev l r (q + 1) - r))

theorem lst_le {l : Rows} (hi : inT l) (hs : srt l) {q : Nat} (h : q < l.length) : 0 ≤ lst l q ∧ lst l q ≤ tI l q := by
  cases q with
  | zero => exact ⟨Int.le_refl 0, (hi 0 h).1⟩
  | succ q => exact ⟨(hi q (by omega)).1, hs q h⟩

theorem lev_bd {l : Rows} {r : Int} (h0 : 0 ≤ r) (h1 : r ≤ 1024) (hi : inT l) (hs : srt l) : ∀ q, q ≤ l.length → 0 ≤ lev l r q ∧ lev l r q ≤ 1024 * q
  | 0, _ => ⟨Int.le_refl 0, Int.le_refl 0⟩
  | q + 1, h => by
    have ih := lev_bd h0 h1 hi hs q (by omega)
    have hl := lst_le hi hs (q := q) (by omega)
    have hm := mulN h0 h1 (w := tI l q - lst l q) (N := 10000) (by omega) (by have := hi q (by omega); omega)
    simp only [lev, mxI_eq]
    omega

theorem lev_up {l : Rows} {r : Int} (h0 : 0 ≤ r) : ∀ q i : Nat, i < q → 1024 * ((q : Int) - i) - r * (lst l q - tI l i) ≤ lev l r q
  | 0, i, h => by omega
  | q + 1, i, h => by
    rw [show lev l r (q + 1) = mxI 0 (lev l r q - r * (tI l q - lst l q)) + 1024 from rfl, show lst l (q + 1) = tI l q from rfl, mxI_eq]
    by_cases e : i = q
    · subst e
      rw [Int.sub_self, Int.mul_zero]
      omega
    · have ih := lev_up h0 (l := l) q i (by omega)
      simp only [Int.mul_sub] at ih ⊢
      omega

theorem lev_at {l : Rows} {r : Int} (h0 : 0 ≤ r) (h1 : r ≤ 1024) (hi : inT l) (hs : srt l) : ∀ q : Nat, q ≤ l.length → 0 < q → ∃ i : Nat, i < q ∧ lev l r q = 1024 * ((q : Int) - i) - r * (lst l q - tI l i)
  | 0, _, h => by omega
  | q + 1, h, _ => by
    have hl := lst_le hi hs (q := q) (by omega)
    have hm := mulN h0 h1 (w := tI l q - lst l q) (N := 10000) (by omega) (by have := hi q (by omega); omega)
    by_cases hp : 0 < lev l r q - r * (tI l q - lst l q)
    · cases q with
      | zero => simp only [lev] at hp; omega
      | succ p =>
        obtain ⟨i, hi1, hi2⟩ := lev_at h0 h1 hi hs (p + 1) (by omega) (by omega)
        refine ⟨i, by omega, ?_⟩
        rw [lev, mxI_eq]
        simp only [lst] at hi2 hp ⊢
        simp only [Int.mul_sub] at hi2 hp ⊢
        omega
    · refine ⟨q, by omega, ?_⟩
      rw [lev, mxI_eq, show lst l (q + 1) = tI l q from rfl, Int.sub_self, Int.mul_zero]
      omega

theorem ndE_nat (l : Rows) (i k : Nat) (r : Int) : ndE l i k r = 1024 * (((k : Int) - i) + 1) - r * ((tI l k - tI l i) + 1) := rfl

theorem mst_up {l : Rows} {r : Int} (h0 : 0 ≤ r) : ∀ n i k : Nat, i ≤ k → k < n → ndE l i k r ≤ mst l r n
  | 0, i, k, _, h => by omega
  | n + 1, i, k, h1, h2 => by
    rw [show mst l r (n + 1) = mxI (mst l r n) (mxI 0 (lev l r (n + 1) - r)) from rfl]
    simp only [mxI_eq]
    by_cases e : k = n
    · subst e
      have := lev_up h0 (l := l) (k + 1) i (by omega)
      rw [ndE_nat]
      simp only [lst] at this
      simp only [Int.mul_sub, Int.mul_add, Int.mul_one] at this ⊢
      omega
    · have := mst_up h0 (l := l) n i k h1 (by omega)
      omega
theorem mst_at {l : Rows} {r : Int} (h0 : 0 ≤ r) (h1 : r ≤ 1024) (hi : inT l) (hs : srt l) : ∀ n, n ≤ l.length → 0 ≤ mst l r n ∧ (mst l r n = 0 ∨ ∃ i k : Nat, i ≤ k ∧ k < n ∧ mst l r n = ndE l i k r)
  | 0, _ => ⟨Int.le_refl 0, .inl rfl⟩
  | n + 1, h => by
    obtain ⟨hz, ih⟩ := mst_at h0 h1 hi hs n (by omega)
    have hup := mst_up h0 (l := l) (n + 1)
    have hge : mst l r n ≤ mst l r (n + 1) ∧ 0 ≤ mst l r (n + 1) := by rw [mst]; simp only [mxI_eq]; omega
    refine ⟨hge.2, ?_⟩
    by_cases e : mst l r (n + 1) = mst l r n
    · rw [e]
      rcases ih with ih | ⟨i, k, a, b, c⟩
      · exact .inl ih
      · exact .inr ⟨i, k, a, by omega, c⟩
    · right
      obtain ⟨i, hi1, hi2⟩ := lev_at h0 h1 hi hs (n + 1) h (by omega)
      refine ⟨i, n, by omega, by omega, ?_⟩
      have hu := hup i n (by omega) (by omega)
      rw [show mst l r (n + 1) = mxI (mst l r n) (mxI 0 (lev l r (n + 1) - r)) from rfl] at e hu ⊢
      rw [ndE_nat] at hu ⊢
      simp only [mxI_eq] at e hu ⊢
      simp only [lst] at hi2
      simp only [Int.mul_sub, Int.mul_add, Int.mul_one] at e hu hi2 ⊢
      omega

theorem ndE_bd {l : Rows} {r : Int} (h0 : 0 ≤ r) (h1 : r ≤ 1024) (hi : inT l) (hl : (l.length : Int) ≤ 1024) {i k : Nat} (h : i ≤ k) (hk : k < l.length) : -20000000 ≤ ndE l i k r ∧ ndE l i k r ≤ 20000000 := by
  have a := hi i (by omega)
  have b := hi k hk
  have m1 := mulN h0 h1 (w := tI l k) (N := 10000) (by omega) (by omega)
  have m2 := mulN h0 h1 (w := tI l i) (N := 10000) (by omega) (by omega)
  rw [ndE_nat]
  simp only [Int.mul_sub, Int.mul_add, Int.mul_one]
  omega
end HX

namespace HX
open Go Go.Proofs CX
structure V21 (a0 : Rows) (R : Nat → Nat → D) (I0 : Int → Int → Prop) (m0 : Int → Int → Nat) : Prop where
  i0 : I0 0 0
  g1 : ∀ x0_0 x0_1, I0 x0_0 x0_1 → (x0_1 < (a0.length : Int)) → 0 ≤ x0_1
  g2 : ∀ x0_0 x0_1, I0 x0_0 x0_1 → (x0_1 < (a0.length : Int)) → x0_1 < (a0.length : Int)
  g3 : ∀ x0_0 x0_1, I0 x0_0 x0_1 → (x0_1 < (a0.length : Int)) → (((Int.toNat x0_1 : Nat) : Int)) < (a0.length : Int)
  g4 : ∀ x0_0 x0_1, I0 x0_0 x0_1 → (x0_1 < (a0.length : Int)) → ((D.int (gt a0 x0_1.toNat 0)) < 0) → R 0 0 = D.i 3
  g5 : ∀ x0_0 x0_1, I0 x0_0 x0_1 → (x0_1 < (a0.length : Int)) → (¬ (D.int (gt a0 x0_1.toNat 0)) < 0) → (65536 < (D.int (gt a0 x0_1.toNat 0))) → R 0 0 = D.i 3
  g6 : ∀ x0_0 x0_1, I0 x0_0 x0_1 → (x0_1 < (a0.length : Int)) → (¬ (D.int (gt a0 x0_1.toNat 0)) < 0) → (¬ 65536 < (D.int (gt a0 x0_1.toNat 0))) → ((D.int (gt a0 x0_1.toNat 1)) < 0) → R 0 0 = D.i 3
  g7 : ∀ x0_0 x0_1, I0 x0_0 x0_1 → (x0_1 < (a0.length : Int)) → (¬ (D.int (gt a0 x0_1.toNat 0)) < 0) → (¬ 65536 < (D.int (gt a0 x0_1.toNat 0))) → (¬ (D.int (gt a0 x0_1.toNat 1)) < 0) → (1024 < (D.int (gt a0 x0_1.toNat 1))) → R 0 0 = D.i 3
  g8 : ∀ x0_0 x0_1, I0 x0_0 x0_1 → (x0_1 < (a0.length : Int)) → (¬ (D.int (gt a0 x0_1.toNat 0)) < 0) → (¬ 65536 < (D.int (gt a0 x0_1.toNat 0))) → (¬ (D.int (gt a0 x0_1.toNat 1)) < 0) → (¬ 1024 < (D.int (gt a0 x0_1.toNat 1))) → -9223372036854775808 ≤ (x0_1 + 1) ∧ (x0_1 + 1) ≤ 9223372036854775807
  n9 : ∀ x0_0 x0_1, I0 x0_0 x0_1 → (x0_1 < (a0.length : Int)) → (¬ (D.int (gt a0 x0_1.toNat 0)) < 0) → (¬ 65536 < (D.int (gt a0 x0_1.toNat 0))) → (¬ (D.int (gt a0 x0_1.toNat 1)) < 0) → (¬ 1024 < (D.int (gt a0 x0_1.toNat 1))) → I0 x0_0 (x0_1 + 1) ∧ m0 x0_0 (x0_1 + 1) < m0 x0_0 x0_1
  g10 : ∀ x0_0 x0_1, I0 x0_0 x0_1 → (¬ x0_1 < (a0.length : Int)) → R 0 0 = D.i 0
end HX

namespace HX
open Go Go.Proofs CX
structure V20 (pre : Nat → List (List D) → Prop) (fn : Nat → List (List D) → Nat → Nat → D) (a0_0 : Int) (a0_1 : Int) (R : Nat → Nat → D)  : Prop where
  g0 : pre 21 [[D.l [[D.i a0_0, D.i a0_1]]]]
  g1 : R 0 0 = D.i (D.int (fn 21 [[D.l [[D.i a0_0, D.i a0_1]]]] 0 0))
end HX

namespace HX
open Go Go.Proofs CX
structure V38 (a0 : Rows) (R : Nat → Nat → D) (I0 : Bool → Int → Prop) (m0 : Bool → Int → Nat) : Prop where
  g0 : -9223372036854775808 ≤ ((a0.length : Int) - 1) ∧ ((a0.length : Int) - 1) ≤ 9223372036854775807
  i0 : I0 false ((a0.length : Int) - 1)
  g2 : ∀ x0_0 x0_1, I0 x0_0 x0_1 → (0 < x0_1) → 0 ≤ x0_1
  g3 : ∀ x0_0 x0_1, I0 x0_0 x0_1 → (0 < x0_1) → x0_1 < (a0.length : Int)
  g4 : ∀ x0_0 x0_1, I0 x0_0 x0_1 → (0 < x0_1) → (((Int.toNat x0_1 : Nat) : Int)) < (a0.length : Int)
  g5 : ∀ x0_0 x0_1, I0 x0_0 x0_1 → (0 < x0_1) → -9223372036854775808 ≤ (x0_1 - 1) ∧ (x0_1 - 1) ≤ 9223372036854775807
  g6 : ∀ x0_0 x0_1, I0 x0_0 x0_1 → (0 < x0_1) → 0 ≤ (x0_1 - 1)
  g7 : ∀ x0_0 x0_1, I0 x0_0 x0_1 → (0 < x0_1) → (x0_1 - 1) < (a0.length : Int)
  g8 : ∀ x0_0 x0_1, I0 x0_0 x0_1 → (0 < x0_1) → (((Int.toNat (x0_1 - 1) : Nat) : Int)) < (a0.length : Int)
  g9 : ∀ x0_0 x0_1, I0 x0_0 x0_1 → (0 < x0_1) → (¬ (D.int (gt a0 x0_1.toNat 0)) = (D.int (gt a0 x0_1.toNat 0))) → ((D.int (gt a0 (Int.toNat (x0_1 - 1)) 0)) = (D.int (gt a0 (Int.toNat (x0_1 - 1)) 0))) → R 0 0 = D.b false
  g10 : ∀ x0_0 x0_1, I0 x0_0 x0_1 → (0 < x0_1) → (¬ (D.int (gt a0 x0_1.toNat 0)) = (D.int (gt a0 x0_1.toNat 0))) → (¬ (D.int (gt a0 (Int.toNat (x0_1 - 1)) 0)) = (D.int (gt a0 (Int.toNat (x0_1 - 1)) 0))) → ((D.int (gt a0 x0_1.toNat 0)) < (D.int (gt a0 (Int.toNat (x0_1 - 1)) 0))) → R 0 0 = D.b false
  g11 : ∀ x0_0 x0_1, I0 x0_0 x0_1 → (0 < x0_1) → (¬ (D.int (gt a0 x0_1.toNat 0)) = (D.int (gt a0 x0_1.toNat 0))) → (¬ (D.int (gt a0 (Int.toNat (x0_1 - 1)) 0)) = (D.int (gt a0 (Int.toNat (x0_1 - 1)) 0))) → (¬ (D.int (gt a0 x0_1.toNat 0)) < (D.int (gt a0 (Int.toNat (x0_1 - 1)) 0))) → -9223372036854775808 ≤ (x0_1 - 1) ∧ (x0_1 - 1) ≤ 9223372036854775807
  n12 : ∀ x0_0 x0_1, I0 x0_0 x0_1 → (0 < x0_1) → (¬ (D.int (gt a0 x0_1.toNat 0)) = (D.int (gt a0 x0_1.toNat 0))) → (¬ (D.int (gt a0 (Int.toNat (x0_1 - 1)) 0)) = (D.int (gt a0 (Int.toNat (x0_1 - 1)) 0))) → (¬ (D.int (gt a0 x0_1.toNat 0)) < (D.int (gt a0 (Int.toNat (x0_1 - 1)) 0))) → I0 x0_0 (x0_1 - 1) ∧ m0 x0_0 (x0_1 - 1) < m0 x0_0 x0_1
  g13 : ∀ x0_0 x0_1, I0 x0_0 x0_1 → (0 < x0_1) → ((D.int (gt a0 x0_1.toNat 0)) = (D.int (gt a0 x0_1.toNat 0))) → ((D.int (gt a0 x0_1.toNat 0)) < (D.int (gt a0 (Int.toNat (x0_1 - 1)) 0))) → R 0 0 = D.b false
  g14 : ∀ x0_0 x0_1, I0 x0_0 x0_1 → (0 < x0_1) → ((D.int (gt a0 x0_1.toNat 0)) = (D.int (gt a0 x0_1.toNat 0))) → (¬ (D.int (gt a0 x0_1.toNat 0)) < (D.int (gt a0 (Int.toNat (x0_1 - 1)) 0))) → -9223372036854775808 ≤ (x0_1 - 1) ∧ (x0_1 - 1) ≤ 9223372036854775807
  n15 : ∀ x0_0 x0_1, I0 x0_0 x0_1 → (0 < x0_1) → ((D.int (gt a0 x0_1.toNat 0)) = (D.int (gt a0 x0_1.toNat 0))) → (¬ (D.int (gt a0 x0_1.toNat 0)) < (D.int (gt a0 (Int.toNat (x0_1 - 1)) 0))) → I0 x0_0 (x0_1 - 1) ∧ m0 x0_0 (x0_1 - 1) < m0 x0_0 x0_1
  g16 : ∀ x0_0 x0_1, I0 x0_0 x0_1 → (¬ 0 < x0_1) → R 0 0 = D.b true
end HX

namespace HX
open Go Go.Proofs CX
structure V18 (pre : Nat → List (List D) → Prop) (fn : Nat → List (List D) → Nat → Nat → D) (a0 : Rows) (R : Nat → Nat → D) (I0 : Int → Int → Prop) (m0 : Int → Int → Nat) : Prop where
  g0 : (1024 < (a0.length : Int)) → R 0 0 = D.i 9
  i0 : (¬ 1024 < (a0.length : Int)) → I0 0 0
  g2 : ∀ x0_0 x0_1, I0 x0_0 x0_1 → (¬ 1024 < (a0.length : Int)) → (x0_1 < (a0.length : Int)) → 0 ≤ x0_1
  g3 : ∀ x0_0 x0_1, I0 x0_0 x0_1 → (¬ 1024 < (a0.length : Int)) → (x0_1 < (a0.length : Int)) → x0_1 < (a0.length : Int)
  g4 : ∀ x0_0 x0_1, I0 x0_0 x0_1 → (¬ 1024 < (a0.length : Int)) → (x0_1 < (a0.length : Int)) → (((Int.toNat x0_1 : Nat) : Int)) < (a0.length : Int)
  g5 : ∀ x0_0 x0_1, I0 x0_0 x0_1 → (¬ 1024 < (a0.length : Int)) → (x0_1 < (a0.length : Int)) → ((D.int (gt a0 x0_1.toNat 0)) < 0) → (0 ≤ x0_1) → R 0 0 = D.i 3
  g6 : ∀ x0_0 x0_1, I0 x0_0 x0_1 → (¬ 1024 < (a0.length : Int)) → (x0_1 < (a0.length : Int)) → ((D.int (gt a0 x0_1.toNat 0)) < 0) → (¬ 0 ≤ x0_1) → pre 38 [[D.l a0]]
  g7 : ∀ x0_0 x0_1, I0 x0_0 x0_1 → (¬ 1024 < (a0.length : Int)) → (x0_1 < (a0.length : Int)) → ((D.int (gt a0 x0_1.toNat 0)) < 0) → (¬ 0 ≤ x0_1) → (D.boo (fn 38 [[D.l a0]] 0 0) = false) → R 0 0 = D.i 2
  g8 : ∀ x0_0 x0_1, I0 x0_0 x0_1 → (¬ 1024 < (a0.length : Int)) → (x0_1 < (a0.length : Int)) → ((D.int (gt a0 x0_1.toNat 0)) < 0) → (¬ 0 ≤ x0_1) → (D.boo (fn 38 [[D.l a0]] 0 0) = true) → R 0 0 = D.i 0
  g9 : ∀ x0_0 x0_1, I0 x0_0 x0_1 → (¬ 1024 < (a0.length : Int)) → (x0_1 < (a0.length : Int)) → (¬ (D.int (gt a0 x0_1.toNat 0)) < 0) → (10000 < (D.int (gt a0 x0_1.toNat 0))) → (0 ≤ x0_1) → R 0 0 = D.i 3
  g10 : ∀ x0_0 x0_1, I0 x0_0 x0_1 → (¬ 1024 < (a0.length : Int)) → (x0_1 < (a0.length : Int)) → (¬ (D.int (gt a0 x0_1.toNat 0)) < 0) → (10000 < (D.int (gt a0 x0_1.toNat 0))) → (¬ 0 ≤ x0_1) → pre 38 [[D.l a0]]
  g11 : ∀ x0_0 x0_1, I0 x0_0 x0_1 → (¬ 1024 < (a0.length : Int)) → (x0_1 < (a0.length : Int)) → (¬ (D.int (gt a0 x0_1.toNat 0)) < 0) → (10000 < (D.int (gt a0 x0_1.toNat 0))) → (¬ 0 ≤ x0_1) → (D.boo (fn 38 [[D.l a0]] 0 0) = false) → R 0 0 = D.i 2
  g12 : ∀ x0_0 x0_1, I0 x0_0 x0_1 → (¬ 1024 < (a0.length : Int)) → (x0_1 < (a0.length : Int)) → (¬ (D.int (gt a0 x0_1.toNat 0)) < 0) → (10000 < (D.int (gt a0 x0_1.toNat 0))) → (¬ 0 ≤ x0_1) → (D.boo (fn 38 [[D.l a0]] 0 0) = true) → R 0 0 = D.i 0
  g13 : ∀ x0_0 x0_1, I0 x0_0 x0_1 → (¬ 1024 < (a0.length : Int)) → (x0_1 < (a0.length : Int)) → (¬ (D.int (gt a0 x0_1.toNat 0)) < 0) → (¬ 10000 < (D.int (gt a0 x0_1.toNat 0))) → -9223372036854775808 ≤ (x0_1 + 1) ∧ (x0_1 + 1) ≤ 9223372036854775807
  n14 : ∀ x0_0 x0_1, I0 x0_0 x0_1 → (¬ 1024 < (a0.length : Int)) → (x0_1 < (a0.length : Int)) → (¬ (D.int (gt a0 x0_1.toNat 0)) < 0) → (¬ 10000 < (D.int (gt a0 x0_1.toNat 0))) → I0 x0_0 (x0_1 + 1) ∧ m0 x0_0 (x0_1 + 1) < m0 x0_0 x0_1
  g16 : ∀ x0_0 x0_1, I0 x0_0 x0_1 → (¬ 1024 < (a0.length : Int)) → (¬ x0_1 < (a0.length : Int)) → pre 38 [[D.l a0]]
  g17 : ∀ x0_0 x0_1, I0 x0_0 x0_1 → (¬ 1024 < (a0.length : Int)) → (¬ x0_1 < (a0.length : Int)) → (D.boo (fn 38 [[D.l a0]] 0 0) = false) → R 0 0 = D.i 2
  g18 : ∀ x0_0 x0_1, I0 x0_0 x0_1 → (¬ 1024 < (a0.length : Int)) → (¬ x0_1 < (a0.length : Int)) → (D.boo (fn 38 [[D.l a0]] 0 0) = true) → R 0 0 = D.i 0
end HX

namespace HX
open Go Go.Proofs CX
structure V7 (pre : Nat → List (List D) → Prop) (fn : Nat → List (List D) → Nat → Nat → D) (a0 : Rows) (a1 : Int) (R : Nat → Nat → D) (I0 : Int → Int → Int → Int → Int → Prop) (m0 : Int → Int → Int → Int → Int → Nat) : Prop where
  g0 : (a1 < 0) → R 0 0 = D.i 0
  g1 : (a1 < 0) → R 1 0 = D.i 3
  g2 : (¬ a1 < 0) → (1024 < a1) → R 0 0 = D.i 0
  g3 : (¬ a1 < 0) → (1024 < a1) → R 1 0 = D.i 3
  g4 : (¬ a1 < 0) → (¬ 1024 < a1) → pre 18 [[D.l a0]]
  g5 : (¬ a1 < 0) → (¬ 1024 < a1) → (¬ (D.int (fn 18 [[D.l a0]] 0 0)) = 0) → R 0 0 = D.i 0
  g6 : (¬ a1 < 0) → (¬ 1024 < a1) → (¬ (D.int (fn 18 [[D.l a0]] 0 0)) = 0) → R 1 0 = D.i (D.int (fn 18 [[D.l a0]] 0 0))
  i0 : (¬ a1 < 0) → (¬ 1024 < a1) → ((D.int (fn 18 [[D.l a0]] 0 0)) = 0) → I0 0 0 a1 0 0
  g8 : ∀ x0_0 x0_1 x0_2 x0_3 x0_4, I0 x0_0 x0_1 x0_2 x0_3 x0_4 → (¬ a1 < 0) → (¬ 1024 < a1) → ((D.int (fn 18 [[D.l a0]] 0 0)) = 0) → (x0_1 < (a0.length : Int)) → 0 ≤ x0_1
  g9 : ∀ x0_0 x0_1 x0_2 x0_3 x0_4, I0 x0_0 x0_1 x0_2 x0_3 x0_4 → (¬ a1 < 0) → (¬ 1024 < a1) → ((D.int (fn 18 [[D.l a0]] 0 0)) = 0) → (x0_1 < (a0.length : Int)) → x0_1 < (a0.length : Int)
  g10 : ∀ x0_0 x0_1 x0_2 x0_3 x0_4, I0 x0_0 x0_1 x0_2 x0_3 x0_4 → (¬ a1 < 0) → (¬ 1024 < a1) → ((D.int (fn 18 [[D.l a0]] 0 0)) = 0) → (x0_1 < (a0.length : Int)) → (((Int.toNat x0_1 : Nat) : Int)) < (a0.length : Int)
  g11 : ∀ x0_0 x0_1 x0_2 x0_3 x0_4, I0 x0_0 x0_1 x0_2 x0_3 x0_4 → (¬ a1 < 0) → (¬ 1024 < a1) → ((D.int (fn 18 [[D.l a0]] 0 0)) = 0) → (x0_1 < (a0.length : Int)) → -9223372036854775808 ≤ ((D.int (gt a0 x0_1.toNat 0)) - x0_4) ∧ ((D.int (gt a0 x0_1.toNat 0)) - x0_4) ≤ 9223372036854775807
  g12 : ∀ x0_0 x0_1 x0_2 x0_3 x0_4, I0 x0_0 x0_1 x0_2 x0_3 x0_4 → (¬ a1 < 0) → (¬ 1024 < a1) → ((D.int (fn 18 [[D.l a0]] 0 0)) = 0) → (x0_1 < (a0.length : Int)) → -9223372036854775808 ≤ (x0_2 * ((D.int (gt a0 x0_1.toNat 0)) - x0_4)) ∧ (x0_2 * ((D.int (gt a0 x0_1.toNat 0)) - x0_4)) ≤ 9223372036854775807
  g13 : ∀ x0_0 x0_1 x0_2 x0_3 x0_4, I0 x0_0 x0_1 x0_2 x0_3 x0_4 → (¬ a1 < 0) → (¬ 1024 < a1) → ((D.int (fn 18 [[D.l a0]] 0 0)) = 0) → (x0_1 < (a0.length : Int)) → -9223372036854775808 ≤ (x0_3 - (x0_2 * ((D.int (gt a0 x0_1.toNat 0)) - x0_4))) ∧ (x0_3 - (x0_2 * ((D.int (gt a0 x0_1.toNat 0)) - x0_4))) ≤ 9223372036854775807
  g14 : ∀ x0_0 x0_1 x0_2 x0_3 x0_4, I0 x0_0 x0_1 x0_2 x0_3 x0_4 → (¬ a1 < 0) → (¬ 1024 < a1) → ((D.int (fn 18 [[D.l a0]] 0 0)) = 0) → (x0_1 < (a0.length : Int)) → -9223372036854775808 ≤ ((mxI 0 (x0_3 - (x0_2 * ((D.int (gt a0 x0_1.toNat 0)) - x0_4)))) + 1024) ∧ ((mxI 0 (x0_3 - (x0_2 * ((D.int (gt a0 x0_1.toNat 0)) - x0_4)))) + 1024) ≤ 9223372036854775807
  g15 : ∀ x0_0 x0_1 x0_2 x0_3 x0_4, I0 x0_0 x0_1 x0_2 x0_3 x0_4 → (¬ a1 < 0) → (¬ 1024 < a1) → ((D.int (fn 18 [[D.l a0]] 0 0)) = 0) → (x0_1 < (a0.length : Int)) → -9223372036854775808 ≤ (((mxI 0 (x0_3 - (x0_2 * ((D.int (gt a0 x0_1.toNat 0)) - x0_4)))) + 1024) - x0_2) ∧ (((mxI 0 (x0_3 - (x0_2 * ((D.int (gt a0 x0_1.toNat 0)) - x0_4)))) + 1024) - x0_2) ≤ 9223372036854775807
  g16 : ∀ x0_0 x0_1 x0_2 x0_3 x0_4, I0 x0_0 x0_1 x0_2 x0_3 x0_4 → (¬ a1 < 0) → (¬ 1024 < a1) → ((D.int (fn 18 [[D.l a0]] 0 0)) = 0) → (x0_1 < (a0.length : Int)) → -9223372036854775808 ≤ (x0_1 + 1) ∧ (x0_1 + 1) ≤ 9223372036854775807
  n17 : ∀ x0_0 x0_1 x0_2 x0_3 x0_4, I0 x0_0 x0_1 x0_2 x0_3 x0_4 → (¬ a1 < 0) → (¬ 1024 < a1) → ((D.int (fn 18 [[D.l a0]] 0 0)) = 0) → (x0_1 < (a0.length : Int)) → I0 (mxI x0_0 (mxI 0 (((mxI 0 (x0_3 - (x0_2 * ((D.int (gt a0 x0_1.toNat 0)) - x0_4)))) + 1024) - x0_2))) (x0_1 + 1) x0_2 ((mxI 0 (x0_3 - (x0_2 * ((D.int (gt a0 x0_1.toNat 0)) - x0_4)))) + 1024) (D.int (gt a0 x0_1.toNat 0)) ∧ m0 (mxI x0_0 (mxI 0 (((mxI 0 (x0_3 - (x0_2 * ((D.int (gt a0 x0_1.toNat 0)) - x0_4)))) + 1024) - x0_2))) (x0_1 + 1) x0_2 ((mxI 0 (x0_3 - (x0_2 * ((D.int (gt a0 x0_1.toNat 0)) - x0_4)))) + 1024) (D.int (gt a0 x0_1.toNat 0)) < m0 x0_0 x0_1 x0_2 x0_3 x0_4
  g18 : ∀ x0_0 x0_1 x0_2 x0_3 x0_4, I0 x0_0 x0_1 x0_2 x0_3 x0_4 → (¬ a1 < 0) → (¬ 1024 < a1) → ((D.int (fn 18 [[D.l a0]] 0 0)) = 0) → (¬ x0_1 < (a0.length : Int)) → R 0 0 = D.i x0_0
  g19 : ∀ x0_0 x0_1 x0_2 x0_3 x0_4, I0 x0_0 x0_1 x0_2 x0_3 x0_4 → (¬ a1 < 0) → (¬ 1024 < a1) → ((D.int (fn 18 [[D.l a0]] 0 0)) = 0) → (¬ x0_1 < (a0.length : Int)) → R 1 0 = D.i 0
end HX

namespace HX
open Go Go.Proofs CX
structure V10 (pre : Nat → List (List D) → Prop) (fn : Nat → List (List D) → Nat → Nat → D) (a0 : Rows) (a1_0 : Int) (a1_1 : Int) (R : Nat → Nat → D)  : Prop where
  g0 : pre 20 [[D.i a1_0, D.i a1_1]]
  g1 : (¬ (D.int (fn 20 [[D.i a1_0, D.i a1_1]] 0 0)) = 0) → R 0 0 = D.b false
  g2 : (¬ (D.int (fn 20 [[D.i a1_0, D.i a1_1]] 0 0)) = 0) → R 1 0 = D.i (D.int (fn 20 [[D.i a1_0, D.i a1_1]] 0 0))
  g3 : ((D.int (fn 20 [[D.i a1_0, D.i a1_1]] 0 0)) = 0) → pre 7 [[D.l a0], [D.i a1_1]]
  g4 : ((D.int (fn 20 [[D.i a1_0, D.i a1_1]] 0 0)) = 0) → ((D.int (fn 7 [[D.l a0], [D.i a1_1]] 1 0)) = 0) → R 0 0 = D.b (decide ((D.int (fn 7 [[D.l a0], [D.i a1_1]] 0 0)) ≤ a1_0))
  g5 : ((D.int (fn 20 [[D.i a1_0, D.i a1_1]] 0 0)) = 0) → ((D.int (fn 7 [[D.l a0], [D.i a1_1]] 1 0)) = 0) → R 1 0 = D.i (D.int (fn 7 [[D.l a0], [D.i a1_1]] 1 0))
  g6 : ((D.int (fn 20 [[D.i a1_0, D.i a1_1]] 0 0)) = 0) → (¬ (D.int (fn 7 [[D.l a0], [D.i a1_1]] 1 0)) = 0) → R 0 0 = D.b false
  g7 : ((D.int (fn 20 [[D.i a1_0, D.i a1_1]] 0 0)) = 0) → (¬ (D.int (fn 7 [[D.l a0], [D.i a1_1]] 1 0)) = 0) → R 1 0 = D.i (D.int (fn 7 [[D.l a0], [D.i a1_1]] 1 0))
end HX

namespace HX
open Go Go.Proofs CX
structure V12 (a0 : Rows) (a1 : Rows) (R : Nat → Nat → D) (I0 : Bool → Int → Prop) (m0 : Bool → Int → Nat) : Prop where
  g0 : (¬ (a0.length : Int) = (a1.length : Int)) → R 0 0 = D.b false
  i0 : ((a0.length : Int) = (a1.length : Int)) → I0 false 0
  g2 : ∀ x0_0 x0_1, I0 x0_0 x0_1 → ((a0.length : Int) = (a1.length : Int)) → (x0_1 < (a0.length : Int)) → 0 ≤ x0_1
  g3 : ∀ x0_0 x0_1, I0 x0_0 x0_1 → ((a0.length : Int) = (a1.length : Int)) → (x0_1 < (a0.length : Int)) → x0_1 < (a0.length : Int)
  g4 : ∀ x0_0 x0_1, I0 x0_0 x0_1 → ((a0.length : Int) = (a1.length : Int)) → (x0_1 < (a0.length : Int)) → (((Int.toNat x0_1 : Nat) : Int)) < (a0.length : Int)
  g6 : ∀ x0_0 x0_1, I0 x0_0 x0_1 → ((a0.length : Int) = (a1.length : Int)) → (x0_1 < (a0.length : Int)) → x0_1 < (a1.length : Int)
  g7 : ∀ x0_0 x0_1, I0 x0_0 x0_1 → ((a0.length : Int) = (a1.length : Int)) → (x0_1 < (a0.length : Int)) → (((Int.toNat x0_1 : Nat) : Int)) < (a1.length : Int)
  g8 : ∀ x0_0 x0_1, I0 x0_0 x0_1 → ((a0.length : Int) = (a1.length : Int)) → (x0_1 < (a0.length : Int)) → (¬ (D.int (gt a0 x0_1.toNat 0)) = (D.int (gt a1 x0_1.toNat 0))) → R 0 0 = D.b false
  g9 : ∀ x0_0 x0_1, I0 x0_0 x0_1 → ((a0.length : Int) = (a1.length : Int)) → (x0_1 < (a0.length : Int)) → ((D.int (gt a0 x0_1.toNat 0)) = (D.int (gt a1 x0_1.toNat 0))) → -9223372036854775808 ≤ (x0_1 + 1) ∧ (x0_1 + 1) ≤ 9223372036854775807
  n10 : ∀ x0_0 x0_1, I0 x0_0 x0_1 → ((a0.length : Int) = (a1.length : Int)) → (x0_1 < (a0.length : Int)) → ((D.int (gt a0 x0_1.toNat 0)) = (D.int (gt a1 x0_1.toNat 0))) → I0 x0_0 (x0_1 + 1) ∧ m0 x0_0 (x0_1 + 1) < m0 x0_0 x0_1
  g11 : ∀ x0_0 x0_1, I0 x0_0 x0_1 → ((a0.length : Int) = (a1.length : Int)) → (¬ x0_1 < (a0.length : Int)) → R 0 0 = D.b true
end HX

namespace HX
open Go Go.Proofs CX
structure V9 (a0 : Int) (a1 : Int) (R : Nat → Nat → D)  : Prop where
  g0 : R 0 0 = D.i a0
  g1 : R 0 1 = D.i a1
end HX

namespace HX
open Go Go.Proofs CX

theorem law9 {a0 a1 : Int} {R : Nat → Nat → D} (h0 : R 0 0 = .i a0) (h1 : R 0 1 = .i a1) : V9 a0 a1 R := by
  constructor
  · exact h0
  · exact h1

theorem law21 {a0 : Rows} (hlen : a0.length ≤ 9223372036854775807) {R : Nat → Nat → D} (hR : R 0 0 = .i (allE a0)) :
    V21 a0 R (fun _ i => ∃ q : Nat, i = q ∧ q ≤ a0.length ∧ ∀ j < q, crE (wI (a0.getD j [])) (rI (a0.getD j [])) = 0) (fun _ i => (a0.length - i).toNat) := by
  constructor
  all_goals (try (intro e i hI; obtain ⟨q, hx, hq, hj⟩ := hI; subst hx))
  all_goals (intros; (try simp only [gt_wI, gt_rI, Int.toNat_natCast] at *))
  all_goals (try omega)
  case i0 => exact ⟨0, rfl, by omega, fun j hj => by omega⟩
  case n9 =>
    refine ⟨⟨q + 1, by omega, by omega, fun j h => ?_⟩, by omega⟩
    by_cases e : j = q
    · subst e; exact crE_0.2 (by omega)
    · exact hj j (by omega)
  case g10 =>
    have h : okC a0 := fun x hx => by obtain ⟨j, h1, rfl⟩ := mem_row hx; exact hj j (by omega)
    rw [hR, allE_0.2 h]
  all_goals
    have h : ¬ okC a0 := fun h => by have := okC_row h (q := q) (by omega); omega
    rw [hR, allE, if_neg h]

theorem law20 {pre : Nat → List (List D) → Prop} {fn : Nat → List (List D) → Nat → Nat → D} (hp21 : ∀ x, pre 21 x) (hf21 : ∀ l, fn 21 [[.l l]] 0 0 = .i (allE l))
    {a0_0 a0_1 : Int} {R : Nat → Nat → D} (hR : R 0 0 = .i (crE a0_0 a0_1)) : V20 pre fn a0_0 a0_1 R := by
  have hi : ∀ n : Int, (D.i n).int = n := fun _ => rfl
  constructor
  · exact hp21 _
  · rw [hR, hf21, hi]
    congr 1
    by_cases h : crE a0_0 a0_1 = 0
    · rw [h, allE_0.2 (fun x hx => by simp only [List.mem_cons, List.not_mem_nil, or_false] at hx; subst hx; exact h)]
    · rw [crE_ne h, allE_ne (fun hh => h (allE_0.1 hh [.i a0_0, .i a0_1] (by simp)))]

open Classical in
theorem law38 {a0 : Rows} (hlen : a0.length ≤ 9223372036854775807) {R : Nat → Nat → D} (hR : R 0 0 = .b (decide (srt a0))) :
    V38 a0 R (fun _ i => (-1 ≤ i ∧ i ≤ (a0.length : Int) - 1) ∧ ∀ j : Nat, i ≤ j → j + 1 < a0.length → tI a0 j ≤ tI a0 (j + 1)) (fun _ i => i.toNat) := by
  constructor
  case i0 => exact ⟨by omega, fun j h1 h2 => by omega⟩
  case g0 => omega
  all_goals (intro e i hI; obtain ⟨⟨h1, h2⟩, h3⟩ := hI; intros; (try contradiction); (try omega); (try simp only [gt_tI] at *))
  case g13 =>
    rw [hR, decide_eq_false]
    intro hs
    have := hs (i - 1).toNat (by omega)
    rw [show (i - 1).toNat + 1 = i.toNat by omega] at this
    omega
  case n15 =>
    refine ⟨⟨by omega, fun j h4 h5 => ?_⟩, by omega⟩
    by_cases e : j = (i - 1).toNat
    · rw [show j + 1 = i.toNat by omega, e]; omega
    · exact h3 j (by omega) h5
  case g16 =>
    rw [hR, decide_eq_true]
    exact fun j hj => h3 j (by omega) hj

theorem tmE_9 {l : Rows} (h : 1024 < (l.length : Int)) : tmE l = 9 := by rw [tmE, if_pos h]
theorem tmE_3 {l : Rows} (h : ¬ 1024 < (l.length : Int)) (hi : ¬ inT l) : tmE l = 3 := by rw [tmE, if_neg h, if_pos hi]
theorem tmE_2 {l : Rows} (h : ¬ 1024 < (l.length : Int)) (hi : inT l) (hs : ¬ srt l) : tmE l = 2 := by rw [tmE, if_neg h, if_neg (fun h => h hi), if_pos hs]
theorem tmE_ok {l : Rows} (h : ¬ 1024 < (l.length : Int)) (hi : inT l) (hs : srt l) : tmE l = 0 := by rw [tmE, if_neg h, if_neg (fun h => h hi), if_neg (fun h => h hs)]

open Classical in
theorem law18 {pre : Nat → List (List D) → Prop} {fn : Nat → List (List D) → Nat → Nat → D} (hp38 : ∀ x, pre 38 x) (hf38 : ∀ l, fn 38 [[.l l]] 0 0 = .b (decide (srt l)))
    {a0 : Rows} (hlen : a0.length ≤ 9223372036854775807) {R : Nat → Nat → D} (hR : R 0 0 = .i (tmE a0)) :
    V18 pre fn a0 R (fun _ i => ∃ q : Nat, i = q ∧ q ≤ a0.length ∧ ∀ j < q, 0 ≤ tI a0 j ∧ tI a0 j ≤ 10000) (fun _ i => (a0.length - i).toNat) := by
  have hb : ∀ b : Bool, (D.b b).boo = b := fun _ => rfl
  constructor
  case g0 => intro h; rw [hR, tmE_9 h]
  case i0 => exact fun _ => ⟨0, rfl, by omega, fun j hj => by omega⟩
  all_goals (intro e i hI; obtain ⟨q, hx, hq, hj⟩ := hI; subst hx)
  all_goals (intros; (try simp only [gt_tI, Int.toNat_natCast, hf38, hb, decide_eq_false_iff_not, decide_eq_true_eq] at *))
  all_goals (try omega)
  all_goals (try exact hp38 _)
  case n14 =>
    refine ⟨⟨q + 1, by omega, by omega, fun j h => ?_⟩, by omega⟩
    by_cases e : j = q
    · subst e; constructor <;> omega
    · exact hj j (by omega)
  case g17 =>
    have hi : inT a0 := fun j h => hj j (by omega)
    rw [hR, tmE_2 (by omega) hi (by assumption)]
  case g18 =>
    have hi : inT a0 := fun j h => hj j (by omega)
    rw [hR, tmE_ok (by omega) hi (by assumption)]
  all_goals
    have hi : ¬ inT a0 := fun h => by have := h q (by omega); have := this.1; have := this; omega
    rw [hR, tmE_3 (by omega) hi]

noncomputable def buE (l : Rows) (r : Int) : Int := if r < 0 ∨ 1024 < r then 3 else tmE l
noncomputable def buB (l : Rows) (r : Int) : Int := if buE l r = 0 then mst l r l.length else 0
theorem buE_3 {l : Rows} {r : Int} (h : r < 0 ∨ 1024 < r) : buE l r = 3 ∧ buB l r = 0 := by
  have e : buE l r = 3 := by rw [buE, if_pos h]
  exact ⟨e, by rw [buB, e, if_neg (by omega)]⟩
theorem buE_t {l : Rows} {r : Int} (h1 : ¬ r < 0) (h2 : ¬ 1024 < r) : buE l r = tmE l := by rw [buE, if_neg (by omega)]
theorem buB_0 {l : Rows} {r : Int} (h1 : ¬ r < 0) (h2 : ¬ 1024 < r) (h : ¬ tmE l = 0) : buB l r = 0 := by rw [buB, buE_t h1 h2, if_neg h]
theorem buB_m {l : Rows} {r : Int} (h1 : ¬ r < 0) (h2 : ¬ 1024 < r) (h : tmE l = 0) : buB l r = mst l r l.length := by rw [buB, buE_t h1 h2, if_pos h]

theorem law7 {pre : Nat → List (List D) → Prop} {fn : Nat → List (List D) → Nat → Nat → D} (hp18 : ∀ x, pre 18 x) (hf18 : ∀ l, fn 18 [[.l l]] 0 0 = .i (tmE l))
    {a0 : Rows} {a1 : Int} {R : Nat → Nat → D} (hR0 : R 0 0 = .i (buB a0 a1)) (hR1 : R 1 0 = .i (buE a0 a1)) :
    V7 pre fn a0 a1 R (fun m i x lv la => ∃ q : Nat, i = q ∧ q ≤ a0.length ∧ m = mst a0 a1 q ∧ x = a1 ∧ lv = lev a0 a1 q ∧ la = lst a0 q) (fun _ i _ _ _ => (a0.length - i).toNat) := by
  have hi : ∀ n : Int, (D.i n).int = n := fun _ => rfl
  constructor
  case g4 => intros; exact hp18 _
  all_goals (try simp only [hf18, hi])
  case g0 | g1 | g2 | g3 => intros; first | rw [hR0, (buE_3 (l := a0) (r := a1) (by omega)).2] | rw [hR1, (buE_3 (l := a0) (r := a1) (by omega)).1]
  case g5 => intro h1 h2 h3; rw [hR0, buB_0 h1 h2 h3]
  case g6 => intro h1 h2 h3; rw [hR1, buE_t h1 h2]
  case i0 => exact fun _ _ _ => ⟨0, rfl, by omega, rfl, by trivial, rfl, rfl⟩
  all_goals (intro m i x lv la hI h1 h2 h3 h4; obtain ⟨q, hx, hq, e1, e2, e3, e4⟩ := hI; subst hx e1 e2 e3 e4; obtain ⟨hl, hin, hs⟩ := tmE_0 h3; (try simp only [gt_tI, Int.toNat_natCast]))
  case g18 => rw [hR0, buB_m h1 h2 h3, show q = a0.length by omega]
  case g19 => rw [hR1, buE_t h1 h2, h3]
  case n17 => exact ⟨⟨q + 1, by omega, by omega, rfl, by trivial, rfl, rfl⟩, by omega⟩
  all_goals
    have hb := lev_bd (r := x) (by omega) (by omega) hin hs q hq
    have hle := lst_le hin hs (q := q) (by omega)
    have hu := hin q (by omega)
    have hm := mulN (r := x) (by omega) (by omega) (w := tI a0 q - lst a0 q) (N := 10000) (by omega) (by omega)
    (try simp only [mxI_eq])
    omega

noncomputable def kpE (l : Rows) (b r : Int) : Int := if crE b r = 0 then buE l r else crE b r
open Classical in
noncomputable def kpB (l : Rows) (b r : Int) : Bool := decide ((crE b r = 0 ∧ buE l r = 0) ∧ buB l r ≤ b)
theorem law10 {pre : Nat → List (List D) → Prop} {fn : Nat → List (List D) → Nat → Nat → D} (hp20 : ∀ x, pre 20 x) (hf20 : ∀ a b, fn 20 [[.i a, .i b]] 0 0 = .i (crE a b))
    (hp7 : ∀ x, pre 7 x) (hf7 : ∀ l r, fn 7 [[.l l], [.i r]] 0 0 = .i (buB l r) ∧ fn 7 [[.l l], [.i r]] 1 0 = .i (buE l r))
    {a0 : Rows} {b r : Int} {R : Nat → Nat → D} (hR0 : R 0 0 = .b (kpB a0 b r)) (hR1 : R 1 0 = .i (kpE a0 b r)) : V10 pre fn a0 b r R := by
  have hi : ∀ n : Int, (D.i n).int = n := fun _ => rfl
  constructor
  all_goals (try simp only [hf20, hf7, hi])
  case g0 => exact hp20 _
  case g3 => exact fun _ => hp7 _
  case g1 => intro h; rw [hR0, kpB, decide_eq_false fun x => h x.1.1]
  case g2 => intro h; rw [hR1, kpE, if_neg h]
  case g4 =>
    intro h1 h2
    rw [hR0, kpB]
    congr 1
    exact decide_eq_decide.2 ⟨fun x => x.2, fun x => ⟨⟨h1, h2⟩, x⟩⟩
  case g6 => intro h1 h2; rw [hR0, kpB, decide_eq_false fun x => h2 x.1.2]
  case g5 | g7 => intro h1 h2; rw [hR1, kpE, if_pos h1]
end HX

namespace HX
open Go Go.Proofs CX
structure V6 (a0 : Rows) (R : Nat → Nat → D) (I0 : Int → Rows → Int → Prop) (m0 : Int → Rows → Int → Nat) : Prop where
  i0 : I0 0 [] 0
  g1 : ∀ x0_0 x0_1 x0_2, I0 x0_0 x0_1 x0_2 → (x0_2 < (a0.length : Int)) → 0 ≤ x0_2
  g2 : ∀ x0_0 x0_1 x0_2, I0 x0_0 x0_1 x0_2 → (x0_2 < (a0.length : Int)) → x0_2 < (a0.length : Int)
  g3 : ∀ x0_0 x0_1 x0_2, I0 x0_0 x0_1 x0_2 → (x0_2 < (a0.length : Int)) → (((Int.toNat x0_2 : Nat) : Int)) < (a0.length : Int)
  g4 : ∀ x0_0 x0_1 x0_2, I0 x0_0 x0_1 x0_2 → (x0_2 < (a0.length : Int)) → -9223372036854775808 ≤ (D.int (gt a0 x0_2.toNat 0)) ∧ (D.int (gt a0 x0_2.toNat 0)) ≤ 9223372036854775807
  g5 : ∀ x0_0 x0_1 x0_2, I0 x0_0 x0_1 x0_2 → (x0_2 < (a0.length : Int)) → (7 : Int) ≠ 0
  g6 : ∀ x0_0 x0_1 x0_2, I0 x0_0 x0_1 x0_2 → (x0_2 < (a0.length : Int)) → -9223372036854775808 ≤ (x0_0 + (Int.tmod (D.int (gt a0 x0_2.toNat 0)) 7)) ∧ (x0_0 + (Int.tmod (D.int (gt a0 x0_2.toNat 0)) 7)) ≤ 9223372036854775807
  g7 : ∀ x0_0 x0_1 x0_2, I0 x0_0 x0_1 x0_2 → (x0_2 < (a0.length : Int)) → (x0_1.length + (List.length ([[D.i (x0_0 + (Int.tmod (D.int (gt a0 x0_2.toNat 0)) 7))]] : Rows))) * 8 ≤ 4294967296 ∧ (x0_1.length + (List.length ([[D.i (x0_0 + (Int.tmod (D.int (gt a0 x0_2.toNat 0)) 7))]] : Rows))) ≤ 4294967296
  g8 : ∀ x0_0 x0_1 x0_2, I0 x0_0 x0_1 x0_2 → (x0_2 < (a0.length : Int)) → -9223372036854775808 ≤ (x0_2 + 1) ∧ (x0_2 + 1) ≤ 9223372036854775807
  n9 : ∀ x0_0 x0_1 x0_2, I0 x0_0 x0_1 x0_2 → (x0_2 < (a0.length : Int)) → I0 (x0_0 + (Int.tmod (D.int (gt a0 x0_2.toNat 0)) 7)) (x0_1 ++ [[D.i (x0_0 + (Int.tmod (D.int (gt a0 x0_2.toNat 0)) 7))]]) (x0_2 + 1) ∧ m0 (x0_0 + (Int.tmod (D.int (gt a0 x0_2.toNat 0)) 7)) (x0_1 ++ [[D.i (x0_0 + (Int.tmod (D.int (gt a0 x0_2.toNat 0)) 7))]]) (x0_2 + 1) < m0 x0_0 x0_1 x0_2
  g10 : ∀ x0_0 x0_1 x0_2, I0 x0_0 x0_1 x0_2 → (¬ x0_2 < (a0.length : Int)) → R 0 0 = D.l x0_1
end HX

namespace HX
open Go Go.Proofs CX
structure V8 (a0 : Rows) (a1_0 : Int) (a1_1 : Int) (R : Nat → Nat → D) (I0 : Bool → Int → Prop) (m0 : Bool → Int → Nat) (I1 : Bool → Int → Bool → Int → Prop) (m1 : Bool → Int → Bool → Int → Nat) : Prop where
  i0 : I0 false 0
  i1 : ∀ x0_0 x0_1, I0 x0_0 x0_1 → (x0_1 < (a0.length : Int)) → I1 x0_0 x0_1 x0_0 x0_1
  g2 : ∀ x0_0 x0_1, I0 x0_0 x0_1 → ∀ x1_0 x1_1, I1 x0_0 x0_1 x1_0 x1_1 → (x0_1 < (a0.length : Int)) → (x1_1 < (a0.length : Int)) → -9223372036854775808 ≤ (x1_1 - x0_1) ∧ (x1_1 - x0_1) ≤ 9223372036854775807
  g3 : ∀ x0_0 x0_1, I0 x0_0 x0_1 → ∀ x1_0 x1_1, I1 x0_0 x0_1 x1_0 x1_1 → (x0_1 < (a0.length : Int)) → (x1_1 < (a0.length : Int)) → -9223372036854775808 ≤ ((x1_1 - x0_1) + 1) ∧ ((x1_1 - x0_1) + 1) ≤ 9223372036854775807
  g4 : ∀ x0_0 x0_1, I0 x0_0 x0_1 → ∀ x1_0 x1_1, I1 x0_0 x0_1 x1_0 x1_1 → (x0_1 < (a0.length : Int)) → (x1_1 < (a0.length : Int)) → -9223372036854775808 ≤ (1024 * ((x1_1 - x0_1) + 1)) ∧ (1024 * ((x1_1 - x0_1) + 1)) ≤ 9223372036854775807
  g5 : ∀ x0_0 x0_1, I0 x0_0 x0_1 → ∀ x1_0 x1_1, I1 x0_0 x0_1 x1_0 x1_1 → (x0_1 < (a0.length : Int)) → (x1_1 < (a0.length : Int)) → 0 ≤ x1_1
  g6 : ∀ x0_0 x0_1, I0 x0_0 x0_1 → ∀ x1_0 x1_1, I1 x0_0 x0_1 x1_0 x1_1 → (x0_1 < (a0.length : Int)) → (x1_1 < (a0.length : Int)) → x1_1 < (a0.length : Int)
  g7 : ∀ x0_0 x0_1, I0 x0_0 x0_1 → ∀ x1_0 x1_1, I1 x0_0 x0_1 x1_0 x1_1 → (x0_1 < (a0.length : Int)) → (x1_1 < (a0.length : Int)) → (((Int.toNat x1_1 : Nat) : Int)) < (a0.length : Int)
  g8 : ∀ x0_0 x0_1, I0 x0_0 x0_1 → ∀ x1_0 x1_1, I1 x0_0 x0_1 x1_0 x1_1 → (x0_1 < (a0.length : Int)) → (x1_1 < (a0.length : Int)) → 0 ≤ x0_1
  g9 : ∀ x0_0 x0_1, I0 x0_0 x0_1 → ∀ x1_0 x1_1, I1 x0_0 x0_1 x1_0 x1_1 → (x0_1 < (a0.length : Int)) → (x1_1 < (a0.length : Int)) → x0_1 < (a0.length : Int)
  g10 : ∀ x0_0 x0_1, I0 x0_0 x0_1 → ∀ x1_0 x1_1, I1 x0_0 x0_1 x1_0 x1_1 → (x0_1 < (a0.length : Int)) → (x1_1 < (a0.length : Int)) → (((Int.toNat x0_1 : Nat) : Int)) < (a0.length : Int)
  g11 : ∀ x0_0 x0_1, I0 x0_0 x0_1 → ∀ x1_0 x1_1, I1 x0_0 x0_1 x1_0 x1_1 → (x0_1 < (a0.length : Int)) → (x1_1 < (a0.length : Int)) → -9223372036854775808 ≤ ((D.int (gt a0 x1_1.toNat 0)) - (D.int (gt a0 x0_1.toNat 0))) ∧ ((D.int (gt a0 x1_1.toNat 0)) - (D.int (gt a0 x0_1.toNat 0))) ≤ 9223372036854775807
  g12 : ∀ x0_0 x0_1, I0 x0_0 x0_1 → ∀ x1_0 x1_1, I1 x0_0 x0_1 x1_0 x1_1 → (x0_1 < (a0.length : Int)) → (x1_1 < (a0.length : Int)) → -9223372036854775808 ≤ (((D.int (gt a0 x1_1.toNat 0)) - (D.int (gt a0 x0_1.toNat 0))) + 1) ∧ (((D.int (gt a0 x1_1.toNat 0)) - (D.int (gt a0 x0_1.toNat 0))) + 1) ≤ 9223372036854775807
  g13 : ∀ x0_0 x0_1, I0 x0_0 x0_1 → ∀ x1_0 x1_1, I1 x0_0 x0_1 x1_0 x1_1 → (x0_1 < (a0.length : Int)) → (x1_1 < (a0.length : Int)) → -9223372036854775808 ≤ (a1_1 * (((D.int (gt a0 x1_1.toNat 0)) - (D.int (gt a0 x0_1.toNat 0))) + 1)) ∧ (a1_1 * (((D.int (gt a0 x1_1.toNat 0)) - (D.int (gt a0 x0_1.toNat 0))) + 1)) ≤ 9223372036854775807
  g14 : ∀ x0_0 x0_1, I0 x0_0 x0_1 → ∀ x1_0 x1_1, I1 x0_0 x0_1 x1_0 x1_1 → (x0_1 < (a0.length : Int)) → (x1_1 < (a0.length : Int)) → -9223372036854775808 ≤ (a1_0 + (a1_1 * (((D.int (gt a0 x1_1.toNat 0)) - (D.int (gt a0 x0_1.toNat 0))) + 1))) ∧ (a1_0 + (a1_1 * (((D.int (gt a0 x1_1.toNat 0)) - (D.int (gt a0 x0_1.toNat 0))) + 1))) ≤ 9223372036854775807
  g15 : ∀ x0_0 x0_1, I0 x0_0 x0_1 → ∀ x1_0 x1_1, I1 x0_0 x0_1 x1_0 x1_1 → (x0_1 < (a0.length : Int)) → (x1_1 < (a0.length : Int)) → ((a1_0 + (a1_1 * (((D.int (gt a0 x1_1.toNat 0)) - (D.int (gt a0 x0_1.toNat 0))) + 1))) < (1024 * ((x1_1 - x0_1) + 1))) → R 0 0 = D.b false
  g16 : ∀ x0_0 x0_1, I0 x0_0 x0_1 → ∀ x1_0 x1_1, I1 x0_0 x0_1 x1_0 x1_1 → (x0_1 < (a0.length : Int)) → (x1_1 < (a0.length : Int)) → (¬ (a1_0 + (a1_1 * (((D.int (gt a0 x1_1.toNat 0)) - (D.int (gt a0 x0_1.toNat 0))) + 1))) < (1024 * ((x1_1 - x0_1) + 1))) → -9223372036854775808 ≤ (x1_1 + 1) ∧ (x1_1 + 1) ≤ 9223372036854775807
  n17 : ∀ x0_0 x0_1, I0 x0_0 x0_1 → ∀ x1_0 x1_1, I1 x0_0 x0_1 x1_0 x1_1 → (x0_1 < (a0.length : Int)) → (x1_1 < (a0.length : Int)) → (¬ (a1_0 + (a1_1 * (((D.int (gt a0 x1_1.toNat 0)) - (D.int (gt a0 x0_1.toNat 0))) + 1))) < (1024 * ((x1_1 - x0_1) + 1))) → I1 x0_0 x0_1 x1_0 (x1_1 + 1) ∧ m1 x0_0 x0_1 x1_0 (x1_1 + 1) < m1 x0_0 x0_1 x1_0 x1_1
  g18 : ∀ x0_0 x0_1, I0 x0_0 x0_1 → ∀ x1_0 x1_1, I1 x0_0 x0_1 x1_0 x1_1 → (x0_1 < (a0.length : Int)) → (¬ x1_1 < (a0.length : Int)) → -9223372036854775808 ≤ (x0_1 + 1) ∧ (x0_1 + 1) ≤ 9223372036854775807
  n19 : ∀ x0_0 x0_1, I0 x0_0 x0_1 → ∀ x1_0 x1_1, I1 x0_0 x0_1 x1_0 x1_1 → (x0_1 < (a0.length : Int)) → (¬ x1_1 < (a0.length : Int)) → I0 x1_0 (x0_1 + 1) ∧ m0 x1_0 (x0_1 + 1) < m0 x0_0 x0_1
  g20 : ∀ x0_0 x0_1, I0 x0_0 x0_1 → (¬ x0_1 < (a0.length : Int)) → R 0 0 = D.b true
end HX

namespace HX
open Go Go.Proofs CX

def u8L (l : Rows) : Prop := ∀ r ∈ l, 0 ≤ wI r ∧ wI r ≤ 255
def risT (l : Rows) : Nat → Int
  | 0 => 0
  | q + 1 => risT l q + Int.tmod (tI l q) 7
def risP (l : Rows) (n : Nat) : Rows := (List.range n).map fun q => [.i (risT l (q + 1))]
theorem risP_len (l : Rows) (n : Nat) : (risP l n).length = n := by simp [risP]
theorem risP_succ (l : Rows) (n : Nat) : risP l (n + 1) = risP l n ++ [[.i (risT l n + Int.tmod (tI l n) 7)]] := by
  rw [risP, List.range_succ, List.map_append]
  rfl
theorem risP_t {l : Rows} {n q : Nat} (h : q < n) : tI (risP l n) q = risT l (q + 1) := by
  show wI _ = _
  rw [List.getD_eq_getElem?_getD, risP, List.getElem?_map, List.getElem?_range h]
  rfl
theorem ris_step {l : Rows} (hu : u8L l) {q : Nat} (h : q < l.length) : 0 ≤ Int.tmod (tI l q) 7 ∧ Int.tmod (tI l q) 7 ≤ 6 := by
  have := hu _ (row_mem h)
  rw [Int.tmod_eq_emod_of_nonneg this.1]
  omega
theorem risT_bd {l : Rows} (hu : u8L l) : ∀ q, q ≤ l.length → 0 ≤ risT l q ∧ risT l q ≤ 6 * q
  | 0, _ => ⟨Int.le_refl 0, Int.le_refl 0⟩
  | q + 1, h => by
    have ih := risT_bd hu q (by omega)
    have := ris_step hu (q := q) (by omega)
    rw [show risT l (q + 1) = risT l q + Int.tmod (tI l q) 7 from rfl]
    omega
theorem ris_ok {l : Rows} (hu : u8L l) (hl : l.length ≤ 60) : inT (risP l l.length) ∧ srt (risP l l.length) := by
  refine ⟨fun j hj => ?_, fun j hj => ?_⟩
  · rw [risP_len] at hj
    rw [risP_t hj]
    have := risT_bd hu (j + 1) (by omega)
    omega
  · rw [risP_len] at hj
    rw [risP_t hj, risP_t (q := j) (by omega)]
    have := ris_step hu (q := j + 1) (by omega)
    rw [show risT l (j + 1 + 1) = risT l (j + 1) + Int.tmod (tI l (j + 1)) 7 from rfl]
    omega

theorem law6 {a0 : Rows} (hu : u8L a0) (hl : a0.length ≤ 60) {R : Nat → Nat → D} (hR : R 0 0 = .l (risP a0 a0.length)) :
    V6 a0 R (fun t out i => ∃ q : Nat, i = q ∧ q ≤ a0.length ∧ t = risT a0 q ∧ out = risP a0 q) (fun _ _ i => (a0.length - i).toNat) := by
  constructor
  case i0 => exact ⟨0, rfl, by omega, rfl, rfl⟩
  all_goals (intro t out i hI hx; obtain ⟨q, h1, h2, h3, h4⟩ := hI; subst h1 h3 h4; (try simp only [gt_tI, Int.toNat_natCast]))
  case g10 => rw [hR, show q = a0.length by omega]
  case n9 => exact ⟨⟨q + 1, by omega, by omega, rfl, (risP_succ a0 q).symm⟩, by omega⟩
  all_goals
    have hb := risT_bd hu q h2
    have hs := ris_step hu (q := q) (by omega)
    have hr := hu _ (row_mem (q := q) (l := a0) (by omega))
    (try simp only [List.length_cons, List.length_nil, risP_len])
    (try simp only [tI] at *)
    omega

def Kps (l : Rows) (b r : Int) : Prop := ∀ i k : Nat, i ≤ k → k < l.length → ndE l i k r ≤ b
open Classical in
noncomputable def kps (l : Rows) (b r : Int) : Bool := decide (Kps l b r)
open Classical in
theorem kps_t {l : Rows} {b r : Int} (h : Kps l b r) : kps l b r = true := by rw [kps, decide_eq_true h]
open Classical in
theorem kps_f {l : Rows} {b r : Int} (h : ¬ Kps l b r) : kps l b r = false := by rw [kps, decide_eq_false h]
def okK (l : Rows) (b r : Int) : Prop := (∀ j < l.length, 0 ≤ tI l j ∧ tI l j ≤ 1000000000) ∧ (l.length : Int) ≤ 1024 ∧ (0 ≤ r ∧ r ≤ 1024) ∧ -1000000000 ≤ b ∧ b ≤ 1000000000
theorem law8 {a0 : Rows} {b r : Int} (h : okK a0 b r) {R : Nat → Nat → D} (hR : R 0 0 = .b (kps a0 b r)) :
    V8 a0 b r R (fun _ i => ∃ q : Nat, i = q ∧ q ≤ a0.length ∧ ∀ i k : Nat, i ≤ k → k < a0.length → i < q → ndE a0 i k r ≤ b) (fun _ i => (a0.length - i).toNat)
      (fun _ i _ k => ∃ q p : Nat, i = q ∧ k = p ∧ q ≤ p ∧ p ≤ a0.length ∧ ∀ i k : Nat, i ≤ k → k < a0.length → (i < q ∨ (i = q ∧ k < p)) → ndE a0 i k r ≤ b) (fun _ _ _ k => (a0.length - k).toNat) := by
  obtain ⟨hin, hl, hr, hb⟩ := h
  constructor
  case i0 => exact ⟨0, rfl, by omega, fun i k _ _ h => by omega⟩
  all_goals (intro e i hI; obtain ⟨q, h1, h2, h3⟩ := hI; subst h1)
  case i1 => exact fun hx => ⟨q, q, rfl, rfl, Nat.le_refl _, h2, fun i k a b c => h3 i k a b (by omega)⟩
  case g20 => exact fun hx => by rw [hR, kps_t fun i k a b => h3 i k a b (by omega)]
  all_goals (intro e2 k hI2; obtain ⟨q', p, h4, h5, h6, h7, h8⟩ := hI2; subst h5; obtain rfl : q = q' := (by omega); intro hx hy; (try simp only [gt_tI, Int.toNat_natCast]))
  case g15 =>
    intro hz
    rw [hR, kps_f]
    intro hk
    have := hk q p h6 (by omega)
    rw [ndE_nat] at this
    omega
  case n17 =>
    intro hz
    refine ⟨⟨q, p + 1, rfl, by omega, by omega, by omega, fun i k a b c => ?_⟩, by omega⟩
    by_cases e : i = q ∧ k = p
    · rw [e.1, e.2, ndE_nat]; omega
    · exact h8 i k a b (by omega)
  case n19 => exact ⟨⟨q + 1, by omega, by omega, fun i k a b c => h8 i k a b (by omega)⟩, by omega⟩
  case g18 => omega
  case g16 => intro; omega
  all_goals
    have u1 := hin q (by omega)
    have u2 := hin p (by omega)
    have m1 := mulN hr.1 hr.2 (w := tI a0 p) u2.1 u2.2
    have m2 := mulN hr.1 hr.2 (w := tI a0 q) u1.1 u1.2
    (try simp only [Int.mul_sub, Int.mul_add, Int.mul_one])
    omega
end HX

namespace HX
open Go Go.Proofs CX

theorem law3 {pre : Nat → List (List D) → Prop} {fn : Nat → List (List D) → Nat → Nat → D} (hp5 : pre 5 []) (hf5 : fn 5 [] 0 0 = .b true)
    (hp6 : ∀ l, u8L l → l.length ≤ 60 → pre 6 [[.l l]]) (hf6 : ∀ l, fn 6 [[.l l]] 0 0 = .l (risP l l.length))
    (hp7 : ∀ x, pre 7 x) (hf7 : ∀ l r, fn 7 [[.l l], [.i r]] 0 0 = .i (buB l r) ∧ fn 7 [[.l l], [.i r]] 1 0 = .i (buE l r))
    (hp8 : ∀ l b r, okK l b r → pre 8 [[.l l], [.i b, .i r]]) (hf8 : ∀ l b r, fn 8 [[.l l], [.i b, .i r]] 0 0 = .b (kps l b r))
    (hp9 : ∀ x, pre 9 x) (hf9 : ∀ a b, fn 9 [[.i a], [.i b]] 0 0 = .i a ∧ fn 9 [[.i a], [.i b]] 0 1 = .i b)
    (hp10 : ∀ x, pre 10 x) (hf10 : ∀ l b r, fn 10 [[.l l], [.i b, .i r]] 0 0 = .b (kpB l b r) ∧ fn 10 [[.l l], [.i b, .i r]] 1 0 = .i (kpE l b r))
    {a0 : Rows} {a1 : Int} (hu : u8L a0) (h1 : 0 ≤ a1) (h2 : a1 ≤ 65535) {R : Nat → Nat → D} (hR : R 0 0 = .b true) : V3 pre fn a0 a1 R := by
  have hi : ∀ n : Int, (D.i n).int = n := fun _ => rfl
  have hb : ∀ n : Bool, (D.b n).boo = n := fun _ => rfl
  have hrw : ∀ n : Rows, (D.l n).rows = n := fun _ => rfl
  have facts : (a0.length : Int) ≤ 60 → (0 ≤ Int.tmod a1 1025 ∧ Int.tmod a1 1025 ≤ 1024) ∧ buE (risP a0 a0.length) (Int.tmod a1 1025) = 0 ∧ (0 ≤ buB (risP a0 a0.length) (Int.tmod a1 1025) ∧ buB (risP a0 a0.length) (Int.tmod a1 1025) ≤ 20000000)
      ∧ kps (risP a0 a0.length) (buB (risP a0 a0.length) (Int.tmod a1 1025)) (Int.tmod a1 1025) = true
      ∧ (0 < buB (risP a0 a0.length) (Int.tmod a1 1025) → kps (risP a0 a0.length) (buB (risP a0 a0.length) (Int.tmod a1 1025) - 1) (Int.tmod a1 1025) = false)
      ∧ (buB (risP a0 a0.length) (Int.tmod a1 1025) ≤ 65536 → kpB (risP a0 a0.length) (buB (risP a0 a0.length) (Int.tmod a1 1025)) (Int.tmod a1 1025) = true ∧ kpE (risP a0 a0.length) (buB (risP a0 a0.length) (Int.tmod a1 1025)) (Int.tmod a1 1025) = 0)
      ∧ (0 < buB (risP a0 a0.length) (Int.tmod a1 1025) → buB (risP a0 a0.length) (Int.tmod a1 1025) - 1 ≤ 65536 → kpB (risP a0 a0.length) (buB (risP a0 a0.length) (Int.tmod a1 1025) - 1) (Int.tmod a1 1025) = false ∧ kpE (risP a0 a0.length) (buB (risP a0 a0.length) (Int.tmod a1 1025) - 1) (Int.tmod a1 1025) = 0)
      ∧ ∀ j < (risP a0 a0.length).length, 0 ≤ tI (risP a0 a0.length) j ∧ tI (risP a0 a0.length) j ≤ 1000000000 := by
    intro hl
    have hr : 0 ≤ Int.tmod a1 1025 ∧ Int.tmod a1 1025 ≤ 1024 := by rw [Int.tmod_eq_emod_of_nonneg h1]; omega
    obtain ⟨hin, hs⟩ := ris_ok hu (by omega)
    have hlen := risP_len a0 a0.length
    generalize risP a0 a0.length = T at hin hs hlen ⊢
    generalize Int.tmod a1 1025 = r at hr ⊢
    have ht : tmE T = 0 := tmE_ok (by omega) hin hs
    have e0 : buE T r = 0 := by rw [buE_t (by omega) (by omega), ht]
    have eb : buB T r = mst T r T.length := buB_m (by omega) (by omega) ht
    obtain ⟨z, at_⟩ := mst_at hr.1 hr.2 hin hs T.length (Nat.le_refl _)
    have up := mst_up hr.1 (l := T) T.length
    rw [← eb] at z at_ up
    have hbd : buB T r ≤ 20000000 := by
      rcases at_ with e | ⟨i, k, a, b, c⟩
      · omega
      · have := ndE_bd hr.1 hr.2 hin (by omega) a b; omega
    refine ⟨hr, e0, ⟨z, hbd⟩, kps_t up, fun hp => kps_f fun hk => ?_, fun hm => ?_, fun hp hm => ?_, fun j hj => ?_⟩
    · rcases at_ with e | ⟨i, k, a, b, c⟩
      · omega
      · have := hk i k a b; omega
    · have hc : crE (buB T r) r = 0 := crE_0.2 (by omega)
      exact ⟨by rw [kpB, decide_eq_true ⟨⟨hc, e0⟩, Int.le_refl _⟩], by rw [kpE, if_pos hc, e0]⟩
    · have hc : crE (buB T r - 1) r = 0 := crE_0.2 (by omega)
      exact ⟨by rw [kpB, decide_eq_false fun h => by have := h.2; omega], by rw [kpE, if_pos hc, e0]⟩
    · have := hin j hj; omega
  have ok : ∀ b : Int, (a0.length : Int) ≤ 60 → -1 ≤ b → b ≤ 20000000 → okK (risP a0 a0.length) b (Int.tmod a1 1025) := fun b hl hb1 hb2 =>
    ⟨(facts hl).2.2.2.2.2.2.2, by rw [risP_len]; omega, (facts hl).1, by omega, by omega⟩
  constructor
  all_goals (try simp only [v3a, v3b, v3c, v3d, v3e, v3f, v3g, v3h, hf5, hf6, hf7, hf8, hf9, hf10, hi, hb, hrw])
  case g0 => exact fun _ => hp5
  case g1 => exact fun _ => hR
  all_goals (intro hl; obtain ⟨f1, f2, f3, f4, f5, f6, f7, -⟩ := facts (by omega); have okb := ok (buB (risP a0 a0.length) (Int.tmod a1 1025)) (by omega) (by omega) (by omega); have okc := ok (buB (risP a0 a0.length) (Int.tmod a1 1025) - 1) (by omega) (by omega) (by omega))
  all_goals (generalize hT : risP a0 a0.length = T at *; generalize hr : Int.tmod a1 1025 = r at *; generalize hbb : buB T r = B at *)
  all_goals intros
  all_goals (first | exact hR | exact hp5 | exact hp7 _ | exact hp9 _ | exact hp10 _ | exact hp8 _ _ _ okb | exact hp8 _ _ _ okc | (rw [← hT]; exact hp6 _ hu (by omega)) | exact hp6 _ hu (by omega) | omega | (exfalso; simp_all; done) | skip)
end HX
